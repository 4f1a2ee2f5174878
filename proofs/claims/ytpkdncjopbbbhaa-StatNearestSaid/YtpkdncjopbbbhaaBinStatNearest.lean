/- The law StatNearest, over what comes in. -/
import Derived.Test.YtpkdncjopbbbhaaAX
import Derived.Test.YtpkdncjopbbbhaaBlawStatNearest
set_option linter.unusedVariables false
set_option linter.unusedSimpArgs false
set_option maxRecDepth 10000
set_option maxHeartbeats 4000000
namespace Go.Proofs.Ytpkdncjopbbbhaa.AM.B
open Go Go.RowKit
theorem StatNearest_in {H : Hyp} {l0 : List Sign} {l1 : List (List Sign)} {cs0 cs1 : List Cell} (h0 : laySl 43 2 (layFlat encS) H l0 cs0) (h1 : laySl 22 1 (laySl 43 2 (layFlat encS)) H l1 cs1)
    (g0 : l0.length * 16 ≤ 140737488351232 ∧ ∀ y ∈ l0, (Lit.int .i64 y.f0).wf = true ∧ (Lit.int .i64 y.f1).wf = true) (g1 : l1.length * 24 ≤ 140737488351232 ∧ ∀ x ∈ l1, x.length * 16 ≤ 140737488351232 ∧ ∀ y ∈ x, (Lit.int .i64 y.f0).wf = true ∧ (Lit.int .i64 y.f1).wf = true) :
    ∃ c0 c1, cs0 = [c0] ∧ cs1 = [c1] ∧ CallW Try.prog Xs 4 [.one (.c c0), .one (.c c1)] H (fun v _ => v = vB true) := by
  obtain ⟨c0, rfl, hs0⟩ := laySl_flat h0
  obtain ⟨c1, ds, rfl, hl, hs, hin⟩ := laySl_ones h1
  refine ⟨c0, c1, rfl, rfl, StatNearest_law hs0 ⟨ds, hs, hl, fun i d x hd hx => ?_⟩ (fun y hy => by have := (g1.2 y hy).1; omega)⟩
  obtain ⟨c, hc, hsl⟩ := laySl_flat (hin i d x hd hx)
  cases hc
  exact hsl
end Go.Proofs.Ytpkdncjopbbbhaa.AM.B
