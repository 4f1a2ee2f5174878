/- The law HistBounds, over what comes in. -/
import Derived.Test.YtajhjfgoefhdnaaAX
import Derived.Test.YtajhjfgoefhdnaaBlawHistBounds
set_option linter.unusedVariables false
set_option linter.unusedSimpArgs false
set_option maxRecDepth 10000
set_option maxHeartbeats 4000000
namespace Go.Proofs.Ytajhjfgoefhdnaa.AM.B
open Go Go.RowKit
theorem HistBounds_in {H : Hyp} {l0 : List (List Sign)} {l1 l2 : Int} {cs0 cs1 cs2 : List Cell} (h0 : laySl 28 1 (laySl 46 2 (layFlat encS)) H l0 cs0) (h1 : layFlat (fun n => [.int .u8 n]) H l1 cs1) (h2 : layFlat (fun n => [.int .u8 n]) H l2 cs2)
    (g0 : l0.length * 24 ≤ 140737488351232 ∧ ∀ x ∈ l0, x.length * 16 ≤ 140737488351232 ∧ ∀ y ∈ x, (Lit.int .i64 y.f0).wf = true ∧ (Lit.int .i64 y.f1).wf = true) (g1 : (Lit.int .u8 l1).wf = true) (g2 : (Lit.int .u8 l2).wf = true) :
    ∃ c0 c1 c2, cs0 = [c0] ∧ cs1 = [c1] ∧ cs2 = [c2] ∧ CallW Try.prog Xs 3 [.one (.c c0), .one (.c c1), .one (.c c2)] H (fun v _ => v = vB true) := by
  obtain ⟨c0, ds, rfl, hl, hs, hin⟩ := laySl_ones h0
  have wf8 : ∀ x : Int, (Lit.int .u8 x).wf = true → 0 ≤ x ∧ x ≤ 255 := by
    intro x hx
    simp [Lit.wf, IntKind.min, IntKind.max, IntKind.bits, IntKind.signed] at hx
    omega
  refine ⟨c0, .int .u8 l1, .int .u8 l2, rfl, h1, h2, HistBounds_law ⟨ds, hs, hl, fun i d x hd hx => ?_⟩ (wf8 _ g1) (wf8 _ g2)⟩
  obtain ⟨c, hc, hsl⟩ := laySl_flat (hin i d x hd hx)
  cases hc
  exact hsl
end Go.Proofs.Ytajhjfgoefhdnaa.AM.B
