/- The law ViewOf, over what comes in. -/
import Derived.Test.YtkmdofkajcehpaaAX
import Derived.Test.YtkmdofkajcehpaaBlawViewOf
set_option linter.unusedVariables false
set_option linter.unusedSimpArgs false
set_option maxRecDepth 10000
set_option maxHeartbeats 4000000
namespace Go.Proofs.Ytkmdofkajcehpaa.AM.B
open Go Go.RowKit
theorem ViewOf_in {H : Hyp} {l0 l1 : List Sign} {cs0 cs1 : List Cell} (h0 : laySl 23 2 (layFlat encS) H l0 cs0) (h1 : laySl 23 2 (layFlat encS) H l1 cs1)
    (g0 : l0.length * 16 ≤ 140737488351232 ∧ ∀ y ∈ l0, (Lit.int .i64 y.f0).wf = true ∧ (Lit.int .i64 y.f1).wf = true) (g1 : l1.length * 16 ≤ 140737488351232 ∧ ∀ y ∈ l1, (Lit.int .i64 y.f0).wf = true ∧ (Lit.int .i64 y.f1).wf = true) :
    ∃ c0 c1, cs0 = [c0] ∧ cs1 = [c1] ∧ CallW Try.prog Xs 5 [.one (.c c0), .one (.c c1)] H (fun v _ => v = vB true) := by
  obtain ⟨c0, rfl, hs0⟩ := laySl_flat h0
  obtain ⟨c1, rfl, hs1⟩ := laySl_flat h1
  exact ⟨c0, c1, rfl, rfl, ViewOf_law hs0 hs1⟩
end Go.Proofs.Ytkmdofkajcehpaa.AM.B
