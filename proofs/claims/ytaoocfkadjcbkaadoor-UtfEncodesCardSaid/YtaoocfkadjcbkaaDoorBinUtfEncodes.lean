/- The law UtfEncodes, over what comes in. -/
import Derived.Test.YtaoocfkadjcbkaaDoorAX
import Derived.Test.YtaoocfkadjcbkaaDoorBlawUtfEncodes
set_option linter.unusedVariables false
set_option linter.unusedSimpArgs false
set_option maxRecDepth 10000
set_option maxHeartbeats 4000000
namespace Go.Proofs.YtaoocfkadjcbkaaDoor.AM.B
open Go Go.RowKit
theorem UtfEncodes_in {H : Hyp} {l0 : List Int} {cs0 : List Cell} (h0 : laySl 3 1 (layFlat fun n => [.int .i64 n]) H l0 cs0) (g0 : l0.length * 8 ≤ 140737488351232 ∧ ∀ x ∈ l0, (Lit.int .i64 x).wf = true) :
    ∃ c0, cs0 = [c0] ∧ CallW Tryd.prog Xs 4 [.one (.c c0)] H (fun v _ => v = vB true) := by
  obtain ⟨c, rfl, hS⟩ := laySl_flat h0
  exact ⟨c, rfl, UtfEncodes_law hS⟩
end Go.Proofs.YtaoocfkadjcbkaaDoor.AM.B
