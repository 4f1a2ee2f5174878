/- The law UtfJoin, over what comes in. -/
import Derived.Test.YtaoocfkadjcbkaaDoorAX
import Derived.Test.YtaoocfkadjcbkaaDoorBlawUtfJoin
set_option linter.unusedVariables false
set_option linter.unusedSimpArgs false
set_option maxRecDepth 10000
set_option maxHeartbeats 4000000
namespace Go.Proofs.YtaoocfkadjcbkaaDoor.AM.B
open Go Go.RowKit
theorem UtfJoin_in {H : Hyp} {l0 l1 : ByteArray} {cs0 cs1 : List Cell} (h0 : layFlat (fun b => [.str b]) H l0 cs0) (h1 : layFlat (fun b => [.str b]) H l1 cs1) (g0 : l0.size ≤ 140737488351232) (g1 : l1.size ≤ 140737488351232) :
    ∃ c0 c1, cs0 = [c0] ∧ cs1 = [c1] ∧ CallW Tryd.prog Xs 6 [.one (.c c0), .one (.c c1)] H (fun v _ => v = vB true) :=
  ⟨.str l0, .str l1, h0, h1, UtfJoin_law⟩
end Go.Proofs.YtaoocfkadjcbkaaDoor.AM.B
