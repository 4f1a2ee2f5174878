/- The law EmitControls, over what comes in. -/
import Derived.Test.YtigkfladgdknbaaAX
import Derived.Test.YtigkfladgdknbaaBlawEmitControls
set_option linter.unusedVariables false
set_option linter.unusedSimpArgs false
set_option maxRecDepth 10000
set_option maxHeartbeats 4000000
namespace Go.Proofs.Ytigkfladgdknbaa.AM.B
open Go Go.RowKit
theorem EmitControls_in {H : Hyp} {l0 : ByteArray} {cs0 : List Cell} (h0 : layFlat (fun b => [.str b]) H l0 cs0) (g0 : l0.size ≤ 140737488351232) :
    ∃ c0, cs0 = [c0] ∧ CallW Try.prog Xs 5 [.one (.c c0)] H (fun v _ => v = vB true) :=
  ⟨.str l0, h0, EmitControls_law⟩
end Go.Proofs.Ytigkfladgdknbaa.AM.B
