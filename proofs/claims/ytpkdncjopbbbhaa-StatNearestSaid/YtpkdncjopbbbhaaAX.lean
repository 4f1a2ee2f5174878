/- What the abstract machine is told of functions ahead. -/
import Derived.Test.YtpkdncjopbbbhaaAT
import Derived.Test.YtpkdncjopbbbhaaGAm
import Derived.Test.YtpkdncjopbbbhaaGBase
set_option linter.unusedVariables false
set_option linter.unusedSimpArgs false
set_option maxRecDepth 10000
set_option maxHeartbeats 4000000
namespace Go.Proofs.Ytpkdncjopbbbhaa.AM.B
open Go Go.RowKit
def Xs : Spec := fun f vals => if f = 5 then (match vals with | [] => some (.bool true) | _ => none) else Go.Proofs.Ytpkdncjopbbbhaa.P.am_spec f vals
theorem awake_w {H : Hyp} {K : V → Hyp → Prop} (k : K (vB true) H) : CallW Try.prog Xs 5 [] H K := call_spec (vals := []) rfl rfl rfl k
def encI (x : Int) : List Cell := [.int .i64 x]
def encC (x : Cell) : List Cell := [x]
end Go.Proofs.Ytpkdncjopbbbhaa.AM.B
