/- What the abstract machine is told of functions ahead. -/
import Derived.Test.YtaoocfkadjcbkaaDoorAT
import Derived.Test.YtaoocfkadjcbkaaDoorGAm
import Derived.Test.YtaoocfkadjcbkaaDoorGBase
import Derived.Test.YtaoocfkadjcbkaaDoorFull
set_option linter.unusedVariables false
set_option linter.unusedSimpArgs false
set_option maxRecDepth 10000
set_option maxHeartbeats 4000000
namespace Go.Proofs.YtaoocfkadjcbkaaDoor.AM.B
open Go Go.RowKit
def Xs : Spec := fun f vals => if f = 7 then (match vals with | [] => some (.bool true) | _ => none) else if f = 24 then (match vals with | [.string s] => if s.size ≤ 1000000 then some (.bool (Go.Proofs.YtaoocfkadjcbkaaDoor.P.fullN s.size (s.get! 0).toNat (s.get! 1).toNat (s.get! 2).toNat)) else none | _ => none) else Go.Proofs.YtaoocfkadjcbkaaDoor.P.am_spec f vals
theorem awake_w {H : Hyp} {K : V → Hyp → Prop} (k : K (vB true) H) : CallW Tryd.prog Xs 7 [] H K := call_spec (vals := []) rfl rfl rfl k
theorem full_w {H : Hyp} {K : V → Hyp → Prop} {s : ByteArray} (hs : s.size ≤ 1000000) (k : K (vB (Go.Proofs.YtaoocfkadjcbkaaDoor.P.fullN s.size (s.get! 0).toNat (s.get! 1).toNat (s.get! 2).toNat)) H) : CallW Tryd.prog Xs 24 [vS s] H K := call_spec (vals := [.string s]) rfl (by show (if s.size ≤ 1000000 then some _ else none) = _; exact if_pos hs) rfl k
def encI (x : Int) : List Cell := [.int .i64 x]
end Go.Proofs.YtaoocfkadjcbkaaDoor.AM.B
