/- What the abstract machine is told of functions ahead. -/
import Derived.Test.YteghmemcikiblaaAT
import Derived.Test.YteghmemcikiblaaGAm
import Derived.Test.YteghmemcikiblaaGBase
import Derived.Test.YteghmemcikiblaaPnum
import Derived.Test.YteghmemcikiblaaPdactylref01
import Derived.Test.YteghmemcikiblaaPdactylref02
set_option linter.unusedVariables false
set_option linter.unusedSimpArgs false
set_option maxRecDepth 10000
set_option maxHeartbeats 4000000
namespace Go.Proofs.Yteghmemcikiblaa.AM.B
open Go Go.RowKit
def Xs : Spec := fun f vals => if f = 5 then (match vals with | [] => some (.bool true) | _ => none) else if f = 28 then (match vals with | [.int .i64 v0, .int .i64 v1] => (Go.Proofs.Yteghmemcikiblaa.P.num_Hex.f v0 v1).map (fun r => .string r) | _ => none) else if f = 26 then (match vals with | [.int .i64 v0, .int .i64 v1] => (Go.Proofs.Yteghmemcikiblaa.P.dactylref01_Hex.f 100 v0 v1).map (fun r => .string r) | _ => none) else if f = 27 then (match vals with | [.int .i64 v0] => (Go.Proofs.Yteghmemcikiblaa.P.dactylref02_Bytes.f v0).map (fun r => .string r) | _ => none) else Go.Proofs.Yteghmemcikiblaa.P.am_spec f vals
theorem awake_w {H : Hyp} {K : V → Hyp → Prop} (k : K (vB true) H) : CallW Try.prog Xs 5 [] H K := call_spec (vals := []) rfl rfl rfl k
theorem num_Hex_sw {H : Hyp} {K : V → Hyp → Prop} {v0 : Int} {v1 : Int} {r : ByteArray} (h : Go.Proofs.Yteghmemcikiblaa.P.num_Hex.f v0 v1 = some r) (k : K (.one (.c (.str r))) H) : CallW Try.prog Xs 28 [vI v0, vI v1] H K := call_spec (vals := [.int .i64 v0, .int .i64 v1]) rfl (by show (Go.Proofs.Yteghmemcikiblaa.P.num_Hex.f v0 v1).map _ = _; rw [h]; rfl) rfl k
theorem dactylref01_Hex_sw {H : Hyp} {K : V → Hyp → Prop} {v0 : Int} {v1 : Int} {r : ByteArray} (h : Go.Proofs.Yteghmemcikiblaa.P.dactylref01_Hex.f 100 v0 v1 = some r) (k : K (.one (.c (.str r))) H) : CallW Try.prog Xs 26 [vI v0, vI v1] H K := call_spec (vals := [.int .i64 v0, .int .i64 v1]) rfl (by show (Go.Proofs.Yteghmemcikiblaa.P.dactylref01_Hex.f 100 v0 v1).map _ = _; rw [h]; rfl) rfl k
theorem dactylref02_Bytes_sw {H : Hyp} {K : V → Hyp → Prop} {v0 : Int} {r : ByteArray} (h : Go.Proofs.Yteghmemcikiblaa.P.dactylref02_Bytes.f v0 = some r) (k : K (.one (.c (.str r))) H) : CallW Try.prog Xs 27 [vI v0] H K := call_spec (vals := [.int .i64 v0]) rfl (by show (Go.Proofs.Yteghmemcikiblaa.P.dactylref02_Bytes.f v0).map _ = _; rw [h]; rfl) rfl k
def encI (x : Int) : List Cell := [.int .i64 x]
abbrev idxF {α : Type} (p : α → Bool) (l : List α) : Int := Go.Proofs.Yteghmemcikiblaa.P.idxF p l
theorem idxF_at {α : Type} {p : α → Bool} {l : List α} {i : Nat} {x : α} (h : l[i]? = some x) (hp : p x = true) (hn : ∀ (j : Nat) (y : α), j < i → l[j]? = some y → p y = false) : idxF p l = (i : Int) := by
  have hi := (List.getElem?_eq_some_iff.1 h).1
  refine Go.Proofs.Yteghmemcikiblaa.P.idxF_hit p l x i hi ?_ fun j hj => ?_
  · rw [List.getD_eq_getElem?_getD, h]; exact hp
  · have hj' : l[j]? = some l[j] := List.getElem?_eq_getElem (by omega)
    rw [List.getD_eq_getElem?_getD, hj']; exact hn j _ hj hj'
theorem idxF_no {α : Type} {p : α → Bool} {l : List α} (hn : ∀ x ∈ l, p x = false) : idxF p l = -1 := by
  cases l with
  | nil => rfl
  | cons y l =>
    refine Go.Proofs.Yteghmemcikiblaa.P.idxF_miss p (y :: l) y fun j hj => ?_
    rw [List.getD_eq_getElem?_getD, List.getElem?_eq_getElem hj]; exact hn _ (List.getElem_mem hj)
end Go.Proofs.Yteghmemcikiblaa.AM.B
