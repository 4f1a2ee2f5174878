/- What the abstract machine is told of functions ahead. -/
import Derived.Test.YtigkfladgdknbaaAT
import Derived.Test.YtigkfladgdknbaaGAm
import Derived.Test.YtigkfladgdknbaaGBase
import Derived.Test.YtigkfladgdknbaaPclass
import Derived.Test.YtigkfladgdknbaaPdactylref03
import Derived.Test.YtigkfladgdknbaaQWidthRef
set_option linter.unusedVariables false
set_option linter.unusedSimpArgs false
set_option maxRecDepth 10000
set_option maxHeartbeats 4000000
namespace Go.Proofs.Ytigkfladgdknbaa.AM.B
open Go Go.RowKit
def Xs : Spec := fun f vals => if f = 8 then (match vals with | [] => some (.bool true) | _ => none) else if f = 32 then (match vals with | [.int .i64 v0] => (Go.Proofs.Ytigkfladgdknbaa.P.class_Width.f 100 v0).map (fun r => .int .i64 r) | _ => none) else if f = 22 then (match vals with | [.int .i64 v0] => (Go.Proofs.Ytigkfladgdknbaa.P.dactylref03_Of.f 100 v0).map (fun r => .int .i64 r) | _ => none) else if f = 33 then (match vals with | [.int .i64 v0] => (Go.Proofs.Ytigkfladgdknbaa.P.dactylref03_Width.f 100 v0).map (fun r => .int .i64 r) | _ => none) else Go.Proofs.Ytigkfladgdknbaa.P.am_spec f vals
theorem awake_w {H : Hyp} {K : V → Hyp → Prop} (k : K (vB true) H) : CallW Try.prog Xs 8 [] H K := call_spec (vals := []) rfl rfl rfl k
theorem class_Width_sw {H : Hyp} {K : V → Hyp → Prop} {v0 : Int} {r : Int} (h : Go.Proofs.Ytigkfladgdknbaa.P.class_Width.f 100 v0 = some r) (k : K (vI r) H) : CallW Try.prog Xs 32 [vI v0] H K := call_spec (vals := [.int .i64 v0]) rfl (by show (Go.Proofs.Ytigkfladgdknbaa.P.class_Width.f 100 v0).map _ = _; rw [h]; rfl) rfl k
theorem dactylref03_Of_sw {H : Hyp} {K : V → Hyp → Prop} {v0 : Int} {r : Int} (h : Go.Proofs.Ytigkfladgdknbaa.P.dactylref03_Of.f 100 v0 = some r) (k : K (vI r) H) : CallW Try.prog Xs 22 [vI v0] H K := call_spec (vals := [.int .i64 v0]) rfl (by show (Go.Proofs.Ytigkfladgdknbaa.P.dactylref03_Of.f 100 v0).map _ = _; rw [h]; rfl) rfl k
theorem dactylref03_Width_sw {H : Hyp} {K : V → Hyp → Prop} {v0 : Int} {r : Int} (h : Go.Proofs.Ytigkfladgdknbaa.P.dactylref03_Width.f 100 v0 = some r) (k : K (vI r) H) : CallW Try.prog Xs 33 [vI v0] H K := call_spec (vals := [.int .i64 v0]) rfl (by show (Go.Proofs.Ytigkfladgdknbaa.P.dactylref03_Width.f 100 v0).map _ = _; rw [h]; rfl) rfl k
def encI (x : Int) : List Cell := [.int .i64 x]
abbrev idxF {α : Type} (p : α → Bool) (l : List α) : Int := Go.Proofs.Ytigkfladgdknbaa.P.idxF p l
theorem idxF_at {α : Type} {p : α → Bool} {l : List α} {i : Nat} {x : α} (h : l[i]? = some x) (hp : p x = true) (hn : ∀ (j : Nat) (y : α), j < i → l[j]? = some y → p y = false) : idxF p l = (i : Int) := by
  have hi := (List.getElem?_eq_some_iff.1 h).1
  refine Go.Proofs.Ytigkfladgdknbaa.P.idxF_hit p l x i hi ?_ fun j hj => ?_
  · rw [List.getD_eq_getElem?_getD, h]; exact hp
  · have hj' : l[j]? = some l[j] := List.getElem?_eq_getElem (by omega)
    rw [List.getD_eq_getElem?_getD, hj']; exact hn j _ hj hj'
theorem idxF_no {α : Type} {p : α → Bool} {l : List α} (hn : ∀ x ∈ l, p x = false) : idxF p l = -1 := by
  cases l with
  | nil => rfl
  | cons y l =>
    refine Go.Proofs.Ytigkfladgdknbaa.P.idxF_miss p (y :: l) y fun j hj => ?_
    rw [List.getD_eq_getElem?_getD, List.getElem?_eq_getElem hj]; exact hn _ (List.getElem_mem hj)
theorem idxF_ge0 {α : Type} (p : α → Bool) (l : List α) : decide (idxF p l ≥ 0) = l.any p := Go.Proofs.Ytigkfladgdknbaa.P.idxF_any p l
end Go.Proofs.Ytigkfladgdknbaa.AM.B
