/- What the abstract machine is told of functions ahead. -/
import Derived.Test.YtkmdofkajcehpaaAT
import Derived.Test.YtkmdofkajcehpaaGAm
import Derived.Test.YtkmdofkajcehpaaGBase
import Derived.Test.YtkmdofkajcehpaaPclass
import Derived.Test.YtkmdofkajcehpaaPshow
import Derived.Test.YtkmdofkajcehpaaPdactylref03
import Derived.Test.YtkmdofkajcehpaaPdactylref06
set_option linter.unusedVariables false
set_option linter.unusedSimpArgs false
set_option maxRecDepth 10000
set_option maxHeartbeats 4000000
namespace Go.Proofs.Ytkmdofkajcehpaa.AM.B
open Go Go.RowKit
def Xs : Spec := fun f vals => if f = 32 then (match vals with | [] => some (.bool true) | _ => none) else if f = 83 then (match vals with | [.int .i64 v0] => (Go.Proofs.Ytkmdofkajcehpaa.P.class_Of.f 100 v0).map (fun r => .int .i64 r) | _ => none) else if f = 88 then (match vals with | [.int .i64 v0] => (Go.Proofs.Ytkmdofkajcehpaa.P.class_Danger.f 100 v0).map (fun r => .bool r) | _ => none) else if f = 84 then (match vals with | [.int .i64 v0] => (Go.Proofs.Ytkmdofkajcehpaa.P.show_Text.f 100 v0).map (fun r => .string r) | _ => none) else if f = 86 then (match vals with | [.int .i64 v0] => (Go.Proofs.Ytkmdofkajcehpaa.P.show_Cols.f 100 v0).map (fun r => .int .i64 r) | _ => none) else if f = 85 then (match vals with | [.int .i64 v0] => (Go.Proofs.Ytkmdofkajcehpaa.P.dactylref03_Of.f 100 v0).map (fun r => .int .i64 r) | _ => none) else if f = 40 then (match vals with | [.int .i64 v0] => (Go.Proofs.Ytkmdofkajcehpaa.P.dactylref06_Text.f 100 v0).map (fun r => .string r) | _ => none) else if f = 21 then (match vals with | [.int .i64 v0] => (Go.Proofs.Ytkmdofkajcehpaa.P.dactylref06_Cols.f 100 v0).map (fun r => .int .i64 r) | _ => none) else Go.Proofs.Ytkmdofkajcehpaa.P.am_spec f vals
theorem awake_w {H : Hyp} {K : V → Hyp → Prop} (k : K (vB true) H) : CallW Try.prog Xs 32 [] H K := call_spec (vals := []) rfl rfl rfl k
theorem class_Of_sw {H : Hyp} {K : V → Hyp → Prop} {v0 : Int} {r : Int} (h : Go.Proofs.Ytkmdofkajcehpaa.P.class_Of.f 100 v0 = some r) (k : K (vI r) H) : CallW Try.prog Xs 83 [vI v0] H K := call_spec (vals := [.int .i64 v0]) rfl (by show (Go.Proofs.Ytkmdofkajcehpaa.P.class_Of.f 100 v0).map _ = _; rw [h]; rfl) rfl k
theorem class_Danger_sw {H : Hyp} {K : V → Hyp → Prop} {v0 : Int} {r : Bool} (h : Go.Proofs.Ytkmdofkajcehpaa.P.class_Danger.f 100 v0 = some r) (k : K (vB r) H) : CallW Try.prog Xs 88 [vI v0] H K := call_spec (vals := [.int .i64 v0]) rfl (by show (Go.Proofs.Ytkmdofkajcehpaa.P.class_Danger.f 100 v0).map _ = _; rw [h]; rfl) rfl k
theorem show_Text_sw {H : Hyp} {K : V → Hyp → Prop} {v0 : Int} {r : ByteArray} (h : Go.Proofs.Ytkmdofkajcehpaa.P.show_Text.f 100 v0 = some r) (k : K (.one (.c (.str r))) H) : CallW Try.prog Xs 84 [vI v0] H K := call_spec (vals := [.int .i64 v0]) rfl (by show (Go.Proofs.Ytkmdofkajcehpaa.P.show_Text.f 100 v0).map _ = _; rw [h]; rfl) rfl k
theorem show_Cols_sw {H : Hyp} {K : V → Hyp → Prop} {v0 : Int} {r : Int} (h : Go.Proofs.Ytkmdofkajcehpaa.P.show_Cols.f 100 v0 = some r) (k : K (vI r) H) : CallW Try.prog Xs 86 [vI v0] H K := call_spec (vals := [.int .i64 v0]) rfl (by show (Go.Proofs.Ytkmdofkajcehpaa.P.show_Cols.f 100 v0).map _ = _; rw [h]; rfl) rfl k
theorem dactylref03_Of_sw {H : Hyp} {K : V → Hyp → Prop} {v0 : Int} {r : Int} (h : Go.Proofs.Ytkmdofkajcehpaa.P.dactylref03_Of.f 100 v0 = some r) (k : K (vI r) H) : CallW Try.prog Xs 85 [vI v0] H K := call_spec (vals := [.int .i64 v0]) rfl (by show (Go.Proofs.Ytkmdofkajcehpaa.P.dactylref03_Of.f 100 v0).map _ = _; rw [h]; rfl) rfl k
theorem dactylref06_Text_sw {H : Hyp} {K : V → Hyp → Prop} {v0 : Int} {r : ByteArray} (h : Go.Proofs.Ytkmdofkajcehpaa.P.dactylref06_Text.f 100 v0 = some r) (k : K (.one (.c (.str r))) H) : CallW Try.prog Xs 40 [vI v0] H K := call_spec (vals := [.int .i64 v0]) rfl (by show (Go.Proofs.Ytkmdofkajcehpaa.P.dactylref06_Text.f 100 v0).map _ = _; rw [h]; rfl) rfl k
def encI (x : Int) : List Cell := [.int .i64 x]
abbrev idxF {α : Type} (p : α → Bool) (l : List α) : Int := Go.Proofs.Ytkmdofkajcehpaa.P.idxF p l
theorem idxF_at {α : Type} {p : α → Bool} {l : List α} {i : Nat} {x : α} (h : l[i]? = some x) (hp : p x = true) (hn : ∀ (j : Nat) (y : α), j < i → l[j]? = some y → p y = false) : idxF p l = (i : Int) := by
  have hi := (List.getElem?_eq_some_iff.1 h).1
  refine Go.Proofs.Ytkmdofkajcehpaa.P.idxF_hit p l x i hi ?_ fun j hj => ?_
  · rw [List.getD_eq_getElem?_getD, h]; exact hp
  · have hj' : l[j]? = some l[j] := List.getElem?_eq_getElem (by omega)
    rw [List.getD_eq_getElem?_getD, hj']; exact hn j _ hj hj'
theorem idxF_no {α : Type} {p : α → Bool} {l : List α} (hn : ∀ x ∈ l, p x = false) : idxF p l = -1 := by
  cases l with
  | nil => rfl
  | cons y l =>
    refine Go.Proofs.Ytkmdofkajcehpaa.P.idxF_miss p (y :: l) y fun j hj => ?_
    rw [List.getD_eq_getElem?_getD, List.getElem?_eq_getElem hj]; exact hn _ (List.getElem_mem hj)
theorem idxF_ge0 {α : Type} (p : α → Bool) (l : List α) : decide (idxF p l ≥ 0) = l.any p := Go.Proofs.Ytkmdofkajcehpaa.P.idxF_any p l
end Go.Proofs.Ytkmdofkajcehpaa.AM.B
