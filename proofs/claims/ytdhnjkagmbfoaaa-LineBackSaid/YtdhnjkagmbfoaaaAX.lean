/- What the abstract machine is told of functions ahead. -/
import Derived.Test.YtdhnjkagmbfoaaaAT
import Derived.Test.YtdhnjkagmbfoaaaGAm
import Derived.Test.YtdhnjkagmbfoaaaGBase
import Derived.Test.YtdhnjkagmbfoaaaPword
import Derived.Test.YtdhnjkagmbfoaaaPdactylref05
set_option linter.unusedVariables false
set_option linter.unusedSimpArgs false
set_option maxRecDepth 10000
set_option maxHeartbeats 4000000
namespace Go.Proofs.Ytdhnjkagmbfoaaa.AM.B
open Go Go.RowKit
def Xs : Spec := fun f vals => if f = 7 then (match vals with | [] => some (.bool true) | _ => none) else if f = 30 then (match vals with | [.int .i64 v0] => (Go.Proofs.Ytdhnjkagmbfoaaa.P.word_Kind.f 100 v0).map (fun r => .int .i64 r) | _ => none) else if f = 53 then (match vals with | [.int .i64 v0] => (Go.Proofs.Ytdhnjkagmbfoaaa.P.dactylref05_Kind.f 100 v0).map (fun r => .int .i64 r) | _ => none) else Go.Proofs.Ytdhnjkagmbfoaaa.P.am_spec f vals
theorem awake_w {H : Hyp} {K : V → Hyp → Prop} (k : K (vB true) H) : CallW Try.prog Xs 7 [] H K := call_spec (vals := []) rfl rfl rfl k
theorem word_Kind_sw {H : Hyp} {K : V → Hyp → Prop} {v0 : Int} {r : Int} (h : Go.Proofs.Ytdhnjkagmbfoaaa.P.word_Kind.f 100 v0 = some r) (k : K (vI r) H) : CallW Try.prog Xs 30 [vI v0] H K := call_spec (vals := [.int .i64 v0]) rfl (by show (Go.Proofs.Ytdhnjkagmbfoaaa.P.word_Kind.f 100 v0).map _ = _; rw [h]; rfl) rfl k
def encC (x : Cell) : List Cell := [x]
abbrev idxF {α : Type} (p : α → Bool) (l : List α) : Int := Go.Proofs.Ytdhnjkagmbfoaaa.P.idxF p l
theorem idxF_at {α : Type} {p : α → Bool} {l : List α} {i : Nat} {x : α} (h : l[i]? = some x) (hp : p x = true) (hn : ∀ (j : Nat) (y : α), j < i → l[j]? = some y → p y = false) : idxF p l = (i : Int) := by
  have hi := (List.getElem?_eq_some_iff.1 h).1
  refine Go.Proofs.Ytdhnjkagmbfoaaa.P.idxF_hit p l x i hi ?_ fun j hj => ?_
  · rw [List.getD_eq_getElem?_getD, h]; exact hp
  · have hj' : l[j]? = some l[j] := List.getElem?_eq_getElem (by omega)
    rw [List.getD_eq_getElem?_getD, hj']; exact hn j _ hj hj'
theorem idxF_no {α : Type} {p : α → Bool} {l : List α} (hn : ∀ x ∈ l, p x = false) : idxF p l = -1 := by
  cases l with
  | nil => rfl
  | cons y l =>
    refine Go.Proofs.Ytdhnjkagmbfoaaa.P.idxF_miss p (y :: l) y fun j hj => ?_
    rw [List.getD_eq_getElem?_getD, List.getElem?_eq_getElem hj]; exact hn _ (List.getElem_mem hj)
theorem idxF_ge0 {α : Type} (p : α → Bool) (l : List α) : decide (idxF p l ≥ 0) = l.any p := Go.Proofs.Ytdhnjkagmbfoaaa.P.idxF_any p l
theorem flatten_take {α : Type} {ll : List (List α)} {i : Nat} {l : List α} (h : ll[i]? = some l) : (ll.take (i + 1)).flatten = (ll.take i).flatten ++ l := by
  rw [List.take_add_one, h]; simp
theorem flatten_take_le {α : Type} (ll : List (List α)) (i : Nat) : (ll.take i).flatten.length ≤ ll.flatten.length := by
  conv => rhs; rw [← List.take_append_drop i ll]
  rw [List.flatten_append, List.length_append]; omega
end Go.Proofs.Ytdhnjkagmbfoaaa.AM.B
