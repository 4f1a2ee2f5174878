/- What the abstract machine is told of functions ahead. -/
import Derived.Test.YtajhjfgoefhdnaaAT
import Derived.Test.YtajhjfgoefhdnaaGAm
import Derived.Test.YtajhjfgoefhdnaaGBase
set_option linter.unusedVariables false
set_option linter.unusedSimpArgs false
set_option maxRecDepth 10000
set_option maxHeartbeats 4000000
namespace Go.Proofs.Ytajhjfgoefhdnaa.AM.B
open Go Go.RowKit
def Xs : Spec := fun f vals => if f = 4 then (match vals with | [] => some (.bool true) | _ => none) else Go.Proofs.Ytajhjfgoefhdnaa.P.am_spec f vals
theorem awake_w {H : Hyp} {K : V → Hyp → Prop} (k : K (vB true) H) : CallW Try.prog Xs 4 [] H K := call_spec (vals := []) rfl rfl rfl k
def encI (x : Int) : List Cell := [.int .i64 x]
def encC (x : Cell) : List Cell := [x]
abbrev idxF {α : Type} (p : α → Bool) (l : List α) : Int := Go.Proofs.Ytajhjfgoefhdnaa.P.idxF p l
theorem idxF_at {α : Type} {p : α → Bool} {l : List α} {i : Nat} {x : α} (h : l[i]? = some x) (hp : p x = true) (hn : ∀ (j : Nat) (y : α), j < i → l[j]? = some y → p y = false) : idxF p l = (i : Int) := by
  have hi := (List.getElem?_eq_some_iff.1 h).1
  refine Go.Proofs.Ytajhjfgoefhdnaa.P.idxF_hit p l x i hi ?_ fun j hj => ?_
  · rw [List.getD_eq_getElem?_getD, h]; exact hp
  · have hj' : l[j]? = some l[j] := List.getElem?_eq_getElem (by omega)
    rw [List.getD_eq_getElem?_getD, hj']; exact hn j _ hj hj'
theorem idxF_no {α : Type} {p : α → Bool} {l : List α} (hn : ∀ x ∈ l, p x = false) : idxF p l = -1 := by
  cases l with
  | nil => rfl
  | cons y l =>
    refine Go.Proofs.Ytajhjfgoefhdnaa.P.idxF_miss p (y :: l) y fun j hj => ?_
    rw [List.getD_eq_getElem?_getD, List.getElem?_eq_getElem hj]; exact hn _ (List.getElem_mem hj)
theorem idxF_ge0 {α : Type} (p : α → Bool) (l : List α) : decide (idxF p l ≥ 0) = l.any p := Go.Proofs.Ytajhjfgoefhdnaa.P.idxF_any p l
end Go.Proofs.Ytajhjfgoefhdnaa.AM.B
