/- Plain words of this seat: where the first element stands of which a test holds. -/
import Derived.WalkKit
set_option linter.unusedSimpArgs false
namespace Go.Proofs.Ytdhnjkagmbfoaaa.P
/-- Where the first element stands of which p holds; -1: nowhere. -/
def idxF {α : Type} (p : α → Bool) (l : List α) : Int := match l.findIdx? p with | some i => i | none => -1
theorem idxF_hit {α : Type} (p : α → Bool) (l : List α) (z : α) (k : Nat) (hk : k < l.length) (h : p (l.getD k z) = true) (hn : ∀ j, j < k → p (l.getD j z) = false) : idxF p l = k := by
  have : l.findIdx? p = some k := by
    rw [List.findIdx?_eq_some_iff_getElem]
    refine ⟨hk, ?_, fun j hj => ?_⟩
    · rw [List.getD_eq_getElem?_getD, List.getElem?_eq_getElem hk] at h; exact h
    · have := hn j hj
      rw [List.getD_eq_getElem?_getD, List.getElem?_eq_getElem (by omega)] at this; simp only [Option.getD_some] at this; rw [this]; simp
  unfold idxF; rw [this]
theorem idxF_miss {α : Type} (p : α → Bool) (l : List α) (z : α) (hn : ∀ j, j < l.length → p (l.getD j z) = false) : idxF p l = -1 := by
  have : l.findIdx? p = none := by
    rw [List.findIdx?_eq_none_iff]
    intro x hx
    obtain ⟨j, hj, rfl⟩ := List.getElem_of_mem hx
    have := hn j hj
    rw [List.getD_eq_getElem?_getD, List.getElem?_eq_getElem hj] at this; exact this
  unfold idxF; rw [this]
theorem idxF_lt {α : Type} (p : α → Bool) (l : List α) : idxF p l < l.length := by
  unfold idxF
  cases h : l.findIdx? p with
  | none => simp only; omega
  | some i => have := (List.findIdx?_eq_some_iff_getElem.1 h).1; simp only; omega
theorem idxF_ge {α : Type} (p : α → Bool) (l : List α) : -1 ≤ idxF p l := by
  unfold idxF
  cases h : l.findIdx? p with
  | none => simp only; omega
  | some i => simp only; omega
end Go.Proofs.Ytdhnjkagmbfoaaa.P
namespace Go.Proofs.Ytdhnjkagmbfoaaa.P
theorem idxF_any {α : Type} (p : α → Bool) (l : List α) : decide (0 ≤ idxF p l) = l.any p := by
  unfold idxF
  cases h : l.findIdx? p with
  | none =>
    have := List.findIdx?_eq_none_iff.1 h
    have h2 : l.any p = false := by simpa using this
    rw [h2]; decide
  | some i =>
    obtain ⟨hl, hp, _⟩ := List.findIdx?_eq_some_iff_getElem.1 h
    have h2 : l.any p = true := List.any_eq_true.2 ⟨l[i], List.getElem_mem hl, hp⟩
    rw [h2]; simp
end Go.Proofs.Ytdhnjkagmbfoaaa.P
namespace Go.Proofs.Ytdhnjkagmbfoaaa.P
end Go.Proofs.Ytdhnjkagmbfoaaa.P
