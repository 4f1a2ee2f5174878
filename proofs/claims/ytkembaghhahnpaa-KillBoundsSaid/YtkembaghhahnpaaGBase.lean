/- Plain words of this seat: where the first element stands of which a test holds. -/
import Derived.WalkKit
set_option linter.unusedSimpArgs false
namespace Go.Proofs.Ytkembaghhahnpaa.P

/-- Where the first element stands of which p holds; -1: nowhere. -/
def idxF {α : Type} (p : α → Bool) (l : List α) : Int := match l.findIdx? p with | some i => i | none => -1
theorem idxF_hit {α : Type} (p : α → Bool) (l : List α) (z : α) (k : Nat) (hk : k < l.length) (h : p (l.getD k z) = true) (hn : ∀ j, j < k → p (l.getD j z) = false) : idxF p l = k := by
  have : l.findIdx? p = some k := by
    rw [List.findIdx?_eq_some_iff_getElem]
    refine ⟨hk, ?_, fun j hj => ?_⟩
    · rw [List.getD_eq_getElem?_getD, List.getElem?_eq_getElem hk] at h; exact h
    · have := hn j hj
      rw [List.getD_eq_getElem?_getD, List.getElem?_eq_getElem (by omega)] at this; simp only [Option.getD_some] at this; rw [this]; simp
  unfold idxF; rw [this]
theorem idxF_miss {α : Type} (p : α → Bool) (l : List α) (z : α) (hn : ∀ j, j < l.length → p (l.getD j z) = false) : idxF p l = -1 := by
  have : l.findIdx? p = none := by
    rw [List.findIdx?_eq_none_iff]
    intro x hx
    obtain ⟨j, hj, rfl⟩ := List.getElem_of_mem hx
    have := hn j hj
    rw [List.getD_eq_getElem?_getD, List.getElem?_eq_getElem hj] at this; exact this
  unfold idxF; rw [this]
theorem idxF_lt {α : Type} (p : α → Bool) (l : List α) : idxF p l < l.length := by
  unfold idxF
  cases h : l.findIdx? p with
  | none => simp only; omega
  | some i => have := (List.findIdx?_eq_some_iff_getElem.1 h).1; simp only; omega
theorem idxF_ge {α : Type} (p : α → Bool) (l : List α) : -1 ≤ idxF p l := by
  unfold idxF
  cases h : l.findIdx? p with
  | none => simp only; omega
  | some i => simp only; omega
end Go.Proofs.Ytkembaghhahnpaa.P
namespace Go.Proofs.Ytkembaghhahnpaa.P
theorem idxF_any {α : Type} (p : α → Bool) (l : List α) : decide (0 ≤ idxF p l) = l.any p := by
  unfold idxF
  cases h : l.findIdx? p with
  | none =>
    have := List.findIdx?_eq_none_iff.1 h
    have h2 : l.any p = false := by simpa using this
    rw [h2]; decide
  | some i =>
    obtain ⟨hl, hp, _⟩ := List.findIdx?_eq_some_iff_getElem.1 h
    have h2 : l.any p = true := List.any_eq_true.2 ⟨l[i], List.getElem_mem hl, hp⟩
    rw [h2]; simp
/-- Are two lists as long, and of each two elements does p hold? -/
def eqF {α β : Type} (p : α → β → Bool) (l : List α) (l' : List β) : Bool := decide (l.length = l'.length) && (l.zip l').all fun x => p x.1 x.2
theorem eqF_len {α β : Type} (p : α → β → Bool) (l : List α) (l' : List β) (h : ¬ l.length = l'.length) : eqF p l l' = false := by simp [eqF, h]
theorem eqF_hit {α β : Type} (p : α → β → Bool) (l : List α) (l' : List β) (z : α) (z' : β) (h : l.length = l'.length) (hn : ∀ j, j < l.length → p (l.getD j z) (l'.getD j z') = true) : eqF p l l' = true := by
  simp only [eqF, h, decide_true, Bool.true_and, List.all_eq_true]
  rintro ⟨x, y⟩ hx
  obtain ⟨j, hj, e⟩ := List.getElem_of_mem hx
  rw [List.length_zip] at hj
  rw [List.getElem_zip] at e
  have h1 := hn j (by omega)
  rw [List.getD_eq_getElem?_getD, List.getElem?_eq_getElem (by omega), List.getD_eq_getElem?_getD, List.getElem?_eq_getElem (by omega)] at h1
  simp only [Prod.mk.injEq] at e
  simp only [Option.getD_some] at h1
  rw [e.1, e.2] at h1; exact h1
theorem eqF_miss {α β : Type} (p : α → β → Bool) (l : List α) (l' : List β) (z : α) (z' : β) (k : Nat) (hk : k < l.length) (h : p (l.getD k z) (l'.getD k z') = false) : eqF p l l' = false := by
  by_cases hl : l.length = l'.length
  · simp only [eqF, hl, decide_true, Bool.true_and]
    rw [List.all_eq_false]
    refine ⟨(l[k], l'[k]'(by omega)), ?_, ?_⟩
    · rw [← List.getElem_zip (h := by rw [List.length_zip]; omega)]; exact List.getElem_mem _
    · rw [List.getD_eq_getElem?_getD, List.getElem?_eq_getElem hk, List.getD_eq_getElem?_getD, List.getElem?_eq_getElem (by omega)] at h
      simp only [Option.getD_some] at h; simp [h]
  · exact eqF_len p l l' hl
end Go.Proofs.Ytkembaghhahnpaa.P
namespace Go.Proofs.Ytkembaghhahnpaa.P
/-- How many numbers of a list a function leads to each of the numbers from 0 to n - 1, as a machine's array. -/
def counts (n : Nat) (f : Int → Int) (l : List Int) : List Value := (List.range n).map fun c : Nat => Value.int .i64 ((l.countP fun x => f x == (c : Int) : Nat) : Int)
theorem counts_length (n : Nat) (f : Int → Int) (l : List Int) : (counts n f l).length = n := by simp [counts]
theorem counts_get (n : Nat) (f : Int → Int) (l : List Int) (c : Nat) (h : c < n) : (counts n f l)[c]? = some (Value.int .i64 ((l.countP fun x => f x == (c : Int) : Nat) : Int)) := by simp [counts, h]
theorem counts_snoc (n : Nat) (f : Int → Int) (l : List Int) (x : Int) (h0 : 0 ≤ f x) (h1 : f x < n) :
    (counts n f l).toArray.setIfInBounds (f x).toNat (Value.int .i64 (((l.countP fun y => f y == f x : Nat) : Int) + 1)) = (counts n f (l ++ [x])).toArray := by
  apply Array.ext'
  simp only [Array.toList_setIfInBounds]
  apply List.ext_getElem?
  intro i
  rw [List.getElem?_set]
  by_cases hi : (f x).toNat = i
  · subst hi
    have : (f x).toNat < n := by omega
    rw [if_pos rfl, if_pos (by rw [counts_length]; exact this), counts_get _ _ _ _ this, List.countP_append]
    have e : ((f x).toNat : Int) = f x := by omega
    simp only [e, List.countP_cons, List.countP_nil, beq_self_eq_true, if_true]
    simp
  · rw [if_neg hi]
    by_cases hn : i < n
    · rw [counts_get _ _ _ _ hn, counts_get _ _ _ _ hn, List.countP_append]
      have : (f x == (i : Int)) = false := by simp; omega
      simp [List.countP_cons, this]
    · rw [List.getElem?_eq_none (by rw [counts_length]; omega), List.getElem?_eq_none (by rw [counts_length]; omega)]

end Go.Proofs.Ytkembaghhahnpaa.P
