/- Where a class may be. -/
import Derived.Test.YtigkfladgdknbaaQClass
namespace Go.Proofs.Ytigkfladgdknbaa.P
open Go.RowKit Go.Proofs.Ytigkfladgdknbaa.P Go.Proofs.YtigkfladgdknbaaW.PrintWords Go.Proofs.YtigkfladgdknbaaW.PrintLast
set_option linter.unusedVariables false
set_option linter.unusedSimpArgs false
theorem clsL_in (l : List (Int × Int × Int)) (v : Int) (h : clsL l v ≠ 0) : ∃ x ∈ l, x.1 ≤ v ∧ v ≤ x.2.1 ∧ clsL l v = x.2.2 := by
  induction l with
  | nil => exact absurd rfl h
  | cons x l ih =>
    obtain ⟨a, b, c⟩ := x
    unfold clsL at h ⊢
    by_cases q : a ≤ v ∧ v ≤ b
    · exact ⟨(a, b, c), by simp, q.1, q.2, by rw [if_pos q]⟩
    · rw [if_neg q] at h ⊢
      obtain ⟨y, h1, h2⟩ := ih h
      exact ⟨y, by simp [h1], h2⟩
theorem odd_ends : ∀ x ∈ oddT, (x.2.2 = 4 → x.1 = 0 ∧ x.2.1 = 31) ∧ (x.2.2 = 5 → x.1 = 127 ∧ x.2.1 = 127) ∧ x.2.2 ≠ 12 ∧ 4 ≤ x.2.2 ∧ 0 ≤ x.1 := by decide +kernel
/-- Where a class may be. -/
theorem class_where (v : Int) : (class_Of.v v = 0 ∧ ¬ (0 ≤ v ∧ v < 55296 ∨ 57343 < v ∧ v ≤ 1114111 ∨ 1114240 ≤ v ∧ v ≤ 1114367)) ∨
    ((0 ≤ v ∧ v < 55296 ∨ 57343 < v ∧ v ≤ 1114111 ∨ 1114240 ≤ v ∧ v ≤ 1114367) ∧ ((class_Of.v v = 12 ∧ 1114111 < v) ∨ (v ≤ 1114111 ∧ 1 ≤ class_Of.v v ∧ class_Of.v v ≤ 3) ∨ (class_Of.v v = 4 ∧ 0 ≤ v ∧ v ≤ 31) ∨ (class_Of.v v = 5 ∧ v = 127) ∨ (v ≤ 1114111 ∧ 6 ≤ class_Of.v v ∧ class_Of.v v ≤ 11))) := by
  have hrange := class_Of.range v
  have heq := class_Of.v_eq v
  rw [right_iff] at heq
  by_cases hr : (0 ≤ v ∧ v < 55296 ∨ 57343 < v ∧ v ≤ 1114111 ∨ 1114240 ≤ v ∧ v ≤ 1114367)
  · right
    refine ⟨hr, ?_⟩
    rw [if_pos (congrArg some (decide_eq_true hr))] at heq
    by_cases h1 : v > 1114111
    · rw [if_pos h1] at heq; exact .inl ⟨heq, h1⟩
    · rw [if_neg h1] at heq
      by_cases h2 : v > 31 ∧ v < 127
      · rw [if_pos h2] at heq; right; left; omega
      · rw [if_neg h2] at heq
        by_cases h3 : clsL spansT v = 0
        · rw [if_pos h3] at heq
          right; left
          refine ⟨by omega, ?_⟩
          rw [heq]
          split
          · split <;> omega
          · omega
        · rw [if_neg h3] at heq
          rw [spans_odd] at heq h3
          obtain ⟨x, hx, q1, q2, q3⟩ := clsL_in _ _ h3
          have := odd_ends x hx
          omega
  · left
    rw [if_neg (by simp only [Option.some.injEq, decide_eq_true_eq]; exact hr)] at heq
    exact ⟨heq, hr⟩
end Go.Proofs.Ytigkfladgdknbaa.P
