/- The kind of any value is the document's. -/
import Derived.Test.YtdhnjkagmbfoaaaQClass
import Derived.Test.YtdhnjkagmbfoaaaPclass
import Derived.Test.YtdhnjkagmbfoaaaPword
import Derived.Test.YtdhnjkagmbfoaaaPdactylref03
import Derived.Test.YtdhnjkagmbfoaaaPdactylref05
namespace Go.Proofs.Ytdhnjkagmbfoaaa.P
open Go.RowKit Go.Proofs.Ytdhnjkagmbfoaaa.P Go.Proofs.YtdhnjkagmbfoaaaW.PrintWords Go.Proofs.YtdhnjkagmbfoaaaW.PrintLast
set_option linter.unusedVariables false
set_option linter.unusedSimpArgs false
def kdv (v c : Int) (b : Bool) : Int := if b = true then 0 else if (97 ≤ v ∧ v ≤ 122) ∨ (65 ≤ v ∧ v ≤ 90) ∨ (48 ≤ v ∧ v ≤ 57) ∨ v = 95 then 1 else if 128 ≤ v ∧ 1 ≤ c ∧ c ≤ 3 then 1 else 2
theorem kd_j1 (k : Nat) (v c : Int) (b : Bool) : word_Kind.j1 (k + 1) v c b = some (if b = true then 1 else if 128 ≤ v ∧ 1 ≤ c ∧ c ≤ 3 then 1 else 2) := by
  simp only [word_Kind.j1]
  repeat' split
  all_goals first | rfl | (exfalso; omega) | (exfalso; simp_all; done) | (exfalso; simp_all; omega)
set_option maxHeartbeats 4000000 in
theorem kd_j0 (k : Nat) (v c : Int) (b : Bool) : word_Kind.j0 (k + 2) v c b = some (kdv v c b) := by
  simp only [word_Kind.j0, kd_j1, kdv]
  cases b
  · simp only [Bool.false_eq_true, if_false, if_true]
    by_cases h1 : (97 ≤ v ∧ v ≤ 122) ∨ (65 ≤ v ∧ v ≤ 90) ∨ (48 ≤ v ∧ v ≤ 57) ∨ v = 95
    · rw [if_pos h1]
      repeat' split
      all_goals first | rfl | (exfalso; omega) | (exfalso; simp_all; done) | (exfalso; simp_all; omega)
    · rw [if_neg h1]
      have h95 : (v == 95) = false := beq_eq_false_iff_ne.mpr (fun e => h1 (.inr (.inr (.inr e))))
      rw [h95]
      simp only [Bool.false_eq_true, if_false]
      repeat' split
      all_goals first | rfl | (exfalso; omega)
  · rfl
set_option maxHeartbeats 4000000 in
theorem kd_ref (k : Nat) (v c : Int) (b : Bool) : dactylref05_Kind.j0 (k + 1) v c b = some (kdv v c b) := by
  simp only [dactylref05_Kind.j0, kdv]
  cases b
  · simp only [Bool.false_eq_true, if_false, if_true]
    by_cases h1 : (97 ≤ v ∧ v ≤ 122) ∨ (65 ≤ v ∧ v ≤ 90) ∨ (48 ≤ v ∧ v ≤ 57) ∨ v = 95
    · rw [if_pos h1]
      repeat' split
      all_goals first | rfl | (exfalso; omega)
    · rw [if_neg h1]
      by_cases h2 : 128 ≤ v ∧ 1 ≤ c ∧ c ≤ 3
      · rw [if_pos h2]
        repeat' split
        all_goals first | rfl | (exfalso; omega)
      · rw [if_neg h2]
        repeat' split
        all_goals first | rfl | (exfalso; omega)
  · rfl
def kindW (v : Int) : Int := (word_Kind.f 100 v).getD 0
theorem kind_both (v : Int) : word_Kind.f 100 v = some (kindW v) ∧ dactylref05_Kind.f 100 v = some (kindW v) := by
  have hs : ∃ r, word_Kind.f 100 v = some r ∧ dactylref05_Kind.f 100 v = some r := by
    have h : class_Of.f 100 v = some (class_Of.v v) := at_rounds (class_Of.mono v) (by omega) (class_Of.eq v)
    unfold word_Kind.f dactylref05_Kind.f
    rw [h, ref_Of v 100 (by omega)]
    simp only [Option.bind_some]
    rw [kd_j0 98, kd_j0 98, kd_ref 99, kd_ref 99]
    repeat' split
    all_goals exact ⟨_, rfl, rfl⟩
  obtain ⟨r, h1, h2⟩ := hs
  unfold kindW
  rw [h1, h2]
  exact ⟨rfl, rfl⟩
end Go.Proofs.Ytdhnjkagmbfoaaa.P
