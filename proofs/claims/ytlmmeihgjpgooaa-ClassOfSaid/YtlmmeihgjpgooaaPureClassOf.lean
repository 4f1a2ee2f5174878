/- The class of any value, its width, whether it is shown, and what it looks like: the law's Lean function answers true for every number. -/
import Derived.Test.YtlmmeihgjpgooaaPdactyllaw03ClassOf
import Derived.Test.YtlmmeihgjpgooaaQClass
namespace Go.Proofs.Ytlmmeihgjpgooaa.Pure
open Go.RowKit Go.Proofs.Ytlmmeihgjpgooaa.P Go.Proofs.YtlmmeihgjpgooaaW.PrintWords Go.Proofs.YtlmmeihgjpgooaaW.PrintLast
set_option linter.unusedVariables false
set_option linter.unusedSimpArgs false
theorem looks_fix : ∀ x ∈ looksT, skL looksT x.2 = x.2 ∧ class_Of.v x.2 = 1 := by decide +kernel
theorem ClassOf : dactyllaw03_ClassOf.Pure := by
  intro v hv
  refine ⟨60, ?_⟩
  unfold dactyllaw03_ClassOf.f
  rw [ref_Of v 60 (by omega), class_Of.at v 60 (by omega), class_Width.at v 60 (by omega), ref_Width v 60 (by omega), class_Danger.at v 60 (by omega), ref_Skeleton v 60 (by omega)]
  simp only [class_Skeleton.f, dactyllaw03_awake.f, Option.bind_some, if_true, beq_self_eq_true]
  have hs : class_Skeleton.v (class_Skeleton.v v) = class_Skeleton.v v ∧ (class_Skeleton.v v = v ∨ class_Of.v (class_Skeleton.v v) = 1) := by
    rw [class_Skeleton.sk, class_Skeleton.sk]
    rcases skL_cases looksT v with h | ⟨x, hx, h1, h2⟩
    · rw [h, h]; simp
    · rw [h2]; have := looks_fix x hx; exact ⟨this.1, .inr this.2⟩
  rw [if_pos hs.1, class_Of.at _ 60 (by omega)]
  rcases hs.2 with h | h
  · rw [if_pos h]
  · rw [h]; simp

end Go.Proofs.Ytlmmeihgjpgooaa.Pure
