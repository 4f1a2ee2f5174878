/- What is told ahead of the law's awake holds. -/
import Derived.Test.YtkmdofkajcehpaaAX
set_option linter.unusedVariables false
set_option linter.unusedSimpArgs false
set_option maxRecDepth 1000000
set_option maxHeartbeats 4000000
namespace Go.Proofs.Ytkmdofkajcehpaa.AM.B
open Go Go.RowKit
theorem Xs_ok : SpecOK Try.prog Xs := by
  intro f vals r h
  unfold Xs at h
  split at h
  · rename_i e; subst e
    split at h
    · cases h
      exact .inl ⟨⟨_, Try.func32, rfl⟩, fun w => AM.true_of Go.Proofs.Ytkmdofkajcehpaa.P.am_mixed Go.Proofs.Ytkmdofkajcehpaa.P.am_spec_ok Go.Proofs.Ytkmdofkajcehpaa.P.am_names (n := 1000000) (by decide +kernel) w⟩
    · cases h
  split at h
  · rename_i e; subst e
    split at h
    · obtain ⟨r', hr, rfl⟩ := Option.map_eq_some_iff.1 h
      exact .inl ⟨⟨_, Try.func83, rfl⟩, fun w => Go.Proofs.Ytkmdofkajcehpaa.P.class_Of.calls 100 _ _ w hr⟩
    · cases h
  split at h
  · rename_i e; subst e
    split at h
    · obtain ⟨r', hr, rfl⟩ := Option.map_eq_some_iff.1 h
      exact .inl ⟨⟨_, Try.func88, rfl⟩, fun w => Go.Proofs.Ytkmdofkajcehpaa.P.class_Danger.calls 100 _ _ w hr⟩
    · cases h
  split at h
  · rename_i e; subst e
    split at h
    · obtain ⟨r', hr, rfl⟩ := Option.map_eq_some_iff.1 h
      exact .inl ⟨⟨_, Try.func84, rfl⟩, fun w => Go.Proofs.Ytkmdofkajcehpaa.P.show_Text.calls 100 _ _ w hr⟩
    · cases h
  split at h
  · rename_i e; subst e
    split at h
    · obtain ⟨r', hr, rfl⟩ := Option.map_eq_some_iff.1 h
      exact .inl ⟨⟨_, Try.func86, rfl⟩, fun w => Go.Proofs.Ytkmdofkajcehpaa.P.show_Cols.calls 100 _ _ w hr⟩
    · cases h
  split at h
  · rename_i e; subst e
    split at h
    · obtain ⟨r', hr, rfl⟩ := Option.map_eq_some_iff.1 h
      exact .inl ⟨⟨_, Try.func85, rfl⟩, fun w => Go.Proofs.Ytkmdofkajcehpaa.P.dactylref03_Of.calls 100 _ _ w hr⟩
    · cases h
  split at h
  · rename_i e; subst e
    split at h
    · obtain ⟨r', hr, rfl⟩ := Option.map_eq_some_iff.1 h
      exact .inl ⟨⟨_, Try.func40, rfl⟩, fun w => Go.Proofs.Ytkmdofkajcehpaa.P.dactylref06_Text.calls 100 _ _ w hr⟩
    · cases h
  split at h
  · rename_i e; subst e
    split at h
    · obtain ⟨r', hr, rfl⟩ := Option.map_eq_some_iff.1 h
      exact .inl ⟨⟨_, Try.func21, rfl⟩, fun w => Go.Proofs.Ytkmdofkajcehpaa.P.dactylref06_Cols.calls 100 _ _ w hr⟩
    · cases h
  exact Go.Proofs.Ytkmdofkajcehpaa.P.am_spec_ok f vals r h
end Go.Proofs.Ytkmdofkajcehpaa.AM.B
