/- What is told ahead of the law's awake holds. -/
import Derived.Test.YtdhnjkagmbfoaaaAX
set_option linter.unusedVariables false
set_option linter.unusedSimpArgs false
set_option maxRecDepth 1000000
set_option maxHeartbeats 4000000
namespace Go.Proofs.Ytdhnjkagmbfoaaa.AM.B
open Go Go.RowKit
theorem Xs_ok : SpecOK Try.prog Xs := by
  intro f vals r h
  unfold Xs at h
  split at h
  · rename_i e; subst e
    split at h
    · cases h
      exact .inl ⟨⟨_, Try.func7, rfl⟩, fun w => AM.true_of Go.Proofs.Ytdhnjkagmbfoaaa.P.am_mixed Go.Proofs.Ytdhnjkagmbfoaaa.P.am_spec_ok Go.Proofs.Ytdhnjkagmbfoaaa.P.am_names (n := 1000000) (by decide +kernel) w⟩
    · cases h
  split at h
  · rename_i e; subst e
    split at h
    · obtain ⟨r', hr, rfl⟩ := Option.map_eq_some_iff.1 h
      exact .inl ⟨⟨_, Try.func30, rfl⟩, fun w => by have q := Go.Proofs.Ytdhnjkagmbfoaaa.P.word_Kind.calls 100 _ _ w hr; first | exact q | exact q.mono fun _ _ hq => ⟨hq.1, hq.2.below⟩⟩
    · cases h
  split at h
  · rename_i e; subst e
    split at h
    · obtain ⟨r', hr, rfl⟩ := Option.map_eq_some_iff.1 h
      exact .inl ⟨⟨_, Try.func53, rfl⟩, fun w => by have q := Go.Proofs.Ytdhnjkagmbfoaaa.P.dactylref05_Kind.calls 100 _ _ w hr; first | exact q | exact q.mono fun _ _ hq => ⟨hq.1, hq.2.below⟩⟩
    · cases h
  exact Go.Proofs.Ytdhnjkagmbfoaaa.P.am_spec_ok f vals r h
end Go.Proofs.Ytdhnjkagmbfoaaa.AM.B
