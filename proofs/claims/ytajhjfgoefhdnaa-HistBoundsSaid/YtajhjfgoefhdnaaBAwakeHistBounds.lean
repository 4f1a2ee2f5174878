/- What is told ahead of the law's awake holds. -/
import Derived.Test.YtajhjfgoefhdnaaAX
set_option linter.unusedVariables false
set_option linter.unusedSimpArgs false
set_option maxRecDepth 1000000
set_option maxHeartbeats 4000000
namespace Go.Proofs.Ytajhjfgoefhdnaa.AM.B
open Go Go.RowKit
theorem Xs_ok : SpecOK Try.prog Xs := by
  intro f vals r h
  unfold Xs at h
  split at h
  · rename_i e; subst e
    split at h
    · cases h
      exact .inl ⟨⟨_, Try.func4, rfl⟩, fun w => AM.true_of Go.Proofs.Ytajhjfgoefhdnaa.P.am_mixed Go.Proofs.Ytajhjfgoefhdnaa.P.am_spec_ok Go.Proofs.Ytajhjfgoefhdnaa.P.am_names (n := 1000000) (by decide +kernel) w⟩
    · cases h
  exact Go.Proofs.Ytajhjfgoefhdnaa.P.am_spec_ok f vals r h
end Go.Proofs.Ytajhjfgoefhdnaa.AM.B
