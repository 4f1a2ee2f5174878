/- What is told ahead of the law's awake holds, where Go's own tables lie in memory. -/
import Derived.Test.YtaoocfkadjcbkaaDoorAX
import Derived.Test.YtaoocfkadjcbkaaDoorFull
set_option linter.unusedVariables false
set_option linter.unusedSimpArgs false
set_option maxRecDepth 1000000
set_option maxHeartbeats 4000000
namespace Go.Proofs.YtaoocfkadjcbkaaDoor.AM.B
open Go Go.RowKit Go.Lib
def Xd : Spec := fun f vals => if f = 24 then (match vals with | [.string s] => if s.size ≤ 1000000 then some (.bool (Go.Proofs.YtaoocfkadjcbkaaDoor.P.fullN s.size (s.get! 0).toNat (s.get! 1).toNat (s.get! 2).toNat)) else none | _ => none) else Go.Proofs.YtaoocfkadjcbkaaDoor.P.am_spec f vals
theorem Xd_at {w0 : World} (hT : Lib.Utf8Tabs 0 1 w0) : SpecAt Tryd.prog Xd w0 := by
  intro f vals r h
  unfold Xd at h
  split at h
  · rename_i e; subst e
    split at h
    · split at h
      · rename_i hs; cases h
        exact .inl ⟨⟨_, Tryd.func24, rfl⟩, fun w hb => Go.Proofs.YtaoocfkadjcbkaaDoor.P.fullRune _ w (Utf8Tabs_below hT hb) (by omega)⟩
      · cases h
    · cases h
  exact Go.Proofs.YtaoocfkadjcbkaaDoor.P.am_spec_ok.at_ w0 f vals r h
theorem awake_true : AM.isTrue (AM.callA Tryd.prog Xd 1000000 7 [] St.empty) = true := by decide +kernel
theorem Xs_at {w0 : World} (hT : Lib.Utf8Tabs 0 1 w0) : SpecAt Tryd.prog Xs w0 := by
  intro f vals r h
  unfold Xs at h
  split at h
  · rename_i e; subst e
    split at h
    · cases h
      exact .inl ⟨⟨_, Tryd.func7, rfl⟩, fun w hb => AM.true_at Go.Proofs.YtaoocfkadjcbkaaDoor.P.am_mixed (Xd_at (Utf8Tabs_below hT hb)) Go.Proofs.YtaoocfkadjcbkaaDoor.P.am_names awake_true⟩
    · cases h
  exact Xd_at hT f vals r h
end Go.Proofs.YtaoocfkadjcbkaaDoor.AM.B
