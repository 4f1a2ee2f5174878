/- The abstract machine's regions that draw their order: what only looks leaves all as it is. -/
import Derived.Test.YtlmmeihgjpgooaaAMS12
set_option linter.unusedSimpArgs false
set_option linter.unusedVariables false
namespace Go.Proofs.Ytlmmeihgjpgooaa.AM
open Go Go.RowKit Go.MapKept
section
variable {P : Program} {s s1 : St} {v : V}
theorem pureOp_st {fr : List V} {o : Oper} (h : pureOp P fr s o = some (v, s1)) : s1 = s := by
  unfold pureOp at h
  split at h
  · split at h
    · simp only [Option.map_eq_some_iff, Prod.mk.injEq] at h; obtain ⟨_, _, _, rfl⟩ := h; rfl
    · cases h
  · cases h
theorem xLoad_st {t : TypeId} {b off : Nat} (h : xLoad P s t b off = some (v, s1)) : s1 = s := by
  unfold xLoad at h
  repeat' split at h
  all_goals first | (cases h; done) | (cases h; rfl) | (simp only [Option.map_eq_some_iff, Prod.mk.injEq] at h; obtain ⟨_, _, _, rfl⟩ := h; rfl)
theorem xFieldAddr_st {t : TypeId} {b off f : Nat} (h : xFieldAddr P s t b off f = some (v, s1)) : s1 = s := by
  unfold xFieldAddr at h
  repeat' split at h
  all_goals first | (cases h; done) | (cases h; rfl)
theorem xField_st {t : TypeId} {cs : List Cell} {f : Nat} (h : xField P s t cs f = some (v, s1)) : s1 = s := by
  unfold xField at h
  repeat' split at h
  all_goals first | (cases h; done) | (simp only [Option.map_eq_some_iff, Prod.mk.injEq] at h; obtain ⟨_, _, _, rfl⟩ := h; rfl)
theorem xBuild_st {t : TypeId} {ps : List (Nat × V1)} (h : xBuild P s t ps = some (v, s1)) : s1 = s := by
  unfold xBuild at h
  repeat' split at h
  all_goals first | (cases h; done) | (simp only [Option.map_eq_some_iff, Prod.mk.injEq] at h; obtain ⟨_, _, _, rfl⟩ := h; rfl)
theorem xIndexAddr_st {t : TypeId} {c : Cell} {i : Int} (h : xIndexAddr P s t c i = some (v, s1)) : s1 = s := by
  unfold xIndexAddr at h
  repeat' split at h
  all_goals first | (cases h; done) | (cases h; rfl)
theorem xLookup_st {t : TypeId} {c : Cell} {k : V1} {ok : Bool} (h : xLookup P s t c k ok = some (v, s1)) : s1 = s := by
  unfold xLookup at h
  repeat' split at h
  all_goals first | (cases h; done) | (cases h; rfl)
theorem xBytesToString_st {a b : TypeId} {c : Cell} (h : xBytesToString P s a b c = some (v, s1)) : s1 = s := by
  unfold xBytesToString at h
  repeat' split at h
  all_goals first | (cases h; done) | (cases h; rfl) | (simp only [Option.map_eq_some_iff, Prod.mk.injEq] at h; obtain ⟨_, _, _, rfl⟩ := h; rfl)
theorem xLen_st {t : TypeId} {x : V1} (h : xLen P s t x = some (v, s1)) : s1 = s := by
  unfold xLen at h
  repeat' split at h
  all_goals first | (cases h; done) | (cases h; rfl)
theorem xSlice_st {t : TypeId} {c : Cell} {lo hi : Nat} {mx : Option Nat} (h : xSlice P s t c lo hi mx = some (v, s1)) (hn : s1.next = s.next) : s1 = s := by
  unfold xSlice at h
  repeat' split at h
  all_goals first
    | (cases h; done)
    | (cases h; rfl)
    | (cases h; simp [St.push] at hn; done)
    | (simp only [Option.map_eq_some_iff, Prod.mk.injEq] at h; obtain ⟨_, _, _, rfl⟩ := h; rfl)
theorem quiet_state {X : Spec} {callF : CallF} {fr : List V} {o : Oper} (hq : isMover o.op = false) (h : opRun P X callF fr s o = some (v, s1)) (hn : s1.next = s.next) : s1 = s := by
  unfold opRun at h
  split at h
  case h_4 hop => rw [hop] at hq; cases hq
  case h_5 hop => rw [hop] at hq; cases hq
  case h_7 hop => rw [hop] at hq; cases hq
  case h_12 hop => rw [hop] at hq; cases hq
  case h_13 hop => rw [hop] at hq; cases hq
  case h_17 hop => rw [hop] at hq; cases hq
  case h_19 hop => rw [hop] at hq; cases hq
  case h_20 hop => rw [hop] at hq; cases hq
  case h_21 hop => rw [hop] at hq; cases hq
  case h_26 hop => rw [hop] at hq; cases hq
  · simp only [Option.map_eq_some_iff, Prod.mk.injEq] at h; obtain ⟨_, _, _, rfl⟩ := h; rfl
  · simp only [Option.map_eq_some_iff, Prod.mk.injEq] at h; obtain ⟨_, _, _, rfl⟩ := h; rfl
  · split at h
    · simp only [Option.map_eq_some_iff, Prod.mk.injEq] at h; obtain ⟨_, _, _, rfl⟩ := h; rfl
    · cases h
  · split at h
    · exact xLoad_st h
    · cases h
  · split at h
    · cases h; rfl
    · cases h
  · split at h
    · exact xFieldAddr_st h
    · cases h
  · split at h
    · exact xField_st h
    · cases h
  · obtain ⟨_, _, h⟩ := Option.bind_eq_some_iff.1 h; exact xBuild_st h
  · split at h
    · exact xIndexAddr_st h
    · cases h
  · -- slice
    repeat' split at h
    all_goals first | (cases h; done) | exact pureOp_st h | exact xSlice_st h hn
  · simp only [Option.map_eq_some_iff, Prod.mk.injEq] at h; obtain ⟨_, _, _, rfl⟩ := h; rfl
  · split at h
    · exact xLookup_st h
    · cases h
  · split at h
    · simp only [Option.map_eq_some_iff, Prod.mk.injEq] at h; obtain ⟨_, _, _, rfl⟩ := h; rfl
    · cases h
  · repeat' split at h
    all_goals first | exact xBytesToString_st h | exact pureOp_st h
  · repeat' split at h
    all_goals first | (cases h; done) | (cases h; rfl) | exact pureOp_st h
  · rename_i b args ats hop
    rw [hop] at hq
    split at h
    · obtain ⟨_, _, h⟩ := Option.bind_eq_some_iff.1 h; exact xLen_st h
    · cases hq
    · cases hq
    · cases hq
    · cases hq
    · cases hq
    · exact pureOp_st h
    · exact pureOp_st h
    · cases h
  · exact pureOp_st h
  · exact pureOp_st h
  · cases h
end
end Go.Proofs.Ytlmmeihgjpgooaa.AM
