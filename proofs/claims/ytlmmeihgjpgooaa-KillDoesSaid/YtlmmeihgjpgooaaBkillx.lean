/- More of the ring's texts. -/
import Derived.Test.YtlmmeihgjpgooaaAX
import Derived.Test.YtlmmeihgjpgooaaBkill
set_option linter.unusedVariables false
set_option linter.unusedSimpArgs false
set_option maxRecDepth 10000
set_option maxHeartbeats 4000000
namespace Go.Proofs.Ytlmmeihgjpgooaa.AM.B
open Go Go.RowKit
theorem outM_last (L : List (List Sign)) (l : List Sign) (how : Int) : (outM L l how)[(outM L l how).length - 1]? = some (joinM L l how) := by
  rw [outM_len]
  unfold outM
  split
  · rename_i h
    rw [Nat.add_sub_cancel, List.getElem?_append_right (Nat.le_refl _), Nat.sub_self]
    unfold joinM; rw [if_pos h]; rfl
  · rename_i h
    have h0 : L.length ≠ 0 := fun q => h (.inl q)
    rw [List.getElem?_append_right (by simp), List.length_dropLast, Nat.sub_self]; rfl
theorem pushM_last {L : List (List Sign)} {l : List Sign} {how most : Int} (hm : 1 ≤ most) : 1 ≤ (pushM L l how most).length ∧ (pushM L l how most)[(pushM L l how most).length - 1]? = some (joinM L l how) := by
  have h1 := outM_last L l how
  have h2 : 1 ≤ (outM L l how).length := by rw [outM_len]; split <;> omega
  unfold pushM
  split
  · rename_i h
    refine ⟨by rw [List.length_drop]; omega, ?_⟩
    rw [List.length_drop, List.getElem?_drop, show 1 + ((outM L l how).length - 1 - 1) = (outM L l how).length - 1 by omega]; exact h1
  · exact ⟨h2, h1⟩
theorem outM_mem {L : List (List Sign)} {l t : List Sign} {how : Int} (h : t ∈ outM L l how) : t ∈ L ∨ t = joinM L l how := by
  unfold outM at h
  split at h
  · rename_i q
    rcases List.mem_append.1 h with h | h
    · exact .inl h
    · simp at h; exact .inr (by unfold joinM; rw [if_pos q]; exact h)
  · rcases List.mem_append.1 h with h | h
    · exact .inl (List.dropLast_subset _ h)
    · simp at h; exact .inr h
theorem pushM_mem {L : List (List Sign)} {l t : List Sign} {how most : Int} (h : t ∈ pushM L l how most) : t ∈ L ∨ t = joinM L l how := by
  unfold pushM at h
  split at h
  · exact outM_mem (List.drop_subset _ _ h)
  · exact outM_mem h
theorem joinM_le {L : List (List Sign)} {l : List Sign} {how : Int} {M : Nat} (hM : ∀ t ∈ L, t.length ≤ M) : (joinM L l how).length ≤ M + l.length := by
  unfold joinM
  split
  · omega
  · rename_i q
    have : (lastL L).length ≤ M := hM _ (List.mem_of_getElem? (getLastD_at fun e => q (.inl e)))
    split <;> rw [List.length_append] <;> omega
end Go.Proofs.Ytlmmeihgjpgooaa.AM.B
