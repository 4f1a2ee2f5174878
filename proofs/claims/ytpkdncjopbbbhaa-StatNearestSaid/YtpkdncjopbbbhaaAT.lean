/- What is so of the types of this seat's program; printed by a program of this session. -/
import Derived.Test.YtpkdncjopbbbhaaProg
import Derived.Test.YtpkdncjopbbbhaaAML
import Derived.KernelRfl
set_option linter.unusedVariables false
set_option linter.unusedSimpArgs false
set_option maxRecDepth 10000
set_option maxHeartbeats 4000000
namespace Go.Proofs.Ytpkdncjopbbbhaa.AM.B
open Go Go.RowKit
theorem agg_3 : aggT Try.prog 3 = some false := by kernel_rfl
theorem siz_3 : sizeT Try.prog 3 = some 1 := by kernel_rfl
theorem zer_3 : zeroT Try.prog 3 = some [.int .i64 0] := by kernel_rfl
theorem und_3 : Try.prog.underlying 3 = some (.int .i64) := by kernel_rfl
theorem agg_22 : aggT Try.prog 22 = some false := by kernel_rfl
theorem siz_22 : sizeT Try.prog 22 = some 1 := by kernel_rfl
theorem und_22 : Try.prog.underlying 22 = some (.slice 43) := by kernel_rfl
theorem agg_29 : aggT Try.prog 29 = some false := by kernel_rfl
theorem siz_29 : sizeT Try.prog 29 = some 1 := by kernel_rfl
theorem zer_29 : zeroT Try.prog 29 = some [.nils] := by kernel_rfl
theorem und_29 : Try.prog.underlying 29 = some (.slice 3) := by kernel_rfl
theorem elm_29 : elemT Try.prog 29 = some 3 := by kernel_rfl
theorem bsl_29 (len : Nat) (ps : List (Nat × V1)) (cs : List Cell) (h : seqParts 1 0 ps = some cs) (hl : ps.length = len) (hs : len * 1 ≤ 16777216) : buildSliceT Try.prog 29 len ps = some (3, 1, cs) := by
  have e1 : elemT Try.prog 29 = some 3 := by kernel_rfl
  have e2 : sizeT Try.prog 3 = some 1 := by kernel_rfl
  have e3 : zeroT Try.prog 3 = some [.int .i64 0] := by kernel_rfl
  unfold buildSliceT; simp only [e1, e2, e3, h]; rw [if_pos ⟨hs, rfl, by decide⟩, if_pos hl]
theorem und_34 : Try.prog.underlying 34 = some (.slice 22) := by kernel_rfl
theorem agg_43 : aggT Try.prog 43 = some true := by kernel_rfl
theorem siz_43 : sizeT Try.prog 43 = some 2 := by kernel_rfl
theorem zer_43 : zeroT Try.prog 43 = some [.int .i64 0, .int .i64 0] := by kernel_rfl
theorem fa_43_0 : faT Try.prog 43 0 = some 0 := by kernel_rfl
theorem und_44 : Try.prog.underlying 44 = some (.slice 29) := by kernel_rfl
theorem elm_44 : elemT Try.prog 44 = some 29 := by kernel_rfl
theorem bsl_44 (len : Nat) (ps : List (Nat × V1)) (cs : List Cell) (h : seqParts 1 0 ps = some cs) (hl : ps.length = len) (hs : len * 1 ≤ 16777216) : buildSliceT Try.prog 44 len ps = some (29, 1, cs) := by
  have e1 : elemT Try.prog 44 = some 29 := by kernel_rfl
  have e2 : sizeT Try.prog 29 = some 1 := by kernel_rfl
  have e3 : zeroT Try.prog 29 = some [.nils] := by kernel_rfl
  unfold buildSliceT; simp only [e1, e2, e3, h]; rw [if_pos ⟨hs, rfl, by decide⟩, if_pos hl]
theorem inf_3 : ∃ i, Try.prog.info? 3 = some i ∧ i.size = 1 ∧ i.bytes = 8 := ⟨_, rfl, by kernel_rfl, by kernel_rfl⟩
theorem inf_29 : ∃ i, Try.prog.info? 29 = some i ∧ i.size = 1 ∧ i.bytes = 24 := ⟨_, rfl, by kernel_rfl, by kernel_rfl⟩
end Go.Proofs.Ytpkdncjopbbbhaa.AM.B
