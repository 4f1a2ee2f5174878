/- What is so of the types of this seat's program; printed by a program of this session. -/
import Derived.Test.YtkmdofkajcehpaaProg
import Derived.Test.YtkmdofkajcehpaaAML
import Derived.KernelRfl
set_option linter.unusedVariables false
set_option linter.unusedSimpArgs false
set_option maxRecDepth 10000
set_option maxHeartbeats 4000000
namespace Go.Proofs.Ytkmdofkajcehpaa.AM.B
open Go Go.RowKit
theorem agg_3 : aggT Try.prog 3 = some false := by kernel_rfl
theorem siz_3 : sizeT Try.prog 3 = some 1 := by kernel_rfl
theorem zer_3 : zeroT Try.prog 3 = some [.int .i64 0] := by kernel_rfl
theorem und_3 : Try.prog.underlying 3 = some (.int .i64) := by kernel_rfl
theorem und_5 : Try.prog.underlying 5 = some (.int .u8) := by kernel_rfl
theorem und_9 : Try.prog.underlying 9 = some .string := by kernel_rfl
theorem agg_23 : aggT Try.prog 23 = some true := by kernel_rfl
theorem siz_23 : sizeT Try.prog 23 = some 2 := by kernel_rfl
theorem zer_23 : zeroT Try.prog 23 = some [.int .i64 0, .int .i64 0] := by kernel_rfl
theorem fa_23_0 : faT Try.prog 23 0 = some 0 := by kernel_rfl
theorem fa_23_1 : faT Try.prog 23 1 = some 1 := by kernel_rfl
theorem agg_24 : aggT Try.prog 24 = some false := by kernel_rfl
theorem siz_24 : sizeT Try.prog 24 = some 1 := by kernel_rfl
theorem zer_24 : zeroT Try.prog 24 = some [.nils] := by kernel_rfl
theorem und_24 : Try.prog.underlying 24 = some (.slice 100) := by kernel_rfl
theorem elm_24 : elemT Try.prog 24 = some 100 := by kernel_rfl
theorem bsl_24 (len : Nat) (ps : List (Nat × V1)) (cs : List Cell) (h : seqParts 5 0 ps = some cs) (hl : ps.length = len) (hs : len * 5 ≤ 16777216) : buildSliceT Try.prog 24 len ps = some (100, 5, cs) := by
  have e1 : elemT Try.prog 24 = some 100 := by kernel_rfl
  have e2 : sizeT Try.prog 100 = some 5 := by kernel_rfl
  have e3 : zeroT Try.prog 100 = some [.int .i64 0, .int .i64 0, .int .i64 0, .int .i64 0, .int .i64 0] := by kernel_rfl
  unfold buildSliceT; simp only [e1, e2, e3, h]; rw [if_pos ⟨hs, rfl, by decide⟩, if_pos hl]
theorem und_36 : Try.prog.underlying 36 = some (.slice 23) := by kernel_rfl
theorem und_42 : Try.prog.underlying 42 = some (.slice 3) := by kernel_rfl
theorem elm_42 : elemT Try.prog 42 = some 3 := by kernel_rfl
theorem bsl_42 (len : Nat) (ps : List (Nat × V1)) (cs : List Cell) (h : seqParts 1 0 ps = some cs) (hl : ps.length = len) (hs : len * 1 ≤ 16777216) : buildSliceT Try.prog 42 len ps = some (3, 1, cs) := by
  have e1 : elemT Try.prog 42 = some 3 := by kernel_rfl
  have e2 : sizeT Try.prog 3 = some 1 := by kernel_rfl
  have e3 : zeroT Try.prog 3 = some [.int .i64 0] := by kernel_rfl
  unfold buildSliceT; simp only [e1, e2, e3, h]; rw [if_pos ⟨hs, rfl, by decide⟩, if_pos hl]
theorem agg_100 : aggT Try.prog 100 = some true := by kernel_rfl
theorem siz_100 : sizeT Try.prog 100 = some 5 := by kernel_rfl
theorem zer_100 : zeroT Try.prog 100 = some [.int .i64 0, .int .i64 0, .int .i64 0, .int .i64 0, .int .i64 0] := by kernel_rfl
theorem fa_100_0 : faT Try.prog 100 0 = some 0 := by kernel_rfl
theorem fa_100_1 : faT Try.prog 100 1 = some 1 := by kernel_rfl
theorem fa_100_2 : faT Try.prog 100 2 = some 2 := by kernel_rfl
theorem bld_100 (ps : List (Nat × V1)) : buildT Try.prog 100 ps = fillA (fun i => ([(0, 1), (1, 1), (2, 1), (3, 1), (4, 1)] : List (Nat × Nat))[i]?) [.int .i64 0, .int .i64 0, .int .i64 0, .int .i64 0, .int .i64 0] ps := by kernel_rfl
theorem inf_3 : ∃ i, Try.prog.info? 3 = some i ∧ i.size = 1 ∧ i.bytes = 8 := ⟨_, rfl, by kernel_rfl, by kernel_rfl⟩
theorem inf_100 : ∃ i, Try.prog.info? 100 = some i ∧ i.size = 5 ∧ i.bytes = 40 := ⟨_, rfl, by kernel_rfl, by kernel_rfl⟩
end Go.Proofs.Ytkmdofkajcehpaa.AM.B
