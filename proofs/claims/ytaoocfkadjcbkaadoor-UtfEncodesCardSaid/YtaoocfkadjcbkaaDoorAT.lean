/- What is so of the types of this seat's program; printed by a program of this session. -/
import Derived.Test.YtaoocfkadjcbkaaDoorProg
import Derived.Test.YtaoocfkadjcbkaaDoorAML
import Derived.KernelRfl
set_option linter.unusedVariables false
set_option linter.unusedSimpArgs false
set_option maxRecDepth 10000
set_option maxHeartbeats 4000000
namespace Go.Proofs.YtaoocfkadjcbkaaDoor.AM.B
open Go Go.RowKit
theorem agg_3 : aggT Tryd.prog 3 = some false := by kernel_rfl
theorem siz_3 : sizeT Tryd.prog 3 = some 1 := by kernel_rfl
theorem zer_3 : zeroT Tryd.prog 3 = some [.int .i64 0] := by kernel_rfl
theorem und_3 : Tryd.prog.underlying 3 = some (.int .i64) := by kernel_rfl
theorem und_4 : Tryd.prog.underlying 4 = some .bool := by kernel_rfl
theorem zer_5 : zeroT Tryd.prog 5 = some [.int .u8 0] := by kernel_rfl
theorem und_5 : Tryd.prog.underlying 5 = some (.int .u8) := by kernel_rfl
theorem und_9 : Tryd.prog.underlying 9 = some .string := by kernel_rfl
theorem und_21 : Tryd.prog.underlying 21 = some (.int .i32) := by kernel_rfl
theorem und_23 : Tryd.prog.underlying 23 = some (.slice 3) := by kernel_rfl
theorem elm_23 : elemT Tryd.prog 23 = some 3 := by kernel_rfl
theorem bsl_23 (len : Nat) (ps : List (Nat × V1)) (cs : List Cell) (h : seqParts 1 0 ps = some cs) (hl : ps.length = len) (hs : len * 1 ≤ 16777216) : buildSliceT Tryd.prog 23 len ps = some (3, 1, cs) := by
  have e1 : elemT Tryd.prog 23 = some 3 := by kernel_rfl
  have e2 : sizeT Tryd.prog 3 = some 1 := by kernel_rfl
  have e3 : zeroT Tryd.prog 3 = some [.int .i64 0] := by kernel_rfl
  unfold buildSliceT; simp only [e1, e2, e3, h]; rw [if_pos ⟨hs, rfl, by decide⟩, if_pos hl]
theorem und_36 : Tryd.prog.underlying 36 = some (.slice 5) := by kernel_rfl
theorem elm_36 : elemT Tryd.prog 36 = some 5 := by kernel_rfl
theorem bsl_36 (len : Nat) (ps : List (Nat × V1)) (cs : List Cell) (h : seqParts 1 0 ps = some cs) (hl : ps.length = len) (hs : len * 1 ≤ 16777216) : buildSliceT Tryd.prog 36 len ps = some (5, 1, cs) := by
  have e1 : elemT Tryd.prog 36 = some 5 := by kernel_rfl
  have e2 : sizeT Tryd.prog 5 = some 1 := by kernel_rfl
  have e3 : zeroT Tryd.prog 5 = some [.int .u8 0] := by kernel_rfl
  unfold buildSliceT; simp only [e1, e2, e3, h]; rw [if_pos ⟨hs, rfl, by decide⟩, if_pos hl]
theorem und_40 : Tryd.prog.underlying 40 = some (.int .u32) := by kernel_rfl
theorem inf_3 : ∃ i, Tryd.prog.info? 3 = some i ∧ i.size = 1 ∧ i.bytes = 8 := ⟨_, rfl, by kernel_rfl, by kernel_rfl⟩
theorem inf_5 : ∃ i, Tryd.prog.info? 5 = some i ∧ i.size = 1 ∧ i.bytes = 1 := ⟨_, rfl, by kernel_rfl, by kernel_rfl⟩
end Go.Proofs.YtaoocfkadjcbkaaDoor.AM.B
