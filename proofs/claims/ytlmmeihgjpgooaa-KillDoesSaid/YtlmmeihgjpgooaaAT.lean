/- What is so of the types of this seat's program; printed by a program of this session. -/
import Derived.Test.YtlmmeihgjpgooaaProg
import Derived.Test.YtlmmeihgjpgooaaAML
import Derived.KernelRfl
set_option linter.unusedVariables false
set_option linter.unusedSimpArgs false
set_option maxRecDepth 10000
set_option maxHeartbeats 4000000
namespace Go.Proofs.Ytlmmeihgjpgooaa.AM.B
open Go Go.RowKit
theorem agg_3 : aggT Try.prog 3 = some false := by kernel_rfl
theorem siz_3 : sizeT Try.prog 3 = some 1 := by kernel_rfl
theorem und_3 : Try.prog.underlying 3 = some (.int .i64) := by kernel_rfl
theorem und_4 : Try.prog.underlying 4 = some .bool := by kernel_rfl
theorem agg_22 : aggT Try.prog 22 = some false := by kernel_rfl
theorem siz_22 : sizeT Try.prog 22 = some 1 := by kernel_rfl
theorem zer_22 : zeroT Try.prog 22 = some [.nils] := by kernel_rfl
theorem und_22 : Try.prog.underlying 22 = some (.slice 46) := by kernel_rfl
theorem elm_22 : elemT Try.prog 22 = some 46 := by kernel_rfl
theorem bsl_22 (len : Nat) (ps : List (Nat × V1)) (cs : List Cell) (h : seqParts 2 0 ps = some cs) (hl : ps.length = len) (hs : len * 2 ≤ 16777216) : buildSliceT Try.prog 22 len ps = some (46, 2, cs) := by
  have e1 : elemT Try.prog 22 = some 46 := by kernel_rfl
  have e2 : sizeT Try.prog 46 = some 2 := by kernel_rfl
  have e3 : zeroT Try.prog 46 = some [.int .i64 0, .int .i64 0] := by kernel_rfl
  unfold buildSliceT; simp only [e1, e2, e3, h]; rw [if_pos ⟨hs, rfl, by decide⟩, if_pos hl]
theorem agg_34 : aggT Try.prog 34 = some false := by kernel_rfl
theorem siz_34 : sizeT Try.prog 34 = some 1 := by kernel_rfl
theorem zer_34 : zeroT Try.prog 34 = some [.nils] := by kernel_rfl
theorem und_34 : Try.prog.underlying 34 = some (.slice 22) := by kernel_rfl
theorem elm_34 : elemT Try.prog 34 = some 22 := by kernel_rfl
theorem bsl_34 (len : Nat) (ps : List (Nat × V1)) (cs : List Cell) (h : seqParts 1 0 ps = some cs) (hl : ps.length = len) (hs : len * 1 ≤ 16777216) : buildSliceT Try.prog 34 len ps = some (22, 1, cs) := by
  have e1 : elemT Try.prog 34 = some 22 := by kernel_rfl
  have e2 : sizeT Try.prog 22 = some 1 := by kernel_rfl
  have e3 : zeroT Try.prog 22 = some [.nils] := by kernel_rfl
  unfold buildSliceT; simp only [e1, e2, e3, h]; rw [if_pos ⟨hs, rfl, by decide⟩, if_pos hl]
theorem agg_46 : aggT Try.prog 46 = some true := by kernel_rfl
theorem siz_46 : sizeT Try.prog 46 = some 2 := by kernel_rfl
theorem zer_46 : zeroT Try.prog 46 = some [.int .i64 0, .int .i64 0] := by kernel_rfl
theorem fa_46_0 : faT Try.prog 46 0 = some 0 := by kernel_rfl
theorem fa_46_1 : faT Try.prog 46 1 = some 1 := by kernel_rfl
theorem eqIn_46 (x0 y0 : Int) (x1 y1 : Int) (n : Nat) : pure? Try.prog (Op.equalIn (n + 2) 46 (.agg #[.int .i64 x0, .int .i64 x1]) (.agg #[.int .i64 y0, .int .i64 y1])) = some ((x0 == y0) && (x1 == y1)) := by
  have h := eqIn_struct (P := Try.prog) (n := n + 1) (xs := #[.int .i64 x0, .int .i64 x1]) (ys := #[.int .i64 y0, .int .i64 y1]) (fun f => if f.offset = 0 then (x0 == y0) else if f.offset = 1 then (x1 == y1) else true) Try.underlying46 (by kernel_rfl) (by
    intro f hf
    simp only [List.mem_cons, List.not_mem_nil, or_false] at hf
    rcases hf with rfl | rfl
    · exact ⟨by decide, _, _, pure?_part (by kernel_rfl) rfl, pure?_part (by kernel_rfl) rfl, eqIn_int (by kernel_rfl) n⟩
    · exact ⟨by decide, _, _, pure?_part (by kernel_rfl) rfl, pure?_part (by kernel_rfl) rfl, eqIn_int (by kernel_rfl) n⟩)
  rw [h]; simp
theorem op_nes_46 {q : Bool} {d : Option Nat} {ty : Nat} {pos : String} {af : Array Edge} {g : Option (Nat × Bool)} {e : Env} {H : Hyp} {K : V → Hyp → Prop} {X : Spec} {ty' : Nat} {x y : Operand} {x0 y0 : Int} {x1 y1 : Int} (hx : evE e x = some (.one (.agg [.int .i64 x0, .int .i64 x1]))) (hy : evE e y = some (.one (.agg [.int .i64 y0, .int .i64 y1]))) (k : K (vB (!((x0 == y0) && (x1 == y1)))) H) : OpW Try.prog X q ⟨d, .binOp .neq 46 x y ty', ty, pos, af, g⟩ e H K :=
  op_binA hx hy rfl rfl (by kernel_rfl) (neq_of rfl fun n => eqIn_46 x0 y0 x1 y1 (n + 2)) rfl k
theorem und_50 : Try.prog.underlying 50 = some (.slice 58) := by kernel_rfl
theorem agg_51 : aggT Try.prog 51 = some false := by kernel_rfl
theorem und_51 : Try.prog.underlying 51 = some (.pointer 106) := by kernel_rfl
theorem agg_56 : aggT Try.prog 56 = some true := by kernel_rfl
theorem siz_56 : sizeT Try.prog 56 = some 2 := by kernel_rfl
theorem zer_56 : zeroT Try.prog 56 = some [.nils, .int .i64 0] := by kernel_rfl
theorem fa_56_0 : faT Try.prog 56 0 = some 0 := by kernel_rfl
theorem fa_56_1 : faT Try.prog 56 1 = some 1 := by kernel_rfl
theorem bld_56 (ps : List (Nat × V1)) : buildT Try.prog 56 ps = fillA (fun i => ([(0, 1), (1, 1)] : List (Nat × Nat))[i]?) [.nils, .int .i64 0] ps := by kernel_rfl
theorem agg_58 : aggT Try.prog 58 = some true := by kernel_rfl
theorem siz_58 : sizeT Try.prog 58 = some 2 := by kernel_rfl
theorem zer_58 : zeroT Try.prog 58 = some [.int .i64 0, .nils] := by kernel_rfl
theorem fa_58_0 : faT Try.prog 58 0 = some 0 := by kernel_rfl
theorem fa_58_1 : faT Try.prog 58 1 = some 1 := by kernel_rfl
theorem agg_104 : aggT Try.prog 104 = some false := by kernel_rfl
theorem und_104 : Try.prog.underlying 104 = some (.map 3 22) := by kernel_rfl
theorem fa_106_0 : faT Try.prog 106 0 = some 0 := by kernel_rfl
theorem fa_106_1 : faT Try.prog 106 1 = some 1 := by kernel_rfl
theorem fa_106_2 : faT Try.prog 106 2 = some 2 := by kernel_rfl
theorem fa_106_3 : faT Try.prog 106 3 = some 3 := by kernel_rfl
theorem fa_106_4 : faT Try.prog 106 4 = some 4 := by kernel_rfl
theorem bld_106 (ps : List (Nat × V1)) : buildT Try.prog 106 ps = fillA (fun i => ([(0, 1), (1, 1), (2, 1), (3, 1), (4, 1)] : List (Nat × Nat))[i]?) [.nilm, .int .i64 0, .int .i64 0, .int .i64 0, .int .i64 0] ps := by kernel_rfl
theorem inf_22 : ∃ i, Try.prog.info? 22 = some i ∧ i.size = 1 ∧ i.bytes = 24 := ⟨_, rfl, by kernel_rfl, by kernel_rfl⟩
theorem inf_46 : ∃ i, Try.prog.info? 46 = some i ∧ i.size = 2 ∧ i.bytes = 16 := ⟨_, rfl, by kernel_rfl, by kernel_rfl⟩
end Go.Proofs.Ytlmmeihgjpgooaa.AM.B
