/- What is so of the types of this seat's program; printed by a program of this session. -/
import Derived.Test.YtdhnjkagmbfoaaaProg
import Derived.Test.YtdhnjkagmbfoaaaAML
import Derived.KernelRfl
set_option linter.unusedVariables false
set_option linter.unusedSimpArgs false
set_option maxRecDepth 10000
set_option maxHeartbeats 4000000
namespace Go.Proofs.Ytdhnjkagmbfoaaa.AM.B
open Go Go.RowKit
theorem agg_3 : aggT Try.prog 3 = some false := by kernel_rfl
theorem siz_3 : sizeT Try.prog 3 = some 1 := by kernel_rfl
theorem und_3 : Try.prog.underlying 3 = some (.int .i64) := by kernel_rfl
theorem agg_4 : aggT Try.prog 4 = some false := by kernel_rfl
theorem agg_22 : aggT Try.prog 22 = some false := by kernel_rfl
theorem siz_22 : sizeT Try.prog 22 = some 1 := by kernel_rfl
theorem und_22 : Try.prog.underlying 22 = some (.slice 39) := by kernel_rfl
theorem elm_22 : elemT Try.prog 22 = some 39 := by kernel_rfl
theorem bsl_22 (len : Nat) (ps : List (Nat × V1)) (cs : List Cell) (h : seqParts 2 0 ps = some cs) (hl : ps.length = len) (hs : len * 2 ≤ 16777216) : buildSliceT Try.prog 22 len ps = some (39, 2, cs) := by
  have e1 : elemT Try.prog 22 = some 39 := by kernel_rfl
  have e2 : sizeT Try.prog 39 = some 2 := by kernel_rfl
  have e3 : zeroT Try.prog 39 = some [.int .i64 0, .int .i64 0] := by kernel_rfl
  unfold buildSliceT; simp only [e1, e2, e3, h]; rw [if_pos ⟨hs, rfl, by decide⟩, if_pos hl]
theorem agg_24 : aggT Try.prog 24 = some true := by kernel_rfl
theorem siz_24 : sizeT Try.prog 24 = some 2 := by kernel_rfl
theorem zer_24 : zeroT Try.prog 24 = some [.nils, .int .i64 0] := by kernel_rfl
theorem fa_24_0 : faT Try.prog 24 0 = some 0 := by kernel_rfl
theorem fa_24_1 : faT Try.prog 24 1 = some 1 := by kernel_rfl
theorem bld_24 (ps : List (Nat × V1)) : buildT Try.prog 24 ps = fillA (fun i => ([(0, 1), (1, 1)] : List (Nat × Nat))[i]?) [.nils, .int .i64 0] ps := by kernel_rfl
theorem fa_31_0 : faT Try.prog 31 0 = some 0 := by kernel_rfl
theorem fa_31_1 : faT Try.prog 31 1 = some 1 := by kernel_rfl
theorem fa_31_2 : faT Try.prog 31 2 = some 2 := by kernel_rfl
theorem agg_39 : aggT Try.prog 39 = some true := by kernel_rfl
theorem siz_39 : sizeT Try.prog 39 = some 2 := by kernel_rfl
theorem zer_39 : zeroT Try.prog 39 = some [.int .i64 0, .int .i64 0] := by kernel_rfl
theorem fa_39_0 : faT Try.prog 39 0 = some 0 := by kernel_rfl
theorem fa_39_1 : faT Try.prog 39 1 = some 1 := by kernel_rfl
theorem eqIn_39 (x0 y0 : Int) (x1 y1 : Int) (n : Nat) : pure? Try.prog (Op.equalIn (n + 2) 39 (.agg #[.int .i64 x0, .int .i64 x1]) (.agg #[.int .i64 y0, .int .i64 y1])) = some ((x0 == y0) && (x1 == y1)) := by
  have h := eqIn_struct (P := Try.prog) (n := n + 1) (xs := #[.int .i64 x0, .int .i64 x1]) (ys := #[.int .i64 y0, .int .i64 y1]) (fun f => if f.offset = 0 then (x0 == y0) else if f.offset = 1 then (x1 == y1) else true) Try.underlying39 (by kernel_rfl) (by
    intro f hf
    simp only [List.mem_cons, List.not_mem_nil, or_false] at hf
    rcases hf with rfl | rfl
    · exact ⟨by decide, _, _, pure?_part (by kernel_rfl) rfl, pure?_part (by kernel_rfl) rfl, eqIn_int (by kernel_rfl) n⟩
    · exact ⟨by decide, _, _, pure?_part (by kernel_rfl) rfl, pure?_part (by kernel_rfl) rfl, eqIn_int (by kernel_rfl) n⟩)
  rw [h]; simp
theorem op_nes_39 {q : Bool} {d : Option Nat} {ty : Nat} {pos : String} {af : Array Edge} {g : Option (Nat × Bool)} {e : Env} {H : Hyp} {K : V → Hyp → Prop} {X : Spec} {ty' : Nat} {x y : Operand} {x0 y0 : Int} {x1 y1 : Int} (hx : evE e x = some (.one (.agg [.int .i64 x0, .int .i64 x1]))) (hy : evE e y = some (.one (.agg [.int .i64 y0, .int .i64 y1]))) (k : K (vB (!((x0 == y0) && (x1 == y1)))) H) : OpW Try.prog X q ⟨d, .binOp .neq 39 x y ty', ty, pos, af, g⟩ e H K :=
  op_binA hx hy rfl rfl (by kernel_rfl) (neq_of rfl fun n => eqIn_39 x0 y0 x1 y1 (n + 2)) rfl k
theorem agg_49 : aggT Try.prog 49 = some false := by kernel_rfl
theorem siz_49 : sizeT Try.prog 49 = some 1 := by kernel_rfl
theorem zer_49 : zeroT Try.prog 49 = some [.nilf] := by kernel_rfl
theorem agg_65 : aggT Try.prog 65 = some false := by kernel_rfl
theorem siz_65 : sizeT Try.prog 65 = some 1 := by kernel_rfl
theorem zer_65 : zeroT Try.prog 65 = some [.nilf] := by kernel_rfl
theorem und_67 : Try.prog.underlying 67 = some (.slice 22) := by kernel_rfl
theorem bsl_67 (len : Nat) (ps : List (Nat × V1)) (cs : List Cell) (h : seqParts 1 0 ps = some cs) (hl : ps.length = len) (hs : len * 1 ≤ 16777216) : buildSliceT Try.prog 67 len ps = some (22, 1, cs) := by
  have e1 : elemT Try.prog 67 = some 22 := by kernel_rfl
  have e2 : sizeT Try.prog 22 = some 1 := by kernel_rfl
  have e3 : zeroT Try.prog 22 = some [.nils] := by kernel_rfl
  unfold buildSliceT; simp only [e1, e2, e3, h]; rw [if_pos ⟨hs, rfl, by decide⟩, if_pos hl]
theorem inf_39 : ∃ i, Try.prog.info? 39 = some i ∧ i.size = 2 ∧ i.bytes = 16 := ⟨_, rfl, by kernel_rfl, by kernel_rfl⟩
end Go.Proofs.Ytdhnjkagmbfoaaa.AM.B
