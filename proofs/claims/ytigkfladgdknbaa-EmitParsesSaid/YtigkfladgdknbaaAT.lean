/- What is so of the types of this seat's program; printed by a program of this session. -/
import Derived.Test.YtigkfladgdknbaaProg
import Derived.Test.YtigkfladgdknbaaAML
import Derived.KernelRfl
set_option linter.unusedVariables false
set_option linter.unusedSimpArgs false
set_option maxRecDepth 10000
set_option maxHeartbeats 4000000
namespace Go.Proofs.Ytigkfladgdknbaa.AM.B
open Go Go.RowKit
theorem agg_3 : aggT Try.prog 3 = some false := by kernel_rfl
theorem siz_3 : sizeT Try.prog 3 = some 1 := by kernel_rfl
theorem zer_3 : zeroT Try.prog 3 = some [.int .i64 0] := by kernel_rfl
theorem und_3 : Try.prog.underlying 3 = some (.int .i64) := by kernel_rfl
theorem und_4 : Try.prog.underlying 4 = some .bool := by kernel_rfl
theorem und_5 : Try.prog.underlying 5 = some (.int .u8) := by kernel_rfl
theorem agg_9 : aggT Try.prog 9 = some false := by kernel_rfl
theorem siz_9 : sizeT Try.prog 9 = some 1 := by kernel_rfl
theorem und_9 : Try.prog.underlying 9 = some .string := by kernel_rfl
theorem und_21 : Try.prog.underlying 21 = some (.int .i32) := by kernel_rfl
theorem agg_22 : aggT Try.prog 22 = some false := by kernel_rfl
theorem siz_22 : sizeT Try.prog 22 = some 1 := by kernel_rfl
theorem zer_22 : zeroT Try.prog 22 = some [.nils] := by kernel_rfl
theorem und_22 : Try.prog.underlying 22 = some (.slice 31) := by kernel_rfl
theorem elm_22 : elemT Try.prog 22 = some 31 := by kernel_rfl
theorem bsl_22 (len : Nat) (ps : List (Nat × V1)) (cs : List Cell) (h : seqParts 4 0 ps = some cs) (hl : ps.length = len) (hs : len * 4 ≤ 16777216) : buildSliceT Try.prog 22 len ps = some (31, 4, cs) := by
  have e1 : elemT Try.prog 22 = some 31 := by kernel_rfl
  have e2 : sizeT Try.prog 31 = some 4 := by kernel_rfl
  have e3 : zeroT Try.prog 31 = some [.int .i64 0, .int .i64 0, .int .i64 0, .str ⟨#[]⟩] := by kernel_rfl
  unfold buildSliceT; simp only [e1, e2, e3, h]; rw [if_pos ⟨hs, rfl, by decide⟩, if_pos hl]
theorem agg_31 : aggT Try.prog 31 = some true := by kernel_rfl
theorem siz_31 : sizeT Try.prog 31 = some 4 := by kernel_rfl
theorem zer_31 : zeroT Try.prog 31 = some [.int .i64 0, .int .i64 0, .int .i64 0, .str ⟨#[]⟩] := by kernel_rfl
theorem fa_31_0 : faT Try.prog 31 0 = some 0 := by kernel_rfl
theorem fa_31_1 : faT Try.prog 31 1 = some 1 := by kernel_rfl
theorem fa_31_2 : faT Try.prog 31 2 = some 2 := by kernel_rfl
theorem fa_31_3 : faT Try.prog 31 3 = some 3 := by kernel_rfl
theorem eqIn_31 (x0 y0 : Int) (x1 y1 : Int) (x2 y2 : Int) (x3 y3 : ByteArray) (n : Nat) : pure? Try.prog (Op.equalIn (n + 2) 31 (.agg #[.int .i64 x0, .int .i64 x1, .int .i64 x2, .string x3]) (.agg #[.int .i64 y0, .int .i64 y1, .int .i64 y2, .string y3])) = some ((x0 == y0) && ((x1 == y1) && ((x2 == y2) && (x3 == y3)))) := by
  have h := eqIn_struct (P := Try.prog) (n := n + 1) (xs := #[.int .i64 x0, .int .i64 x1, .int .i64 x2, .string x3]) (ys := #[.int .i64 y0, .int .i64 y1, .int .i64 y2, .string y3]) (fun f => if f.offset = 0 then (x0 == y0) else if f.offset = 1 then (x1 == y1) else if f.offset = 2 then (x2 == y2) else if f.offset = 3 then (x3 == y3) else true) Try.underlying31 (by kernel_rfl) (by
    intro f hf
    simp only [List.mem_cons, List.not_mem_nil, or_false] at hf
    rcases hf with rfl | rfl | rfl | rfl
    · exact ⟨by decide, _, _, pure?_part (by kernel_rfl) rfl, pure?_part (by kernel_rfl) rfl, eqIn_int (by kernel_rfl) n⟩
    · exact ⟨by decide, _, _, pure?_part (by kernel_rfl) rfl, pure?_part (by kernel_rfl) rfl, eqIn_int (by kernel_rfl) n⟩
    · exact ⟨by decide, _, _, pure?_part (by kernel_rfl) rfl, pure?_part (by kernel_rfl) rfl, eqIn_int (by kernel_rfl) n⟩
    · exact ⟨by decide, _, _, pure?_part (by kernel_rfl) rfl, pure?_part (by kernel_rfl) rfl, eqIn_str (by kernel_rfl) n⟩)
  rw [h]; simp
theorem op_nes_31 {q : Bool} {d : Option Nat} {ty : Nat} {pos : String} {af : Array Edge} {g : Option (Nat × Bool)} {e : Env} {H : Hyp} {K : V → Hyp → Prop} {X : Spec} {ty' : Nat} {x y : Operand} {x0 y0 : Int} {x1 y1 : Int} {x2 y2 : Int} {x3 y3 : ByteArray} (hx : evE e x = some (.one (.agg [.int .i64 x0, .int .i64 x1, .int .i64 x2, .str x3]))) (hy : evE e y = some (.one (.agg [.int .i64 y0, .int .i64 y1, .int .i64 y2, .str y3]))) (k : K (vB (!((x0 == y0) && ((x1 == y1) && ((x2 == y2) && (x3 == y3)))))) H) : OpW Try.prog X q ⟨d, .binOp .neq 31 x y ty', ty, pos, af, g⟩ e H K :=
  op_binA hx hy rfl rfl (by kernel_rfl) (neq_of rfl fun n => eqIn_31 x0 y0 x1 y1 x2 y2 x3 y3 (n + 2)) rfl k
theorem bld_31 (ps : List (Nat × V1)) : buildT Try.prog 31 ps = fillA (fun i => ([(0, 1), (1, 1), (2, 1), (3, 1)] : List (Nat × Nat))[i]?) [.int .i64 0, .int .i64 0, .int .i64 0, .str ⟨#[]⟩] ps := by kernel_rfl
theorem und_38 : Try.prog.underlying 38 = some (.slice 3) := by kernel_rfl
theorem elm_38 : elemT Try.prog 38 = some 3 := by kernel_rfl
theorem bsl_38 (len : Nat) (ps : List (Nat × V1)) (cs : List Cell) (h : seqParts 1 0 ps = some cs) (hl : ps.length = len) (hs : len * 1 ≤ 16777216) : buildSliceT Try.prog 38 len ps = some (3, 1, cs) := by
  have e1 : elemT Try.prog 38 = some 3 := by kernel_rfl
  have e2 : sizeT Try.prog 3 = some 1 := by kernel_rfl
  have e3 : zeroT Try.prog 3 = some [.int .i64 0] := by kernel_rfl
  unfold buildSliceT; simp only [e1, e2, e3, h]; rw [if_pos ⟨hs, rfl, by decide⟩, if_pos hl]
theorem und_53 : Try.prog.underlying 53 = some (.slice 9) := by kernel_rfl
theorem bsl_53 (len : Nat) (ps : List (Nat × V1)) (cs : List Cell) (h : seqParts 1 0 ps = some cs) (hl : ps.length = len) (hs : len * 1 ≤ 16777216) : buildSliceT Try.prog 53 len ps = some (9, 1, cs) := by
  have e1 : elemT Try.prog 53 = some 9 := by kernel_rfl
  have e2 : sizeT Try.prog 9 = some 1 := by kernel_rfl
  have e3 : zeroT Try.prog 9 = some [.str ⟨#[]⟩] := by kernel_rfl
  unfold buildSliceT; simp only [e1, e2, e3, h]; rw [if_pos ⟨hs, rfl, by decide⟩, if_pos hl]
theorem agg_58 : aggT Try.prog 58 = some false := by kernel_rfl
theorem und_58 : Try.prog.underlying 58 = some (.int .u64) := by kernel_rfl
theorem und_59 : Try.prog.underlying 59 = some (.array 3 9) := by kernel_rfl
theorem bld_59 (ps : List (Nat × V1)) : buildT Try.prog 59 ps = fillA (fun i => some (i * 1, 1)) [.str ⟨#[]⟩, .str ⟨#[]⟩, .str ⟨#[]⟩] ps := by kernel_rfl
theorem inf_3 : ∃ i, Try.prog.info? 3 = some i ∧ i.size = 1 ∧ i.bytes = 8 := ⟨_, rfl, by kernel_rfl, by kernel_rfl⟩
theorem inf_31 : ∃ i, Try.prog.info? 31 = some i ∧ i.size = 4 ∧ i.bytes = 40 := ⟨_, rfl, by kernel_rfl, by kernel_rfl⟩
end Go.Proofs.Ytigkfladgdknbaa.AM.B
