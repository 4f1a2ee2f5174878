/- What is so of the types of this seat's program; printed by a program of this session. -/
import Derived.Test.YteghmemcikiblaaProg
import Derived.Test.YteghmemcikiblaaAML
import Derived.KernelRfl
set_option linter.unusedVariables false
set_option linter.unusedSimpArgs false
set_option maxRecDepth 10000
set_option maxHeartbeats 4000000
namespace Go.Proofs.Yteghmemcikiblaa.AM.B
open Go Go.RowKit
theorem agg_3 : aggT Try.prog 3 = some false := by kernel_rfl
theorem siz_3 : sizeT Try.prog 3 = some 1 := by kernel_rfl
theorem und_3 : Try.prog.underlying 3 = some (.int .i64) := by kernel_rfl
theorem agg_4 : aggT Try.prog 4 = some false := by kernel_rfl
theorem und_4 : Try.prog.underlying 4 = some .bool := by kernel_rfl
theorem zer_5 : zeroT Try.prog 5 = some [.int .u8 0] := by kernel_rfl
theorem und_5 : Try.prog.underlying 5 = some (.int .u8) := by kernel_rfl
theorem agg_9 : aggT Try.prog 9 = some false := by kernel_rfl
theorem siz_9 : sizeT Try.prog 9 = some 1 := by kernel_rfl
theorem und_9 : Try.prog.underlying 9 = some .string := by kernel_rfl
theorem und_21 : Try.prog.underlying 21 = some (.int .i32) := by kernel_rfl
theorem agg_23 : aggT Try.prog 23 = some true := by kernel_rfl
theorem siz_23 : sizeT Try.prog 23 = some 4 := by kernel_rfl
theorem zer_23 : zeroT Try.prog 23 = some [.int .i64 0, .int .i64 0, .str ⟨#[]⟩, .bool false] := by kernel_rfl
theorem fa_23_0 : faT Try.prog 23 0 = some 0 := by kernel_rfl
theorem fa_23_1 : faT Try.prog 23 1 = some 1 := by kernel_rfl
theorem fa_23_2 : faT Try.prog 23 2 = some 2 := by kernel_rfl
theorem fa_23_3 : faT Try.prog 23 3 = some 3 := by kernel_rfl
theorem eqIn_23 (x0 y0 : Int) (x1 y1 : Int) (x2 y2 : ByteArray) (x3 y3 : Bool) (n : Nat) : pure? Try.prog (Op.equalIn (n + 2) 23 (.agg #[.int .i64 x0, .int .i64 x1, .string x2, .bool x3]) (.agg #[.int .i64 y0, .int .i64 y1, .string y2, .bool y3])) = some ((x0 == y0) && ((x1 == y1) && ((x2 == y2) && (x3 == y3)))) := by
  have h := eqIn_struct (P := Try.prog) (n := n + 1) (xs := #[.int .i64 x0, .int .i64 x1, .string x2, .bool x3]) (ys := #[.int .i64 y0, .int .i64 y1, .string y2, .bool y3]) (fun f => if f.offset = 0 then (x0 == y0) else if f.offset = 1 then (x1 == y1) else if f.offset = 2 then (x2 == y2) else if f.offset = 3 then (x3 == y3) else true) Try.underlying23 (by kernel_rfl) (by
    intro f hf
    simp only [List.mem_cons, List.not_mem_nil, or_false] at hf
    rcases hf with rfl | rfl | rfl | rfl
    · exact ⟨by decide, _, _, pure?_part (by kernel_rfl) rfl, pure?_part (by kernel_rfl) rfl, eqIn_int (by kernel_rfl) n⟩
    · exact ⟨by decide, _, _, pure?_part (by kernel_rfl) rfl, pure?_part (by kernel_rfl) rfl, eqIn_int (by kernel_rfl) n⟩
    · exact ⟨by decide, _, _, pure?_part (by kernel_rfl) rfl, pure?_part (by kernel_rfl) rfl, eqIn_str (by kernel_rfl) n⟩
    · exact ⟨by decide, _, _, pure?_part (by kernel_rfl) rfl, pure?_part (by kernel_rfl) rfl, eqIn_bool (by kernel_rfl) n⟩)
  rw [h]; simp
theorem op_eqs_23 {q : Bool} {d : Option Nat} {ty : Nat} {pos : String} {af : Array Edge} {g : Option (Nat × Bool)} {e : Env} {H : Hyp} {K : V → Hyp → Prop} {X : Spec} {ty' : Nat} {x y : Operand} {x0 y0 : Int} {x1 y1 : Int} {x2 y2 : ByteArray} {x3 y3 : Bool} (hx : evE e x = some (.one (.agg [.int .i64 x0, .int .i64 x1, .str x2, .bool x3]))) (hy : evE e y = some (.one (.agg [.int .i64 y0, .int .i64 y1, .str y2, .bool y3]))) (k : K (vB (((x0 == y0) && ((x1 == y1) && ((x2 == y2) && (x3 == y3)))))) H) : OpW Try.prog X q ⟨d, .binOp .eql 23 x y ty', ty, pos, af, g⟩ e H K :=
  op_binA hx hy rfl rfl (by kernel_rfl) (eql_of rfl fun n => eqIn_23 x0 y0 x1 y1 x2 y2 x3 y3 (n + 2)) rfl k
theorem bld_23 (ps : List (Nat × V1)) : buildT Try.prog 23 ps = fillA (fun i => ([(0, 1), (1, 1), (2, 1), (3, 1)] : List (Nat × Nat))[i]?) [.int .i64 0, .int .i64 0, .str ⟨#[]⟩, .bool false] ps := by kernel_rfl
theorem agg_40 : aggT Try.prog 40 = some true := by kernel_rfl
theorem siz_40 : sizeT Try.prog 40 = some 4 := by kernel_rfl
theorem zer_40 : zeroT Try.prog 40 = some [.int .i64 0, .int .i64 0, .str ⟨#[]⟩, .str ⟨#[]⟩] := by kernel_rfl
theorem fa_40_0 : faT Try.prog 40 0 = some 0 := by kernel_rfl
theorem fa_40_1 : faT Try.prog 40 1 = some 1 := by kernel_rfl
theorem fa_40_2 : faT Try.prog 40 2 = some 2 := by kernel_rfl
theorem fa_40_3 : faT Try.prog 40 3 = some 3 := by kernel_rfl
theorem bld_40 (ps : List (Nat × V1)) : buildT Try.prog 40 ps = fillA (fun i => ([(0, 1), (1, 1), (2, 1), (3, 1)] : List (Nat × Nat))[i]?) [.int .i64 0, .int .i64 0, .str ⟨#[]⟩, .str ⟨#[]⟩] ps := by kernel_rfl
theorem und_46 : Try.prog.underlying 46 = some (.slice 9) := by kernel_rfl
theorem bsl_46 (len : Nat) (ps : List (Nat × V1)) (cs : List Cell) (h : seqParts 1 0 ps = some cs) (hl : ps.length = len) (hs : len * 1 ≤ 16777216) : buildSliceT Try.prog 46 len ps = some (9, 1, cs) := by
  have e1 : elemT Try.prog 46 = some 9 := by kernel_rfl
  have e2 : sizeT Try.prog 9 = some 1 := by kernel_rfl
  have e3 : zeroT Try.prog 9 = some [.str ⟨#[]⟩] := by kernel_rfl
  unfold buildSliceT; simp only [e1, e2, e3, h]; rw [if_pos ⟨hs, rfl, by decide⟩, if_pos hl]
theorem und_48 : Try.prog.underlying 48 = some (.slice 5) := by kernel_rfl
theorem elm_48 : elemT Try.prog 48 = some 5 := by kernel_rfl
theorem bsl_48 (len : Nat) (ps : List (Nat × V1)) (cs : List Cell) (h : seqParts 1 0 ps = some cs) (hl : ps.length = len) (hs : len * 1 ≤ 16777216) : buildSliceT Try.prog 48 len ps = some (5, 1, cs) := by
  have e1 : elemT Try.prog 48 = some 5 := by kernel_rfl
  have e2 : sizeT Try.prog 5 = some 1 := by kernel_rfl
  have e3 : zeroT Try.prog 5 = some [.int .u8 0] := by kernel_rfl
  unfold buildSliceT; simp only [e1, e2, e3, h]; rw [if_pos ⟨hs, rfl, by decide⟩, if_pos hl]
theorem und_51 : Try.prog.underlying 51 = some (.slice 3) := by kernel_rfl
theorem bsl_51 (len : Nat) (ps : List (Nat × V1)) (cs : List Cell) (h : seqParts 1 0 ps = some cs) (hl : ps.length = len) (hs : len * 1 ≤ 16777216) : buildSliceT Try.prog 51 len ps = some (3, 1, cs) := by
  have e1 : elemT Try.prog 51 = some 3 := by kernel_rfl
  have e2 : sizeT Try.prog 3 = some 1 := by kernel_rfl
  have e3 : zeroT Try.prog 3 = some [.int .i64 0] := by kernel_rfl
  unfold buildSliceT; simp only [e1, e2, e3, h]; rw [if_pos ⟨hs, rfl, by decide⟩, if_pos hl]
theorem und_61 : Try.prog.underlying 61 = some (.slice 40) := by kernel_rfl
theorem bsl_61 (len : Nat) (ps : List (Nat × V1)) (cs : List Cell) (h : seqParts 4 0 ps = some cs) (hl : ps.length = len) (hs : len * 4 ≤ 16777216) : buildSliceT Try.prog 61 len ps = some (40, 4, cs) := by
  have e1 : elemT Try.prog 61 = some 40 := by kernel_rfl
  have e2 : sizeT Try.prog 40 = some 4 := by kernel_rfl
  have e3 : zeroT Try.prog 40 = some [.int .i64 0, .int .i64 0, .str ⟨#[]⟩, .str ⟨#[]⟩] := by kernel_rfl
  unfold buildSliceT; simp only [e1, e2, e3, h]; rw [if_pos ⟨hs, rfl, by decide⟩, if_pos hl]
theorem und_64 : Try.prog.underlying 64 = some (.int .u32) := by kernel_rfl
theorem inf_5 : ∃ i, Try.prog.info? 5 = some i ∧ i.size = 1 ∧ i.bytes = 1 := ⟨_, rfl, by kernel_rfl, by kernel_rfl⟩
end Go.Proofs.Yteghmemcikiblaa.AM.B
