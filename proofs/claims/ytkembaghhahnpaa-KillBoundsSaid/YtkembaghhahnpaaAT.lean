/- What is so of the types of this seat's program; printed by a program of this session. -/
import Derived.Test.YtkembaghhahnpaaProg
import Derived.Test.YtkembaghhahnpaaAML
import Derived.KernelRfl
set_option linter.unusedVariables false
set_option linter.unusedSimpArgs false
set_option maxRecDepth 10000
set_option maxHeartbeats 4000000
namespace Go.Proofs.Ytkembaghhahnpaa.AM.B
open Go Go.RowKit
theorem agg_1 : aggT Try.prog 1 = some false := by kernel_rfl
theorem siz_1 : sizeT Try.prog 1 = some 1 := by kernel_rfl
theorem zer_1 : zeroT Try.prog 1 = some [.nilf] := by kernel_rfl
theorem agg_2 : aggT Try.prog 2 = some false := by kernel_rfl
theorem siz_2 : sizeT Try.prog 2 = some 1 := by kernel_rfl
theorem zer_2 : zeroT Try.prog 2 = some [.int .i64 0] := by kernel_rfl
theorem und_2 : Try.prog.underlying 2 = some (.int .i64) := by kernel_rfl
theorem agg_3 : aggT Try.prog 3 = some false := by kernel_rfl
theorem siz_3 : sizeT Try.prog 3 = some 1 := by kernel_rfl
theorem zer_3 : zeroT Try.prog 3 = some [.int .i64 0] := by kernel_rfl
theorem und_3 : Try.prog.underlying 3 = some (.int .i64) := by kernel_rfl
theorem agg_4 : aggT Try.prog 4 = some false := by kernel_rfl
theorem siz_4 : sizeT Try.prog 4 = some 1 := by kernel_rfl
theorem zer_4 : zeroT Try.prog 4 = some [.bool false] := by kernel_rfl
theorem und_4 : Try.prog.underlying 4 = some .bool := by kernel_rfl
theorem agg_5 : aggT Try.prog 5 = some false := by kernel_rfl
theorem siz_5 : sizeT Try.prog 5 = some 1 := by kernel_rfl
theorem zer_5 : zeroT Try.prog 5 = some [.int .u8 0] := by kernel_rfl
theorem und_5 : Try.prog.underlying 5 = some (.int .u8) := by kernel_rfl
theorem agg_9 : aggT Try.prog 9 = some false := by kernel_rfl
theorem siz_9 : sizeT Try.prog 9 = some 1 := by kernel_rfl
theorem zer_9 : zeroT Try.prog 9 = some [.str ⟨#[]⟩] := by kernel_rfl
theorem und_9 : Try.prog.underlying 9 = some .string := by kernel_rfl
theorem agg_12 : aggT Try.prog 12 = some false := by kernel_rfl
theorem siz_12 : sizeT Try.prog 12 = some 1 := by kernel_rfl
theorem zer_12 : zeroT Try.prog 12 = some [.int .u64 0] := by kernel_rfl
theorem und_12 : Try.prog.underlying 12 = some (.int .u64) := by kernel_rfl
theorem agg_21 : aggT Try.prog 21 = some false := by kernel_rfl
theorem siz_21 : sizeT Try.prog 21 = some 1 := by kernel_rfl
theorem zer_21 : zeroT Try.prog 21 = some [.int .i32 0] := by kernel_rfl
theorem und_21 : Try.prog.underlying 21 = some (.int .i32) := by kernel_rfl
theorem agg_22 : aggT Try.prog 22 = some false := by kernel_rfl
theorem siz_22 : sizeT Try.prog 22 = some 1 := by kernel_rfl
theorem zer_22 : zeroT Try.prog 22 = some [.nils] := by kernel_rfl
theorem und_22 : Try.prog.underlying 22 = some (.slice 29) := by kernel_rfl
theorem elm_22 : elemT Try.prog 22 = some 29 := by kernel_rfl
theorem bsl_22 (len : Nat) (ps : List (Nat × V1)) (cs : List Cell) (h : seqParts 1 0 ps = some cs) (hl : ps.length = len) (hs : len * 1 ≤ 16777216) : buildSliceT Try.prog 22 len ps = some (29, 1, cs) := by
  have e1 : elemT Try.prog 22 = some 29 := by kernel_rfl
  have e2 : sizeT Try.prog 29 = some 1 := by kernel_rfl
  have e3 : zeroT Try.prog 29 = some [.nils] := by kernel_rfl
  unfold buildSliceT; simp only [e1, e2, e3, h]; rw [if_pos ⟨hs, rfl, by decide⟩, if_pos hl]
theorem agg_23 : aggT Try.prog 23 = some false := by kernel_rfl
theorem siz_23 : sizeT Try.prog 23 = some 1 := by kernel_rfl
theorem zer_23 : zeroT Try.prog 23 = some [.nils] := by kernel_rfl
theorem und_23 : Try.prog.underlying 23 = some (.slice 5) := by kernel_rfl
theorem elm_23 : elemT Try.prog 23 = some 5 := by kernel_rfl
theorem bsl_23 (len : Nat) (ps : List (Nat × V1)) (cs : List Cell) (h : seqParts 1 0 ps = some cs) (hl : ps.length = len) (hs : len * 1 ≤ 16777216) : buildSliceT Try.prog 23 len ps = some (5, 1, cs) := by
  have e1 : elemT Try.prog 23 = some 5 := by kernel_rfl
  have e2 : sizeT Try.prog 5 = some 1 := by kernel_rfl
  have e3 : zeroT Try.prog 5 = some [.int .u8 0] := by kernel_rfl
  unfold buildSliceT; simp only [e1, e2, e3, h]; rw [if_pos ⟨hs, rfl, by decide⟩, if_pos hl]
theorem agg_24 : aggT Try.prog 24 = some false := by kernel_rfl
theorem siz_24 : sizeT Try.prog 24 = some 1 := by kernel_rfl
theorem zer_24 : zeroT Try.prog 24 = some [.nilf] := by kernel_rfl
theorem agg_25 : aggT Try.prog 25 = some false := by kernel_rfl
theorem siz_25 : sizeT Try.prog 25 = some 1 := by kernel_rfl
theorem zer_25 : zeroT Try.prog 25 = some [.nilp] := by kernel_rfl
theorem und_25 : Try.prog.underlying 25 = some (.pointer 83) := by kernel_rfl
theorem agg_26 : aggT Try.prog 26 = some false := by kernel_rfl
theorem siz_26 : sizeT Try.prog 26 = some 1 := by kernel_rfl
theorem zer_26 : zeroT Try.prog 26 = some [.int .i64 0] := by kernel_rfl
theorem und_26 : Try.prog.underlying 26 = some (.int .i64) := by kernel_rfl
theorem agg_28 : aggT Try.prog 28 = some false := by kernel_rfl
theorem siz_28 : sizeT Try.prog 28 = some 1 := by kernel_rfl
theorem zer_28 : zeroT Try.prog 28 = some [.nilf] := by kernel_rfl
theorem agg_29 : aggT Try.prog 29 = some false := by kernel_rfl
theorem siz_29 : sizeT Try.prog 29 = some 1 := by kernel_rfl
theorem zer_29 : zeroT Try.prog 29 = some [.nils] := by kernel_rfl
theorem und_29 : Try.prog.underlying 29 = some (.slice 36) := by kernel_rfl
theorem elm_29 : elemT Try.prog 29 = some 36 := by kernel_rfl
theorem bsl_29 (len : Nat) (ps : List (Nat × V1)) (cs : List Cell) (h : seqParts 2 0 ps = some cs) (hl : ps.length = len) (hs : len * 2 ≤ 16777216) : buildSliceT Try.prog 29 len ps = some (36, 2, cs) := by
  have e1 : elemT Try.prog 29 = some 36 := by kernel_rfl
  have e2 : sizeT Try.prog 36 = some 2 := by kernel_rfl
  have e3 : zeroT Try.prog 36 = some [.int .i64 0, .int .i64 0] := by kernel_rfl
  unfold buildSliceT; simp only [e1, e2, e3, h]; rw [if_pos ⟨hs, rfl, by decide⟩, if_pos hl]
theorem agg_30 : aggT Try.prog 30 = some false := by kernel_rfl
theorem siz_30 : sizeT Try.prog 30 = some 1 := by kernel_rfl
theorem zer_30 : zeroT Try.prog 30 = some [.nilf] := by kernel_rfl
theorem agg_31 : aggT Try.prog 31 = some false := by kernel_rfl
theorem siz_31 : sizeT Try.prog 31 = some 1 := by kernel_rfl
theorem zer_31 : zeroT Try.prog 31 = some [.nilf] := by kernel_rfl
theorem agg_32 : aggT Try.prog 32 = some false := by kernel_rfl
theorem siz_32 : sizeT Try.prog 32 = some 1 := by kernel_rfl
theorem zer_32 : zeroT Try.prog 32 = some [.nilf] := by kernel_rfl
theorem agg_33 : aggT Try.prog 33 = some false := by kernel_rfl
theorem siz_33 : sizeT Try.prog 33 = some 1 := by kernel_rfl
theorem zer_33 : zeroT Try.prog 33 = some [.nilf] := by kernel_rfl
theorem agg_34 : aggT Try.prog 34 = some false := by kernel_rfl
theorem siz_34 : sizeT Try.prog 34 = some 1 := by kernel_rfl
theorem zer_34 : zeroT Try.prog 34 = some [.nilf] := by kernel_rfl
theorem agg_35 : aggT Try.prog 35 = some true := by kernel_rfl
theorem siz_35 : sizeT Try.prog 35 = some 2 := by kernel_rfl
theorem zer_35 : zeroT Try.prog 35 = some [.int .i64 0, .int .i64 0] := by kernel_rfl
theorem fa_35_0 : faT Try.prog 35 0 = some 0 := by kernel_rfl
theorem fld_35_0 (cs : List Cell) : fieldT Try.prog 35 0 cs = (cs[0]?).map fun c => .one (.c c) := by kernel_rfl
theorem fa_35_1 : faT Try.prog 35 1 = some 1 := by kernel_rfl
theorem fld_35_1 (cs : List Cell) : fieldT Try.prog 35 1 cs = (cs[1]?).map fun c => .one (.c c) := by kernel_rfl
theorem eqIn_35 (x0 y0 : Int) (x1 y1 : Int) (n : Nat) : pure? Try.prog (Op.equalIn (n + 2) 35 (.agg #[.int .i64 x0, .int .i64 x1]) (.agg #[.int .i64 y0, .int .i64 y1])) = some ((x0 == y0) && (x1 == y1)) := by
  have h := eqIn_struct (P := Try.prog) (n := n + 1) (xs := #[.int .i64 x0, .int .i64 x1]) (ys := #[.int .i64 y0, .int .i64 y1]) (fun f => if f.offset = 0 then (x0 == y0) else if f.offset = 1 then (x1 == y1) else true) Try.underlying35 (by kernel_rfl) (by
    intro f hf
    simp only [List.mem_cons, List.not_mem_nil, or_false] at hf
    rcases hf with rfl | rfl
    · exact ⟨by decide, _, _, pure?_part (by kernel_rfl) rfl, pure?_part (by kernel_rfl) rfl, eqIn_int (by kernel_rfl) n⟩
    · exact ⟨by decide, _, _, pure?_part (by kernel_rfl) rfl, pure?_part (by kernel_rfl) rfl, eqIn_int (by kernel_rfl) n⟩)
  rw [h]; simp
theorem op_eqs_35 {q : Bool} {d : Option Nat} {ty : Nat} {pos : String} {af : Array Edge} {g : Option (Nat × Bool)} {e : Env} {H : Hyp} {K : V → Hyp → Prop} {X : Spec} {ty' : Nat} {x y : Operand} {x0 y0 : Int} {x1 y1 : Int} (hx : evE e x = some (.one (.agg [.int .i64 x0, .int .i64 x1]))) (hy : evE e y = some (.one (.agg [.int .i64 y0, .int .i64 y1]))) (k : K (vB (((x0 == y0) && (x1 == y1)))) H) : OpW Try.prog X q ⟨d, .binOp .eql 35 x y ty', ty, pos, af, g⟩ e H K :=
  op_binA hx hy rfl rfl (by kernel_rfl) (eql_of rfl fun n => eqIn_35 x0 y0 x1 y1 (n + 2)) rfl k
theorem op_nes_35 {q : Bool} {d : Option Nat} {ty : Nat} {pos : String} {af : Array Edge} {g : Option (Nat × Bool)} {e : Env} {H : Hyp} {K : V → Hyp → Prop} {X : Spec} {ty' : Nat} {x y : Operand} {x0 y0 : Int} {x1 y1 : Int} (hx : evE e x = some (.one (.agg [.int .i64 x0, .int .i64 x1]))) (hy : evE e y = some (.one (.agg [.int .i64 y0, .int .i64 y1]))) (k : K (vB (!((x0 == y0) && (x1 == y1)))) H) : OpW Try.prog X q ⟨d, .binOp .neq 35 x y ty', ty, pos, af, g⟩ e H K :=
  op_binA hx hy rfl rfl (by kernel_rfl) (neq_of rfl fun n => eqIn_35 x0 y0 x1 y1 (n + 2)) rfl k
theorem bld_35 (ps : List (Nat × V1)) : buildT Try.prog 35 ps = fillA (fun i => ([(0, 1), (1, 1)] : List (Nat × Nat))[i]?) [.int .i64 0, .int .i64 0] ps := by kernel_rfl
theorem agg_36 : aggT Try.prog 36 = some true := by kernel_rfl
theorem siz_36 : sizeT Try.prog 36 = some 2 := by kernel_rfl
theorem zer_36 : zeroT Try.prog 36 = some [.int .i64 0, .int .i64 0] := by kernel_rfl
theorem fa_36_0 : faT Try.prog 36 0 = some 0 := by kernel_rfl
theorem fld_36_0 (cs : List Cell) : fieldT Try.prog 36 0 cs = (cs[0]?).map fun c => .one (.c c) := by kernel_rfl
theorem fa_36_1 : faT Try.prog 36 1 = some 1 := by kernel_rfl
theorem fld_36_1 (cs : List Cell) : fieldT Try.prog 36 1 cs = (cs[1]?).map fun c => .one (.c c) := by kernel_rfl
theorem eqIn_36 (x0 y0 : Int) (x1 y1 : Int) (n : Nat) : pure? Try.prog (Op.equalIn (n + 2) 36 (.agg #[.int .i64 x0, .int .i64 x1]) (.agg #[.int .i64 y0, .int .i64 y1])) = some ((x0 == y0) && (x1 == y1)) := by
  have h := eqIn_struct (P := Try.prog) (n := n + 1) (xs := #[.int .i64 x0, .int .i64 x1]) (ys := #[.int .i64 y0, .int .i64 y1]) (fun f => if f.offset = 0 then (x0 == y0) else if f.offset = 1 then (x1 == y1) else true) Try.underlying36 (by kernel_rfl) (by
    intro f hf
    simp only [List.mem_cons, List.not_mem_nil, or_false] at hf
    rcases hf with rfl | rfl
    · exact ⟨by decide, _, _, pure?_part (by kernel_rfl) rfl, pure?_part (by kernel_rfl) rfl, eqIn_int (by kernel_rfl) n⟩
    · exact ⟨by decide, _, _, pure?_part (by kernel_rfl) rfl, pure?_part (by kernel_rfl) rfl, eqIn_int (by kernel_rfl) n⟩)
  rw [h]; simp
theorem op_eqs_36 {q : Bool} {d : Option Nat} {ty : Nat} {pos : String} {af : Array Edge} {g : Option (Nat × Bool)} {e : Env} {H : Hyp} {K : V → Hyp → Prop} {X : Spec} {ty' : Nat} {x y : Operand} {x0 y0 : Int} {x1 y1 : Int} (hx : evE e x = some (.one (.agg [.int .i64 x0, .int .i64 x1]))) (hy : evE e y = some (.one (.agg [.int .i64 y0, .int .i64 y1]))) (k : K (vB (((x0 == y0) && (x1 == y1)))) H) : OpW Try.prog X q ⟨d, .binOp .eql 36 x y ty', ty, pos, af, g⟩ e H K :=
  op_binA hx hy rfl rfl (by kernel_rfl) (eql_of rfl fun n => eqIn_36 x0 y0 x1 y1 (n + 2)) rfl k
theorem op_nes_36 {q : Bool} {d : Option Nat} {ty : Nat} {pos : String} {af : Array Edge} {g : Option (Nat × Bool)} {e : Env} {H : Hyp} {K : V → Hyp → Prop} {X : Spec} {ty' : Nat} {x y : Operand} {x0 y0 : Int} {x1 y1 : Int} (hx : evE e x = some (.one (.agg [.int .i64 x0, .int .i64 x1]))) (hy : evE e y = some (.one (.agg [.int .i64 y0, .int .i64 y1]))) (k : K (vB (!((x0 == y0) && (x1 == y1)))) H) : OpW Try.prog X q ⟨d, .binOp .neq 36 x y ty', ty, pos, af, g⟩ e H K :=
  op_binA hx hy rfl rfl (by kernel_rfl) (neq_of rfl fun n => eqIn_36 x0 y0 x1 y1 (n + 2)) rfl k
theorem bld_36 (ps : List (Nat × V1)) : buildT Try.prog 36 ps = fillA (fun i => ([(0, 1), (1, 1)] : List (Nat × Nat))[i]?) [.int .i64 0, .int .i64 0] ps := by kernel_rfl
theorem agg_37 : aggT Try.prog 37 = some false := by kernel_rfl
theorem siz_37 : sizeT Try.prog 37 = some 1 := by kernel_rfl
theorem zer_37 : zeroT Try.prog 37 = some [.nils] := by kernel_rfl
theorem und_37 : Try.prog.underlying 37 = some (.slice 87) := by kernel_rfl
theorem elm_37 : elemT Try.prog 37 = some 87 := by kernel_rfl
theorem bsl_37 (len : Nat) (ps : List (Nat × V1)) (cs : List Cell) (h : seqParts 5 0 ps = some cs) (hl : ps.length = len) (hs : len * 5 ≤ 16777216) : buildSliceT Try.prog 37 len ps = some (87, 5, cs) := by
  have e1 : elemT Try.prog 37 = some 87 := by kernel_rfl
  have e2 : sizeT Try.prog 87 = some 5 := by kernel_rfl
  have e3 : zeroT Try.prog 87 = some [.int .i64 0, .int .i64 0, .int .i64 0, .int .i64 0, .int .i64 0] := by kernel_rfl
  unfold buildSliceT; simp only [e1, e2, e3, h]; rw [if_pos ⟨hs, rfl, by decide⟩, if_pos hl]
theorem agg_38 : aggT Try.prog 38 = some false := by kernel_rfl
theorem siz_38 : sizeT Try.prog 38 = some 1 := by kernel_rfl
theorem zer_38 : zeroT Try.prog 38 = some [.nilf] := by kernel_rfl
theorem agg_39 : aggT Try.prog 39 = some false := by kernel_rfl
theorem siz_39 : sizeT Try.prog 39 = some 1 := by kernel_rfl
theorem zer_39 : zeroT Try.prog 39 = some [.nilf] := by kernel_rfl
theorem agg_40 : aggT Try.prog 40 = some false := by kernel_rfl
theorem siz_40 : sizeT Try.prog 40 = some 1 := by kernel_rfl
theorem zer_40 : zeroT Try.prog 40 = some [.nilf] := by kernel_rfl
theorem agg_41 : aggT Try.prog 41 = some false := by kernel_rfl
theorem siz_41 : sizeT Try.prog 41 = some 1 := by kernel_rfl
theorem zer_41 : zeroT Try.prog 41 = some [.nilf] := by kernel_rfl
theorem agg_42 : aggT Try.prog 42 = some false := by kernel_rfl
theorem siz_42 : sizeT Try.prog 42 = some 1 := by kernel_rfl
theorem zer_42 : zeroT Try.prog 42 = some [.nilf] := by kernel_rfl
theorem agg_43 : aggT Try.prog 43 = some false := by kernel_rfl
theorem siz_43 : sizeT Try.prog 43 = some 1 := by kernel_rfl
theorem zer_43 : zeroT Try.prog 43 = some [.nilf] := by kernel_rfl
theorem agg_44 : aggT Try.prog 44 = some false := by kernel_rfl
theorem siz_44 : sizeT Try.prog 44 = some 1 := by kernel_rfl
theorem zer_44 : zeroT Try.prog 44 = some [.nilf] := by kernel_rfl
theorem agg_45 : aggT Try.prog 45 = some false := by kernel_rfl
theorem siz_45 : sizeT Try.prog 45 = some 1 := by kernel_rfl
theorem zer_45 : zeroT Try.prog 45 = some [.nilf] := by kernel_rfl
theorem agg_46 : aggT Try.prog 46 = some false := by kernel_rfl
theorem siz_46 : sizeT Try.prog 46 = some 1 := by kernel_rfl
theorem zer_46 : zeroT Try.prog 46 = some [.nilp] := by kernel_rfl
theorem und_46 : Try.prog.underlying 46 = some (.pointer 99) := by kernel_rfl
theorem agg_48 : aggT Try.prog 48 = some false := by kernel_rfl
theorem siz_48 : sizeT Try.prog 48 = some 1 := by kernel_rfl
theorem zer_48 : zeroT Try.prog 48 = some [.nilf] := by kernel_rfl
theorem agg_49 : aggT Try.prog 49 = some false := by kernel_rfl
theorem siz_49 : sizeT Try.prog 49 = some 1 := by kernel_rfl
theorem zer_49 : zeroT Try.prog 49 = some [.nilf] := by kernel_rfl
theorem agg_50 : aggT Try.prog 50 = some false := by kernel_rfl
theorem siz_50 : sizeT Try.prog 50 = some 1 := by kernel_rfl
theorem zer_50 : zeroT Try.prog 50 = some [.nilf] := by kernel_rfl
theorem agg_51 : aggT Try.prog 51 = some false := by kernel_rfl
theorem siz_51 : sizeT Try.prog 51 = some 1 := by kernel_rfl
theorem zer_51 : zeroT Try.prog 51 = some [.nilf] := by kernel_rfl
theorem agg_52 : aggT Try.prog 52 = some false := by kernel_rfl
theorem siz_52 : sizeT Try.prog 52 = some 1 := by kernel_rfl
theorem zer_52 : zeroT Try.prog 52 = some [.nils] := by kernel_rfl
theorem und_52 : Try.prog.underlying 52 = some (.slice 3) := by kernel_rfl
theorem elm_52 : elemT Try.prog 52 = some 3 := by kernel_rfl
theorem bsl_52 (len : Nat) (ps : List (Nat × V1)) (cs : List Cell) (h : seqParts 1 0 ps = some cs) (hl : ps.length = len) (hs : len * 1 ≤ 16777216) : buildSliceT Try.prog 52 len ps = some (3, 1, cs) := by
  have e1 : elemT Try.prog 52 = some 3 := by kernel_rfl
  have e2 : sizeT Try.prog 3 = some 1 := by kernel_rfl
  have e3 : zeroT Try.prog 3 = some [.int .i64 0] := by kernel_rfl
  unfold buildSliceT; simp only [e1, e2, e3, h]; rw [if_pos ⟨hs, rfl, by decide⟩, if_pos hl]
theorem agg_53 : aggT Try.prog 53 = some false := by kernel_rfl
theorem siz_53 : sizeT Try.prog 53 = some 1 := by kernel_rfl
theorem zer_53 : zeroT Try.prog 53 = some [.nilf] := by kernel_rfl
theorem agg_54 : aggT Try.prog 54 = some false := by kernel_rfl
theorem siz_54 : sizeT Try.prog 54 = some 1 := by kernel_rfl
theorem zer_54 : zeroT Try.prog 54 = some [.nilf] := by kernel_rfl
theorem agg_56 : aggT Try.prog 56 = some false := by kernel_rfl
theorem siz_56 : sizeT Try.prog 56 = some 1 := by kernel_rfl
theorem zer_56 : zeroT Try.prog 56 = some [.nilf] := by kernel_rfl
theorem agg_57 : aggT Try.prog 57 = some false := by kernel_rfl
theorem siz_57 : sizeT Try.prog 57 = some 1 := by kernel_rfl
theorem zer_57 : zeroT Try.prog 57 = some [.nilf] := by kernel_rfl
theorem agg_58 : aggT Try.prog 58 = some false := by kernel_rfl
theorem siz_58 : sizeT Try.prog 58 = some 1 := by kernel_rfl
theorem zer_58 : zeroT Try.prog 58 = some [.nilf] := by kernel_rfl
theorem agg_59 : aggT Try.prog 59 = some false := by kernel_rfl
theorem siz_59 : sizeT Try.prog 59 = some 1 := by kernel_rfl
theorem zer_59 : zeroT Try.prog 59 = some [.nilf] := by kernel_rfl
theorem agg_60 : aggT Try.prog 60 = some false := by kernel_rfl
theorem siz_60 : sizeT Try.prog 60 = some 1 := by kernel_rfl
theorem zer_60 : zeroT Try.prog 60 = some [.nilf] := by kernel_rfl
theorem agg_61 : aggT Try.prog 61 = some false := by kernel_rfl
theorem siz_61 : sizeT Try.prog 61 = some 1 := by kernel_rfl
theorem zer_61 : zeroT Try.prog 61 = some [.nilf] := by kernel_rfl
theorem agg_62 : aggT Try.prog 62 = some false := by kernel_rfl
theorem siz_62 : sizeT Try.prog 62 = some 1 := by kernel_rfl
theorem zer_62 : zeroT Try.prog 62 = some [.nilf] := by kernel_rfl
theorem agg_63 : aggT Try.prog 63 = some false := by kernel_rfl
theorem siz_63 : sizeT Try.prog 63 = some 1 := by kernel_rfl
theorem zer_63 : zeroT Try.prog 63 = some [.nilf] := by kernel_rfl
theorem agg_64 : aggT Try.prog 64 = some true := by kernel_rfl
theorem siz_64 : sizeT Try.prog 64 = some 4 := by kernel_rfl
theorem zer_64 : zeroT Try.prog 64 = some [.int .i64 0, .int .i64 0, .str ⟨#[]⟩, .bool false] := by kernel_rfl
theorem fa_64_0 : faT Try.prog 64 0 = some 0 := by kernel_rfl
theorem fld_64_0 (cs : List Cell) : fieldT Try.prog 64 0 cs = (cs[0]?).map fun c => .one (.c c) := by kernel_rfl
theorem fa_64_1 : faT Try.prog 64 1 = some 1 := by kernel_rfl
theorem fld_64_1 (cs : List Cell) : fieldT Try.prog 64 1 cs = (cs[1]?).map fun c => .one (.c c) := by kernel_rfl
theorem fa_64_2 : faT Try.prog 64 2 = some 2 := by kernel_rfl
theorem fld_64_2 (cs : List Cell) : fieldT Try.prog 64 2 cs = (cs[2]?).map fun c => .one (.c c) := by kernel_rfl
theorem fa_64_3 : faT Try.prog 64 3 = some 3 := by kernel_rfl
theorem fld_64_3 (cs : List Cell) : fieldT Try.prog 64 3 cs = (cs[3]?).map fun c => .one (.c c) := by kernel_rfl
theorem eqIn_64 (x0 y0 : Int) (x1 y1 : Int) (x2 y2 : ByteArray) (x3 y3 : Bool) (n : Nat) : pure? Try.prog (Op.equalIn (n + 2) 64 (.agg #[.int .i64 x0, .int .i64 x1, .string x2, .bool x3]) (.agg #[.int .i64 y0, .int .i64 y1, .string y2, .bool y3])) = some ((x0 == y0) && ((x1 == y1) && ((x2 == y2) && (x3 == y3)))) := by
  have h := eqIn_struct (P := Try.prog) (n := n + 1) (xs := #[.int .i64 x0, .int .i64 x1, .string x2, .bool x3]) (ys := #[.int .i64 y0, .int .i64 y1, .string y2, .bool y3]) (fun f => if f.offset = 0 then (x0 == y0) else if f.offset = 1 then (x1 == y1) else if f.offset = 2 then (x2 == y2) else if f.offset = 3 then (x3 == y3) else true) Try.underlying64 (by kernel_rfl) (by
    intro f hf
    simp only [List.mem_cons, List.not_mem_nil, or_false] at hf
    rcases hf with rfl | rfl | rfl | rfl
    · exact ⟨by decide, _, _, pure?_part (by kernel_rfl) rfl, pure?_part (by kernel_rfl) rfl, eqIn_int (by kernel_rfl) n⟩
    · exact ⟨by decide, _, _, pure?_part (by kernel_rfl) rfl, pure?_part (by kernel_rfl) rfl, eqIn_int (by kernel_rfl) n⟩
    · exact ⟨by decide, _, _, pure?_part (by kernel_rfl) rfl, pure?_part (by kernel_rfl) rfl, eqIn_str (by kernel_rfl) n⟩
    · exact ⟨by decide, _, _, pure?_part (by kernel_rfl) rfl, pure?_part (by kernel_rfl) rfl, eqIn_bool (by kernel_rfl) n⟩)
  rw [h]; simp
theorem op_eqs_64 {q : Bool} {d : Option Nat} {ty : Nat} {pos : String} {af : Array Edge} {g : Option (Nat × Bool)} {e : Env} {H : Hyp} {K : V → Hyp → Prop} {X : Spec} {ty' : Nat} {x y : Operand} {x0 y0 : Int} {x1 y1 : Int} {x2 y2 : ByteArray} {x3 y3 : Bool} (hx : evE e x = some (.one (.agg [.int .i64 x0, .int .i64 x1, .str x2, .bool x3]))) (hy : evE e y = some (.one (.agg [.int .i64 y0, .int .i64 y1, .str y2, .bool y3]))) (k : K (vB (((x0 == y0) && ((x1 == y1) && ((x2 == y2) && (x3 == y3)))))) H) : OpW Try.prog X q ⟨d, .binOp .eql 64 x y ty', ty, pos, af, g⟩ e H K :=
  op_binA hx hy rfl rfl (by kernel_rfl) (eql_of rfl fun n => eqIn_64 x0 y0 x1 y1 x2 y2 x3 y3 (n + 2)) rfl k
theorem op_nes_64 {q : Bool} {d : Option Nat} {ty : Nat} {pos : String} {af : Array Edge} {g : Option (Nat × Bool)} {e : Env} {H : Hyp} {K : V → Hyp → Prop} {X : Spec} {ty' : Nat} {x y : Operand} {x0 y0 : Int} {x1 y1 : Int} {x2 y2 : ByteArray} {x3 y3 : Bool} (hx : evE e x = some (.one (.agg [.int .i64 x0, .int .i64 x1, .str x2, .bool x3]))) (hy : evE e y = some (.one (.agg [.int .i64 y0, .int .i64 y1, .str y2, .bool y3]))) (k : K (vB (!((x0 == y0) && ((x1 == y1) && ((x2 == y2) && (x3 == y3)))))) H) : OpW Try.prog X q ⟨d, .binOp .neq 64 x y ty', ty, pos, af, g⟩ e H K :=
  op_binA hx hy rfl rfl (by kernel_rfl) (neq_of rfl fun n => eqIn_64 x0 y0 x1 y1 x2 y2 x3 y3 (n + 2)) rfl k
theorem bld_64 (ps : List (Nat × V1)) : buildT Try.prog 64 ps = fillA (fun i => ([(0, 1), (1, 1), (2, 1), (3, 1)] : List (Nat × Nat))[i]?) [.int .i64 0, .int .i64 0, .str ⟨#[]⟩, .bool false] ps := by kernel_rfl
theorem agg_65 : aggT Try.prog 65 = some true := by kernel_rfl
theorem siz_65 : sizeT Try.prog 65 = some 4 := by kernel_rfl
theorem zer_65 : zeroT Try.prog 65 = some [.int .i64 0, .int .i64 0, .str ⟨#[]⟩, .bool false] := by kernel_rfl
theorem fa_65_0 : faT Try.prog 65 0 = some 0 := by kernel_rfl
theorem fld_65_0 (cs : List Cell) : fieldT Try.prog 65 0 cs = (cs[0]?).map fun c => .one (.c c) := by kernel_rfl
theorem fa_65_1 : faT Try.prog 65 1 = some 1 := by kernel_rfl
theorem fld_65_1 (cs : List Cell) : fieldT Try.prog 65 1 cs = (cs[1]?).map fun c => .one (.c c) := by kernel_rfl
theorem fa_65_2 : faT Try.prog 65 2 = some 2 := by kernel_rfl
theorem fld_65_2 (cs : List Cell) : fieldT Try.prog 65 2 cs = (cs[2]?).map fun c => .one (.c c) := by kernel_rfl
theorem fa_65_3 : faT Try.prog 65 3 = some 3 := by kernel_rfl
theorem fld_65_3 (cs : List Cell) : fieldT Try.prog 65 3 cs = (cs[3]?).map fun c => .one (.c c) := by kernel_rfl
theorem eqIn_65 (x0 y0 : Int) (x1 y1 : Int) (x2 y2 : ByteArray) (x3 y3 : Bool) (n : Nat) : pure? Try.prog (Op.equalIn (n + 2) 65 (.agg #[.int .i64 x0, .int .i64 x1, .string x2, .bool x3]) (.agg #[.int .i64 y0, .int .i64 y1, .string y2, .bool y3])) = some ((x0 == y0) && ((x1 == y1) && ((x2 == y2) && (x3 == y3)))) := by
  have h := eqIn_struct (P := Try.prog) (n := n + 1) (xs := #[.int .i64 x0, .int .i64 x1, .string x2, .bool x3]) (ys := #[.int .i64 y0, .int .i64 y1, .string y2, .bool y3]) (fun f => if f.offset = 0 then (x0 == y0) else if f.offset = 1 then (x1 == y1) else if f.offset = 2 then (x2 == y2) else if f.offset = 3 then (x3 == y3) else true) Try.underlying65 (by kernel_rfl) (by
    intro f hf
    simp only [List.mem_cons, List.not_mem_nil, or_false] at hf
    rcases hf with rfl | rfl | rfl | rfl
    · exact ⟨by decide, _, _, pure?_part (by kernel_rfl) rfl, pure?_part (by kernel_rfl) rfl, eqIn_int (by kernel_rfl) n⟩
    · exact ⟨by decide, _, _, pure?_part (by kernel_rfl) rfl, pure?_part (by kernel_rfl) rfl, eqIn_int (by kernel_rfl) n⟩
    · exact ⟨by decide, _, _, pure?_part (by kernel_rfl) rfl, pure?_part (by kernel_rfl) rfl, eqIn_str (by kernel_rfl) n⟩
    · exact ⟨by decide, _, _, pure?_part (by kernel_rfl) rfl, pure?_part (by kernel_rfl) rfl, eqIn_bool (by kernel_rfl) n⟩)
  rw [h]; simp
theorem op_eqs_65 {q : Bool} {d : Option Nat} {ty : Nat} {pos : String} {af : Array Edge} {g : Option (Nat × Bool)} {e : Env} {H : Hyp} {K : V → Hyp → Prop} {X : Spec} {ty' : Nat} {x y : Operand} {x0 y0 : Int} {x1 y1 : Int} {x2 y2 : ByteArray} {x3 y3 : Bool} (hx : evE e x = some (.one (.agg [.int .i64 x0, .int .i64 x1, .str x2, .bool x3]))) (hy : evE e y = some (.one (.agg [.int .i64 y0, .int .i64 y1, .str y2, .bool y3]))) (k : K (vB (((x0 == y0) && ((x1 == y1) && ((x2 == y2) && (x3 == y3)))))) H) : OpW Try.prog X q ⟨d, .binOp .eql 65 x y ty', ty, pos, af, g⟩ e H K :=
  op_binA hx hy rfl rfl (by kernel_rfl) (eql_of rfl fun n => eqIn_65 x0 y0 x1 y1 x2 y2 x3 y3 (n + 2)) rfl k
theorem op_nes_65 {q : Bool} {d : Option Nat} {ty : Nat} {pos : String} {af : Array Edge} {g : Option (Nat × Bool)} {e : Env} {H : Hyp} {K : V → Hyp → Prop} {X : Spec} {ty' : Nat} {x y : Operand} {x0 y0 : Int} {x1 y1 : Int} {x2 y2 : ByteArray} {x3 y3 : Bool} (hx : evE e x = some (.one (.agg [.int .i64 x0, .int .i64 x1, .str x2, .bool x3]))) (hy : evE e y = some (.one (.agg [.int .i64 y0, .int .i64 y1, .str y2, .bool y3]))) (k : K (vB (!((x0 == y0) && ((x1 == y1) && ((x2 == y2) && (x3 == y3)))))) H) : OpW Try.prog X q ⟨d, .binOp .neq 65 x y ty', ty, pos, af, g⟩ e H K :=
  op_binA hx hy rfl rfl (by kernel_rfl) (neq_of rfl fun n => eqIn_65 x0 y0 x1 y1 x2 y2 x3 y3 (n + 2)) rfl k
theorem bld_65 (ps : List (Nat × V1)) : buildT Try.prog 65 ps = fillA (fun i => ([(0, 1), (1, 1), (2, 1), (3, 1)] : List (Nat × Nat))[i]?) [.int .i64 0, .int .i64 0, .str ⟨#[]⟩, .bool false] ps := by kernel_rfl
theorem agg_67 : aggT Try.prog 67 = some false := by kernel_rfl
theorem siz_67 : sizeT Try.prog 67 = some 1 := by kernel_rfl
theorem zer_67 : zeroT Try.prog 67 = some [.nilf] := by kernel_rfl
theorem agg_69 : aggT Try.prog 69 = some false := by kernel_rfl
theorem siz_69 : sizeT Try.prog 69 = some 1 := by kernel_rfl
theorem zer_69 : zeroT Try.prog 69 = some [.nilf] := by kernel_rfl
theorem agg_70 : aggT Try.prog 70 = some false := by kernel_rfl
theorem siz_70 : sizeT Try.prog 70 = some 1 := by kernel_rfl
theorem zer_70 : zeroT Try.prog 70 = some [.nilf] := by kernel_rfl
theorem agg_71 : aggT Try.prog 71 = some false := by kernel_rfl
theorem siz_71 : sizeT Try.prog 71 = some 1 := by kernel_rfl
theorem zer_71 : zeroT Try.prog 71 = some [.nilf] := by kernel_rfl
theorem agg_72 : aggT Try.prog 72 = some false := by kernel_rfl
theorem siz_72 : sizeT Try.prog 72 = some 1 := by kernel_rfl
theorem zer_72 : zeroT Try.prog 72 = some [.nilf] := by kernel_rfl
theorem agg_74 : aggT Try.prog 74 = some false := by kernel_rfl
theorem siz_74 : sizeT Try.prog 74 = some 1 := by kernel_rfl
theorem zer_74 : zeroT Try.prog 74 = some [.nilf] := by kernel_rfl
theorem agg_75 : aggT Try.prog 75 = some false := by kernel_rfl
theorem siz_75 : sizeT Try.prog 75 = some 1 := by kernel_rfl
theorem zer_75 : zeroT Try.prog 75 = some [.nilf] := by kernel_rfl
theorem agg_76 : aggT Try.prog 76 = some false := by kernel_rfl
theorem siz_76 : sizeT Try.prog 76 = some 1 := by kernel_rfl
theorem zer_76 : zeroT Try.prog 76 = some [.nilf] := by kernel_rfl
theorem agg_77 : aggT Try.prog 77 = some false := by kernel_rfl
theorem siz_77 : sizeT Try.prog 77 = some 1 := by kernel_rfl
theorem zer_77 : zeroT Try.prog 77 = some [.nilf] := by kernel_rfl
theorem agg_78 : aggT Try.prog 78 = some false := by kernel_rfl
theorem siz_78 : sizeT Try.prog 78 = some 1 := by kernel_rfl
theorem zer_78 : zeroT Try.prog 78 = some [.nilf] := by kernel_rfl
theorem agg_79 : aggT Try.prog 79 = some false := by kernel_rfl
theorem siz_79 : sizeT Try.prog 79 = some 1 := by kernel_rfl
theorem zer_79 : zeroT Try.prog 79 = some [.nilf] := by kernel_rfl
theorem agg_80 : aggT Try.prog 80 = some false := by kernel_rfl
theorem siz_80 : sizeT Try.prog 80 = some 1 := by kernel_rfl
theorem zer_80 : zeroT Try.prog 80 = some [.nilf] := by kernel_rfl
theorem agg_81 : aggT Try.prog 81 = some false := by kernel_rfl
theorem siz_81 : sizeT Try.prog 81 = some 1 := by kernel_rfl
theorem zer_81 : zeroT Try.prog 81 = some [.nilm] := by kernel_rfl
theorem und_81 : Try.prog.underlying 81 = some (.map 3 29) := by kernel_rfl
theorem agg_82 : aggT Try.prog 82 = some true := by kernel_rfl
theorem siz_82 : sizeT Try.prog 82 = some 5 := by kernel_rfl
theorem zer_82 : zeroT Try.prog 82 = some [.nilm, .int .i64 0, .int .i64 0, .int .i64 0, .int .i64 0] := by kernel_rfl
theorem fa_82_0 : faT Try.prog 82 0 = some 0 := by kernel_rfl
theorem fld_82_0 (cs : List Cell) : fieldT Try.prog 82 0 cs = (cs[0]?).map fun c => .one (.c c) := by kernel_rfl
theorem fa_82_1 : faT Try.prog 82 1 = some 1 := by kernel_rfl
theorem fld_82_1 (cs : List Cell) : fieldT Try.prog 82 1 cs = (cs[1]?).map fun c => .one (.c c) := by kernel_rfl
theorem fa_82_2 : faT Try.prog 82 2 = some 2 := by kernel_rfl
theorem fld_82_2 (cs : List Cell) : fieldT Try.prog 82 2 cs = (cs[2]?).map fun c => .one (.c c) := by kernel_rfl
theorem fa_82_3 : faT Try.prog 82 3 = some 3 := by kernel_rfl
theorem fld_82_3 (cs : List Cell) : fieldT Try.prog 82 3 cs = (cs[3]?).map fun c => .one (.c c) := by kernel_rfl
theorem fa_82_4 : faT Try.prog 82 4 = some 4 := by kernel_rfl
theorem fld_82_4 (cs : List Cell) : fieldT Try.prog 82 4 cs = (cs[4]?).map fun c => .one (.c c) := by kernel_rfl
theorem bld_82 (ps : List (Nat × V1)) : buildT Try.prog 82 ps = fillA (fun i => ([(0, 1), (1, 1), (2, 1), (3, 1), (4, 1)] : List (Nat × Nat))[i]?) [.nilm, .int .i64 0, .int .i64 0, .int .i64 0, .int .i64 0] ps := by kernel_rfl
theorem agg_83 : aggT Try.prog 83 = some true := by kernel_rfl
theorem siz_83 : sizeT Try.prog 83 = some 5 := by kernel_rfl
theorem zer_83 : zeroT Try.prog 83 = some [.nilm, .int .i64 0, .int .i64 0, .int .i64 0, .int .i64 0] := by kernel_rfl
theorem fa_83_0 : faT Try.prog 83 0 = some 0 := by kernel_rfl
theorem fld_83_0 (cs : List Cell) : fieldT Try.prog 83 0 cs = (cs[0]?).map fun c => .one (.c c) := by kernel_rfl
theorem fa_83_1 : faT Try.prog 83 1 = some 1 := by kernel_rfl
theorem fld_83_1 (cs : List Cell) : fieldT Try.prog 83 1 cs = (cs[1]?).map fun c => .one (.c c) := by kernel_rfl
theorem fa_83_2 : faT Try.prog 83 2 = some 2 := by kernel_rfl
theorem fld_83_2 (cs : List Cell) : fieldT Try.prog 83 2 cs = (cs[2]?).map fun c => .one (.c c) := by kernel_rfl
theorem fa_83_3 : faT Try.prog 83 3 = some 3 := by kernel_rfl
theorem fld_83_3 (cs : List Cell) : fieldT Try.prog 83 3 cs = (cs[3]?).map fun c => .one (.c c) := by kernel_rfl
theorem fa_83_4 : faT Try.prog 83 4 = some 4 := by kernel_rfl
theorem fld_83_4 (cs : List Cell) : fieldT Try.prog 83 4 cs = (cs[4]?).map fun c => .one (.c c) := by kernel_rfl
theorem bld_83 (ps : List (Nat × V1)) : buildT Try.prog 83 ps = fillA (fun i => ([(0, 1), (1, 1), (2, 1), (3, 1), (4, 1)] : List (Nat × Nat))[i]?) [.nilm, .int .i64 0, .int .i64 0, .int .i64 0, .int .i64 0] ps := by kernel_rfl
theorem agg_84 : aggT Try.prog 84 = some false := by kernel_rfl
theorem siz_84 : sizeT Try.prog 84 = some 1 := by kernel_rfl
theorem zer_84 : zeroT Try.prog 84 = some [.nilf] := by kernel_rfl
theorem agg_85 : aggT Try.prog 85 = some false := by kernel_rfl
theorem siz_85 : sizeT Try.prog 85 = some 1 := by kernel_rfl
theorem zer_85 : zeroT Try.prog 85 = some [.nilf] := by kernel_rfl
theorem agg_86 : aggT Try.prog 86 = some true := by kernel_rfl
theorem siz_86 : sizeT Try.prog 86 = some 5 := by kernel_rfl
theorem zer_86 : zeroT Try.prog 86 = some [.int .i64 0, .int .i64 0, .int .i64 0, .int .i64 0, .int .i64 0] := by kernel_rfl
theorem fa_86_0 : faT Try.prog 86 0 = some 0 := by kernel_rfl
theorem fld_86_0 (cs : List Cell) : fieldT Try.prog 86 0 cs = (cs[0]?).map fun c => .one (.c c) := by kernel_rfl
theorem fa_86_1 : faT Try.prog 86 1 = some 1 := by kernel_rfl
theorem fld_86_1 (cs : List Cell) : fieldT Try.prog 86 1 cs = (cs[1]?).map fun c => .one (.c c) := by kernel_rfl
theorem fa_86_2 : faT Try.prog 86 2 = some 2 := by kernel_rfl
theorem fld_86_2 (cs : List Cell) : fieldT Try.prog 86 2 cs = (cs[2]?).map fun c => .one (.c c) := by kernel_rfl
theorem fa_86_3 : faT Try.prog 86 3 = some 3 := by kernel_rfl
theorem fld_86_3 (cs : List Cell) : fieldT Try.prog 86 3 cs = (cs[3]?).map fun c => .one (.c c) := by kernel_rfl
theorem fa_86_4 : faT Try.prog 86 4 = some 4 := by kernel_rfl
theorem fld_86_4 (cs : List Cell) : fieldT Try.prog 86 4 cs = (cs[4]?).map fun c => .one (.c c) := by kernel_rfl
theorem eqIn_86 (x0 y0 : Int) (x1 y1 : Int) (x2 y2 : Int) (x3 y3 : Int) (x4 y4 : Int) (n : Nat) : pure? Try.prog (Op.equalIn (n + 2) 86 (.agg #[.int .i64 x0, .int .i64 x1, .int .i64 x2, .int .i64 x3, .int .i64 x4]) (.agg #[.int .i64 y0, .int .i64 y1, .int .i64 y2, .int .i64 y3, .int .i64 y4])) = some ((x0 == y0) && ((x1 == y1) && ((x2 == y2) && ((x3 == y3) && (x4 == y4))))) := by
  have h := eqIn_struct (P := Try.prog) (n := n + 1) (xs := #[.int .i64 x0, .int .i64 x1, .int .i64 x2, .int .i64 x3, .int .i64 x4]) (ys := #[.int .i64 y0, .int .i64 y1, .int .i64 y2, .int .i64 y3, .int .i64 y4]) (fun f => if f.offset = 0 then (x0 == y0) else if f.offset = 1 then (x1 == y1) else if f.offset = 2 then (x2 == y2) else if f.offset = 3 then (x3 == y3) else if f.offset = 4 then (x4 == y4) else true) Try.underlying86 (by kernel_rfl) (by
    intro f hf
    simp only [List.mem_cons, List.not_mem_nil, or_false] at hf
    rcases hf with rfl | rfl | rfl | rfl | rfl
    · exact ⟨by decide, _, _, pure?_part (by kernel_rfl) rfl, pure?_part (by kernel_rfl) rfl, eqIn_int (by kernel_rfl) n⟩
    · exact ⟨by decide, _, _, pure?_part (by kernel_rfl) rfl, pure?_part (by kernel_rfl) rfl, eqIn_int (by kernel_rfl) n⟩
    · exact ⟨by decide, _, _, pure?_part (by kernel_rfl) rfl, pure?_part (by kernel_rfl) rfl, eqIn_int (by kernel_rfl) n⟩
    · exact ⟨by decide, _, _, pure?_part (by kernel_rfl) rfl, pure?_part (by kernel_rfl) rfl, eqIn_int (by kernel_rfl) n⟩
    · exact ⟨by decide, _, _, pure?_part (by kernel_rfl) rfl, pure?_part (by kernel_rfl) rfl, eqIn_int (by kernel_rfl) n⟩)
  rw [h]; simp
theorem op_eqs_86 {q : Bool} {d : Option Nat} {ty : Nat} {pos : String} {af : Array Edge} {g : Option (Nat × Bool)} {e : Env} {H : Hyp} {K : V → Hyp → Prop} {X : Spec} {ty' : Nat} {x y : Operand} {x0 y0 : Int} {x1 y1 : Int} {x2 y2 : Int} {x3 y3 : Int} {x4 y4 : Int} (hx : evE e x = some (.one (.agg [.int .i64 x0, .int .i64 x1, .int .i64 x2, .int .i64 x3, .int .i64 x4]))) (hy : evE e y = some (.one (.agg [.int .i64 y0, .int .i64 y1, .int .i64 y2, .int .i64 y3, .int .i64 y4]))) (k : K (vB (((x0 == y0) && ((x1 == y1) && ((x2 == y2) && ((x3 == y3) && (x4 == y4))))))) H) : OpW Try.prog X q ⟨d, .binOp .eql 86 x y ty', ty, pos, af, g⟩ e H K :=
  op_binA hx hy rfl rfl (by kernel_rfl) (eql_of rfl fun n => eqIn_86 x0 y0 x1 y1 x2 y2 x3 y3 x4 y4 (n + 2)) rfl k
theorem op_nes_86 {q : Bool} {d : Option Nat} {ty : Nat} {pos : String} {af : Array Edge} {g : Option (Nat × Bool)} {e : Env} {H : Hyp} {K : V → Hyp → Prop} {X : Spec} {ty' : Nat} {x y : Operand} {x0 y0 : Int} {x1 y1 : Int} {x2 y2 : Int} {x3 y3 : Int} {x4 y4 : Int} (hx : evE e x = some (.one (.agg [.int .i64 x0, .int .i64 x1, .int .i64 x2, .int .i64 x3, .int .i64 x4]))) (hy : evE e y = some (.one (.agg [.int .i64 y0, .int .i64 y1, .int .i64 y2, .int .i64 y3, .int .i64 y4]))) (k : K (vB (!((x0 == y0) && ((x1 == y1) && ((x2 == y2) && ((x3 == y3) && (x4 == y4))))))) H) : OpW Try.prog X q ⟨d, .binOp .neq 86 x y ty', ty, pos, af, g⟩ e H K :=
  op_binA hx hy rfl rfl (by kernel_rfl) (neq_of rfl fun n => eqIn_86 x0 y0 x1 y1 x2 y2 x3 y3 x4 y4 (n + 2)) rfl k
theorem bld_86 (ps : List (Nat × V1)) : buildT Try.prog 86 ps = fillA (fun i => ([(0, 1), (1, 1), (2, 1), (3, 1), (4, 1)] : List (Nat × Nat))[i]?) [.int .i64 0, .int .i64 0, .int .i64 0, .int .i64 0, .int .i64 0] ps := by kernel_rfl
theorem agg_87 : aggT Try.prog 87 = some true := by kernel_rfl
theorem siz_87 : sizeT Try.prog 87 = some 5 := by kernel_rfl
theorem zer_87 : zeroT Try.prog 87 = some [.int .i64 0, .int .i64 0, .int .i64 0, .int .i64 0, .int .i64 0] := by kernel_rfl
theorem fa_87_0 : faT Try.prog 87 0 = some 0 := by kernel_rfl
theorem fld_87_0 (cs : List Cell) : fieldT Try.prog 87 0 cs = (cs[0]?).map fun c => .one (.c c) := by kernel_rfl
theorem fa_87_1 : faT Try.prog 87 1 = some 1 := by kernel_rfl
theorem fld_87_1 (cs : List Cell) : fieldT Try.prog 87 1 cs = (cs[1]?).map fun c => .one (.c c) := by kernel_rfl
theorem fa_87_2 : faT Try.prog 87 2 = some 2 := by kernel_rfl
theorem fld_87_2 (cs : List Cell) : fieldT Try.prog 87 2 cs = (cs[2]?).map fun c => .one (.c c) := by kernel_rfl
theorem fa_87_3 : faT Try.prog 87 3 = some 3 := by kernel_rfl
theorem fld_87_3 (cs : List Cell) : fieldT Try.prog 87 3 cs = (cs[3]?).map fun c => .one (.c c) := by kernel_rfl
theorem fa_87_4 : faT Try.prog 87 4 = some 4 := by kernel_rfl
theorem fld_87_4 (cs : List Cell) : fieldT Try.prog 87 4 cs = (cs[4]?).map fun c => .one (.c c) := by kernel_rfl
theorem eqIn_87 (x0 y0 : Int) (x1 y1 : Int) (x2 y2 : Int) (x3 y3 : Int) (x4 y4 : Int) (n : Nat) : pure? Try.prog (Op.equalIn (n + 2) 87 (.agg #[.int .i64 x0, .int .i64 x1, .int .i64 x2, .int .i64 x3, .int .i64 x4]) (.agg #[.int .i64 y0, .int .i64 y1, .int .i64 y2, .int .i64 y3, .int .i64 y4])) = some ((x0 == y0) && ((x1 == y1) && ((x2 == y2) && ((x3 == y3) && (x4 == y4))))) := by
  have h := eqIn_struct (P := Try.prog) (n := n + 1) (xs := #[.int .i64 x0, .int .i64 x1, .int .i64 x2, .int .i64 x3, .int .i64 x4]) (ys := #[.int .i64 y0, .int .i64 y1, .int .i64 y2, .int .i64 y3, .int .i64 y4]) (fun f => if f.offset = 0 then (x0 == y0) else if f.offset = 1 then (x1 == y1) else if f.offset = 2 then (x2 == y2) else if f.offset = 3 then (x3 == y3) else if f.offset = 4 then (x4 == y4) else true) Try.underlying87 (by kernel_rfl) (by
    intro f hf
    simp only [List.mem_cons, List.not_mem_nil, or_false] at hf
    rcases hf with rfl | rfl | rfl | rfl | rfl
    · exact ⟨by decide, _, _, pure?_part (by kernel_rfl) rfl, pure?_part (by kernel_rfl) rfl, eqIn_int (by kernel_rfl) n⟩
    · exact ⟨by decide, _, _, pure?_part (by kernel_rfl) rfl, pure?_part (by kernel_rfl) rfl, eqIn_int (by kernel_rfl) n⟩
    · exact ⟨by decide, _, _, pure?_part (by kernel_rfl) rfl, pure?_part (by kernel_rfl) rfl, eqIn_int (by kernel_rfl) n⟩
    · exact ⟨by decide, _, _, pure?_part (by kernel_rfl) rfl, pure?_part (by kernel_rfl) rfl, eqIn_int (by kernel_rfl) n⟩
    · exact ⟨by decide, _, _, pure?_part (by kernel_rfl) rfl, pure?_part (by kernel_rfl) rfl, eqIn_int (by kernel_rfl) n⟩)
  rw [h]; simp
theorem op_eqs_87 {q : Bool} {d : Option Nat} {ty : Nat} {pos : String} {af : Array Edge} {g : Option (Nat × Bool)} {e : Env} {H : Hyp} {K : V → Hyp → Prop} {X : Spec} {ty' : Nat} {x y : Operand} {x0 y0 : Int} {x1 y1 : Int} {x2 y2 : Int} {x3 y3 : Int} {x4 y4 : Int} (hx : evE e x = some (.one (.agg [.int .i64 x0, .int .i64 x1, .int .i64 x2, .int .i64 x3, .int .i64 x4]))) (hy : evE e y = some (.one (.agg [.int .i64 y0, .int .i64 y1, .int .i64 y2, .int .i64 y3, .int .i64 y4]))) (k : K (vB (((x0 == y0) && ((x1 == y1) && ((x2 == y2) && ((x3 == y3) && (x4 == y4))))))) H) : OpW Try.prog X q ⟨d, .binOp .eql 87 x y ty', ty, pos, af, g⟩ e H K :=
  op_binA hx hy rfl rfl (by kernel_rfl) (eql_of rfl fun n => eqIn_87 x0 y0 x1 y1 x2 y2 x3 y3 x4 y4 (n + 2)) rfl k
theorem op_nes_87 {q : Bool} {d : Option Nat} {ty : Nat} {pos : String} {af : Array Edge} {g : Option (Nat × Bool)} {e : Env} {H : Hyp} {K : V → Hyp → Prop} {X : Spec} {ty' : Nat} {x y : Operand} {x0 y0 : Int} {x1 y1 : Int} {x2 y2 : Int} {x3 y3 : Int} {x4 y4 : Int} (hx : evE e x = some (.one (.agg [.int .i64 x0, .int .i64 x1, .int .i64 x2, .int .i64 x3, .int .i64 x4]))) (hy : evE e y = some (.one (.agg [.int .i64 y0, .int .i64 y1, .int .i64 y2, .int .i64 y3, .int .i64 y4]))) (k : K (vB (!((x0 == y0) && ((x1 == y1) && ((x2 == y2) && ((x3 == y3) && (x4 == y4))))))) H) : OpW Try.prog X q ⟨d, .binOp .neq 87 x y ty', ty, pos, af, g⟩ e H K :=
  op_binA hx hy rfl rfl (by kernel_rfl) (neq_of rfl fun n => eqIn_87 x0 y0 x1 y1 x2 y2 x3 y3 x4 y4 (n + 2)) rfl k
theorem bld_87 (ps : List (Nat × V1)) : buildT Try.prog 87 ps = fillA (fun i => ([(0, 1), (1, 1), (2, 1), (3, 1), (4, 1)] : List (Nat × Nat))[i]?) [.int .i64 0, .int .i64 0, .int .i64 0, .int .i64 0, .int .i64 0] ps := by kernel_rfl
theorem agg_88 : aggT Try.prog 88 = some false := by kernel_rfl
theorem siz_88 : sizeT Try.prog 88 = some 1 := by kernel_rfl
theorem zer_88 : zeroT Try.prog 88 = some [.nilf] := by kernel_rfl
theorem agg_89 : aggT Try.prog 89 = some false := by kernel_rfl
theorem siz_89 : sizeT Try.prog 89 = some 1 := by kernel_rfl
theorem zer_89 : zeroT Try.prog 89 = some [.nilf] := by kernel_rfl
theorem agg_90 : aggT Try.prog 90 = some false := by kernel_rfl
theorem siz_90 : sizeT Try.prog 90 = some 1 := by kernel_rfl
theorem zer_90 : zeroT Try.prog 90 = some [.nilf] := by kernel_rfl
theorem agg_91 : aggT Try.prog 91 = some false := by kernel_rfl
theorem siz_91 : sizeT Try.prog 91 = some 1 := by kernel_rfl
theorem zer_91 : zeroT Try.prog 91 = some [.nilf] := by kernel_rfl
theorem agg_92 : aggT Try.prog 92 = some false := by kernel_rfl
theorem siz_92 : sizeT Try.prog 92 = some 1 := by kernel_rfl
theorem zer_92 : zeroT Try.prog 92 = some [.nilf] := by kernel_rfl
theorem agg_94 : aggT Try.prog 94 = some false := by kernel_rfl
theorem siz_94 : sizeT Try.prog 94 = some 1 := by kernel_rfl
theorem zer_94 : zeroT Try.prog 94 = some [.nilf] := by kernel_rfl
theorem agg_95 : aggT Try.prog 95 = some false := by kernel_rfl
theorem siz_95 : sizeT Try.prog 95 = some 1 := by kernel_rfl
theorem zer_95 : zeroT Try.prog 95 = some [.nilf] := by kernel_rfl
theorem agg_96 : aggT Try.prog 96 = some false := by kernel_rfl
theorem siz_96 : sizeT Try.prog 96 = some 1 := by kernel_rfl
theorem zer_96 : zeroT Try.prog 96 = some [.nilf] := by kernel_rfl
theorem agg_97 : aggT Try.prog 97 = some false := by kernel_rfl
theorem siz_97 : sizeT Try.prog 97 = some 1 := by kernel_rfl
theorem zer_97 : zeroT Try.prog 97 = some [.nilf] := by kernel_rfl
theorem agg_98 : aggT Try.prog 98 = some true := by kernel_rfl
theorem siz_98 : sizeT Try.prog 98 = some 5 := by kernel_rfl
theorem zer_98 : zeroT Try.prog 98 = some [.nils, .int .i64 0, .nils, .int .i64 0, .int .i64 0] := by kernel_rfl
theorem fa_98_0 : faT Try.prog 98 0 = some 0 := by kernel_rfl
theorem fld_98_0 (cs : List Cell) : fieldT Try.prog 98 0 cs = (cs[0]?).map fun c => .one (.c c) := by kernel_rfl
theorem fa_98_1 : faT Try.prog 98 1 = some 1 := by kernel_rfl
theorem fld_98_1 (cs : List Cell) : fieldT Try.prog 98 1 cs = (cs[1]?).map fun c => .one (.c c) := by kernel_rfl
theorem fa_98_2 : faT Try.prog 98 2 = some 2 := by kernel_rfl
theorem fld_98_2 (cs : List Cell) : fieldT Try.prog 98 2 cs = (cs[2]?).map fun c => .one (.c c) := by kernel_rfl
theorem fa_98_3 : faT Try.prog 98 3 = some 3 := by kernel_rfl
theorem fld_98_3 (cs : List Cell) : fieldT Try.prog 98 3 cs = (cs[3]?).map fun c => .one (.c c) := by kernel_rfl
theorem fa_98_4 : faT Try.prog 98 4 = some 4 := by kernel_rfl
theorem fld_98_4 (cs : List Cell) : fieldT Try.prog 98 4 cs = (cs[4]?).map fun c => .one (.c c) := by kernel_rfl
theorem bld_98 (ps : List (Nat × V1)) : buildT Try.prog 98 ps = fillA (fun i => ([(0, 1), (1, 1), (2, 1), (3, 1), (4, 1)] : List (Nat × Nat))[i]?) [.nils, .int .i64 0, .nils, .int .i64 0, .int .i64 0] ps := by kernel_rfl
theorem agg_99 : aggT Try.prog 99 = some true := by kernel_rfl
theorem siz_99 : sizeT Try.prog 99 = some 5 := by kernel_rfl
theorem zer_99 : zeroT Try.prog 99 = some [.nils, .int .i64 0, .nils, .int .i64 0, .int .i64 0] := by kernel_rfl
theorem fa_99_0 : faT Try.prog 99 0 = some 0 := by kernel_rfl
theorem fld_99_0 (cs : List Cell) : fieldT Try.prog 99 0 cs = (cs[0]?).map fun c => .one (.c c) := by kernel_rfl
theorem fa_99_1 : faT Try.prog 99 1 = some 1 := by kernel_rfl
theorem fld_99_1 (cs : List Cell) : fieldT Try.prog 99 1 cs = (cs[1]?).map fun c => .one (.c c) := by kernel_rfl
theorem fa_99_2 : faT Try.prog 99 2 = some 2 := by kernel_rfl
theorem fld_99_2 (cs : List Cell) : fieldT Try.prog 99 2 cs = (cs[2]?).map fun c => .one (.c c) := by kernel_rfl
theorem fa_99_3 : faT Try.prog 99 3 = some 3 := by kernel_rfl
theorem fld_99_3 (cs : List Cell) : fieldT Try.prog 99 3 cs = (cs[3]?).map fun c => .one (.c c) := by kernel_rfl
theorem fa_99_4 : faT Try.prog 99 4 = some 4 := by kernel_rfl
theorem fld_99_4 (cs : List Cell) : fieldT Try.prog 99 4 cs = (cs[4]?).map fun c => .one (.c c) := by kernel_rfl
theorem bld_99 (ps : List (Nat × V1)) : buildT Try.prog 99 ps = fillA (fun i => ([(0, 1), (1, 1), (2, 1), (3, 1), (4, 1)] : List (Nat × Nat))[i]?) [.nils, .int .i64 0, .nils, .int .i64 0, .int .i64 0] ps := by kernel_rfl
theorem agg_100 : aggT Try.prog 100 = some false := by kernel_rfl
theorem siz_100 : sizeT Try.prog 100 = some 1 := by kernel_rfl
theorem zer_100 : zeroT Try.prog 100 = some [.nilf] := by kernel_rfl
theorem agg_101 : aggT Try.prog 101 = some false := by kernel_rfl
theorem siz_101 : sizeT Try.prog 101 = some 1 := by kernel_rfl
theorem zer_101 : zeroT Try.prog 101 = some [.nilf] := by kernel_rfl
theorem agg_102 : aggT Try.prog 102 = some false := by kernel_rfl
theorem siz_102 : sizeT Try.prog 102 = some 1 := by kernel_rfl
theorem zer_102 : zeroT Try.prog 102 = some [.nilf] := by kernel_rfl
theorem agg_103 : aggT Try.prog 103 = some false := by kernel_rfl
theorem siz_103 : sizeT Try.prog 103 = some 1 := by kernel_rfl
theorem zer_103 : zeroT Try.prog 103 = some [.nilf] := by kernel_rfl
theorem agg_104 : aggT Try.prog 104 = some true := by kernel_rfl
theorem siz_104 : sizeT Try.prog 104 = some 4 := by kernel_rfl
theorem zer_104 : zeroT Try.prog 104 = some [.int .i64 0, .int .i64 0, .str ⟨#[]⟩, .str ⟨#[]⟩] := by kernel_rfl
theorem fa_104_0 : faT Try.prog 104 0 = some 0 := by kernel_rfl
theorem fld_104_0 (cs : List Cell) : fieldT Try.prog 104 0 cs = (cs[0]?).map fun c => .one (.c c) := by kernel_rfl
theorem fa_104_1 : faT Try.prog 104 1 = some 1 := by kernel_rfl
theorem fld_104_1 (cs : List Cell) : fieldT Try.prog 104 1 cs = (cs[1]?).map fun c => .one (.c c) := by kernel_rfl
theorem fa_104_2 : faT Try.prog 104 2 = some 2 := by kernel_rfl
theorem fld_104_2 (cs : List Cell) : fieldT Try.prog 104 2 cs = (cs[2]?).map fun c => .one (.c c) := by kernel_rfl
theorem fa_104_3 : faT Try.prog 104 3 = some 3 := by kernel_rfl
theorem fld_104_3 (cs : List Cell) : fieldT Try.prog 104 3 cs = (cs[3]?).map fun c => .one (.c c) := by kernel_rfl
theorem eqIn_104 (x0 y0 : Int) (x1 y1 : Int) (x2 y2 : ByteArray) (x3 y3 : ByteArray) (n : Nat) : pure? Try.prog (Op.equalIn (n + 2) 104 (.agg #[.int .i64 x0, .int .i64 x1, .string x2, .string x3]) (.agg #[.int .i64 y0, .int .i64 y1, .string y2, .string y3])) = some ((x0 == y0) && ((x1 == y1) && ((x2 == y2) && (x3 == y3)))) := by
  have h := eqIn_struct (P := Try.prog) (n := n + 1) (xs := #[.int .i64 x0, .int .i64 x1, .string x2, .string x3]) (ys := #[.int .i64 y0, .int .i64 y1, .string y2, .string y3]) (fun f => if f.offset = 0 then (x0 == y0) else if f.offset = 1 then (x1 == y1) else if f.offset = 2 then (x2 == y2) else if f.offset = 3 then (x3 == y3) else true) Try.underlying104 (by kernel_rfl) (by
    intro f hf
    simp only [List.mem_cons, List.not_mem_nil, or_false] at hf
    rcases hf with rfl | rfl | rfl | rfl
    · exact ⟨by decide, _, _, pure?_part (by kernel_rfl) rfl, pure?_part (by kernel_rfl) rfl, eqIn_int (by kernel_rfl) n⟩
    · exact ⟨by decide, _, _, pure?_part (by kernel_rfl) rfl, pure?_part (by kernel_rfl) rfl, eqIn_int (by kernel_rfl) n⟩
    · exact ⟨by decide, _, _, pure?_part (by kernel_rfl) rfl, pure?_part (by kernel_rfl) rfl, eqIn_str (by kernel_rfl) n⟩
    · exact ⟨by decide, _, _, pure?_part (by kernel_rfl) rfl, pure?_part (by kernel_rfl) rfl, eqIn_str (by kernel_rfl) n⟩)
  rw [h]; simp
theorem op_eqs_104 {q : Bool} {d : Option Nat} {ty : Nat} {pos : String} {af : Array Edge} {g : Option (Nat × Bool)} {e : Env} {H : Hyp} {K : V → Hyp → Prop} {X : Spec} {ty' : Nat} {x y : Operand} {x0 y0 : Int} {x1 y1 : Int} {x2 y2 : ByteArray} {x3 y3 : ByteArray} (hx : evE e x = some (.one (.agg [.int .i64 x0, .int .i64 x1, .str x2, .str x3]))) (hy : evE e y = some (.one (.agg [.int .i64 y0, .int .i64 y1, .str y2, .str y3]))) (k : K (vB (((x0 == y0) && ((x1 == y1) && ((x2 == y2) && (x3 == y3)))))) H) : OpW Try.prog X q ⟨d, .binOp .eql 104 x y ty', ty, pos, af, g⟩ e H K :=
  op_binA hx hy rfl rfl (by kernel_rfl) (eql_of rfl fun n => eqIn_104 x0 y0 x1 y1 x2 y2 x3 y3 (n + 2)) rfl k
theorem op_nes_104 {q : Bool} {d : Option Nat} {ty : Nat} {pos : String} {af : Array Edge} {g : Option (Nat × Bool)} {e : Env} {H : Hyp} {K : V → Hyp → Prop} {X : Spec} {ty' : Nat} {x y : Operand} {x0 y0 : Int} {x1 y1 : Int} {x2 y2 : ByteArray} {x3 y3 : ByteArray} (hx : evE e x = some (.one (.agg [.int .i64 x0, .int .i64 x1, .str x2, .str x3]))) (hy : evE e y = some (.one (.agg [.int .i64 y0, .int .i64 y1, .str y2, .str y3]))) (k : K (vB (!((x0 == y0) && ((x1 == y1) && ((x2 == y2) && (x3 == y3)))))) H) : OpW Try.prog X q ⟨d, .binOp .neq 104 x y ty', ty, pos, af, g⟩ e H K :=
  op_binA hx hy rfl rfl (by kernel_rfl) (neq_of rfl fun n => eqIn_104 x0 y0 x1 y1 x2 y2 x3 y3 (n + 2)) rfl k
theorem bld_104 (ps : List (Nat × V1)) : buildT Try.prog 104 ps = fillA (fun i => ([(0, 1), (1, 1), (2, 1), (3, 1)] : List (Nat × Nat))[i]?) [.int .i64 0, .int .i64 0, .str ⟨#[]⟩, .str ⟨#[]⟩] ps := by kernel_rfl
theorem agg_105 : aggT Try.prog 105 = some true := by kernel_rfl
theorem siz_105 : sizeT Try.prog 105 = some 4 := by kernel_rfl
theorem zer_105 : zeroT Try.prog 105 = some [.int .i64 0, .int .i64 0, .str ⟨#[]⟩, .str ⟨#[]⟩] := by kernel_rfl
theorem fa_105_0 : faT Try.prog 105 0 = some 0 := by kernel_rfl
theorem fld_105_0 (cs : List Cell) : fieldT Try.prog 105 0 cs = (cs[0]?).map fun c => .one (.c c) := by kernel_rfl
theorem fa_105_1 : faT Try.prog 105 1 = some 1 := by kernel_rfl
theorem fld_105_1 (cs : List Cell) : fieldT Try.prog 105 1 cs = (cs[1]?).map fun c => .one (.c c) := by kernel_rfl
theorem fa_105_2 : faT Try.prog 105 2 = some 2 := by kernel_rfl
theorem fld_105_2 (cs : List Cell) : fieldT Try.prog 105 2 cs = (cs[2]?).map fun c => .one (.c c) := by kernel_rfl
theorem fa_105_3 : faT Try.prog 105 3 = some 3 := by kernel_rfl
theorem fld_105_3 (cs : List Cell) : fieldT Try.prog 105 3 cs = (cs[3]?).map fun c => .one (.c c) := by kernel_rfl
theorem eqIn_105 (x0 y0 : Int) (x1 y1 : Int) (x2 y2 : ByteArray) (x3 y3 : ByteArray) (n : Nat) : pure? Try.prog (Op.equalIn (n + 2) 105 (.agg #[.int .i64 x0, .int .i64 x1, .string x2, .string x3]) (.agg #[.int .i64 y0, .int .i64 y1, .string y2, .string y3])) = some ((x0 == y0) && ((x1 == y1) && ((x2 == y2) && (x3 == y3)))) := by
  have h := eqIn_struct (P := Try.prog) (n := n + 1) (xs := #[.int .i64 x0, .int .i64 x1, .string x2, .string x3]) (ys := #[.int .i64 y0, .int .i64 y1, .string y2, .string y3]) (fun f => if f.offset = 0 then (x0 == y0) else if f.offset = 1 then (x1 == y1) else if f.offset = 2 then (x2 == y2) else if f.offset = 3 then (x3 == y3) else true) Try.underlying105 (by kernel_rfl) (by
    intro f hf
    simp only [List.mem_cons, List.not_mem_nil, or_false] at hf
    rcases hf with rfl | rfl | rfl | rfl
    · exact ⟨by decide, _, _, pure?_part (by kernel_rfl) rfl, pure?_part (by kernel_rfl) rfl, eqIn_int (by kernel_rfl) n⟩
    · exact ⟨by decide, _, _, pure?_part (by kernel_rfl) rfl, pure?_part (by kernel_rfl) rfl, eqIn_int (by kernel_rfl) n⟩
    · exact ⟨by decide, _, _, pure?_part (by kernel_rfl) rfl, pure?_part (by kernel_rfl) rfl, eqIn_str (by kernel_rfl) n⟩
    · exact ⟨by decide, _, _, pure?_part (by kernel_rfl) rfl, pure?_part (by kernel_rfl) rfl, eqIn_str (by kernel_rfl) n⟩)
  rw [h]; simp
theorem op_eqs_105 {q : Bool} {d : Option Nat} {ty : Nat} {pos : String} {af : Array Edge} {g : Option (Nat × Bool)} {e : Env} {H : Hyp} {K : V → Hyp → Prop} {X : Spec} {ty' : Nat} {x y : Operand} {x0 y0 : Int} {x1 y1 : Int} {x2 y2 : ByteArray} {x3 y3 : ByteArray} (hx : evE e x = some (.one (.agg [.int .i64 x0, .int .i64 x1, .str x2, .str x3]))) (hy : evE e y = some (.one (.agg [.int .i64 y0, .int .i64 y1, .str y2, .str y3]))) (k : K (vB (((x0 == y0) && ((x1 == y1) && ((x2 == y2) && (x3 == y3)))))) H) : OpW Try.prog X q ⟨d, .binOp .eql 105 x y ty', ty, pos, af, g⟩ e H K :=
  op_binA hx hy rfl rfl (by kernel_rfl) (eql_of rfl fun n => eqIn_105 x0 y0 x1 y1 x2 y2 x3 y3 (n + 2)) rfl k
theorem op_nes_105 {q : Bool} {d : Option Nat} {ty : Nat} {pos : String} {af : Array Edge} {g : Option (Nat × Bool)} {e : Env} {H : Hyp} {K : V → Hyp → Prop} {X : Spec} {ty' : Nat} {x y : Operand} {x0 y0 : Int} {x1 y1 : Int} {x2 y2 : ByteArray} {x3 y3 : ByteArray} (hx : evE e x = some (.one (.agg [.int .i64 x0, .int .i64 x1, .str x2, .str x3]))) (hy : evE e y = some (.one (.agg [.int .i64 y0, .int .i64 y1, .str y2, .str y3]))) (k : K (vB (!((x0 == y0) && ((x1 == y1) && ((x2 == y2) && (x3 == y3)))))) H) : OpW Try.prog X q ⟨d, .binOp .neq 105 x y ty', ty, pos, af, g⟩ e H K :=
  op_binA hx hy rfl rfl (by kernel_rfl) (neq_of rfl fun n => eqIn_105 x0 y0 x1 y1 x2 y2 x3 y3 (n + 2)) rfl k
theorem bld_105 (ps : List (Nat × V1)) : buildT Try.prog 105 ps = fillA (fun i => ([(0, 1), (1, 1), (2, 1), (3, 1)] : List (Nat × Nat))[i]?) [.int .i64 0, .int .i64 0, .str ⟨#[]⟩, .str ⟨#[]⟩] ps := by kernel_rfl
theorem agg_107 : aggT Try.prog 107 = some false := by kernel_rfl
theorem siz_107 : sizeT Try.prog 107 = some 1 := by kernel_rfl
theorem zer_107 : zeroT Try.prog 107 = some [.nilf] := by kernel_rfl
theorem agg_108 : aggT Try.prog 108 = some false := by kernel_rfl
theorem siz_108 : sizeT Try.prog 108 = some 1 := by kernel_rfl
theorem zer_108 : zeroT Try.prog 108 = some [.nilf] := by kernel_rfl
theorem agg_109 : aggT Try.prog 109 = some false := by kernel_rfl
theorem siz_109 : sizeT Try.prog 109 = some 1 := by kernel_rfl
theorem zer_109 : zeroT Try.prog 109 = some [.nils] := by kernel_rfl
theorem und_109 : Try.prog.underlying 109 = some (.slice 9) := by kernel_rfl
theorem elm_109 : elemT Try.prog 109 = some 9 := by kernel_rfl
theorem bsl_109 (len : Nat) (ps : List (Nat × V1)) (cs : List Cell) (h : seqParts 1 0 ps = some cs) (hl : ps.length = len) (hs : len * 1 ≤ 16777216) : buildSliceT Try.prog 109 len ps = some (9, 1, cs) := by
  have e1 : elemT Try.prog 109 = some 9 := by kernel_rfl
  have e2 : sizeT Try.prog 9 = some 1 := by kernel_rfl
  have e3 : zeroT Try.prog 9 = some [.str ⟨#[]⟩] := by kernel_rfl
  unfold buildSliceT; simp only [e1, e2, e3, h]; rw [if_pos ⟨hs, rfl, by decide⟩, if_pos hl]
theorem agg_110 : aggT Try.prog 110 = some false := by kernel_rfl
theorem siz_110 : sizeT Try.prog 110 = some 1 := by kernel_rfl
theorem zer_110 : zeroT Try.prog 110 = some [.nilf] := by kernel_rfl
theorem agg_111 : aggT Try.prog 111 = some false := by kernel_rfl
theorem siz_111 : sizeT Try.prog 111 = some 1 := by kernel_rfl
theorem zer_111 : zeroT Try.prog 111 = some [.nilf] := by kernel_rfl
theorem agg_112 : aggT Try.prog 112 = some false := by kernel_rfl
theorem siz_112 : sizeT Try.prog 112 = some 1 := by kernel_rfl
theorem zer_112 : zeroT Try.prog 112 = some [.nilf] := by kernel_rfl
theorem agg_113 : aggT Try.prog 113 = some false := by kernel_rfl
theorem siz_113 : sizeT Try.prog 113 = some 1 := by kernel_rfl
theorem zer_113 : zeroT Try.prog 113 = some [.nilf] := by kernel_rfl
theorem agg_114 : aggT Try.prog 114 = some false := by kernel_rfl
theorem siz_114 : sizeT Try.prog 114 = some 1 := by kernel_rfl
theorem zer_114 : zeroT Try.prog 114 = some [.nils] := by kernel_rfl
theorem und_114 : Try.prog.underlying 114 = some (.slice 133) := by kernel_rfl
theorem elm_114 : elemT Try.prog 114 = some 133 := by kernel_rfl
theorem bsl_114 (len : Nat) (ps : List (Nat × V1)) (cs : List Cell) (h : seqParts 3 0 ps = some cs) (hl : ps.length = len) (hs : len * 3 ≤ 16777216) : buildSliceT Try.prog 114 len ps = some (133, 3, cs) := by
  have e1 : elemT Try.prog 114 = some 133 := by kernel_rfl
  have e2 : sizeT Try.prog 133 = some 3 := by kernel_rfl
  have e3 : zeroT Try.prog 133 = some [.int .i64 0, .int .i64 0, .int .i64 0] := by kernel_rfl
  unfold buildSliceT; simp only [e1, e2, e3, h]; rw [if_pos ⟨hs, rfl, by decide⟩, if_pos hl]
theorem agg_115 : aggT Try.prog 115 = some false := by kernel_rfl
theorem siz_115 : sizeT Try.prog 115 = some 1 := by kernel_rfl
theorem zer_115 : zeroT Try.prog 115 = some [.nilf] := by kernel_rfl
theorem agg_116 : aggT Try.prog 116 = some false := by kernel_rfl
theorem siz_116 : sizeT Try.prog 116 = some 1 := by kernel_rfl
theorem zer_116 : zeroT Try.prog 116 = some [.nilf] := by kernel_rfl
theorem agg_117 : aggT Try.prog 117 = some false := by kernel_rfl
theorem siz_117 : sizeT Try.prog 117 = some 1 := by kernel_rfl
theorem zer_117 : zeroT Try.prog 117 = some [.nilf] := by kernel_rfl
theorem agg_118 : aggT Try.prog 118 = some false := by kernel_rfl
theorem siz_118 : sizeT Try.prog 118 = some 1 := by kernel_rfl
theorem zer_118 : zeroT Try.prog 118 = some [.nilf] := by kernel_rfl
theorem agg_119 : aggT Try.prog 119 = some false := by kernel_rfl
theorem siz_119 : sizeT Try.prog 119 = some 1 := by kernel_rfl
theorem zer_119 : zeroT Try.prog 119 = some [.int .u64 0] := by kernel_rfl
theorem und_119 : Try.prog.underlying 119 = some (.int .u64) := by kernel_rfl
theorem agg_120 : aggT Try.prog 120 = some false := by kernel_rfl
theorem siz_120 : sizeT Try.prog 120 = some 1 := by kernel_rfl
theorem zer_120 : zeroT Try.prog 120 = some [.nilf] := by kernel_rfl
theorem agg_121 : aggT Try.prog 121 = some false := by kernel_rfl
theorem siz_121 : sizeT Try.prog 121 = some 1 := by kernel_rfl
theorem zer_121 : zeroT Try.prog 121 = some [.nilf] := by kernel_rfl
theorem agg_122 : aggT Try.prog 122 = some false := by kernel_rfl
theorem siz_122 : sizeT Try.prog 122 = some 1 := by kernel_rfl
theorem zer_122 : zeroT Try.prog 122 = some [.nilf] := by kernel_rfl
theorem agg_123 : aggT Try.prog 123 = some false := by kernel_rfl
theorem siz_123 : sizeT Try.prog 123 = some 1 := by kernel_rfl
theorem zer_123 : zeroT Try.prog 123 = some [.nilf] := by kernel_rfl
theorem agg_125 : aggT Try.prog 125 = some false := by kernel_rfl
theorem siz_125 : sizeT Try.prog 125 = some 1 := by kernel_rfl
theorem zer_125 : zeroT Try.prog 125 = some [.nilf] := by kernel_rfl
theorem agg_126 : aggT Try.prog 126 = some false := by kernel_rfl
theorem siz_126 : sizeT Try.prog 126 = some 1 := by kernel_rfl
theorem zer_126 : zeroT Try.prog 126 = some [.nilf] := by kernel_rfl
theorem agg_128 : aggT Try.prog 128 = some false := by kernel_rfl
theorem siz_128 : sizeT Try.prog 128 = some 1 := by kernel_rfl
theorem zer_128 : zeroT Try.prog 128 = some [.nilf] := by kernel_rfl
theorem agg_129 : aggT Try.prog 129 = some false := by kernel_rfl
theorem siz_129 : sizeT Try.prog 129 = some 1 := by kernel_rfl
theorem zer_129 : zeroT Try.prog 129 = some [.nilf] := by kernel_rfl
theorem agg_130 : aggT Try.prog 130 = some false := by kernel_rfl
theorem siz_130 : sizeT Try.prog 130 = some 1 := by kernel_rfl
theorem zer_130 : zeroT Try.prog 130 = some [.nilf] := by kernel_rfl
theorem agg_131 : aggT Try.prog 131 = some false := by kernel_rfl
theorem siz_131 : sizeT Try.prog 131 = some 1 := by kernel_rfl
theorem zer_131 : zeroT Try.prog 131 = some [.nilf] := by kernel_rfl
theorem agg_132 : aggT Try.prog 132 = some true := by kernel_rfl
theorem siz_132 : sizeT Try.prog 132 = some 3 := by kernel_rfl
theorem zer_132 : zeroT Try.prog 132 = some [.int .i64 0, .int .i64 0, .int .i64 0] := by kernel_rfl
theorem fa_132_0 : faT Try.prog 132 0 = some 0 := by kernel_rfl
theorem fld_132_0 (cs : List Cell) : fieldT Try.prog 132 0 cs = (cs[0]?).map fun c => .one (.c c) := by kernel_rfl
theorem fa_132_1 : faT Try.prog 132 1 = some 1 := by kernel_rfl
theorem fld_132_1 (cs : List Cell) : fieldT Try.prog 132 1 cs = (cs[1]?).map fun c => .one (.c c) := by kernel_rfl
theorem fa_132_2 : faT Try.prog 132 2 = some 2 := by kernel_rfl
theorem fld_132_2 (cs : List Cell) : fieldT Try.prog 132 2 cs = (cs[2]?).map fun c => .one (.c c) := by kernel_rfl
theorem eqIn_132 (x0 y0 : Int) (x1 y1 : Int) (x2 y2 : Int) (n : Nat) : pure? Try.prog (Op.equalIn (n + 2) 132 (.agg #[.int .i64 x0, .int .i64 x1, .int .i64 x2]) (.agg #[.int .i64 y0, .int .i64 y1, .int .i64 y2])) = some ((x0 == y0) && ((x1 == y1) && (x2 == y2))) := by
  have h := eqIn_struct (P := Try.prog) (n := n + 1) (xs := #[.int .i64 x0, .int .i64 x1, .int .i64 x2]) (ys := #[.int .i64 y0, .int .i64 y1, .int .i64 y2]) (fun f => if f.offset = 0 then (x0 == y0) else if f.offset = 1 then (x1 == y1) else if f.offset = 2 then (x2 == y2) else true) Try.underlying132 (by kernel_rfl) (by
    intro f hf
    simp only [List.mem_cons, List.not_mem_nil, or_false] at hf
    rcases hf with rfl | rfl | rfl
    · exact ⟨by decide, _, _, pure?_part (by kernel_rfl) rfl, pure?_part (by kernel_rfl) rfl, eqIn_int (by kernel_rfl) n⟩
    · exact ⟨by decide, _, _, pure?_part (by kernel_rfl) rfl, pure?_part (by kernel_rfl) rfl, eqIn_int (by kernel_rfl) n⟩
    · exact ⟨by decide, _, _, pure?_part (by kernel_rfl) rfl, pure?_part (by kernel_rfl) rfl, eqIn_int (by kernel_rfl) n⟩)
  rw [h]; simp
theorem op_eqs_132 {q : Bool} {d : Option Nat} {ty : Nat} {pos : String} {af : Array Edge} {g : Option (Nat × Bool)} {e : Env} {H : Hyp} {K : V → Hyp → Prop} {X : Spec} {ty' : Nat} {x y : Operand} {x0 y0 : Int} {x1 y1 : Int} {x2 y2 : Int} (hx : evE e x = some (.one (.agg [.int .i64 x0, .int .i64 x1, .int .i64 x2]))) (hy : evE e y = some (.one (.agg [.int .i64 y0, .int .i64 y1, .int .i64 y2]))) (k : K (vB (((x0 == y0) && ((x1 == y1) && (x2 == y2))))) H) : OpW Try.prog X q ⟨d, .binOp .eql 132 x y ty', ty, pos, af, g⟩ e H K :=
  op_binA hx hy rfl rfl (by kernel_rfl) (eql_of rfl fun n => eqIn_132 x0 y0 x1 y1 x2 y2 (n + 2)) rfl k
theorem op_nes_132 {q : Bool} {d : Option Nat} {ty : Nat} {pos : String} {af : Array Edge} {g : Option (Nat × Bool)} {e : Env} {H : Hyp} {K : V → Hyp → Prop} {X : Spec} {ty' : Nat} {x y : Operand} {x0 y0 : Int} {x1 y1 : Int} {x2 y2 : Int} (hx : evE e x = some (.one (.agg [.int .i64 x0, .int .i64 x1, .int .i64 x2]))) (hy : evE e y = some (.one (.agg [.int .i64 y0, .int .i64 y1, .int .i64 y2]))) (k : K (vB (!((x0 == y0) && ((x1 == y1) && (x2 == y2))))) H) : OpW Try.prog X q ⟨d, .binOp .neq 132 x y ty', ty, pos, af, g⟩ e H K :=
  op_binA hx hy rfl rfl (by kernel_rfl) (neq_of rfl fun n => eqIn_132 x0 y0 x1 y1 x2 y2 (n + 2)) rfl k
theorem bld_132 (ps : List (Nat × V1)) : buildT Try.prog 132 ps = fillA (fun i => ([(0, 1), (1, 1), (2, 1)] : List (Nat × Nat))[i]?) [.int .i64 0, .int .i64 0, .int .i64 0] ps := by kernel_rfl
theorem agg_133 : aggT Try.prog 133 = some true := by kernel_rfl
theorem siz_133 : sizeT Try.prog 133 = some 3 := by kernel_rfl
theorem zer_133 : zeroT Try.prog 133 = some [.int .i64 0, .int .i64 0, .int .i64 0] := by kernel_rfl
theorem fa_133_0 : faT Try.prog 133 0 = some 0 := by kernel_rfl
theorem fld_133_0 (cs : List Cell) : fieldT Try.prog 133 0 cs = (cs[0]?).map fun c => .one (.c c) := by kernel_rfl
theorem fa_133_1 : faT Try.prog 133 1 = some 1 := by kernel_rfl
theorem fld_133_1 (cs : List Cell) : fieldT Try.prog 133 1 cs = (cs[1]?).map fun c => .one (.c c) := by kernel_rfl
theorem fa_133_2 : faT Try.prog 133 2 = some 2 := by kernel_rfl
theorem fld_133_2 (cs : List Cell) : fieldT Try.prog 133 2 cs = (cs[2]?).map fun c => .one (.c c) := by kernel_rfl
theorem eqIn_133 (x0 y0 : Int) (x1 y1 : Int) (x2 y2 : Int) (n : Nat) : pure? Try.prog (Op.equalIn (n + 2) 133 (.agg #[.int .i64 x0, .int .i64 x1, .int .i64 x2]) (.agg #[.int .i64 y0, .int .i64 y1, .int .i64 y2])) = some ((x0 == y0) && ((x1 == y1) && (x2 == y2))) := by
  have h := eqIn_struct (P := Try.prog) (n := n + 1) (xs := #[.int .i64 x0, .int .i64 x1, .int .i64 x2]) (ys := #[.int .i64 y0, .int .i64 y1, .int .i64 y2]) (fun f => if f.offset = 0 then (x0 == y0) else if f.offset = 1 then (x1 == y1) else if f.offset = 2 then (x2 == y2) else true) Try.underlying133 (by kernel_rfl) (by
    intro f hf
    simp only [List.mem_cons, List.not_mem_nil, or_false] at hf
    rcases hf with rfl | rfl | rfl
    · exact ⟨by decide, _, _, pure?_part (by kernel_rfl) rfl, pure?_part (by kernel_rfl) rfl, eqIn_int (by kernel_rfl) n⟩
    · exact ⟨by decide, _, _, pure?_part (by kernel_rfl) rfl, pure?_part (by kernel_rfl) rfl, eqIn_int (by kernel_rfl) n⟩
    · exact ⟨by decide, _, _, pure?_part (by kernel_rfl) rfl, pure?_part (by kernel_rfl) rfl, eqIn_int (by kernel_rfl) n⟩)
  rw [h]; simp
theorem op_eqs_133 {q : Bool} {d : Option Nat} {ty : Nat} {pos : String} {af : Array Edge} {g : Option (Nat × Bool)} {e : Env} {H : Hyp} {K : V → Hyp → Prop} {X : Spec} {ty' : Nat} {x y : Operand} {x0 y0 : Int} {x1 y1 : Int} {x2 y2 : Int} (hx : evE e x = some (.one (.agg [.int .i64 x0, .int .i64 x1, .int .i64 x2]))) (hy : evE e y = some (.one (.agg [.int .i64 y0, .int .i64 y1, .int .i64 y2]))) (k : K (vB (((x0 == y0) && ((x1 == y1) && (x2 == y2))))) H) : OpW Try.prog X q ⟨d, .binOp .eql 133 x y ty', ty, pos, af, g⟩ e H K :=
  op_binA hx hy rfl rfl (by kernel_rfl) (eql_of rfl fun n => eqIn_133 x0 y0 x1 y1 x2 y2 (n + 2)) rfl k
theorem op_nes_133 {q : Bool} {d : Option Nat} {ty : Nat} {pos : String} {af : Array Edge} {g : Option (Nat × Bool)} {e : Env} {H : Hyp} {K : V → Hyp → Prop} {X : Spec} {ty' : Nat} {x y : Operand} {x0 y0 : Int} {x1 y1 : Int} {x2 y2 : Int} (hx : evE e x = some (.one (.agg [.int .i64 x0, .int .i64 x1, .int .i64 x2]))) (hy : evE e y = some (.one (.agg [.int .i64 y0, .int .i64 y1, .int .i64 y2]))) (k : K (vB (!((x0 == y0) && ((x1 == y1) && (x2 == y2))))) H) : OpW Try.prog X q ⟨d, .binOp .neq 133 x y ty', ty, pos, af, g⟩ e H K :=
  op_binA hx hy rfl rfl (by kernel_rfl) (neq_of rfl fun n => eqIn_133 x0 y0 x1 y1 x2 y2 (n + 2)) rfl k
theorem bld_133 (ps : List (Nat × V1)) : buildT Try.prog 133 ps = fillA (fun i => ([(0, 1), (1, 1), (2, 1)] : List (Nat × Nat))[i]?) [.int .i64 0, .int .i64 0, .int .i64 0] ps := by kernel_rfl
theorem agg_134 : aggT Try.prog 134 = some false := by kernel_rfl
theorem siz_134 : sizeT Try.prog 134 = some 1 := by kernel_rfl
theorem zer_134 : zeroT Try.prog 134 = some [.nilf] := by kernel_rfl
theorem agg_135 : aggT Try.prog 135 = some false := by kernel_rfl
theorem siz_135 : sizeT Try.prog 135 = some 1 := by kernel_rfl
theorem zer_135 : zeroT Try.prog 135 = some [.nils] := by kernel_rfl
theorem und_135 : Try.prog.underlying 135 = some (.slice 139) := by kernel_rfl
theorem elm_135 : elemT Try.prog 135 = some 139 := by kernel_rfl
theorem bsl_135 (len : Nat) (ps : List (Nat × V1)) (cs : List Cell) (h : seqParts 2 0 ps = some cs) (hl : ps.length = len) (hs : len * 2 ≤ 16777216) : buildSliceT Try.prog 135 len ps = some (139, 2, cs) := by
  have e1 : elemT Try.prog 135 = some 139 := by kernel_rfl
  have e2 : sizeT Try.prog 139 = some 2 := by kernel_rfl
  have e3 : zeroT Try.prog 139 = some [.int .i64 0, .int .i64 0] := by kernel_rfl
  unfold buildSliceT; simp only [e1, e2, e3, h]; rw [if_pos ⟨hs, rfl, by decide⟩, if_pos hl]
theorem agg_136 : aggT Try.prog 136 = some false := by kernel_rfl
theorem siz_136 : sizeT Try.prog 136 = some 1 := by kernel_rfl
theorem zer_136 : zeroT Try.prog 136 = some [.nilf] := by kernel_rfl
theorem agg_137 : aggT Try.prog 137 = some false := by kernel_rfl
theorem siz_137 : sizeT Try.prog 137 = some 1 := by kernel_rfl
theorem zer_137 : zeroT Try.prog 137 = some [.nilf] := by kernel_rfl
theorem agg_138 : aggT Try.prog 138 = some true := by kernel_rfl
theorem siz_138 : sizeT Try.prog 138 = some 2 := by kernel_rfl
theorem zer_138 : zeroT Try.prog 138 = some [.int .i64 0, .int .i64 0] := by kernel_rfl
theorem fa_138_0 : faT Try.prog 138 0 = some 0 := by kernel_rfl
theorem fld_138_0 (cs : List Cell) : fieldT Try.prog 138 0 cs = (cs[0]?).map fun c => .one (.c c) := by kernel_rfl
theorem fa_138_1 : faT Try.prog 138 1 = some 1 := by kernel_rfl
theorem fld_138_1 (cs : List Cell) : fieldT Try.prog 138 1 cs = (cs[1]?).map fun c => .one (.c c) := by kernel_rfl
theorem eqIn_138 (x0 y0 : Int) (x1 y1 : Int) (n : Nat) : pure? Try.prog (Op.equalIn (n + 2) 138 (.agg #[.int .i64 x0, .int .i64 x1]) (.agg #[.int .i64 y0, .int .i64 y1])) = some ((x0 == y0) && (x1 == y1)) := by
  have h := eqIn_struct (P := Try.prog) (n := n + 1) (xs := #[.int .i64 x0, .int .i64 x1]) (ys := #[.int .i64 y0, .int .i64 y1]) (fun f => if f.offset = 0 then (x0 == y0) else if f.offset = 1 then (x1 == y1) else true) Try.underlying138 (by kernel_rfl) (by
    intro f hf
    simp only [List.mem_cons, List.not_mem_nil, or_false] at hf
    rcases hf with rfl | rfl
    · exact ⟨by decide, _, _, pure?_part (by kernel_rfl) rfl, pure?_part (by kernel_rfl) rfl, eqIn_int (by kernel_rfl) n⟩
    · exact ⟨by decide, _, _, pure?_part (by kernel_rfl) rfl, pure?_part (by kernel_rfl) rfl, eqIn_int (by kernel_rfl) n⟩)
  rw [h]; simp
theorem op_eqs_138 {q : Bool} {d : Option Nat} {ty : Nat} {pos : String} {af : Array Edge} {g : Option (Nat × Bool)} {e : Env} {H : Hyp} {K : V → Hyp → Prop} {X : Spec} {ty' : Nat} {x y : Operand} {x0 y0 : Int} {x1 y1 : Int} (hx : evE e x = some (.one (.agg [.int .i64 x0, .int .i64 x1]))) (hy : evE e y = some (.one (.agg [.int .i64 y0, .int .i64 y1]))) (k : K (vB (((x0 == y0) && (x1 == y1)))) H) : OpW Try.prog X q ⟨d, .binOp .eql 138 x y ty', ty, pos, af, g⟩ e H K :=
  op_binA hx hy rfl rfl (by kernel_rfl) (eql_of rfl fun n => eqIn_138 x0 y0 x1 y1 (n + 2)) rfl k
theorem op_nes_138 {q : Bool} {d : Option Nat} {ty : Nat} {pos : String} {af : Array Edge} {g : Option (Nat × Bool)} {e : Env} {H : Hyp} {K : V → Hyp → Prop} {X : Spec} {ty' : Nat} {x y : Operand} {x0 y0 : Int} {x1 y1 : Int} (hx : evE e x = some (.one (.agg [.int .i64 x0, .int .i64 x1]))) (hy : evE e y = some (.one (.agg [.int .i64 y0, .int .i64 y1]))) (k : K (vB (!((x0 == y0) && (x1 == y1)))) H) : OpW Try.prog X q ⟨d, .binOp .neq 138 x y ty', ty, pos, af, g⟩ e H K :=
  op_binA hx hy rfl rfl (by kernel_rfl) (neq_of rfl fun n => eqIn_138 x0 y0 x1 y1 (n + 2)) rfl k
theorem bld_138 (ps : List (Nat × V1)) : buildT Try.prog 138 ps = fillA (fun i => ([(0, 1), (1, 1)] : List (Nat × Nat))[i]?) [.int .i64 0, .int .i64 0] ps := by kernel_rfl
theorem agg_139 : aggT Try.prog 139 = some true := by kernel_rfl
theorem siz_139 : sizeT Try.prog 139 = some 2 := by kernel_rfl
theorem zer_139 : zeroT Try.prog 139 = some [.int .i64 0, .int .i64 0] := by kernel_rfl
theorem fa_139_0 : faT Try.prog 139 0 = some 0 := by kernel_rfl
theorem fld_139_0 (cs : List Cell) : fieldT Try.prog 139 0 cs = (cs[0]?).map fun c => .one (.c c) := by kernel_rfl
theorem fa_139_1 : faT Try.prog 139 1 = some 1 := by kernel_rfl
theorem fld_139_1 (cs : List Cell) : fieldT Try.prog 139 1 cs = (cs[1]?).map fun c => .one (.c c) := by kernel_rfl
theorem eqIn_139 (x0 y0 : Int) (x1 y1 : Int) (n : Nat) : pure? Try.prog (Op.equalIn (n + 2) 139 (.agg #[.int .i64 x0, .int .i64 x1]) (.agg #[.int .i64 y0, .int .i64 y1])) = some ((x0 == y0) && (x1 == y1)) := by
  have h := eqIn_struct (P := Try.prog) (n := n + 1) (xs := #[.int .i64 x0, .int .i64 x1]) (ys := #[.int .i64 y0, .int .i64 y1]) (fun f => if f.offset = 0 then (x0 == y0) else if f.offset = 1 then (x1 == y1) else true) Try.underlying139 (by kernel_rfl) (by
    intro f hf
    simp only [List.mem_cons, List.not_mem_nil, or_false] at hf
    rcases hf with rfl | rfl
    · exact ⟨by decide, _, _, pure?_part (by kernel_rfl) rfl, pure?_part (by kernel_rfl) rfl, eqIn_int (by kernel_rfl) n⟩
    · exact ⟨by decide, _, _, pure?_part (by kernel_rfl) rfl, pure?_part (by kernel_rfl) rfl, eqIn_int (by kernel_rfl) n⟩)
  rw [h]; simp
theorem op_eqs_139 {q : Bool} {d : Option Nat} {ty : Nat} {pos : String} {af : Array Edge} {g : Option (Nat × Bool)} {e : Env} {H : Hyp} {K : V → Hyp → Prop} {X : Spec} {ty' : Nat} {x y : Operand} {x0 y0 : Int} {x1 y1 : Int} (hx : evE e x = some (.one (.agg [.int .i64 x0, .int .i64 x1]))) (hy : evE e y = some (.one (.agg [.int .i64 y0, .int .i64 y1]))) (k : K (vB (((x0 == y0) && (x1 == y1)))) H) : OpW Try.prog X q ⟨d, .binOp .eql 139 x y ty', ty, pos, af, g⟩ e H K :=
  op_binA hx hy rfl rfl (by kernel_rfl) (eql_of rfl fun n => eqIn_139 x0 y0 x1 y1 (n + 2)) rfl k
theorem op_nes_139 {q : Bool} {d : Option Nat} {ty : Nat} {pos : String} {af : Array Edge} {g : Option (Nat × Bool)} {e : Env} {H : Hyp} {K : V → Hyp → Prop} {X : Spec} {ty' : Nat} {x y : Operand} {x0 y0 : Int} {x1 y1 : Int} (hx : evE e x = some (.one (.agg [.int .i64 x0, .int .i64 x1]))) (hy : evE e y = some (.one (.agg [.int .i64 y0, .int .i64 y1]))) (k : K (vB (!((x0 == y0) && (x1 == y1)))) H) : OpW Try.prog X q ⟨d, .binOp .neq 139 x y ty', ty, pos, af, g⟩ e H K :=
  op_binA hx hy rfl rfl (by kernel_rfl) (neq_of rfl fun n => eqIn_139 x0 y0 x1 y1 (n + 2)) rfl k
theorem bld_139 (ps : List (Nat × V1)) : buildT Try.prog 139 ps = fillA (fun i => ([(0, 1), (1, 1)] : List (Nat × Nat))[i]?) [.int .i64 0, .int .i64 0] ps := by kernel_rfl
theorem agg_140 : aggT Try.prog 140 = some false := by kernel_rfl
theorem siz_140 : sizeT Try.prog 140 = some 1 := by kernel_rfl
theorem zer_140 : zeroT Try.prog 140 = some [.nilf] := by kernel_rfl
theorem agg_141 : aggT Try.prog 141 = some false := by kernel_rfl
theorem siz_141 : sizeT Try.prog 141 = some 1 := by kernel_rfl
theorem zer_141 : zeroT Try.prog 141 = some [.int .u32 0] := by kernel_rfl
theorem und_141 : Try.prog.underlying 141 = some (.int .u32) := by kernel_rfl
theorem agg_142 : aggT Try.prog 142 = some false := by kernel_rfl
theorem siz_142 : sizeT Try.prog 142 = some 1 := by kernel_rfl
theorem zer_142 : zeroT Try.prog 142 = some [.nilf] := by kernel_rfl
theorem agg_143 : aggT Try.prog 143 = some false := by kernel_rfl
theorem siz_143 : sizeT Try.prog 143 = some 1 := by kernel_rfl
theorem zer_143 : zeroT Try.prog 143 = some [.nils] := by kernel_rfl
theorem und_143 : Try.prog.underlying 143 = some (.slice 105) := by kernel_rfl
theorem elm_143 : elemT Try.prog 143 = some 105 := by kernel_rfl
theorem bsl_143 (len : Nat) (ps : List (Nat × V1)) (cs : List Cell) (h : seqParts 4 0 ps = some cs) (hl : ps.length = len) (hs : len * 4 ≤ 16777216) : buildSliceT Try.prog 143 len ps = some (105, 4, cs) := by
  have e1 : elemT Try.prog 143 = some 105 := by kernel_rfl
  have e2 : sizeT Try.prog 105 = some 4 := by kernel_rfl
  have e3 : zeroT Try.prog 105 = some [.int .i64 0, .int .i64 0, .str ⟨#[]⟩, .str ⟨#[]⟩] := by kernel_rfl
  unfold buildSliceT; simp only [e1, e2, e3, h]; rw [if_pos ⟨hs, rfl, by decide⟩, if_pos hl]
theorem agg_144 : aggT Try.prog 144 = some false := by kernel_rfl
theorem siz_144 : sizeT Try.prog 144 = some 1 := by kernel_rfl
theorem zer_144 : zeroT Try.prog 144 = some [.nilf] := by kernel_rfl
theorem agg_145 : aggT Try.prog 145 = some false := by kernel_rfl
theorem siz_145 : sizeT Try.prog 145 = some 1 := by kernel_rfl
theorem zer_145 : zeroT Try.prog 145 = some [.nilf] := by kernel_rfl
theorem agg_147 : aggT Try.prog 147 = some false := by kernel_rfl
theorem siz_147 : sizeT Try.prog 147 = some 1 := by kernel_rfl
theorem zer_147 : zeroT Try.prog 147 = some [.nilf] := by kernel_rfl
theorem agg_148 : aggT Try.prog 148 = some false := by kernel_rfl
theorem siz_148 : sizeT Try.prog 148 = some 1 := by kernel_rfl
theorem zer_148 : zeroT Try.prog 148 = some [.nilf] := by kernel_rfl
theorem agg_149 : aggT Try.prog 149 = some false := by kernel_rfl
theorem siz_149 : sizeT Try.prog 149 = some 1 := by kernel_rfl
theorem zer_149 : zeroT Try.prog 149 = some [.int .u64 0] := by kernel_rfl
theorem und_149 : Try.prog.underlying 149 = some (.int .u64) := by kernel_rfl
theorem agg_150 : aggT Try.prog 150 = some false := by kernel_rfl
theorem siz_150 : sizeT Try.prog 150 = some 1 := by kernel_rfl
theorem zer_150 : zeroT Try.prog 150 = some [.nilf] := by kernel_rfl
theorem agg_151 : aggT Try.prog 151 = some false := by kernel_rfl
theorem siz_151 : sizeT Try.prog 151 = some 1 := by kernel_rfl
theorem zer_151 : zeroT Try.prog 151 = some [.nilf] := by kernel_rfl
theorem agg_160 : aggT Try.prog 160 = some false := by kernel_rfl
theorem siz_160 : sizeT Try.prog 160 = some 1 := by kernel_rfl
theorem zer_160 : zeroT Try.prog 160 = some [.nilp] := by kernel_rfl
theorem und_160 : Try.prog.underlying 160 = some (.pointer 5) := by kernel_rfl
theorem agg_163 : aggT Try.prog 163 = some true := by kernel_rfl
theorem siz_163 : sizeT Try.prog 163 = some 11 := by kernel_rfl
theorem zer_163 : zeroT Try.prog 163 = some [.int .u64 0, .int .u64 0, .int .u32 0, .int .u8 0, .int .u8 0, .int .u8 0, .int .u8 0, .nilf, .nilp, .int .i32 0, .int .i32 0] := by kernel_rfl
theorem fa_163_0 : faT Try.prog 163 0 = some 0 := by kernel_rfl
theorem fld_163_0 (cs : List Cell) : fieldT Try.prog 163 0 cs = (cs[0]?).map fun c => .one (.c c) := by kernel_rfl
theorem fa_163_1 : faT Try.prog 163 1 = some 1 := by kernel_rfl
theorem fld_163_1 (cs : List Cell) : fieldT Try.prog 163 1 cs = (cs[1]?).map fun c => .one (.c c) := by kernel_rfl
theorem fa_163_2 : faT Try.prog 163 2 = some 2 := by kernel_rfl
theorem fld_163_2 (cs : List Cell) : fieldT Try.prog 163 2 cs = (cs[2]?).map fun c => .one (.c c) := by kernel_rfl
theorem fa_163_3 : faT Try.prog 163 3 = some 3 := by kernel_rfl
theorem fld_163_3 (cs : List Cell) : fieldT Try.prog 163 3 cs = (cs[3]?).map fun c => .one (.c c) := by kernel_rfl
theorem fa_163_4 : faT Try.prog 163 4 = some 4 := by kernel_rfl
theorem fld_163_4 (cs : List Cell) : fieldT Try.prog 163 4 cs = (cs[4]?).map fun c => .one (.c c) := by kernel_rfl
theorem fa_163_5 : faT Try.prog 163 5 = some 5 := by kernel_rfl
theorem fld_163_5 (cs : List Cell) : fieldT Try.prog 163 5 cs = (cs[5]?).map fun c => .one (.c c) := by kernel_rfl
theorem fa_163_6 : faT Try.prog 163 6 = some 6 := by kernel_rfl
theorem fld_163_6 (cs : List Cell) : fieldT Try.prog 163 6 cs = (cs[6]?).map fun c => .one (.c c) := by kernel_rfl
theorem fa_163_7 : faT Try.prog 163 7 = some 7 := by kernel_rfl
theorem fld_163_7 (cs : List Cell) : fieldT Try.prog 163 7 cs = (cs[7]?).map fun c => .one (.c c) := by kernel_rfl
theorem fa_163_8 : faT Try.prog 163 8 = some 8 := by kernel_rfl
theorem fld_163_8 (cs : List Cell) : fieldT Try.prog 163 8 cs = (cs[8]?).map fun c => .one (.c c) := by kernel_rfl
theorem fa_163_9 : faT Try.prog 163 9 = some 9 := by kernel_rfl
theorem fld_163_9 (cs : List Cell) : fieldT Try.prog 163 9 cs = (cs[9]?).map fun c => .one (.c c) := by kernel_rfl
theorem fa_163_10 : faT Try.prog 163 10 = some 10 := by kernel_rfl
theorem fld_163_10 (cs : List Cell) : fieldT Try.prog 163 10 cs = (cs[10]?).map fun c => .one (.c c) := by kernel_rfl
theorem bld_163 (ps : List (Nat × V1)) : buildT Try.prog 163 ps = fillA (fun i => ([(0, 1), (1, 1), (2, 1), (3, 1), (4, 1), (5, 1), (6, 1), (7, 1), (8, 1), (9, 1), (10, 1)] : List (Nat × Nat))[i]?) [.int .u64 0, .int .u64 0, .int .u32 0, .int .u8 0, .int .u8 0, .int .u8 0, .int .u8 0, .nilf, .nilp, .int .i32 0, .int .i32 0] ps := by kernel_rfl
theorem inf_1 : ∃ i, Try.prog.info? 1 = some i ∧ i.size = 1 ∧ i.bytes = 8 := ⟨_, rfl, by kernel_rfl, by kernel_rfl⟩
theorem inf_2 : ∃ i, Try.prog.info? 2 = some i ∧ i.size = 1 ∧ i.bytes = 8 := ⟨_, rfl, by kernel_rfl, by kernel_rfl⟩
theorem inf_3 : ∃ i, Try.prog.info? 3 = some i ∧ i.size = 1 ∧ i.bytes = 8 := ⟨_, rfl, by kernel_rfl, by kernel_rfl⟩
theorem inf_4 : ∃ i, Try.prog.info? 4 = some i ∧ i.size = 1 ∧ i.bytes = 1 := ⟨_, rfl, by kernel_rfl, by kernel_rfl⟩
theorem inf_5 : ∃ i, Try.prog.info? 5 = some i ∧ i.size = 1 ∧ i.bytes = 1 := ⟨_, rfl, by kernel_rfl, by kernel_rfl⟩
theorem inf_9 : ∃ i, Try.prog.info? 9 = some i ∧ i.size = 1 ∧ i.bytes = 16 := ⟨_, rfl, by kernel_rfl, by kernel_rfl⟩
theorem inf_12 : ∃ i, Try.prog.info? 12 = some i ∧ i.size = 1 ∧ i.bytes = 8 := ⟨_, rfl, by kernel_rfl, by kernel_rfl⟩
theorem inf_21 : ∃ i, Try.prog.info? 21 = some i ∧ i.size = 1 ∧ i.bytes = 4 := ⟨_, rfl, by kernel_rfl, by kernel_rfl⟩
theorem inf_22 : ∃ i, Try.prog.info? 22 = some i ∧ i.size = 1 ∧ i.bytes = 24 := ⟨_, rfl, by kernel_rfl, by kernel_rfl⟩
theorem inf_23 : ∃ i, Try.prog.info? 23 = some i ∧ i.size = 1 ∧ i.bytes = 24 := ⟨_, rfl, by kernel_rfl, by kernel_rfl⟩
theorem inf_24 : ∃ i, Try.prog.info? 24 = some i ∧ i.size = 1 ∧ i.bytes = 8 := ⟨_, rfl, by kernel_rfl, by kernel_rfl⟩
theorem inf_25 : ∃ i, Try.prog.info? 25 = some i ∧ i.size = 1 ∧ i.bytes = 8 := ⟨_, rfl, by kernel_rfl, by kernel_rfl⟩
theorem inf_26 : ∃ i, Try.prog.info? 26 = some i ∧ i.size = 1 ∧ i.bytes = 8 := ⟨_, rfl, by kernel_rfl, by kernel_rfl⟩
theorem inf_28 : ∃ i, Try.prog.info? 28 = some i ∧ i.size = 1 ∧ i.bytes = 8 := ⟨_, rfl, by kernel_rfl, by kernel_rfl⟩
theorem inf_29 : ∃ i, Try.prog.info? 29 = some i ∧ i.size = 1 ∧ i.bytes = 24 := ⟨_, rfl, by kernel_rfl, by kernel_rfl⟩
theorem inf_30 : ∃ i, Try.prog.info? 30 = some i ∧ i.size = 1 ∧ i.bytes = 8 := ⟨_, rfl, by kernel_rfl, by kernel_rfl⟩
theorem inf_31 : ∃ i, Try.prog.info? 31 = some i ∧ i.size = 1 ∧ i.bytes = 8 := ⟨_, rfl, by kernel_rfl, by kernel_rfl⟩
theorem inf_32 : ∃ i, Try.prog.info? 32 = some i ∧ i.size = 1 ∧ i.bytes = 8 := ⟨_, rfl, by kernel_rfl, by kernel_rfl⟩
theorem inf_33 : ∃ i, Try.prog.info? 33 = some i ∧ i.size = 1 ∧ i.bytes = 8 := ⟨_, rfl, by kernel_rfl, by kernel_rfl⟩
theorem inf_34 : ∃ i, Try.prog.info? 34 = some i ∧ i.size = 1 ∧ i.bytes = 8 := ⟨_, rfl, by kernel_rfl, by kernel_rfl⟩
theorem inf_35 : ∃ i, Try.prog.info? 35 = some i ∧ i.size = 2 ∧ i.bytes = 16 := ⟨_, rfl, by kernel_rfl, by kernel_rfl⟩
theorem inf_36 : ∃ i, Try.prog.info? 36 = some i ∧ i.size = 2 ∧ i.bytes = 16 := ⟨_, rfl, by kernel_rfl, by kernel_rfl⟩
theorem inf_37 : ∃ i, Try.prog.info? 37 = some i ∧ i.size = 1 ∧ i.bytes = 24 := ⟨_, rfl, by kernel_rfl, by kernel_rfl⟩
theorem inf_38 : ∃ i, Try.prog.info? 38 = some i ∧ i.size = 1 ∧ i.bytes = 8 := ⟨_, rfl, by kernel_rfl, by kernel_rfl⟩
theorem inf_39 : ∃ i, Try.prog.info? 39 = some i ∧ i.size = 1 ∧ i.bytes = 8 := ⟨_, rfl, by kernel_rfl, by kernel_rfl⟩
theorem inf_40 : ∃ i, Try.prog.info? 40 = some i ∧ i.size = 1 ∧ i.bytes = 8 := ⟨_, rfl, by kernel_rfl, by kernel_rfl⟩
theorem inf_41 : ∃ i, Try.prog.info? 41 = some i ∧ i.size = 1 ∧ i.bytes = 8 := ⟨_, rfl, by kernel_rfl, by kernel_rfl⟩
theorem inf_42 : ∃ i, Try.prog.info? 42 = some i ∧ i.size = 1 ∧ i.bytes = 8 := ⟨_, rfl, by kernel_rfl, by kernel_rfl⟩
theorem inf_43 : ∃ i, Try.prog.info? 43 = some i ∧ i.size = 1 ∧ i.bytes = 8 := ⟨_, rfl, by kernel_rfl, by kernel_rfl⟩
theorem inf_44 : ∃ i, Try.prog.info? 44 = some i ∧ i.size = 1 ∧ i.bytes = 8 := ⟨_, rfl, by kernel_rfl, by kernel_rfl⟩
theorem inf_45 : ∃ i, Try.prog.info? 45 = some i ∧ i.size = 1 ∧ i.bytes = 8 := ⟨_, rfl, by kernel_rfl, by kernel_rfl⟩
theorem inf_46 : ∃ i, Try.prog.info? 46 = some i ∧ i.size = 1 ∧ i.bytes = 8 := ⟨_, rfl, by kernel_rfl, by kernel_rfl⟩
theorem inf_48 : ∃ i, Try.prog.info? 48 = some i ∧ i.size = 1 ∧ i.bytes = 8 := ⟨_, rfl, by kernel_rfl, by kernel_rfl⟩
theorem inf_49 : ∃ i, Try.prog.info? 49 = some i ∧ i.size = 1 ∧ i.bytes = 8 := ⟨_, rfl, by kernel_rfl, by kernel_rfl⟩
theorem inf_50 : ∃ i, Try.prog.info? 50 = some i ∧ i.size = 1 ∧ i.bytes = 8 := ⟨_, rfl, by kernel_rfl, by kernel_rfl⟩
theorem inf_51 : ∃ i, Try.prog.info? 51 = some i ∧ i.size = 1 ∧ i.bytes = 8 := ⟨_, rfl, by kernel_rfl, by kernel_rfl⟩
theorem inf_52 : ∃ i, Try.prog.info? 52 = some i ∧ i.size = 1 ∧ i.bytes = 24 := ⟨_, rfl, by kernel_rfl, by kernel_rfl⟩
theorem inf_53 : ∃ i, Try.prog.info? 53 = some i ∧ i.size = 1 ∧ i.bytes = 8 := ⟨_, rfl, by kernel_rfl, by kernel_rfl⟩
theorem inf_54 : ∃ i, Try.prog.info? 54 = some i ∧ i.size = 1 ∧ i.bytes = 8 := ⟨_, rfl, by kernel_rfl, by kernel_rfl⟩
theorem inf_56 : ∃ i, Try.prog.info? 56 = some i ∧ i.size = 1 ∧ i.bytes = 8 := ⟨_, rfl, by kernel_rfl, by kernel_rfl⟩
theorem inf_57 : ∃ i, Try.prog.info? 57 = some i ∧ i.size = 1 ∧ i.bytes = 8 := ⟨_, rfl, by kernel_rfl, by kernel_rfl⟩
theorem inf_58 : ∃ i, Try.prog.info? 58 = some i ∧ i.size = 1 ∧ i.bytes = 8 := ⟨_, rfl, by kernel_rfl, by kernel_rfl⟩
theorem inf_59 : ∃ i, Try.prog.info? 59 = some i ∧ i.size = 1 ∧ i.bytes = 8 := ⟨_, rfl, by kernel_rfl, by kernel_rfl⟩
theorem inf_60 : ∃ i, Try.prog.info? 60 = some i ∧ i.size = 1 ∧ i.bytes = 8 := ⟨_, rfl, by kernel_rfl, by kernel_rfl⟩
theorem inf_61 : ∃ i, Try.prog.info? 61 = some i ∧ i.size = 1 ∧ i.bytes = 8 := ⟨_, rfl, by kernel_rfl, by kernel_rfl⟩
theorem inf_62 : ∃ i, Try.prog.info? 62 = some i ∧ i.size = 1 ∧ i.bytes = 8 := ⟨_, rfl, by kernel_rfl, by kernel_rfl⟩
theorem inf_63 : ∃ i, Try.prog.info? 63 = some i ∧ i.size = 1 ∧ i.bytes = 8 := ⟨_, rfl, by kernel_rfl, by kernel_rfl⟩
theorem inf_64 : ∃ i, Try.prog.info? 64 = some i ∧ i.size = 4 ∧ i.bytes = 40 := ⟨_, rfl, by kernel_rfl, by kernel_rfl⟩
theorem inf_65 : ∃ i, Try.prog.info? 65 = some i ∧ i.size = 4 ∧ i.bytes = 40 := ⟨_, rfl, by kernel_rfl, by kernel_rfl⟩
theorem inf_67 : ∃ i, Try.prog.info? 67 = some i ∧ i.size = 1 ∧ i.bytes = 8 := ⟨_, rfl, by kernel_rfl, by kernel_rfl⟩
theorem inf_69 : ∃ i, Try.prog.info? 69 = some i ∧ i.size = 1 ∧ i.bytes = 8 := ⟨_, rfl, by kernel_rfl, by kernel_rfl⟩
theorem inf_70 : ∃ i, Try.prog.info? 70 = some i ∧ i.size = 1 ∧ i.bytes = 8 := ⟨_, rfl, by kernel_rfl, by kernel_rfl⟩
theorem inf_71 : ∃ i, Try.prog.info? 71 = some i ∧ i.size = 1 ∧ i.bytes = 8 := ⟨_, rfl, by kernel_rfl, by kernel_rfl⟩
theorem inf_72 : ∃ i, Try.prog.info? 72 = some i ∧ i.size = 1 ∧ i.bytes = 8 := ⟨_, rfl, by kernel_rfl, by kernel_rfl⟩
theorem inf_74 : ∃ i, Try.prog.info? 74 = some i ∧ i.size = 1 ∧ i.bytes = 8 := ⟨_, rfl, by kernel_rfl, by kernel_rfl⟩
theorem inf_75 : ∃ i, Try.prog.info? 75 = some i ∧ i.size = 1 ∧ i.bytes = 8 := ⟨_, rfl, by kernel_rfl, by kernel_rfl⟩
theorem inf_76 : ∃ i, Try.prog.info? 76 = some i ∧ i.size = 1 ∧ i.bytes = 8 := ⟨_, rfl, by kernel_rfl, by kernel_rfl⟩
theorem inf_77 : ∃ i, Try.prog.info? 77 = some i ∧ i.size = 1 ∧ i.bytes = 8 := ⟨_, rfl, by kernel_rfl, by kernel_rfl⟩
theorem inf_78 : ∃ i, Try.prog.info? 78 = some i ∧ i.size = 1 ∧ i.bytes = 8 := ⟨_, rfl, by kernel_rfl, by kernel_rfl⟩
theorem inf_79 : ∃ i, Try.prog.info? 79 = some i ∧ i.size = 1 ∧ i.bytes = 8 := ⟨_, rfl, by kernel_rfl, by kernel_rfl⟩
theorem inf_80 : ∃ i, Try.prog.info? 80 = some i ∧ i.size = 1 ∧ i.bytes = 8 := ⟨_, rfl, by kernel_rfl, by kernel_rfl⟩
theorem inf_81 : ∃ i, Try.prog.info? 81 = some i ∧ i.size = 1 ∧ i.bytes = 8 := ⟨_, rfl, by kernel_rfl, by kernel_rfl⟩
theorem inf_82 : ∃ i, Try.prog.info? 82 = some i ∧ i.size = 5 ∧ i.bytes = 40 := ⟨_, rfl, by kernel_rfl, by kernel_rfl⟩
theorem inf_83 : ∃ i, Try.prog.info? 83 = some i ∧ i.size = 5 ∧ i.bytes = 40 := ⟨_, rfl, by kernel_rfl, by kernel_rfl⟩
theorem inf_84 : ∃ i, Try.prog.info? 84 = some i ∧ i.size = 1 ∧ i.bytes = 8 := ⟨_, rfl, by kernel_rfl, by kernel_rfl⟩
theorem inf_85 : ∃ i, Try.prog.info? 85 = some i ∧ i.size = 1 ∧ i.bytes = 8 := ⟨_, rfl, by kernel_rfl, by kernel_rfl⟩
theorem inf_86 : ∃ i, Try.prog.info? 86 = some i ∧ i.size = 5 ∧ i.bytes = 40 := ⟨_, rfl, by kernel_rfl, by kernel_rfl⟩
theorem inf_87 : ∃ i, Try.prog.info? 87 = some i ∧ i.size = 5 ∧ i.bytes = 40 := ⟨_, rfl, by kernel_rfl, by kernel_rfl⟩
theorem inf_88 : ∃ i, Try.prog.info? 88 = some i ∧ i.size = 1 ∧ i.bytes = 8 := ⟨_, rfl, by kernel_rfl, by kernel_rfl⟩
theorem inf_89 : ∃ i, Try.prog.info? 89 = some i ∧ i.size = 1 ∧ i.bytes = 8 := ⟨_, rfl, by kernel_rfl, by kernel_rfl⟩
theorem inf_90 : ∃ i, Try.prog.info? 90 = some i ∧ i.size = 1 ∧ i.bytes = 8 := ⟨_, rfl, by kernel_rfl, by kernel_rfl⟩
theorem inf_91 : ∃ i, Try.prog.info? 91 = some i ∧ i.size = 1 ∧ i.bytes = 8 := ⟨_, rfl, by kernel_rfl, by kernel_rfl⟩
theorem inf_92 : ∃ i, Try.prog.info? 92 = some i ∧ i.size = 1 ∧ i.bytes = 8 := ⟨_, rfl, by kernel_rfl, by kernel_rfl⟩
theorem inf_94 : ∃ i, Try.prog.info? 94 = some i ∧ i.size = 1 ∧ i.bytes = 8 := ⟨_, rfl, by kernel_rfl, by kernel_rfl⟩
theorem inf_95 : ∃ i, Try.prog.info? 95 = some i ∧ i.size = 1 ∧ i.bytes = 8 := ⟨_, rfl, by kernel_rfl, by kernel_rfl⟩
theorem inf_96 : ∃ i, Try.prog.info? 96 = some i ∧ i.size = 1 ∧ i.bytes = 8 := ⟨_, rfl, by kernel_rfl, by kernel_rfl⟩
theorem inf_97 : ∃ i, Try.prog.info? 97 = some i ∧ i.size = 1 ∧ i.bytes = 8 := ⟨_, rfl, by kernel_rfl, by kernel_rfl⟩
theorem inf_98 : ∃ i, Try.prog.info? 98 = some i ∧ i.size = 5 ∧ i.bytes = 72 := ⟨_, rfl, by kernel_rfl, by kernel_rfl⟩
theorem inf_99 : ∃ i, Try.prog.info? 99 = some i ∧ i.size = 5 ∧ i.bytes = 72 := ⟨_, rfl, by kernel_rfl, by kernel_rfl⟩
theorem inf_100 : ∃ i, Try.prog.info? 100 = some i ∧ i.size = 1 ∧ i.bytes = 8 := ⟨_, rfl, by kernel_rfl, by kernel_rfl⟩
theorem inf_101 : ∃ i, Try.prog.info? 101 = some i ∧ i.size = 1 ∧ i.bytes = 8 := ⟨_, rfl, by kernel_rfl, by kernel_rfl⟩
theorem inf_102 : ∃ i, Try.prog.info? 102 = some i ∧ i.size = 1 ∧ i.bytes = 8 := ⟨_, rfl, by kernel_rfl, by kernel_rfl⟩
theorem inf_103 : ∃ i, Try.prog.info? 103 = some i ∧ i.size = 1 ∧ i.bytes = 8 := ⟨_, rfl, by kernel_rfl, by kernel_rfl⟩
theorem inf_104 : ∃ i, Try.prog.info? 104 = some i ∧ i.size = 4 ∧ i.bytes = 48 := ⟨_, rfl, by kernel_rfl, by kernel_rfl⟩
theorem inf_105 : ∃ i, Try.prog.info? 105 = some i ∧ i.size = 4 ∧ i.bytes = 48 := ⟨_, rfl, by kernel_rfl, by kernel_rfl⟩
theorem inf_107 : ∃ i, Try.prog.info? 107 = some i ∧ i.size = 1 ∧ i.bytes = 8 := ⟨_, rfl, by kernel_rfl, by kernel_rfl⟩
theorem inf_108 : ∃ i, Try.prog.info? 108 = some i ∧ i.size = 1 ∧ i.bytes = 8 := ⟨_, rfl, by kernel_rfl, by kernel_rfl⟩
theorem inf_109 : ∃ i, Try.prog.info? 109 = some i ∧ i.size = 1 ∧ i.bytes = 24 := ⟨_, rfl, by kernel_rfl, by kernel_rfl⟩
theorem inf_110 : ∃ i, Try.prog.info? 110 = some i ∧ i.size = 1 ∧ i.bytes = 8 := ⟨_, rfl, by kernel_rfl, by kernel_rfl⟩
theorem inf_111 : ∃ i, Try.prog.info? 111 = some i ∧ i.size = 1 ∧ i.bytes = 8 := ⟨_, rfl, by kernel_rfl, by kernel_rfl⟩
theorem inf_112 : ∃ i, Try.prog.info? 112 = some i ∧ i.size = 1 ∧ i.bytes = 8 := ⟨_, rfl, by kernel_rfl, by kernel_rfl⟩
theorem inf_113 : ∃ i, Try.prog.info? 113 = some i ∧ i.size = 1 ∧ i.bytes = 8 := ⟨_, rfl, by kernel_rfl, by kernel_rfl⟩
theorem inf_114 : ∃ i, Try.prog.info? 114 = some i ∧ i.size = 1 ∧ i.bytes = 24 := ⟨_, rfl, by kernel_rfl, by kernel_rfl⟩
theorem inf_115 : ∃ i, Try.prog.info? 115 = some i ∧ i.size = 1 ∧ i.bytes = 8 := ⟨_, rfl, by kernel_rfl, by kernel_rfl⟩
theorem inf_116 : ∃ i, Try.prog.info? 116 = some i ∧ i.size = 1 ∧ i.bytes = 8 := ⟨_, rfl, by kernel_rfl, by kernel_rfl⟩
theorem inf_117 : ∃ i, Try.prog.info? 117 = some i ∧ i.size = 1 ∧ i.bytes = 8 := ⟨_, rfl, by kernel_rfl, by kernel_rfl⟩
theorem inf_118 : ∃ i, Try.prog.info? 118 = some i ∧ i.size = 1 ∧ i.bytes = 8 := ⟨_, rfl, by kernel_rfl, by kernel_rfl⟩
theorem inf_119 : ∃ i, Try.prog.info? 119 = some i ∧ i.size = 1 ∧ i.bytes = 8 := ⟨_, rfl, by kernel_rfl, by kernel_rfl⟩
theorem inf_120 : ∃ i, Try.prog.info? 120 = some i ∧ i.size = 1 ∧ i.bytes = 8 := ⟨_, rfl, by kernel_rfl, by kernel_rfl⟩
theorem inf_121 : ∃ i, Try.prog.info? 121 = some i ∧ i.size = 1 ∧ i.bytes = 8 := ⟨_, rfl, by kernel_rfl, by kernel_rfl⟩
theorem inf_122 : ∃ i, Try.prog.info? 122 = some i ∧ i.size = 1 ∧ i.bytes = 8 := ⟨_, rfl, by kernel_rfl, by kernel_rfl⟩
theorem inf_123 : ∃ i, Try.prog.info? 123 = some i ∧ i.size = 1 ∧ i.bytes = 8 := ⟨_, rfl, by kernel_rfl, by kernel_rfl⟩
theorem inf_125 : ∃ i, Try.prog.info? 125 = some i ∧ i.size = 1 ∧ i.bytes = 8 := ⟨_, rfl, by kernel_rfl, by kernel_rfl⟩
theorem inf_126 : ∃ i, Try.prog.info? 126 = some i ∧ i.size = 1 ∧ i.bytes = 8 := ⟨_, rfl, by kernel_rfl, by kernel_rfl⟩
theorem inf_128 : ∃ i, Try.prog.info? 128 = some i ∧ i.size = 1 ∧ i.bytes = 8 := ⟨_, rfl, by kernel_rfl, by kernel_rfl⟩
theorem inf_129 : ∃ i, Try.prog.info? 129 = some i ∧ i.size = 1 ∧ i.bytes = 8 := ⟨_, rfl, by kernel_rfl, by kernel_rfl⟩
theorem inf_130 : ∃ i, Try.prog.info? 130 = some i ∧ i.size = 1 ∧ i.bytes = 8 := ⟨_, rfl, by kernel_rfl, by kernel_rfl⟩
theorem inf_131 : ∃ i, Try.prog.info? 131 = some i ∧ i.size = 1 ∧ i.bytes = 8 := ⟨_, rfl, by kernel_rfl, by kernel_rfl⟩
theorem inf_132 : ∃ i, Try.prog.info? 132 = some i ∧ i.size = 3 ∧ i.bytes = 24 := ⟨_, rfl, by kernel_rfl, by kernel_rfl⟩
theorem inf_133 : ∃ i, Try.prog.info? 133 = some i ∧ i.size = 3 ∧ i.bytes = 24 := ⟨_, rfl, by kernel_rfl, by kernel_rfl⟩
theorem inf_134 : ∃ i, Try.prog.info? 134 = some i ∧ i.size = 1 ∧ i.bytes = 8 := ⟨_, rfl, by kernel_rfl, by kernel_rfl⟩
theorem inf_135 : ∃ i, Try.prog.info? 135 = some i ∧ i.size = 1 ∧ i.bytes = 24 := ⟨_, rfl, by kernel_rfl, by kernel_rfl⟩
theorem inf_136 : ∃ i, Try.prog.info? 136 = some i ∧ i.size = 1 ∧ i.bytes = 8 := ⟨_, rfl, by kernel_rfl, by kernel_rfl⟩
theorem inf_137 : ∃ i, Try.prog.info? 137 = some i ∧ i.size = 1 ∧ i.bytes = 8 := ⟨_, rfl, by kernel_rfl, by kernel_rfl⟩
theorem inf_138 : ∃ i, Try.prog.info? 138 = some i ∧ i.size = 2 ∧ i.bytes = 16 := ⟨_, rfl, by kernel_rfl, by kernel_rfl⟩
theorem inf_139 : ∃ i, Try.prog.info? 139 = some i ∧ i.size = 2 ∧ i.bytes = 16 := ⟨_, rfl, by kernel_rfl, by kernel_rfl⟩
theorem inf_140 : ∃ i, Try.prog.info? 140 = some i ∧ i.size = 1 ∧ i.bytes = 8 := ⟨_, rfl, by kernel_rfl, by kernel_rfl⟩
theorem inf_141 : ∃ i, Try.prog.info? 141 = some i ∧ i.size = 1 ∧ i.bytes = 4 := ⟨_, rfl, by kernel_rfl, by kernel_rfl⟩
theorem inf_142 : ∃ i, Try.prog.info? 142 = some i ∧ i.size = 1 ∧ i.bytes = 8 := ⟨_, rfl, by kernel_rfl, by kernel_rfl⟩
theorem inf_143 : ∃ i, Try.prog.info? 143 = some i ∧ i.size = 1 ∧ i.bytes = 24 := ⟨_, rfl, by kernel_rfl, by kernel_rfl⟩
theorem inf_144 : ∃ i, Try.prog.info? 144 = some i ∧ i.size = 1 ∧ i.bytes = 8 := ⟨_, rfl, by kernel_rfl, by kernel_rfl⟩
theorem inf_145 : ∃ i, Try.prog.info? 145 = some i ∧ i.size = 1 ∧ i.bytes = 8 := ⟨_, rfl, by kernel_rfl, by kernel_rfl⟩
theorem inf_147 : ∃ i, Try.prog.info? 147 = some i ∧ i.size = 1 ∧ i.bytes = 8 := ⟨_, rfl, by kernel_rfl, by kernel_rfl⟩
theorem inf_148 : ∃ i, Try.prog.info? 148 = some i ∧ i.size = 1 ∧ i.bytes = 8 := ⟨_, rfl, by kernel_rfl, by kernel_rfl⟩
theorem inf_149 : ∃ i, Try.prog.info? 149 = some i ∧ i.size = 1 ∧ i.bytes = 8 := ⟨_, rfl, by kernel_rfl, by kernel_rfl⟩
theorem inf_150 : ∃ i, Try.prog.info? 150 = some i ∧ i.size = 1 ∧ i.bytes = 8 := ⟨_, rfl, by kernel_rfl, by kernel_rfl⟩
theorem inf_151 : ∃ i, Try.prog.info? 151 = some i ∧ i.size = 1 ∧ i.bytes = 8 := ⟨_, rfl, by kernel_rfl, by kernel_rfl⟩
theorem inf_160 : ∃ i, Try.prog.info? 160 = some i ∧ i.size = 1 ∧ i.bytes = 8 := ⟨_, rfl, by kernel_rfl, by kernel_rfl⟩
theorem inf_163 : ∃ i, Try.prog.info? 163 = some i ∧ i.size = 11 ∧ i.bytes = 48 := ⟨_, rfl, by kernel_rfl, by kernel_rfl⟩
end Go.Proofs.Ytkembaghhahnpaa.AM.B
