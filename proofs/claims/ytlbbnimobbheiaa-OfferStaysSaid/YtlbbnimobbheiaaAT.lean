/- What is so of the types of this seat's program; printed by a program of this session. -/
import Derived.Test.YtlbbnimobbheiaaProg
import Derived.Test.YtlbbnimobbheiaaAML
import Derived.KernelRfl
set_option linter.unusedVariables false
set_option linter.unusedSimpArgs false
set_option maxRecDepth 10000
set_option maxHeartbeats 4000000
namespace Go.Proofs.Ytlbbnimobbheiaa.AM.B
open Go Go.RowKit
theorem agg_3 : aggT Try.prog 3 = some false := by kernel_rfl
theorem siz_3 : sizeT Try.prog 3 = some 1 := by kernel_rfl
theorem zer_3 : zeroT Try.prog 3 = some [.int .i64 0] := by kernel_rfl
theorem und_3 : Try.prog.underlying 3 = some (.int .i64) := by kernel_rfl
theorem agg_4 : aggT Try.prog 4 = some false := by kernel_rfl
theorem siz_4 : sizeT Try.prog 4 = some 1 := by kernel_rfl
theorem und_4 : Try.prog.underlying 4 = some .bool := by kernel_rfl
theorem agg_22 : aggT Try.prog 22 = some false := by kernel_rfl
theorem siz_22 : sizeT Try.prog 22 = some 1 := by kernel_rfl
theorem zer_22 : zeroT Try.prog 22 = some [.nils] := by kernel_rfl
theorem und_22 : Try.prog.underlying 22 = some (.slice 47) := by kernel_rfl
theorem elm_22 : elemT Try.prog 22 = some 47 := by kernel_rfl
theorem bsl_22 (len : Nat) (ps : List (Nat × V1)) (cs : List Cell) (h : seqParts 2 0 ps = some cs) (hl : ps.length = len) (hs : len * 2 ≤ 16777216) : buildSliceT Try.prog 22 len ps = some (47, 2, cs) := by
  have e1 : elemT Try.prog 22 = some 47 := by kernel_rfl
  have e2 : sizeT Try.prog 47 = some 2 := by kernel_rfl
  have e3 : zeroT Try.prog 47 = some [.int .i64 0, .int .i64 0] := by kernel_rfl
  unfold buildSliceT; simp only [e1, e2, e3, h]; rw [if_pos ⟨hs, rfl, by decide⟩, if_pos hl]
theorem agg_24 : aggT Try.prog 24 = some true := by kernel_rfl
theorem siz_24 : sizeT Try.prog 24 = some 2 := by kernel_rfl
theorem zer_24 : zeroT Try.prog 24 = some [.nils, .int .i64 0] := by kernel_rfl
theorem fa_24_0 : faT Try.prog 24 0 = some 0 := by kernel_rfl
theorem fld_24_0 (cs : List Cell) : fieldT Try.prog 24 0 cs = (cs[0]?).map fun c => .one (.c c) := by kernel_rfl
theorem fa_24_1 : faT Try.prog 24 1 = some 1 := by kernel_rfl
theorem bld_24 (ps : List (Nat × V1)) : buildT Try.prog 24 ps = fillA (fun i => ([(0, 1), (1, 1)] : List (Nat × Nat))[i]?) [.nils, .int .i64 0] ps := by kernel_rfl
theorem agg_25 : aggT Try.prog 25 = some false := by kernel_rfl
theorem siz_25 : sizeT Try.prog 25 = some 1 := by kernel_rfl
theorem und_25 : Try.prog.underlying 25 = some (.slice 22) := by kernel_rfl
theorem elm_25 : elemT Try.prog 25 = some 22 := by kernel_rfl
theorem bsl_25 (len : Nat) (ps : List (Nat × V1)) (cs : List Cell) (h : seqParts 1 0 ps = some cs) (hl : ps.length = len) (hs : len * 1 ≤ 16777216) : buildSliceT Try.prog 25 len ps = some (22, 1, cs) := by
  have e1 : elemT Try.prog 25 = some 22 := by kernel_rfl
  have e2 : sizeT Try.prog 22 = some 1 := by kernel_rfl
  have e3 : zeroT Try.prog 22 = some [.nils] := by kernel_rfl
  unfold buildSliceT; simp only [e1, e2, e3, h]; rw [if_pos ⟨hs, rfl, by decide⟩, if_pos hl]
theorem und_26 : Try.prog.underlying 26 = some (.slice 4) := by kernel_rfl
theorem und_29 : Try.prog.underlying 29 = some (.pointer 54) := by kernel_rfl
theorem agg_47 : aggT Try.prog 47 = some true := by kernel_rfl
theorem siz_47 : sizeT Try.prog 47 = some 2 := by kernel_rfl
theorem zer_47 : zeroT Try.prog 47 = some [.int .i64 0, .int .i64 0] := by kernel_rfl
theorem fa_47_0 : faT Try.prog 47 0 = some 0 := by kernel_rfl
theorem fa_47_1 : faT Try.prog 47 1 = some 1 := by kernel_rfl
theorem eqIn_47 (x0 y0 : Int) (x1 y1 : Int) (n : Nat) : pure? Try.prog (Op.equalIn (n + 2) 47 (.agg #[.int .i64 x0, .int .i64 x1]) (.agg #[.int .i64 y0, .int .i64 y1])) = some ((x0 == y0) && (x1 == y1)) := by
  have h := eqIn_struct (P := Try.prog) (n := n + 1) (xs := #[.int .i64 x0, .int .i64 x1]) (ys := #[.int .i64 y0, .int .i64 y1]) (fun f => if f.offset = 0 then (x0 == y0) else if f.offset = 1 then (x1 == y1) else true) Try.underlying47 (by kernel_rfl) (by
    intro f hf
    simp only [List.mem_cons, List.not_mem_nil, or_false] at hf
    rcases hf with rfl | rfl
    · exact ⟨by decide, _, _, pure?_part (by kernel_rfl) rfl, pure?_part (by kernel_rfl) rfl, eqIn_int (by kernel_rfl) n⟩
    · exact ⟨by decide, _, _, pure?_part (by kernel_rfl) rfl, pure?_part (by kernel_rfl) rfl, eqIn_int (by kernel_rfl) n⟩)
  rw [h]; simp
theorem op_eqs_47 {q : Bool} {d : Option Nat} {ty : Nat} {pos : String} {af : Array Edge} {g : Option (Nat × Bool)} {e : Env} {H : Hyp} {K : V → Hyp → Prop} {X : Spec} {ty' : Nat} {x y : Operand} {x0 y0 : Int} {x1 y1 : Int} (hx : evE e x = some (.one (.agg [.int .i64 x0, .int .i64 x1]))) (hy : evE e y = some (.one (.agg [.int .i64 y0, .int .i64 y1]))) (k : K (vB (((x0 == y0) && (x1 == y1)))) H) : OpW Try.prog X q ⟨d, .binOp .eql 47 x y ty', ty, pos, af, g⟩ e H K :=
  op_binA hx hy rfl rfl (by kernel_rfl) (eql_of rfl fun n => eqIn_47 x0 y0 x1 y1 (n + 2)) rfl k
theorem op_nes_47 {q : Bool} {d : Option Nat} {ty : Nat} {pos : String} {af : Array Edge} {g : Option (Nat × Bool)} {e : Env} {H : Hyp} {K : V → Hyp → Prop} {X : Spec} {ty' : Nat} {x y : Operand} {x0 y0 : Int} {x1 y1 : Int} (hx : evE e x = some (.one (.agg [.int .i64 x0, .int .i64 x1]))) (hy : evE e y = some (.one (.agg [.int .i64 y0, .int .i64 y1]))) (k : K (vB (!((x0 == y0) && (x1 == y1)))) H) : OpW Try.prog X q ⟨d, .binOp .neq 47 x y ty', ty, pos, af, g⟩ e H K :=
  op_binA hx hy rfl rfl (by kernel_rfl) (neq_of rfl fun n => eqIn_47 x0 y0 x1 y1 (n + 2)) rfl k
theorem bld_47 (ps : List (Nat × V1)) : buildT Try.prog 47 ps = fillA (fun i => ([(0, 1), (1, 1)] : List (Nat × Nat))[i]?) [.int .i64 0, .int .i64 0] ps := by kernel_rfl
theorem fa_54_0 : faT Try.prog 54 0 = some 0 := by kernel_rfl
theorem fa_54_1 : faT Try.prog 54 1 = some 2 := by kernel_rfl
theorem fa_54_2 : faT Try.prog 54 2 = some 3 := by kernel_rfl
theorem fa_54_3 : faT Try.prog 54 3 = some 4 := by kernel_rfl
theorem bld_54 (ps : List (Nat × V1)) : buildT Try.prog 54 ps = fillA (fun i => ([(0, 2), (2, 1), (3, 1), (4, 1)] : List (Nat × Nat))[i]?) [.nils, .int .i64 0, .nils, .nils, .int .i64 0] ps := by kernel_rfl
theorem agg_64 : aggT Try.prog 64 = some false := by kernel_rfl
theorem siz_64 : sizeT Try.prog 64 = some 1 := by kernel_rfl
theorem zer_64 : zeroT Try.prog 64 = some [.nils] := by kernel_rfl
theorem und_64 : Try.prog.underlying 64 = some (.slice 3) := by kernel_rfl
theorem elm_64 : elemT Try.prog 64 = some 3 := by kernel_rfl
theorem bsl_64 (len : Nat) (ps : List (Nat × V1)) (cs : List Cell) (h : seqParts 1 0 ps = some cs) (hl : ps.length = len) (hs : len * 1 ≤ 16777216) : buildSliceT Try.prog 64 len ps = some (3, 1, cs) := by
  have e1 : elemT Try.prog 64 = some 3 := by kernel_rfl
  have e2 : sizeT Try.prog 3 = some 1 := by kernel_rfl
  have e3 : zeroT Try.prog 3 = some [.int .i64 0] := by kernel_rfl
  unfold buildSliceT; simp only [e1, e2, e3, h]; rw [if_pos ⟨hs, rfl, by decide⟩, if_pos hl]
theorem inf_3 : ∃ i, Try.prog.info? 3 = some i ∧ i.size = 1 ∧ i.bytes = 8 := ⟨_, rfl, by kernel_rfl, by kernel_rfl⟩
theorem inf_22 : ∃ i, Try.prog.info? 22 = some i ∧ i.size = 1 ∧ i.bytes = 24 := ⟨_, rfl, by kernel_rfl, by kernel_rfl⟩
theorem inf_47 : ∃ i, Try.prog.info? 47 = some i ∧ i.size = 2 ∧ i.bytes = 16 := ⟨_, rfl, by kernel_rfl, by kernel_rfl⟩
end Go.Proofs.Ytlbbnimobbheiaa.AM.B
