/- What is so of the types of this seat's program; printed by a program of this session. -/
import Derived.Test.YtkmdofkajcehpaaProg
import Derived.Test.YtkmdofkajcehpaaAML
import Derived.KernelRfl
set_option linter.unusedVariables false
set_option linter.unusedSimpArgs false
set_option maxRecDepth 10000
set_option maxHeartbeats 4000000
namespace Go.Proofs.Ytkmdofkajcehpaa.AM.B
open Go Go.RowKit
theorem agg_3 : aggT Try.prog 3 = some false := by kernel_rfl
theorem siz_3 : sizeT Try.prog 3 = some 1 := by kernel_rfl
theorem zer_3 : zeroT Try.prog 3 = some [.int .i64 0] := by kernel_rfl
theorem und_3 : Try.prog.underlying 3 = some (.int .i64) := by kernel_rfl
theorem zer_5 : zeroT Try.prog 5 = some [.int .u8 0] := by kernel_rfl
theorem und_5 : Try.prog.underlying 5 = some (.int .u8) := by kernel_rfl
theorem und_9 : Try.prog.underlying 9 = some .string := by kernel_rfl
theorem und_21 : Try.prog.underlying 21 = some (.int .i32) := by kernel_rfl
theorem agg_23 : aggT Try.prog 23 = some true := by kernel_rfl
theorem siz_23 : sizeT Try.prog 23 = some 2 := by kernel_rfl
theorem zer_23 : zeroT Try.prog 23 = some [.int .i64 0, .int .i64 0] := by kernel_rfl
theorem fa_23_0 : faT Try.prog 23 0 = some 0 := by kernel_rfl
theorem fa_23_1 : faT Try.prog 23 1 = some 1 := by kernel_rfl
theorem agg_24 : aggT Try.prog 24 = some false := by kernel_rfl
theorem siz_24 : sizeT Try.prog 24 = some 1 := by kernel_rfl
theorem zer_24 : zeroT Try.prog 24 = some [.nils] := by kernel_rfl
theorem und_24 : Try.prog.underlying 24 = some (.slice 100) := by kernel_rfl
theorem elm_24 : elemT Try.prog 24 = some 100 := by kernel_rfl
theorem bsl_24 (len : Nat) (ps : List (Nat × V1)) (cs : List Cell) (h : seqParts 5 0 ps = some cs) (hl : ps.length = len) (hs : len * 5 ≤ 16777216) : buildSliceT Try.prog 24 len ps = some (100, 5, cs) := by
  have e1 : elemT Try.prog 24 = some 100 := by kernel_rfl
  have e2 : sizeT Try.prog 100 = some 5 := by kernel_rfl
  have e3 : zeroT Try.prog 100 = some [.int .i64 0, .int .i64 0, .int .i64 0, .int .i64 0, .int .i64 0] := by kernel_rfl
  unfold buildSliceT; simp only [e1, e2, e3, h]; rw [if_pos ⟨hs, rfl, by decide⟩, if_pos hl]
theorem und_36 : Try.prog.underlying 36 = some (.slice 23) := by kernel_rfl
theorem elm_36 : elemT Try.prog 36 = some 23 := by kernel_rfl
theorem bsl_36 (len : Nat) (ps : List (Nat × V1)) (cs : List Cell) (h : seqParts 2 0 ps = some cs) (hl : ps.length = len) (hs : len * 2 ≤ 16777216) : buildSliceT Try.prog 36 len ps = some (23, 2, cs) := by
  have e1 : elemT Try.prog 36 = some 23 := by kernel_rfl
  have e2 : sizeT Try.prog 23 = some 2 := by kernel_rfl
  have e3 : zeroT Try.prog 23 = some [.int .i64 0, .int .i64 0] := by kernel_rfl
  unfold buildSliceT; simp only [e1, e2, e3, h]; rw [if_pos ⟨hs, rfl, by decide⟩, if_pos hl]
theorem und_42 : Try.prog.underlying 42 = some (.slice 3) := by kernel_rfl
theorem bsl_42 (len : Nat) (ps : List (Nat × V1)) (cs : List Cell) (h : seqParts 1 0 ps = some cs) (hl : ps.length = len) (hs : len * 1 ≤ 16777216) : buildSliceT Try.prog 42 len ps = some (3, 1, cs) := by
  have e1 : elemT Try.prog 42 = some 3 := by kernel_rfl
  have e2 : sizeT Try.prog 3 = some 1 := by kernel_rfl
  have e3 : zeroT Try.prog 3 = some [.int .i64 0] := by kernel_rfl
  unfold buildSliceT; simp only [e1, e2, e3, h]; rw [if_pos ⟨hs, rfl, by decide⟩, if_pos hl]
theorem agg_100 : aggT Try.prog 100 = some true := by kernel_rfl
theorem siz_100 : sizeT Try.prog 100 = some 5 := by kernel_rfl
theorem zer_100 : zeroT Try.prog 100 = some [.int .i64 0, .int .i64 0, .int .i64 0, .int .i64 0, .int .i64 0] := by kernel_rfl
theorem fa_100_0 : faT Try.prog 100 0 = some 0 := by kernel_rfl
theorem eqIn_100 (x0 y0 : Int) (x1 y1 : Int) (x2 y2 : Int) (x3 y3 : Int) (x4 y4 : Int) (n : Nat) : pure? Try.prog (Op.equalIn (n + 2) 100 (.agg #[.int .i64 x0, .int .i64 x1, .int .i64 x2, .int .i64 x3, .int .i64 x4]) (.agg #[.int .i64 y0, .int .i64 y1, .int .i64 y2, .int .i64 y3, .int .i64 y4])) = some ((x0 == y0) && ((x1 == y1) && ((x2 == y2) && ((x3 == y3) && (x4 == y4))))) := by
  have h := eqIn_struct (P := Try.prog) (n := n + 1) (xs := #[.int .i64 x0, .int .i64 x1, .int .i64 x2, .int .i64 x3, .int .i64 x4]) (ys := #[.int .i64 y0, .int .i64 y1, .int .i64 y2, .int .i64 y3, .int .i64 y4]) (fun f => if f.offset = 0 then (x0 == y0) else if f.offset = 1 then (x1 == y1) else if f.offset = 2 then (x2 == y2) else if f.offset = 3 then (x3 == y3) else if f.offset = 4 then (x4 == y4) else true) Try.underlying100 (by kernel_rfl) (by
    intro f hf
    simp only [List.mem_cons, List.not_mem_nil, or_false] at hf
    rcases hf with rfl | rfl | rfl | rfl | rfl
    · exact ⟨by decide, _, _, pure?_part (by kernel_rfl) rfl, pure?_part (by kernel_rfl) rfl, eqIn_int (by kernel_rfl) n⟩
    · exact ⟨by decide, _, _, pure?_part (by kernel_rfl) rfl, pure?_part (by kernel_rfl) rfl, eqIn_int (by kernel_rfl) n⟩
    · exact ⟨by decide, _, _, pure?_part (by kernel_rfl) rfl, pure?_part (by kernel_rfl) rfl, eqIn_int (by kernel_rfl) n⟩
    · exact ⟨by decide, _, _, pure?_part (by kernel_rfl) rfl, pure?_part (by kernel_rfl) rfl, eqIn_int (by kernel_rfl) n⟩
    · exact ⟨by decide, _, _, pure?_part (by kernel_rfl) rfl, pure?_part (by kernel_rfl) rfl, eqIn_int (by kernel_rfl) n⟩)
  rw [h]; simp
theorem op_nes_100 {q : Bool} {d : Option Nat} {ty : Nat} {pos : String} {af : Array Edge} {g : Option (Nat × Bool)} {e : Env} {H : Hyp} {K : V → Hyp → Prop} {X : Spec} {ty' : Nat} {x y : Operand} {x0 y0 : Int} {x1 y1 : Int} {x2 y2 : Int} {x3 y3 : Int} {x4 y4 : Int} (hx : evE e x = some (.one (.agg [.int .i64 x0, .int .i64 x1, .int .i64 x2, .int .i64 x3, .int .i64 x4]))) (hy : evE e y = some (.one (.agg [.int .i64 y0, .int .i64 y1, .int .i64 y2, .int .i64 y3, .int .i64 y4]))) (k : K (vB (!((x0 == y0) && ((x1 == y1) && ((x2 == y2) && ((x3 == y3) && (x4 == y4))))))) H) : OpW Try.prog X q ⟨d, .binOp .neq 100 x y ty', ty, pos, af, g⟩ e H K :=
  op_binA hx hy rfl rfl (by kernel_rfl) (neq_of rfl fun n => eqIn_100 x0 y0 x1 y1 x2 y2 x3 y3 x4 y4 (n + 2)) rfl k
theorem bld_100 (ps : List (Nat × V1)) : buildT Try.prog 100 ps = fillA (fun i => ([(0, 1), (1, 1), (2, 1), (3, 1), (4, 1)] : List (Nat × Nat))[i]?) [.int .i64 0, .int .i64 0, .int .i64 0, .int .i64 0, .int .i64 0] ps := by kernel_rfl
theorem und_120 : Try.prog.underlying 120 = some (.slice 5) := by kernel_rfl
theorem elm_120 : elemT Try.prog 120 = some 5 := by kernel_rfl
theorem bsl_120 (len : Nat) (ps : List (Nat × V1)) (cs : List Cell) (h : seqParts 1 0 ps = some cs) (hl : ps.length = len) (hs : len * 1 ≤ 16777216) : buildSliceT Try.prog 120 len ps = some (5, 1, cs) := by
  have e1 : elemT Try.prog 120 = some 5 := by kernel_rfl
  have e2 : sizeT Try.prog 5 = some 1 := by kernel_rfl
  have e3 : zeroT Try.prog 5 = some [.int .u8 0] := by kernel_rfl
  unfold buildSliceT; simp only [e1, e2, e3, h]; rw [if_pos ⟨hs, rfl, by decide⟩, if_pos hl]
theorem und_175 : Try.prog.underlying 175 = some (.int .u32) := by kernel_rfl
theorem inf_5 : ∃ i, Try.prog.info? 5 = some i ∧ i.size = 1 ∧ i.bytes = 1 := ⟨_, rfl, by kernel_rfl, by kernel_rfl⟩
theorem inf_23 : ∃ i, Try.prog.info? 23 = some i ∧ i.size = 2 ∧ i.bytes = 16 := ⟨_, rfl, by kernel_rfl, by kernel_rfl⟩
theorem inf_100 : ∃ i, Try.prog.info? 100 = some i ∧ i.size = 5 ∧ i.bytes = 40 := ⟨_, rfl, by kernel_rfl, by kernel_rfl⟩
end Go.Proofs.Ytkmdofkajcehpaa.AM.B
