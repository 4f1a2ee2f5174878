/- An offer's small questions, and its hand. -/
import Derived.Test.YtlbbnimobbheiaaAX
import Derived.Test.YtlbbnimobbheiaaBoffer2
set_option linter.unusedVariables false
set_option linter.unusedSimpArgs false
set_option maxRecDepth 10000
set_option maxHeartbeats 4000000
namespace Go.Proofs.Ytlbbnimobbheiaa.AM.B
open Go Go.RowKit
/-- An offer's cells: the line, where, the word, what is offered, the hand. -/
def offRow (cx : Cell) (a : Int) (cw cl : Cell) (hand : Int) : Fact := .row true 54 1 [cx, .int .i64 a, cw, cl, .int .i64 hand]
section
variable {H : Hyp} {K : V → Hyp → Prop} {cx cw cl : Cell} {a hand : Int} {b : Nat} {L : List (List Sign)}
theorem offLen_w (hb : (b, offRow cx a cw cl hand) ∈ H) (hL : KVo H L cl) (k : K (vI (L.length : Nat)) H) : CallW Try.prog Xs 15 [ptrV b 0] H K := by
  obtain ⟨cs, g1, g2, g3⟩ := hL
  unfold offRow at hb
  rw [← g2] at k
  refine call_of (n := 10) (fun _ => rfl) Try.func15 rfl rfl ?_
  refine w_seq ?_
  refine w_region ?_
  refine w_o rfl rfl rfl (op_assign rfl ?_)
  refine w_end ?_
  refine seq_normal ?_
  refine w_seq ?_
  refine w_seq ?_
  refine w_region ?_
  refine w_o rfl rfl rfl (op_move rfl ?_)
  refine w_o rfl rfl rfl (op_nilEq rfl rfl rfl (by simp only [nilKind, und_29]) ?_)
  refine w_end ?_
  refine seq_normal ?_
  refine w_condF rfl ?_
  refine w_skip ?_
  refine seq_normal ?_
  refine w_seq ?_
  refine w_region ?_
  refine w_o rfl rfl rfl (op_move rfl ?_)
  refine w_o rfl rfl rfl (op_nilCheck rfl ?_)
  refine w_o rfl rfl rfl (op_fieldAddr fa_54_2 rfl ?_)
  refine w_o rfl rfl rfl (op_loadF agg_25 rfl el_ rfl ?_)
  refine w_o rfl rfl rfl (op_lenC und_25 rfl g1.lenC ?_)
  refine w_o rfl rfl rfl (op_assign rfl ?_)
  refine w_end ?_
  refine seq_normal ?_
  refine w_ret ?_
  exact ret_ret rfl sel_ k
theorem offHand_w (hb : (b, offRow cx a cw cl hand) ∈ H) (k : K (vI hand) H) : CallW Try.prog Xs 16 [ptrV b 0] H K := by
  unfold offRow at hb
  refine call_of (n := 9) (fun _ => rfl) Try.func16 rfl rfl ?_
  refine w_seq ?_
  refine w_region ?_
  refine w_o rfl rfl rfl (op_assign rfl ?_)
  refine w_end ?_
  refine seq_normal ?_
  refine w_seq ?_
  refine w_seq ?_
  refine w_region ?_
  refine w_o rfl rfl rfl (op_move rfl ?_)
  refine w_o rfl rfl rfl (op_nilEq rfl rfl rfl (by simp only [nilKind, und_29]) ?_)
  refine w_end ?_
  refine seq_normal ?_
  refine w_condF rfl ?_
  refine w_skip ?_
  refine seq_normal ?_
  refine w_seq ?_
  refine w_region ?_
  refine w_o rfl rfl rfl (op_move rfl ?_)
  refine w_o rfl rfl rfl (op_nilCheck rfl ?_)
  refine w_o rfl rfl rfl (op_fieldAddr fa_54_3 rfl ?_)
  refine w_o rfl rfl rfl (op_loadF agg_3 rfl el_ rfl ?_)
  refine w_o rfl rfl rfl (op_assign rfl ?_)
  refine w_end ?_
  refine seq_normal ?_
  refine w_ret ?_
  exact ret_ret rfl sel_ k
/-- The hand, one further: by so many (1, or -1), of so many. -/
def turnV (n : Nat) (hand by_ : Int) : Int := (hand + 1 + by_ + ((n : Int) + 1)).tmod ((n : Int) + 1) - 1
theorem turn_w {by_ : Int} (hL : KVo H L cl) (hl : L.length ≤ 1000) (hh : -1 ≤ hand ∧ hand ≤ 1000) (hby : -1 ≤ by_ ∧ by_ ≤ 1) (k : K (vB true) ((b, offRow cx a cw cl (turnV L.length hand by_)) :: H)) : CallW Try.prog Xs 38 [ptrV b 0, vI by_] ((b, offRow cx a cw cl hand) :: H) K := by
  obtain ⟨cs, g1, g2, g3⟩ := hL
  unfold offRow at *
  rw [← g2] at k hl
  have hn0 : (0 : Int) < (cs.length : Int) + 1 := by omega
  have hm1 : 0 ≤ (hand + 1 + by_ + ((cs.length : Int) + 1)).tmod ((cs.length : Int) + 1) := Int.tmod_nonneg _ (by omega)
  have hm2 : (hand + 1 + by_ + ((cs.length : Int) + 1)).tmod ((cs.length : Int) + 1) < (cs.length : Int) + 1 := Int.tmod_lt_of_pos _ hn0
  unfold turnV at k
  generalize hq : (hand + 1 + by_ + ((cs.length : Int) + 1)).tmod ((cs.length : Int) + 1) = q at *
  refine call_of (n := 29) (fun _ => rfl) Try.func38 rfl rfl ?_
  refine w_seq ?_
  refine w_region ?_
  refine w_o rfl rfl rfl (op_assign rfl ?_)
  refine w_end ?_
  refine seq_normal ?_
  refine w_seq ?_
  refine w_seq ?_
  refine w_region ?_
  refine w_o rfl rfl rfl (op_move rfl ?_)
  refine w_o rfl rfl rfl (op_nilEq rfl rfl rfl (by simp only [nilKind, und_29]) ?_)
  refine w_end ?_
  refine seq_normal ?_
  refine w_condF rfl ?_
  refine w_skip ?_
  refine seq_normal ?_
  refine w_seq ?_
  refine w_region ?_
  refine w_o rfl rfl rfl (op_move rfl ?_)
  refine w_o rfl rfl rfl (op_nilCheck rfl ?_)
  refine w_o rfl rfl rfl (op_fieldAddr fa_54_2 rfl ?_)
  refine w_o rfl rfl rfl (op_loadF agg_25 rfl el_ rfl ?_)
  refine w_o rfl rfl rfl (op_lenC und_25 rfl g1.lenC ?_)
  refine w_o rfl rfl rfl (op_addi rfl rfl (by omega) (by omega) ?_)
  refine w_o rfl rfl rfl (op_assign rfl ?_)
  refine w_end ?_
  refine seq_normal ?_
  refine w_seq ?_
  refine w_region ?_
  refine w_o rfl rfl rfl (op_move rfl ?_)
  refine w_o rfl rfl rfl (op_move rfl ?_)
  refine w_o rfl rfl rfl (op_nilCheck rfl ?_)
  refine w_o rfl rfl rfl (op_fieldAddr fa_54_3 rfl ?_)
  refine w_o rfl rfl rfl (op_loadF agg_3 rfl el_ rfl ?_)
  refine w_o rfl rfl rfl (op_addi rfl rfl (by omega) (by omega) ?_)
  refine w_o rfl rfl rfl (op_move rfl ?_)
  refine w_o rfl rfl rfl (op_addi rfl rfl (by omega) (by omega) ?_)
  refine w_o rfl rfl rfl (op_move rfl ?_)
  refine w_o rfl rfl rfl (op_addi rfl rfl (by omega) (by omega) ?_)
  refine w_o rfl rfl rfl (op_move rfl ?_)
  refine w_o rfl rfl rfl (op_remi rfl rfl (by omega) hq ?_)
  refine w_o rfl rfl rfl (op_subi rfl rfl (by omega) (by omega) ?_)
  refine w_o rfl rfl rfl (op_nilCheck rfl ?_)
  refine w_o rfl rfl rfl (op_fieldAddr fa_54_3 rfl ?_)
  refine w_on rfl rfl (op_store siz_3 rfl rfl rfl (by (repeat (first | exact Pick.head _ _ _ | apply Pick.tail | apply Pick.app)); first | done | fail) (Nat.le_of_ble_eq_true rfl) rfl ?_)
  refine w_end ?_
  refine seq_normal ?_
  refine w_seq ?_
  refine w_region ?_
  refine w_o rfl rfl rfl (op_assign rfl ?_)
  refine w_end ?_
  refine seq_normal ?_
  refine w_ret ?_
  exact ret_ret rfl sel_ k
theorem offNext_w (hL : KVo H L cl) (hl : L.length ≤ 1000) (hh : -1 ≤ hand ∧ hand ≤ 1000) (k : K (vB true) ((b, offRow cx a cw cl (turnV L.length hand 1)) :: H)) : CallW Try.prog Xs 20 [ptrV b 0] ((b, offRow cx a cw cl hand) :: H) K := by
  refine call_of (n := 5) (fun _ => rfl) Try.func20 rfl rfl ?_
  refine w_seq ?_
  refine w_region ?_
  refine w_o rfl rfl rfl (op_assign rfl ?_)
  refine w_end ?_
  refine seq_normal ?_
  refine w_seq ?_
  refine w_region ?_
  refine w_o rfl rfl rfl (op_move rfl ?_)
  refine w_o rfl rfl rfl (op_call rfl rfl rfl ?_)
  refine turn_w hL hl hh (by decide) ?_
  refine w_o rfl rfl rfl (op_assign rfl ?_)
  refine w_end ?_
  refine seq_normal ?_
  refine w_ret ?_
  exact ret_ret rfl (.refl _) k
theorem offPrev_w (hL : KVo H L cl) (hl : L.length ≤ 1000) (hh : -1 ≤ hand ∧ hand ≤ 1000) (k : K (vB true) ((b, offRow cx a cw cl (turnV L.length hand (-1))) :: H)) : CallW Try.prog Xs 21 [ptrV b 0] ((b, offRow cx a cw cl hand) :: H) K := by
  refine call_of (n := 5) (fun _ => rfl) Try.func21 rfl rfl ?_
  refine w_seq ?_
  refine w_region ?_
  refine w_o rfl rfl rfl (op_assign rfl ?_)
  refine w_end ?_
  refine seq_normal ?_
  refine w_seq ?_
  refine w_region ?_
  refine w_o rfl rfl rfl (op_move rfl ?_)
  refine w_o rfl rfl rfl (op_call rfl rfl rfl ?_)
  refine turn_w hL hl hh (by decide) ?_
  refine w_o rfl rfl rfl (op_assign rfl ?_)
  refine w_end ?_
  refine seq_normal ?_
  refine w_ret ?_
  exact ret_ret rfl (.refl _) k
end
theorem turnV_in {n : Nat} {hand by_ : Int} (h1 : -1 ≤ hand) (h2 : -1 ≤ by_) : -1 ≤ turnV n hand by_ ∧ turnV n hand by_ < n := by
  have hm1 : 0 ≤ (hand + 1 + by_ + ((n : Int) + 1)).tmod ((n : Int) + 1) := Int.tmod_nonneg _ (by omega)
  have hm2 : (hand + 1 + by_ + ((n : Int) + 1)).tmod ((n : Int) + 1) < (n : Int) + 1 := Int.tmod_lt_of_pos _ (by omega)
  unfold turnV
  omega
theorem turnV_next {n : Nat} {hand : Int} (h1 : -1 ≤ hand) (h2 : hand < n) : turnV n hand 1 = if hand + 1 = n then -1 else hand + 1 := by
  unfold turnV
  rw [Int.tmod_eq_emod_of_nonneg (by omega)]
  split
  · rw [show hand + 1 + 1 + ((n : Int) + 1) = 0 + ((n : Int) + 1) * 2 by omega, Int.add_mul_emod_self_left]; simp
  · rw [show hand + 1 + 1 + ((n : Int) + 1) = (hand + 2) + ((n : Int) + 1) * 1 by omega, Int.add_mul_emod_self_left, Int.emod_eq_of_lt (by omega) (by omega)]; omega
theorem turnV_prev {n : Nat} {hand : Int} (h1 : -1 ≤ hand) (h2 : hand < n) : turnV n hand (-1) = if hand - 1 < -1 then (n : Int) - 1 else hand - 1 := by
  unfold turnV
  rw [Int.tmod_eq_emod_of_nonneg (by omega)]
  split
  · rw [show hand + 1 + -1 + ((n : Int) + 1) = (n : Int) by omega, Int.emod_eq_of_lt (by omega) (by omega)]
  · rw [show hand + 1 + -1 + ((n : Int) + 1) = hand + ((n : Int) + 1) * 1 by omega, Int.add_mul_emod_self_left, Int.emod_eq_of_lt (by omega) (by omega)]
end Go.Proofs.Ytlbbnimobbheiaa.AM.B
