/- Numbers' digits, walked: num.Dec, num.Undec, and the reference's. -/
import Derived.Test.YtigkfladgdknbaaAX
import Derived.Test.YtigkfladgdknbaaBemitp
import Derived.Test.YtigkfladgdknbaaBstrs
import Derived.Test.YtigkfladgdknbaaBmore
set_option linter.unusedVariables false
set_option linter.unusedSimpArgs false
set_option maxRecDepth 10000
set_option maxHeartbeats 4000000
namespace Go.Proofs.Ytigkfladgdknbaa.AM.B
open Go Go.RowKit
theorem w_u64 (n : Int) : IntKind.wrap .u64 n = n % 18446744073709551616 := by simp [IntKind.wrap, IntKind.bits, IntKind.signed]
def DigS : ByteArray := ⟨#[48, 49, 50, 51, 52, 53, 54, 55, 56, 57, 65, 66, 67, 68, 69, 70]⟩
theorem dig_ext (d : Nat) (h : d < 10) : bl (DigS.extract d (d + 1)) = [UInt8.ofNat (48 + d)] := by
  have key : ∀ d, d < 10 → bl (DigS.extract d (d + 1)) = [UInt8.ofNat (48 + d)] := by decide +kernel
  exact key d h
/-- A number's digits, with its sign. -/
def decB (n : Int) : ByteArray := ⟨(if n < 0 then 45 :: decR (-n).toNat else decR n.toNat).toArray⟩
theorem decB_bl (n : Int) : bl (decB n) = if n < 0 then 45 :: decR (-n).toNat else decR n.toNat := rfl
theorem decB_of {n : Int} {t : ByteArray} (h : bl t = if n < 0 then 45 :: decR (-n).toNat else decR n.toNat) : t = decB n := bl_inj h
theorem laid1_w {H : Hyp} {K : V → Hyp → Prop} {u pl pb : Nat} (h1 : El H pl 0 [.int .i64 1]) (h2 : El H pb 0 [.int .u64 10]) (hu : u < 18446744073709551616) (k : ∀ t, bl t = decR u → K (vS t) H) : CallW Try.prog Xs 65 [.one (.c (.int .u64 (u : Int))), ptrV pl 0, ptrV pb 0] H K := by
  have hlen := decR_len 20 u (by omega) (by decide)
  refine call_of (n := 28) (fun _ => rfl) Try.func65 rfl rfl ?_
  refine w_seq ?_
  refine w_region ?_
  refine w_o rfl rfl rfl (op_assign rfl ?_)
  refine w_end ?_
  refine seq_normal ?_
  refine w_seq ?_
  refine w_region ?_
  refine w_o rfl rfl rfl (op_assign rfl ?_)
  refine w_end ?_
  refine seq_normal ?_
  refine w_seq ?_
  refine w_block ?_
  refine w_loop (fun m e H' => ∃ (v : Nat) (t : ByteArray), decR u = (if v = 0 ∧ bl t ≠ [] then [] else decR v) ++ bl t ∧ v ≤ u ∧ m = v + (if bl t = [] then 1 else 0) ∧ H = H' ∧ e = [(0, .one (.c (.int .u64 (v : Int)))), (1, ptrV pl 0), (2, ptrV pb 0), (5, vS t)]) ?_ ?_
  · exact ⟨_, _, _, ⟨u, ⟨#[]⟩, by simp [bl], Nat.le_refl _, rfl, rfl, rfl⟩, env_, sel_⟩
  · rintro m e H' ⟨v, t, hd, hv, rfl, rfl, rfl⟩
    have hts : t.size ≤ 20 := by
      have := congrArg List.length hd
      rw [List.length_append] at this
      have e : (bl t).length = t.size := rfl
      omega
    have hq : v % 10 < 10 := Nat.mod_lt _ (by decide)
    have hx := dig_ext (v % 10) hq
    have hxs : (DigS.extract (v % 10) (v % 10 + 1)).size = 1 := by
      show (bl (DigS.extract (v % 10) (v % 10 + 1))).length = 1
      rw [hx]; rfl
    refine w_seq ?_
    refine w_seq ?_
    refine w_region ?_
    refine w_o rfl rfl rfl (op_move rfl ?_)
    refine w_o rfl rfl rfl (op_gt rfl rfl ?_)
    refine w_o rfl rfl rfl (op_move rfl ?_)
    first | refine w_known (t := 8) rfl (fun g8 => ?_) (fun g8 => ?_) | refine w_knownB (t := 8) rfl (fun g8 => ?_) (fun g8 => ?_)
    · refine w_u rfl rfl rfl rfl rfl rfl ?_
      refine w_u rfl rfl rfl rfl rfl rfl ?_
      refine w_u rfl rfl rfl rfl rfl rfl ?_
      refine w_u rfl rfl rfl rfl rfl rfl ?_
      refine w_o rfl rfl rfl (op_pick rfl rfl rfl ?_)
      refine w_end ?_
      refine seq_normal ?_
      refine w_condT rfl ?_
      refine w_skip ?_
      refine seq_normal ?_
      refine w_block ?_
      refine w_seq ?_
      refine w_draw (by decide +kernel) (by decide +kernel) ?_
      refine w_d rfl rfl rfl (op_move rfl ?_)
      have hne : ¬ (v = 0 ∧ bl t ≠ []) := by
        rintro ⟨z, q⟩
        have q2 : t.size ≠ 0 := fun z2 => q (bl_nil.2 z2)
        omega
      rw [if_neg hne] at hd
      refine w_d rfl rfl rfl (op_load1 agg_58 rfl el_ ?_)
      refine w_d rfl rfl rfl (op_remi rfl rfl (by omega) (c := ((v % 10 : Nat) : Int)) (by rw [Int.tmod_eq_emod_of_nonneg (by omega)]; omega) ?_)
      refine w_d rfl rfl rfl (op_move rfl ?_)
      refine w_d rfl rfl rfl (op_load1 agg_58 rfl el_ ?_)
      refine w_d rfl rfl rfl (op_remi rfl rfl (by omega) (c := ((v % 10 : Nat) : Int)) (by rw [Int.tmod_eq_emod_of_nonneg (by omega)]; omega) ?_)
      refine w_d rfl rfl rfl (op_add rfl rfl (c := ((v % 10 + 1 : Nat) : Int)) (by rw [w_u64]; omega) ?_)
      refine w_d rfl rfl rfl (op_sliceS (s0 := DigS) (l := ((v % 10 : Nat) : Int)) (h := ((v % 10 + 1 : Nat) : Int)) und_9 rfl rfl rfl (by omega) (by omega) (by have : DigS.size = 16 := rfl; omega) ?_)
      refine w_d rfl rfl rfl (op_move rfl ?_)
      refine w_d rfl rfl rfl (op_stradd rfl rfl (by show (DigS.extract (v % 10) (v % 10 + 1)).size + t.size ≤ _; omega) ?_)
      refine w_d rfl rfl rfl (op_assign rfl ?_)
      refine w_end ?_
      refine seq_normal ?_
      refine w_region ?_
      refine w_o rfl rfl rfl (op_move rfl ?_)
      refine w_o rfl rfl rfl (op_load1 agg_58 rfl el_ ?_)
      refine w_o rfl rfl rfl (op_quo rfl rfl (by omega) (c := ((v / 10 : Nat) : Int)) (by rw [Int.tdiv_eq_ediv_of_nonneg (by omega), w_u64]; omega) ?_)
      refine w_o rfl rfl rfl (op_assign rfl ?_)
      refine w_end ?_
      refine block_normal ?_
      have e1 : bl (DigS.extract (v % 10) (v % 10 + 1) ++ t) = UInt8.ofNat (48 + v % 10) :: bl t := by rw [bl_append, hx]; rfl
      have e2 : bl (DigS.extract (v % 10) (v % 10 + 1) ++ t) ≠ [] := by rw [e1]; simp
      refine loop_normal (k' := v / 10 + (if bl (DigS.extract (v % 10) (v % 10 + 1) ++ t) = [] then 1 else 0)) ?_ ⟨v / 10, DigS.extract (v % 10) (v % 10 + 1) ++ t, ?_, by omega, rfl, rfl, rfl⟩ env_ sel_
      · rw [if_neg e2]
        by_cases z : v = 0
        · rw [if_pos (Classical.byContradiction fun q => hne ⟨z, q⟩)]; omega
        · omega
      · rw [hd, e1]
        rcases Nat.lt_or_ge v 10 with q | q
        · rw [decR_lt q, if_pos ⟨by omega, by simp⟩]
          rw [show v % 10 = v by omega]; rfl
        · rw [decR_ge q, if_neg (by omega), List.append_assoc]; rfl
    · refine w_og rfl rfl rfl rfl rfl (op_move rfl ?_)
      refine w_og rfl rfl rfl rfl rfl (op_lenS und_9 rfl ?_)
      refine w_og rfl rfl rfl rfl rfl (op_load1 agg_3 rfl el_ ?_)
      refine w_og rfl rfl rfl rfl rfl (op_lt rfl rfl ?_)
      refine w_o rfl rfl rfl (op_pick rfl rfl rfl ?_)
      refine w_end ?_
      refine seq_normal ?_
      first | refine w_cond rfl (fun hI1 => ?_) (fun hI1 => ?_) | refine w_condB rfl (fun hI1 => ?_) (fun hI1 => ?_)
      · refine w_skip ?_
        refine seq_normal ?_
        refine w_block ?_
        refine w_seq ?_
        refine w_draw (by decide +kernel) (by decide +kernel) ?_
        refine w_d rfl rfl rfl (op_move rfl ?_)
        have hne : ¬ (v = 0 ∧ bl t ≠ []) := by
          rintro ⟨z, q⟩
          have q2 : t.size ≠ 0 := fun z2 => q (bl_nil.2 z2)
          omega
        rw [if_neg hne] at hd
        refine w_d rfl rfl rfl (op_load1 agg_58 rfl el_ ?_)
        refine w_d rfl rfl rfl (op_remi rfl rfl (by omega) (c := ((v % 10 : Nat) : Int)) (by rw [Int.tmod_eq_emod_of_nonneg (by omega)]; omega) ?_)
        refine w_d rfl rfl rfl (op_move rfl ?_)
        refine w_d rfl rfl rfl (op_load1 agg_58 rfl el_ ?_)
        refine w_d rfl rfl rfl (op_remi rfl rfl (by omega) (c := ((v % 10 : Nat) : Int)) (by rw [Int.tmod_eq_emod_of_nonneg (by omega)]; omega) ?_)
        refine w_d rfl rfl rfl (op_add rfl rfl (c := ((v % 10 + 1 : Nat) : Int)) (by rw [w_u64]; omega) ?_)
        refine w_d rfl rfl rfl (op_sliceS (s0 := DigS) (l := ((v % 10 : Nat) : Int)) (h := ((v % 10 + 1 : Nat) : Int)) und_9 rfl rfl rfl (by omega) (by omega) (by have : DigS.size = 16 := rfl; omega) ?_)
        refine w_d rfl rfl rfl (op_move rfl ?_)
        refine w_d rfl rfl rfl (op_stradd rfl rfl (by show (DigS.extract (v % 10) (v % 10 + 1)).size + t.size ≤ _; omega) ?_)
        refine w_d rfl rfl rfl (op_assign rfl ?_)
        refine w_end ?_
        refine seq_normal ?_
        refine w_region ?_
        refine w_o rfl rfl rfl (op_move rfl ?_)
        refine w_o rfl rfl rfl (op_load1 agg_58 rfl el_ ?_)
        refine w_o rfl rfl rfl (op_quo rfl rfl (by omega) (c := ((v / 10 : Nat) : Int)) (by rw [Int.tdiv_eq_ediv_of_nonneg (by omega), w_u64]; omega) ?_)
        refine w_o rfl rfl rfl (op_assign rfl ?_)
        refine w_end ?_
        refine block_normal ?_
        have e1 : bl (DigS.extract (v % 10) (v % 10 + 1) ++ t) = UInt8.ofNat (48 + v % 10) :: bl t := by rw [bl_append, hx]; rfl
        have e2 : bl (DigS.extract (v % 10) (v % 10 + 1) ++ t) ≠ [] := by rw [e1]; simp
        refine loop_normal (k' := v / 10 + (if bl (DigS.extract (v % 10) (v % 10 + 1) ++ t) = [] then 1 else 0)) ?_ ⟨v / 10, DigS.extract (v % 10) (v % 10 + 1) ++ t, ?_, by omega, rfl, rfl, rfl⟩ env_ sel_
        · rw [if_neg e2]
          by_cases z : v = 0
          · rw [if_pos (Classical.byContradiction fun q => hne ⟨z, q⟩)]; omega
          · omega
        · rw [hd, e1]
          rcases Nat.lt_or_ge v 10 with q | q
          · rw [decR_lt q, if_pos ⟨by omega, by simp⟩]
            rw [show v % 10 = v by omega]; rfl
          · rw [decR_ge q, if_neg (by omega), List.append_assoc]; rfl
      · refine w_exit ?_
        refine seq_exit ?_
        refine loop_exit ?_
        refine block_hit rfl ?_
        refine seq_normal ?_
        refine w_seq ?_
        refine w_region ?_
        refine w_o rfl rfl rfl (op_move rfl ?_)
        refine w_o rfl rfl rfl (op_assign rfl ?_)
        refine w_end ?_
        refine seq_normal ?_
        refine w_ret ?_
        have hz : v = 0 ∧ bl t ≠ [] := by
          have q2 : ¬ t.size = 0 := by
            first
              | omega
              | (simp only [decide_eq_false_iff_not] at hI1; omega)
          refine ⟨?_, fun z => q2 (bl_nil.1 z)⟩
          first
            | omega
            | (simp only [decide_eq_false_iff_not] at hI1; omega)
        rw [if_pos hz, List.nil_append] at hd
        exact ret_ret rfl sel_ (k t hd.symm)
theorem laid_w {H : Hyp} {K : V → Hyp → Prop} (k : ∀ b2 b3, K (.one (.c (.fn 65 [(b3, 0), (b2, 0)]))) ((b3, .row true 3 1 [.int .i64 1]) :: (b2, .row true 58 1 [.int .u64 10]) :: H)) : CallW Try.prog Xs 52 [.one (.c (.int .u64 10)), vI 1] H K := by
  refine call_of (n := 6) (fun _ => rfl) Try.func52 rfl rfl ?_
  refine w_seq ?_
  refine w_region ?_
  refine w_o rfl rfl rfl (op_box rfl fun b2 => ?_)
  refine w_o rfl rfl rfl (op_box rfl fun b3 => ?_)
  refine w_o rfl rfl rfl (op_assign rfl ?_)
  refine w_end ?_
  refine seq_normal ?_
  refine w_seq ?_
  refine w_region ?_
  refine w_o rfl rfl rfl (op_makeFunc rfl ?_)
  refine w_o rfl rfl rfl (op_assign rfl ?_)
  refine w_end ?_
  refine seq_normal ?_
  refine w_ret ?_
  exact ret_ret rfl sel_ (k _ _)
theorem Dec_w {H : Hyp} {K : V → Hyp → Prop} {n : Int} (h0 : -9223372036854775808 ≤ n) (h1 : n ≤ 9223372036854775807) (k : K (vS (decB n)) H) : CallW Try.prog Xs 39 [vI n] H K := by
  refine call_of (n := 15) (fun _ => rfl) Try.func39 rfl rfl ?_
  refine w_seq ?_
  refine w_region ?_
  refine w_o rfl rfl rfl (op_assign rfl ?_)
  refine w_end ?_
  refine seq_normal ?_
  refine w_seq ?_
  refine w_seq ?_
  refine w_region ?_
  refine w_o rfl rfl rfl (op_move rfl ?_)
  refine w_o rfl rfl rfl (op_lt rfl rfl ?_)
  refine w_end ?_
  refine seq_normal ?_
  first | refine w_cond rfl (fun hI1 => ?_) (fun hI1 => ?_) | refine w_condB rfl (fun hI1 => ?_) (fun hI1 => ?_)
  · refine w_seq ?_
    refine w_region ?_
    refine w_o rfl rfl rfl (op_call rfl rfl rfl ?_)
    refine laid_w fun b2 b3 => ?_
    refine w_o rfl rfl rfl (op_move rfl ?_)
    refine w_o rfl rfl rfl (op_convi und_3 und_58 rfl (c := n + 18446744073709551616) (by rw [w_u64]; omega) ?_)
    refine w_o rfl rfl rfl (op_neg rfl (c := (((-n).toNat : Nat) : Int)) (by rw [w_u64]; omega) ?_)
    refine w_o rfl rfl rfl (op_call rfl rfl rfl ?_)
    refine laid1_w (El.row mem_) (El.row mem_) (by omega) fun t ht => ?_
    have hlen := decR_len 20 (-n).toNat (by omega) (by decide)
    have hts : t.size ≤ 20 := by
      have := congrArg List.length ht
      have e : (bl t).length = t.size := rfl
      omega
    refine w_o rfl rfl rfl (op_stradd rfl rfl (by show 1 + t.size ≤ _; omega) ?_)
    refine w_o rfl rfl rfl (op_assign rfl ?_)
    refine w_end ?_
    refine seq_normal ?_
    refine w_ret ?_
    refine seq_ret ?_
    have e : (⟨#[45]⟩ : ByteArray) ++ t = decB n := decB_of (by rw [bl_append, if_pos hI1, ht]; rfl)
    rw [e]
    exact ret_ret rfl sel_ k
  · refine w_skip ?_
    refine seq_normal ?_
    refine w_seq ?_
    refine w_region ?_
    refine w_o rfl rfl rfl (op_call rfl rfl rfl ?_)
    refine laid_w fun b2 b3 => ?_
    refine w_o rfl rfl rfl (op_move rfl ?_)
    refine w_o rfl rfl rfl (op_convi und_3 und_58 rfl (c := ((n.toNat : Nat) : Int)) (by rw [w_u64]; omega) ?_)
    refine w_o rfl rfl rfl (op_call rfl rfl rfl ?_)
    refine laid1_w (El.row mem_) (El.row mem_) (by omega) fun t ht => ?_
    refine w_o rfl rfl rfl (op_assign rfl ?_)
    refine w_end ?_
    refine seq_normal ?_
    refine w_ret ?_
    have e : t = decB n := decB_of (by rw [if_neg hI1, ht])
    rw [e]
    exact ret_ret rfl sel_ k
theorem decB_size (n : Int) (h0 : -9223372036854775808 ≤ n) (h1 : n ≤ 9223372036854775807) : (decB n).size ≤ 21 := by
  show (bl (decB n)).length ≤ 21
  rw [decB_bl]
  split
  · have := decR_len 20 (-n).toNat (by omega) (by decide)
    rw [List.length_cons]; omega
  · have := decR_len 20 n.toNat (by omega) (by decide)
    omega
theorem R01Digit_w {H : Hyp} {K : V → Hyp → Prop} {d : Nat} (h : d < 10) (k : ∀ t, bl t = [UInt8.ofNat (48 + d)] → K (vS t) H) : CallW Try.prog Xs 57 [vI (d : Int)] H K := by
  refine call_of (n := 7) (fun _ => rfl) Try.func57 rfl rfl ?_
  refine w_seq ?_
  refine w_region ?_
  refine w_o rfl rfl rfl (op_assign rfl ?_)
  refine w_end ?_
  refine seq_normal ?_
  refine w_seq ?_
  refine w_region ?_
  refine w_o rfl rfl rfl (op_move rfl ?_)
  refine w_o rfl rfl rfl (op_move rfl ?_)
  refine w_o rfl rfl rfl (op_addi rfl rfl (by omega) (by omega) ?_)
  refine w_o rfl rfl rfl (op_sliceS (s0 := DigS) (l := (d : Int)) (h := (d : Int) + 1) und_9 rfl rfl rfl (by omega) (by omega) (by have : DigS.size = 16 := rfl; omega) ?_)
  refine w_o rfl rfl rfl (op_assign rfl ?_)
  refine w_end ?_
  refine seq_normal ?_
  refine w_ret ?_
  refine ret_ret rfl sel_ (k _ ?_)
  have := dig_ext d h
  rw [← this]
  congr 2
theorem R01Dec_step {H : Hyp} {K : V → Hyp → Prop} {n : Nat} (ih : ∀ (H2 : Hyp) (K2 : V → Hyp → Prop), 10 ≤ n → K2 (vS (decB ((n / 10 : Nat) : Int))) H2 → CallW Try.prog Xs 46 [vI ((n / 10 : Nat) : Int)] H2 K2) (hb : n < 1000000000) (k : K (vS (decB n)) H) : CallW Try.prog Xs 46 [vI (n : Int)] H K := by
  refine call_of (n := 34) (fun _ => rfl) Try.func46 rfl rfl ?_
  refine w_seq ?_
  refine w_region ?_
  refine w_o rfl rfl rfl (op_assign rfl ?_)
  refine w_end ?_
  refine seq_normal ?_
  refine w_seq ?_
  refine w_seq ?_
  refine w_region ?_
  refine w_o rfl rfl rfl (op_move rfl ?_)
  refine w_o rfl rfl rfl (op_lt rfl rfl ?_)
  refine w_o rfl rfl rfl (op_move rfl ?_)
  first | refine w_known (t := 5) rfl (fun g5 => ?_) (fun g5 => ?_) | refine w_knownB (t := 5) rfl (fun g5 => ?_) (fun g5 => ?_)
  · exfalso; omega --closed
  · refine w_u rfl rfl rfl rfl rfl rfl ?_
    refine w_u rfl rfl rfl rfl rfl rfl ?_
    refine w_o rfl rfl rfl (op_pick rfl rfl rfl ?_)
    refine w_end ?_
    refine seq_normal ?_
    refine w_condF rfl ?_
    refine w_skip ?_
    refine seq_normal ?_
    refine w_seq ?_
    refine w_seq ?_
    refine w_region ?_
    refine w_o rfl rfl rfl (op_move rfl ?_)
    refine w_o rfl rfl rfl (op_lt rfl rfl ?_)
    refine w_end ?_
    refine seq_normal ?_
    refine w_condN rfl (by omega) ?_
    refine w_skip ?_
    refine seq_normal ?_
    refine w_seq ?_
    refine w_seq ?_
    refine w_region ?_
    refine w_o rfl rfl rfl (op_move rfl ?_)
    refine w_o rfl rfl rfl (op_lt rfl rfl ?_)
    refine w_end ?_
    refine seq_normal ?_
    first | refine w_cond rfl (fun hI3 => ?_) (fun hI3 => ?_) | refine w_condB rfl (fun hI3 => ?_) (fun hI3 => ?_)
    · have hn : n < 10 := by omega
      refine w_seq ?_
      refine w_region ?_
      refine w_o rfl rfl rfl (op_move rfl ?_)
      refine w_o rfl rfl rfl (op_call rfl rfl rfl ?_)
      refine R01Digit_w hn fun t ht => ?_
      refine w_o rfl rfl rfl (op_assign rfl ?_)
      refine w_end ?_
      refine seq_normal ?_
      refine w_ret ?_
      refine seq_ret ?_
      have e : t = decB n := decB_of (by rw [if_neg (by omega), ht]; exact (decR_lt hn).symm)
      rw [e]
      exact ret_ret rfl sel_ k
    · have hn : 10 ≤ n := by omega
      refine w_skip ?_
      refine seq_normal ?_
      refine w_seq ?_
      refine w_region ?_
      refine w_o rfl rfl rfl (op_move rfl ?_)
      refine w_o rfl rfl rfl (op_quo rfl rfl (by omega) (c := ((n / 10 : Nat) : Int)) (by rw [Int.tdiv_eq_ediv_of_nonneg (by omega), wrap_i64 (by omega) (by omega)]; omega) ?_)
      refine w_o rfl rfl rfl (op_call rfl rfl rfl ?_)
      refine ih _ _ hn ?_
      have hs := decB_size ((n / 10 : Nat) : Int) (by omega) (by omega)
      refine w_o rfl rfl rfl (op_move rfl ?_)
      refine w_o rfl rfl rfl (op_remi rfl rfl (by omega) (c := ((n % 10 : Nat) : Int)) (by rw [Int.tmod_eq_emod_of_nonneg (by omega)]; omega) ?_)
      refine w_o rfl rfl rfl (op_call rfl rfl rfl ?_)
      refine R01Digit_w (d := n % 10) (Nat.mod_lt _ (by decide)) fun t ht => ?_
      have hts : t.size = 1 := by
        have := congrArg List.length ht
        exact this
      refine w_o rfl rfl rfl (op_stradd rfl rfl (by omega) ?_)
      refine w_o rfl rfl rfl (op_assign rfl ?_)
      refine w_end ?_
      refine seq_normal ?_
      refine w_ret ?_
      have e : decB ((n / 10 : Nat) : Int) ++ t = decB n := decB_of (by rw [if_neg (by omega), bl_append, decB_bl, if_neg (by omega), ht]; exact (decR_ge hn).symm)
      rw [e]
      exact ret_ret rfl sel_ k
theorem R01Dec_ws : ∀ (m n : Nat) (H : Hyp) (K : V → Hyp → Prop), n < m → n < 1000000000 → K (vS (decB n)) H → CallW Try.prog Xs 46 [vI (n : Int)] H K
  | 0, n, _, _, h, _, _ => absurd h (Nat.not_lt_zero _)
  | m + 1, n, _, _, h, hb, k => R01Dec_step (fun H2 K2 q k2 => R01Dec_ws m (n / 10) H2 K2 (by omega) (by omega) k2) hb k
theorem R01Dec_w {H : Hyp} {K : V → Hyp → Prop} {n : Int} (h0 : 0 ≤ n) (hb : n < 1000000000) (k : K (vS (decB n)) H) : CallW Try.prog Xs 46 [vI n] H K := by
  obtain ⟨m, rfl⟩ : ∃ m : Nat, n = (m : Int) := ⟨n.toNat, by omega⟩
  exact R01Dec_ws (m + 1) m H K (Nat.lt_succ_self m) (by omega) k
/-- What reads digits: whatever comes in, some number; the digits of a number: that number. -/
theorem digI_of (x : UInt8) (h : 48 ≤ x.toNat ∧ x.toNat ≤ 57) : firstIdx DigS x = ((x.toNat - 48 : Nat) : Int) := by
  have key : ∀ n : Nat, n < 256 → 48 ≤ n ∧ n ≤ 57 → firstIdx DigS (UInt8.ofNat n) = ((n - 48 : Nat) : Int) := by decide +kernel
  have := key x.toNat (UInt8.toNat_lt x) h
  rwa [UInt8.ofNat_toNat] at this
theorem firstIdx_bnd (x : UInt8) : -1 ≤ firstIdx DigS x ∧ firstIdx DigS x ≤ 15 := by
  have key : ∀ n : Nat, n < 256 → -1 ≤ firstIdx DigS (UInt8.ofNat n) ∧ firstIdx DigS (UInt8.ofNat n) ≤ 15 := by decide +kernel
  have := key x.toNat (UInt8.toNat_lt x)
  rwa [UInt8.ofNat_toNat] at this
theorem numW_le : ∀ (l : List UInt8) (u : Nat), (∀ x ∈ l, 48 ≤ x.toNat ∧ x.toNat ≤ 57) → u ≤ numW l u
  | [], u, _ => Nat.le_refl _
  | x :: l, u, h => by
    have := numW_le l (10 * u + (x.toNat - 48)) fun y hy => h y (List.mem_cons_of_mem _ hy)
    simp only [numW]; omega
theorem numW_take {l : List UInt8} (h : ∀ x ∈ l, 48 ≤ x.toNat ∧ x.toNat ≤ 57) (i : Nat) : numW (l.take i) 0 ≤ numW l 0 := by
  have key : ∀ (a b : List UInt8) (u : Nat), numW (a ++ b) u = numW b (numW a u) := by
    intro a
    induction a with
    | nil => intro b u; rfl
    | cons x a ih => intro b u; simp only [List.cons_append, numW]; exact ih b _
  conv => rhs; rw [← List.take_append_drop i l, key]
  exact numW_le _ _ fun x hx => h x (List.mem_of_mem_drop hx)
theorem IdxStr_w {H : Hyp} {K : V → Hyp → Prop} {s : ByteArray} {c : Int} (k : K (vI (firstIdx s c.toNat.toUInt8)) H) : CallW Try.prog Xs 79 [vS s, .one (.c (.int .u8 c))] H K :=
  call_spec (vals := [.string s, .int .u8 c]) rfl rfl rfl k
theorem slIdx_w {H : Hyp} {K : V → Hyp → Prop} {s : ByteArray} {c : Int} (k : K (vI (firstIdx s c.toNat.toUInt8)) H) : CallW Try.prog Xs 75 [vS s, .one (.c (.int .u8 c))] H K := by
  refine call_of (n := 8) (fun _ => rfl) Try.func75 rfl rfl ?_
  refine w_seq ?_
  refine w_region ?_
  refine w_o rfl rfl rfl (op_assign rfl ?_)
  refine w_end ?_
  refine seq_normal ?_
  refine w_seq ?_
  refine w_region ?_
  refine w_o rfl rfl rfl (op_move rfl ?_)
  refine w_o rfl rfl rfl (op_move rfl ?_)
  refine w_o rfl rfl rfl (op_call rfl rfl rfl ?_)
  refine IdxStr_w ?_
  refine w_o rfl rfl rfl (op_assign rfl ?_)
  refine w_end ?_
  refine seq_normal ?_
  refine w_ret ?_
  exact ret_ret rfl sel_ k
theorem Idx_w {H : Hyp} {K : V → Hyp → Prop} {s : ByteArray} {c : Int} (k : K (vI (firstIdx s c.toNat.toUInt8)) H) : CallW Try.prog Xs 67 [vS s, .one (.c (.int .u8 c))] H K := by
  refine call_of (n := 8) (fun _ => rfl) Try.func67 rfl rfl ?_
  refine w_seq ?_
  refine w_region ?_
  refine w_o rfl rfl rfl (op_assign rfl ?_)
  refine w_end ?_
  refine seq_normal ?_
  refine w_seq ?_
  refine w_region ?_
  refine w_o rfl rfl rfl (op_move rfl ?_)
  refine w_o rfl rfl rfl (op_move rfl ?_)
  refine w_o rfl rfl rfl (op_call rfl rfl rfl ?_)
  refine slIdx_w ?_
  refine w_o rfl rfl rfl (op_assign rfl ?_)
  refine w_end ?_
  refine seq_normal ?_
  refine w_ret ?_
  exact ret_ret rfl sel_ k
theorem wrap_rng (n : Int) : -9223372036854775808 ≤ IntKind.wrap .i64 n ∧ IntKind.wrap .i64 n ≤ 9223372036854775807 := by
  simp only [IntKind.wrap, IntKind.bits, IntKind.signed]
  simp
  omega
theorem Undec_w {H : Hyp} {K : V → Hyp → Prop} {s : ByteArray} (hs : s.size ≤ 1000000) (k : ∀ n e, (∀ m : Nat, m ≤ 1000000 → bl s = decR m → n = (m : Int)) → K (.tup [.c (.int .i64 n), .c (.int .i64 e)]) H) : CallW Try.prog Xs 55 [vS s] H K := by
  have hc1 := cutPre_size s ⟨#[45]⟩
  have hnp : ∀ m : Nat, bl s = decR m → hasPre s ⟨#[45]⟩ = false := by
    intro m hm
    cases hp : hasPre s ⟨#[45]⟩ with
    | false => rfl
    | true =>
      exfalso
      simp only [hasPre, Bool.and_eq_true, decide_eq_true_eq] at hp
      have e2 := congrArg bl hp.2
      have e3 : bl (s.extract 0 1) = (bl s).take 1 := by
        show (s.extract 0 1).data.toList = _
        rw [ByteArray.data_extract]
        simp [Array.toList_extract, List.extract]
      have e4 : (bl s).take 1 = [45] := e3.symm.trans e2
      have hd := decR_dig m
      rw [← hm] at hd
      cases hb : bl s with
      | nil => rw [hb] at e4; cases e4
      | cons x r =>
        rw [hb] at e4 hd
        have e5 : x = 45 := (List.cons.inj e4).1
        have := hd x (List.mem_cons_self ..)
        rw [e5] at this
        exact absurd this.1 (by decide)
  refine call_of (n := 41) (fun _ => rfl) Try.func55 rfl rfl ?_
  refine w_seq ?_
  refine w_region ?_
  refine w_o rfl rfl rfl (op_assign rfl ?_)
  refine w_o rfl rfl rfl (op_assign rfl ?_)
  refine w_end ?_
  refine seq_normal ?_
  refine w_seq ?_
  refine w_region ?_
  refine w_o rfl rfl rfl (op_move rfl ?_)
  refine w_o rfl rfl rfl (op_call rfl rfl rfl ?_)
  refine CutPrefix_w (by omega) (by decide) ?_
  have hpm : ∀ m : Nat, bl s = decR m → (if hasPre s ⟨#[45]⟩ then s.extract (ByteArray.size ⟨#[45]⟩) s.size else s) = s := fun m hm => by rw [hnp m hm]; rfl
  revert hc1 hpm
  generalize (if hasPre s ⟨#[45]⟩ then s.extract (ByteArray.size ⟨#[45]⟩) s.size else s) = t1
  intro hc1 hpm
  refine w_o rfl rfl rfl (op_move rfl ?_)
  refine w_o rfl rfl rfl (op_extract rfl rfl ?_)
  refine w_o rfl rfl rfl (op_extract rfl rfl ?_)
  refine w_o rfl rfl rfl (op_assign rfl ?_)
  refine w_o rfl rfl rfl (op_assign rfl ?_)
  refine w_end ?_
  refine seq_normal ?_
  refine w_seq ?_
  refine w_region ?_
  refine w_o rfl rfl rfl (op_assign rfl ?_)
  refine w_end ?_
  refine seq_normal ?_
  refine w_seq ?_
  refine w_seq ?_
  refine w_region ?_
  refine w_o rfl rfl rfl (op_move rfl ?_)
  refine w_o rfl rfl rfl (op_lenS und_9 rfl ?_)
  refine w_o rfl rfl rfl (op_min rfl rfl ?_)
  refine w_o rfl rfl rfl (op_move rfl ?_)
  refine w_end ?_
  refine seq_normal ?_
  refine w_block ?_
  refine w_loop (fun m e H' => ∃ (i u : Nat), i ≤ t1.size ∧ i ≤ 20 ∧ u < 18446744073709551616 ∧ (∀ m : Nat, m ≤ 1000000 → bl s = decR m → u = numW ((bl s).take i) 0) ∧ m = 20 - i ∧ H = H' ∧ e = [(0, vS s), (4, vS t1), (5, vB (hasPre s ⟨#[45]⟩)), (6, .one (.c (.int .u64 (u : Int)))), (16, vI (min (t1.size : Int) 20)), (17, vI (i : Nat))]) ?_ ?_
  · exact ⟨_, _, _, ⟨0, 0, Nat.zero_le _, by decide, by decide, fun m h1 h2 => rfl, rfl, rfl, rfl⟩, env_, sel_⟩
  · rintro m e H' ⟨i, u, hi, hi2, hu, hn, rfl, rfl, rfl⟩
    refine w_seq ?_
    refine w_region ?_
    refine w_o rfl rfl rfl (op_lt rfl rfl ?_)
    refine w_end ?_
    refine seq_normal ?_
    refine w_seq ?_
    first | refine w_cond rfl (fun hI1 => ?_) (fun hI1 => ?_) | refine w_condB rfl (fun hI1 => ?_) (fun hI1 => ?_)
    · have hi3 : i < t1.size ∧ i < 20 := by omega
      obtain ⟨x, hx⟩ : ∃ x, (bl t1)[i]? = some x := ⟨_, List.getElem?_eq_getElem hi3.1⟩
      have hbx : byteAt t1 (i : Int) = (x.toNat : Int) := by
        unfold byteAt
        rw [show ((i : Nat) : Int).toNat = i by omega, hx]; rfl
      have hbt : (byteAt t1 (i : Int)).toNat.toUInt8 = x := by rw [hbx, Int.toNat_natCast]; exact UInt8.ofNat_toNat
      have hfb := firstIdx_bnd x
      refine w_skip ?_
      refine seq_normal ?_
      refine w_seq ?_
      refine w_block ?_
      refine w_seq ?_
      refine w_region ?_
      refine w_o rfl rfl rfl (op_move rfl ?_)
      refine w_o rfl rfl rfl (op_assign rfl ?_)
      refine w_end ?_
      refine seq_normal ?_
      refine w_region ?_
      refine w_o rfl rfl rfl (op_move rfl ?_)
      refine w_o rfl rfl rfl (op_mul rfl rfl (c := ((10 * u % 18446744073709551616 : Nat) : Int)) (by rw [w_u64]; omega) ?_)
      refine w_o rfl rfl rfl (op_move rfl ?_)
      refine w_o rfl rfl rfl (op_move rfl ?_)
      refine w_o rfl rfl rfl (op_indexS und_9 rfl rfl (by omega) (by omega) ?_)
      refine w_o rfl rfl rfl (op_call rfl rfl rfl ?_)
      refine Idx_w ?_
      rw [hbt]
      show WOps _ _ _ _ _ _ ((25, vI (firstIdx DigS x)) :: _) _ _
      refine w_o rfl rfl rfl (op_max rfl rfl ?_)
      refine w_o rfl rfl rfl (op_convi und_3 und_58 rfl (c := max (firstIdx DigS x) 0) (by rw [w_u64]; omega) ?_)
      refine w_o rfl rfl rfl (op_add rfl rfl (c := (((10 * u % 18446744073709551616 + (max (firstIdx DigS x) 0).toNat) % 18446744073709551616 : Nat) : Int)) (by rw [w_u64]; omega) ?_)
      refine w_o rfl rfl rfl (op_assign rfl ?_)
      refine w_end ?_
      refine block_normal ?_
      refine seq_normal ?_
      refine w_region ?_
      refine w_o rfl rfl rfl (op_addi rfl rfl (by omega) (by omega) ?_)
      refine w_o rfl rfl rfl (op_move rfl ?_)
      refine w_end ?_
      refine loop_normal (k' := 20 - (i + 1)) (by omega) ⟨i + 1, (10 * u % 18446744073709551616 + (max (firstIdx DigS x) 0).toNat) % 18446744073709551616, by omega, by omega, Nat.mod_lt _ (by decide), fun m h1 h2 => ?_, rfl, rfl, rfl⟩ env_ sel_
      have ht := hpm m h2
      have hdg := decR_dig m
      rw [← h2] at hdg
      rw [ht] at hx
      have hdx := hdg x (List.mem_of_getElem? hx)
      have e1 := digI_of x hdx
      have e2 : numW ((bl s).take (i + 1)) 0 = 10 * u + (x.toNat - 48) := by rw [List.take_add_one, hx, hn m h1 h2]; exact numW_snoc _ _ _
      have e3 := numW_take hdg (i + 1)
      have e4 : numW (bl s) 0 = m := by rw [h2]; exact numW_dec m
      rw [e2]
      rw [e2] at e3
      omega
    · have hfin : ∀ m : Nat, m ≤ 1000000 → bl s = decR m → u = m := by
        intro m h1 h2
        have ht := hpm m h2
        have hl := decR_len 7 m (by omega) (by decide)
        rw [← h2] at hl
        have hsz : s.size ≤ 7 := hl
        rw [ht] at hI1 hi
        have hi4 : i = s.size := by omega
        have := hn m h1 h2
        rw [hi4, show (bl s).take s.size = bl s from List.take_length, h2, numW_dec] at this
        exact this
      refine w_exit ?_
      refine seq_exit ?_
      refine loop_exit ?_
      refine block_hit rfl ?_
      refine seq_normal ?_
      refine w_seq ?_
      refine w_region ?_
      refine w_o rfl rfl rfl (op_move rfl ?_)
      refine w_o rfl rfl rfl (op_convi und_58 und_3 rfl rfl ?_)
      refine w_o rfl rfl rfl (op_assign rfl ?_)
      refine w_end ?_
      refine seq_normal ?_
      refine w_seq ?_
      refine w_seq ?_
      refine w_region ?_
      refine w_o rfl rfl rfl (op_move rfl ?_)
      refine w_end ?_
      refine seq_normal ?_
      first | refine w_cond rfl (fun hI2 => ?_) (fun hI2 => ?_) | refine w_condB rfl (fun hI2 => ?_) (fun hI2 => ?_)
      · have hno : ∀ m : Nat, bl s = decR m → False := fun m hm => by rw [hnp m hm] at hI2; cases hI2
        refine w_region ?_
        refine w_o rfl rfl rfl (op_move rfl ?_)
        refine w_o rfl rfl rfl (op_neg rfl (c := ((18446744073709551616 - (u : Int)) % 18446744073709551616)) (by rw [w_u64]; omega) ?_)
        refine w_o rfl rfl rfl (op_convi und_58 und_3 rfl rfl ?_)
        refine w_o rfl rfl rfl (op_assign rfl ?_)
        refine w_end ?_
        refine seq_normal ?_
        refine w_seq ?_
        refine w_seq ?_
        refine w_region ?_
        refine w_o rfl rfl rfl (op_move rfl ?_)
        refine w_o rfl rfl rfl (op_call rfl rfl rfl ?_)
        refine Dec_w (wrap_rng _).1 (wrap_rng _).2 ?_
        refine w_o rfl rfl rfl (op_move rfl ?_)
        refine w_o rfl rfl rfl (op_strne rfl rfl ?_)
        refine w_end ?_
        refine seq_normal ?_
        first | refine w_cond rfl (fun hI3 => ?_) (fun hI3 => ?_) | refine w_condB rfl (fun hI3 => ?_) (fun hI3 => ?_)
        · refine w_seq ?_
          refine w_region ?_
          refine w_o rfl rfl rfl (op_assign rfl ?_)
          refine w_o rfl rfl rfl (op_assign rfl ?_)
          refine w_end ?_
          refine seq_normal ?_
          refine w_ret ?_
          refine seq_ret ?_
          first
            | exact ret_ret rfl sel_ (k _ _ fun m h1 h2 => (hno m h2).elim)
            | exact ret_ret rfl sel_ (k _ _ fun m h1 h2 => absurd (show decB (IntKind.wrap .i64 (u : Int)) = s by rw [hfin m h1 h2, wrap_i64 (by omega) (by omega)]; exact (decB_of (by rw [if_neg (by omega), Int.toNat_natCast]; exact h2)).symm) hI3)
        · refine w_skip ?_
          refine seq_normal ?_
          refine w_seq ?_
          refine w_region ?_
          refine w_o rfl rfl rfl (op_move rfl ?_)
          refine w_o rfl rfl rfl (op_assign rfl ?_)
          refine w_o rfl rfl rfl (op_assign rfl ?_)
          refine w_end ?_
          refine seq_normal ?_
          refine w_ret ?_
          first
            | exact ret_ret rfl sel_ (k _ _ fun m h1 h2 => (hno m h2).elim)
            | exact ret_ret rfl sel_ (k _ _ fun m h1 h2 => by rw [hfin m h1 h2, wrap_i64 (by omega) (by omega)])
      · refine w_skip ?_
        refine seq_normal ?_
        refine w_seq ?_
        refine w_seq ?_
        refine w_region ?_
        refine w_o rfl rfl rfl (op_move rfl ?_)
        refine w_o rfl rfl rfl (op_call rfl rfl rfl ?_)
        refine Dec_w (wrap_rng _).1 (wrap_rng _).2 ?_
        refine w_o rfl rfl rfl (op_move rfl ?_)
        refine w_o rfl rfl rfl (op_strne rfl rfl ?_)
        refine w_end ?_
        refine seq_normal ?_
        first | refine w_cond rfl (fun hI3 => ?_) (fun hI3 => ?_) | refine w_condB rfl (fun hI3 => ?_) (fun hI3 => ?_)
        · refine w_seq ?_
          refine w_region ?_
          refine w_o rfl rfl rfl (op_assign rfl ?_)
          refine w_o rfl rfl rfl (op_assign rfl ?_)
          refine w_end ?_
          refine seq_normal ?_
          refine w_ret ?_
          refine seq_ret ?_
          first
            | exact ret_ret rfl sel_ (k _ _ fun m h1 h2 => (hno m h2).elim)
            | exact ret_ret rfl sel_ (k _ _ fun m h1 h2 => absurd (show decB (IntKind.wrap .i64 (u : Int)) = s by rw [hfin m h1 h2, wrap_i64 (by omega) (by omega)]; exact (decB_of (by rw [if_neg (by omega), Int.toNat_natCast]; exact h2)).symm) hI3)
        · refine w_skip ?_
          refine seq_normal ?_
          refine w_seq ?_
          refine w_region ?_
          refine w_o rfl rfl rfl (op_move rfl ?_)
          refine w_o rfl rfl rfl (op_assign rfl ?_)
          refine w_o rfl rfl rfl (op_assign rfl ?_)
          refine w_end ?_
          refine seq_normal ?_
          refine w_ret ?_
          first
            | exact ret_ret rfl sel_ (k _ _ fun m h1 h2 => (hno m h2).elim)
            | exact ret_ret rfl sel_ (k _ _ fun m h1 h2 => by rw [hfin m h1 h2, wrap_i64 (by omega) (by omega)])
end Go.Proofs.Ytigkfladgdknbaa.AM.B
