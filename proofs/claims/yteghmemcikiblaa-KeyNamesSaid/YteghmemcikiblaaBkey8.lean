/- The value of a sign's name. -/
import Derived.Test.YteghmemcikiblaaAX
import Derived.Test.YteghmemcikiblaaBkey7
set_option linter.unusedVariables false
set_option linter.unusedSimpArgs false
set_option maxRecDepth 10000
set_option maxHeartbeats 4000000
namespace Go.Proofs.Yteghmemcikiblaa.AM.B
open Go Go.RowKit
/-! ### The value of a sign's name -/
theorem and31_3 : ∀ n : Nat, n < 32 → bits .and .i64 (if 1 ≤ (n : Int) ∧ (n : Int) ≤ 26 then (n : Int) + 96 else (n : Int) + 64) 31 = n := by decide +kernel
theorem keyvalueX_w {H : Hyp} {K : V → Hyp → Prop} {s : ByteArray} {v : Int} (hs : bl s = bl (signV v)) (hv : controlV v = true ∨ (32 ≤ v ∧ v ≤ 2000000)) (k : K (.tup [.c (.int .i64 (if v < 32 then 2 else 1)), .c (.int .i64 v)]) H) : CallW Try.prog Xs 37 [vS s] H K := by
  have h0 : 0 ≤ v ∧ v ≤ 2000000 := by
    rcases hv with h | h
    · have := controlV_in h; omega
    · omega
  have hsz : s.size ≤ 8 := by
    have := signV_size h0.1 h0.2
    rw [bl_size, hs, ← bl_size]; exact this
  refine call_of (n := 52) (fun _ => rfl) Try.func37 rfl rfl ?_
  refine w_seq ?_
  refine w_region ?_
  refine w_o rfl rfl rfl (op_assign rfl ?_)
  refine w_o rfl rfl rfl (op_assign rfl ?_)
  refine w_end ?_
  refine seq_normal ?_
  refine w_seq ?_
  refine w_seq ?_
  refine w_region ?_
  refine w_o rfl rfl rfl (op_move rfl ?_)
  refine w_o rfl rfl rfl (op_call rfl rfl rfl ?_)
  refine CutPrefix_w (by omega) (by decide) ?_
  have hcase : (32 < v ∧ v < 127 ∧ v ≠ 60) ∨ (¬ (32 < v ∧ v < 127 ∧ v ≠ 60) ∧ 32 ≤ v) ∨ v < 32 := by omega
  have hp1 : hasPre s ⟨#[60]⟩ = decide (¬ (32 < v ∧ v < 127 ∧ v ≠ 60) ∧ 32 ≤ v) := by
    rcases hcase with h | h | h
    · rw [decide_eq_false (by omega)]
      refine hasPre_no ?_
      rw [hs, signV_1 h]
      rintro ⟨r, hr⟩
      have h2 : (60 : UInt8) = UInt8.ofNat v.toNat := (List.cons.inj hr).1
      have h3 := congrArg UInt8.toNat h2
      rw [UInt8.toNat_ofNat'] at h3
      have h4 : (60 : UInt8).toNat = 60 := rfl
      omega
    · rw [decide_eq_true h]
      exact (hasPre_yes (r := hexL v 1 ++ [62]) (by rw [hs, signV_2 h.1 h.2]; rfl)).1
    · rw [decide_eq_false (by omega)]
      refine hasPre_no ?_
      rw [hs, signV_3 h h0.1]
      rintro ⟨r, hr⟩
      exact absurd (List.cons.inj hr).1 (by decide)
  rw [hp1]
  refine w_o rfl rfl rfl (op_move rfl ?_)
  refine w_o rfl rfl rfl (op_extract rfl rfl ?_)
  refine w_o rfl rfl rfl (op_extract rfl rfl ?_)
  refine w_o rfl rfl rfl (op_assign rfl ?_)
  refine w_o rfl rfl rfl (op_assign rfl ?_)
  refine w_end ?_
  refine seq_normal ?_
  refine w_seq ?_
  refine w_region ?_
  refine w_o rfl rfl rfl (op_move rfl ?_)
  refine w_o rfl rfl rfl (op_move rfl ?_)
  first | refine w_known (t := 18) rfl (fun g18 => ?_) (fun g18 => ?_) | refine w_knownB (t := 18) rfl (fun g18 => ?_) (fun g18 => ?_)
  · have h2 : ¬ (32 < v ∧ v < 127 ∧ v ≠ 60) ∧ 32 ≤ v := by first | exact g18 | exact of_decide_eq_true g18
    have ht := (hasPre_yes (s := s) (p := ⟨#[60]⟩) (r := hexL v 1 ++ [62]) (by rw [hs, signV_2 h2.1 h2.2]; rfl)).2
    refine w_og rfl rfl rfl rfl rfl (op_move rfl ?_)
    refine w_og rfl rfl rfl rfl rfl (op_call rfl rfl rfl ?_)
    rw [if_pos (decide_eq_true h2)]
    generalize s.extract (ByteArray.size ⟨#[60]⟩) s.size = t at ht ⊢
    have hsf := hasSuf_yes (s := t) (p := ⟨#[62]⟩) (r := hexL v 1) ht
    have htz : t.size = (hexL v 1).length + 1 := by rw [bl_size, ht, List.length_append]; rfl
    have hx1 := (hex1 v h0.1 h0.2).2.2
    have hxl : (hexL v 1).length = (hexT v 1).size := rfl
    have hxv := hexL_val v 1 h0.1 (by omega) (by decide) (by decide)
    simp only [show ((1 : Nat) : Int) = 1 from rfl] at hxv
    have hx0 : hexL v 1 ≠ [] := by
      intro e
      have := hxv.1
      rw [e] at this
      have h3 := h2.2
      rw [← this] at h3
      exact absurd h3 (by decide)
    have hxp : 0 < (hexL v 1).length := List.length_pos_iff.2 hx0
    generalize (hexT v 1).size = z at hx1 hxl
    refine HasSuffix_w (by omega) (by decide) ?_
    rw [hsf.1]
    refine w_o rfl rfl rfl (op_pick rfl rfl rfl ?_)
    refine w_end ?_
    refine seq_normal ?_
    first | refine w_cond rfl (fun hI1 => ?_) (fun hI1 => ?_) | refine w_condB rfl (fun hI1 => ?_) (fun hI1 => ?_)
    · try (cases hI1; done)
      all_goals
        refine w_seq ?_
        refine w_region ?_
        refine w_o rfl rfl rfl (op_move rfl ?_)
        refine w_o rfl rfl rfl (op_move rfl ?_)
        refine w_o rfl rfl rfl (op_lenS und_9 rfl ?_)
        refine w_o rfl rfl rfl (op_subi rfl rfl (by omega) (by omega) ?_)
        refine w_o rfl rfl rfl (op_sliceS und_9 rfl rfl rfl (by omega) (by omega) (by omega) ?_)
        refine w_o rfl rfl rfl (op_call rfl rfl rfl ?_)
        have e3 : ((t.size : Int) - 1).toNat = t.size - ByteArray.size ⟨#[62]⟩ := by
          have : ByteArray.size ⟨#[62]⟩ = 1 := rfl
          omega
        rw [e3, show ((0 : Nat) : Int).toNat = 0 from rfl]
        have hu := hsf.2
        generalize t.extract 0 (t.size - ByteArray.size ⟨#[62]⟩) = u at hu ⊢
        refine UnhexX_w (by rw [bl_size, hu]; omega) (by rw [bl_size, hu]; omega) (by intro x hx; have hx' : x ∈ bl u := hx; rw [hu] at hx'; exact (hxv.2 x hx').1) ?_
        have hval : hexTo 0 u.data.toList = v := by
          show hexTo 0 (bl u) = v
          rw [hu, hexTo_val, hxv.1]; simp
        rw [hval]
        refine w_o rfl rfl rfl (op_move rfl ?_)
        refine w_o rfl rfl rfl (op_extract rfl rfl ?_)
        refine w_o rfl rfl rfl (op_extract rfl rfl ?_)
        refine w_o rfl rfl rfl (op_assign rfl ?_)
        refine w_o rfl rfl rfl (op_assign rfl ?_)
        refine w_end ?_
        refine seq_normal ?_
        refine w_seq ?_
        refine w_region ?_
        refine w_o rfl rfl rfl (op_move rfl ?_)
        refine w_o rfl rfl rfl (op_assign rfl ?_)
        refine w_o rfl rfl rfl (op_assign rfl ?_)
        refine w_end ?_
        refine seq_normal ?_
        refine w_ret ?_
        refine seq_ret ?_
        rw [if_neg (by omega)] at k
        exact ret_ret rfl sel_ k
    · try (cases hI1; done)
      all_goals
        refine w_skip ?_
        refine seq_normal ?_
        refine w_seq ?_
        refine w_seq ?_
        refine w_region ?_
        refine w_o rfl rfl rfl (op_move rfl ?_)
        refine w_o rfl rfl rfl (op_call rfl rfl rfl ?_)
        refine CutPrefix_w (by omega) (by decide) ?_
        have hp2 : hasPre s ⟨#[67, 45]⟩ = decide (v < 32) := by
          by_cases h : v < 32
          · rw [decide_eq_true h]
            exact (hasPre_yes (r := [UInt8.ofNat (if 1 ≤ v ∧ v ≤ 26 then v + 96 else v + 64).toNat]) (by rw [hs, signV_3 h h0.1]; rfl)).1
          · rw [decide_eq_false h]
            refine hasPre_no ?_
            rw [hs, signV_1 (by omega)]
            rintro ⟨r, hr⟩
            have := congrArg List.length hr
            simp [bsOf] at this <;> omega
        rw [hp2]
        refine w_o rfl rfl rfl (op_move rfl ?_)
        refine w_o rfl rfl rfl (op_extract rfl rfl ?_)
        refine w_o rfl rfl rfl (op_extract rfl rfl ?_)
        refine w_o rfl rfl rfl (op_assign rfl ?_)
        refine w_o rfl rfl rfl (op_assign rfl ?_)
        refine w_end ?_
        refine seq_normal ?_
        refine w_seq ?_
        refine w_region ?_
        refine w_o rfl rfl rfl (op_move rfl ?_)
        refine w_o rfl rfl rfl (op_move rfl ?_)
        first | refine w_known (t := 38) rfl (fun g38 => ?_) (fun g38 => ?_) | refine w_knownB (t := 38) rfl (fun g38 => ?_) (fun g38 => ?_)
        · have hlt : v < 32 := by first | exact g38 | exact of_decide_eq_true g38
          have ht2 := (hasPre_yes (s := s) (p := ⟨#[67, 45]⟩) (r := [UInt8.ofNat (if 1 ≤ v ∧ v ≤ 26 then v + 96 else v + 64).toNat]) (by rw [hs, signV_3 hlt h0.1]; rfl)).2
          rw [if_pos (decide_eq_true hlt)]
          generalize s.extract (ByteArray.size ⟨#[67, 45]⟩) s.size = t2 at ht2 ⊢
          have hz2 : t2.size = 1 := by rw [bl_size, ht2]; rfl
          have hb2 : byteAt t2 0 = if 1 ≤ v ∧ v ≤ 26 then v + 96 else v + 64 := by
            have h1 : t2.data.toList[0]? = some (UInt8.ofNat (if 1 ≤ v ∧ v ≤ 26 then v + 96 else v + 64).toNat) := by
              have h9 : bl t2 = _ := ht2
              rw [show t2.data.toList = bl t2 from rfl, h9]; rfl
            have h2 := (byteAt_list (i := 0) h1).1
            rw [UInt8.toNat_ofNat'] at h2
            have h3 : (byteAt t2 0) = byteAt t2 ((0 : Nat) : Int) := rfl
            rw [h3, h2]
            split <;> omega
          have hand : bits .and .i64 (byteAt t2 0) 31 = v := by
            have := and31_3 v.toNat (by omega)
            rw [Int.toNat_of_nonneg h0.1] at this
            rw [hb2]; exact this
          have hbi := byteIn t2 0
          refine w_og rfl rfl rfl rfl rfl (op_move rfl ?_)
          refine w_og rfl rfl rfl rfl rfl (op_strne rfl rfl ?_)
          refine w_o rfl rfl rfl (op_pick rfl rfl rfl ?_)
          refine w_end ?_
          refine seq_normal ?_
          refine w_condY rfl (by intro e; rw [e] at ht2; cases ht2) ?_
          refine w_seq ?_
          refine w_draw (by decide +kernel) (by decide +kernel) ?_
          refine w_d rfl rfl rfl (op_move rfl ?_)
          refine w_d rfl rfl rfl (op_indexS und_9 rfl rfl (by omega) (by omega) ?_)
          refine w_d rfl rfl rfl (op_convi und_5 und_3 rfl (wrap_i64 (by omega) (by omega)) ?_)
          refine w_d rfl rfl rfl (op_band rfl rfl hand ?_)
          refine w_d rfl rfl rfl (op_assign rfl ?_)
          refine w_d rfl rfl rfl (op_assign rfl ?_)
          refine w_end ?_
          refine seq_normal ?_
          refine w_ret ?_
          refine seq_ret ?_
          rw [if_pos hlt] at k
          exact ret_ret rfl sel_ k
        · have hge : ¬ v < 32 := by first | exact g38 | exact of_decide_eq_false g38
          refine w_u rfl rfl rfl rfl rfl rfl ?_
          refine w_u rfl rfl rfl rfl rfl rfl ?_
          refine w_o rfl rfl rfl (op_pick rfl rfl rfl ?_)
          refine w_end ?_
          refine seq_normal ?_
          refine w_condF rfl ?_
          refine w_skip ?_
          refine seq_normal ?_
          refine w_seq ?_
          refine w_region ?_
          refine w_o rfl rfl rfl (op_move rfl ?_)
          refine w_o rfl rfl rfl (op_call rfl rfl rfl ?_)
          have h3 : 32 < v ∧ v < 127 ∧ v ≠ 60 := by omega
          have hsv : s = bsOf [v] := bl_inj (by rw [hs, signV_1 h3])
          rw [hsv]
          refine OneX_w h0.1 (by omega) fun m => ?_
          refine w_o rfl rfl rfl (op_move rfl ?_)
          refine w_o rfl rfl rfl (op_extract rfl rfl ?_)
          refine w_o rfl rfl rfl (op_extract rfl rfl ?_)
          refine w_o rfl rfl rfl (op_assign rfl ?_)
          refine w_o rfl rfl rfl (op_assign rfl ?_)
          refine w_end ?_
          refine seq_normal ?_
          refine w_seq ?_
          refine w_region ?_
          refine w_o rfl rfl rfl (op_move rfl ?_)
          refine w_o rfl rfl rfl (op_assign rfl ?_)
          refine w_o rfl rfl rfl (op_assign rfl ?_)
          refine w_end ?_
          refine seq_normal ?_
          refine w_ret ?_
          rw [if_neg (by omega)] at k
          exact ret_ret rfl sel_ k
  · have h2 : ¬ (¬ (32 < v ∧ v < 127 ∧ v ≠ 60) ∧ 32 ≤ v) := by first | exact g18 | exact of_decide_eq_false g18
    refine w_u rfl rfl rfl rfl rfl rfl ?_
    refine w_u rfl rfl rfl rfl rfl rfl ?_
    refine w_o rfl rfl rfl (op_pick rfl rfl rfl ?_)
    refine w_end ?_
    refine seq_normal ?_
    refine w_condF rfl ?_
    refine w_skip ?_
    refine seq_normal ?_
    refine w_seq ?_
    refine w_seq ?_
    refine w_region ?_
    refine w_o rfl rfl rfl (op_move rfl ?_)
    refine w_o rfl rfl rfl (op_call rfl rfl rfl ?_)
    refine CutPrefix_w (by omega) (by decide) ?_
    have hp2 : hasPre s ⟨#[67, 45]⟩ = decide (v < 32) := by
      by_cases h : v < 32
      · rw [decide_eq_true h]
        exact (hasPre_yes (r := [UInt8.ofNat (if 1 ≤ v ∧ v ≤ 26 then v + 96 else v + 64).toNat]) (by rw [hs, signV_3 h h0.1]; rfl)).1
      · rw [decide_eq_false h]
        refine hasPre_no ?_
        rw [hs, signV_1 (by omega)]
        rintro ⟨r, hr⟩
        have := congrArg List.length hr
        simp [bsOf] at this <;> omega
    rw [hp2]
    refine w_o rfl rfl rfl (op_move rfl ?_)
    refine w_o rfl rfl rfl (op_extract rfl rfl ?_)
    refine w_o rfl rfl rfl (op_extract rfl rfl ?_)
    refine w_o rfl rfl rfl (op_assign rfl ?_)
    refine w_o rfl rfl rfl (op_assign rfl ?_)
    refine w_end ?_
    refine seq_normal ?_
    refine w_seq ?_
    refine w_region ?_
    refine w_o rfl rfl rfl (op_move rfl ?_)
    refine w_o rfl rfl rfl (op_move rfl ?_)
    first | refine w_known (t := 38) rfl (fun g38 => ?_) (fun g38 => ?_) | refine w_knownB (t := 38) rfl (fun g38 => ?_) (fun g38 => ?_)
    · have hlt : v < 32 := by first | exact g38 | exact of_decide_eq_true g38
      have ht2 := (hasPre_yes (s := s) (p := ⟨#[67, 45]⟩) (r := [UInt8.ofNat (if 1 ≤ v ∧ v ≤ 26 then v + 96 else v + 64).toNat]) (by rw [hs, signV_3 hlt h0.1]; rfl)).2
      rw [if_pos (decide_eq_true hlt)]
      generalize s.extract (ByteArray.size ⟨#[67, 45]⟩) s.size = t2 at ht2 ⊢
      have hz2 : t2.size = 1 := by rw [bl_size, ht2]; rfl
      have hb2 : byteAt t2 0 = if 1 ≤ v ∧ v ≤ 26 then v + 96 else v + 64 := by
        have h1 : t2.data.toList[0]? = some (UInt8.ofNat (if 1 ≤ v ∧ v ≤ 26 then v + 96 else v + 64).toNat) := by
          have h9 : bl t2 = _ := ht2
          rw [show t2.data.toList = bl t2 from rfl, h9]; rfl
        have h2 := (byteAt_list (i := 0) h1).1
        rw [UInt8.toNat_ofNat'] at h2
        have h3 : (byteAt t2 0) = byteAt t2 ((0 : Nat) : Int) := rfl
        rw [h3, h2]
        split <;> omega
      have hand : bits .and .i64 (byteAt t2 0) 31 = v := by
        have := and31_3 v.toNat (by omega)
        rw [Int.toNat_of_nonneg h0.1] at this
        rw [hb2]; exact this
      have hbi := byteIn t2 0
      refine w_og rfl rfl rfl rfl rfl (op_move rfl ?_)
      refine w_og rfl rfl rfl rfl rfl (op_strne rfl rfl ?_)
      refine w_o rfl rfl rfl (op_pick rfl rfl rfl ?_)
      refine w_end ?_
      refine seq_normal ?_
      refine w_condY rfl (by intro e; rw [e] at ht2; cases ht2) ?_
      refine w_seq ?_
      refine w_draw (by decide +kernel) (by decide +kernel) ?_
      refine w_d rfl rfl rfl (op_move rfl ?_)
      refine w_d rfl rfl rfl (op_indexS und_9 rfl rfl (by omega) (by omega) ?_)
      refine w_d rfl rfl rfl (op_convi und_5 und_3 rfl (wrap_i64 (by omega) (by omega)) ?_)
      refine w_d rfl rfl rfl (op_band rfl rfl hand ?_)
      refine w_d rfl rfl rfl (op_assign rfl ?_)
      refine w_d rfl rfl rfl (op_assign rfl ?_)
      refine w_end ?_
      refine seq_normal ?_
      refine w_ret ?_
      refine seq_ret ?_
      rw [if_pos hlt] at k
      exact ret_ret rfl sel_ k
    · have hge : ¬ v < 32 := by first | exact g38 | exact of_decide_eq_false g38
      refine w_u rfl rfl rfl rfl rfl rfl ?_
      refine w_u rfl rfl rfl rfl rfl rfl ?_
      refine w_o rfl rfl rfl (op_pick rfl rfl rfl ?_)
      refine w_end ?_
      refine seq_normal ?_
      refine w_condF rfl ?_
      refine w_skip ?_
      refine seq_normal ?_
      refine w_seq ?_
      refine w_region ?_
      refine w_o rfl rfl rfl (op_move rfl ?_)
      refine w_o rfl rfl rfl (op_call rfl rfl rfl ?_)
      have h3 : 32 < v ∧ v < 127 ∧ v ≠ 60 := by omega
      have hsv : s = bsOf [v] := bl_inj (by rw [hs, signV_1 h3])
      rw [hsv]
      refine OneX_w h0.1 (by omega) fun m => ?_
      refine w_o rfl rfl rfl (op_move rfl ?_)
      refine w_o rfl rfl rfl (op_extract rfl rfl ?_)
      refine w_o rfl rfl rfl (op_extract rfl rfl ?_)
      refine w_o rfl rfl rfl (op_assign rfl ?_)
      refine w_o rfl rfl rfl (op_assign rfl ?_)
      refine w_end ?_
      refine seq_normal ?_
      refine w_seq ?_
      refine w_region ?_
      refine w_o rfl rfl rfl (op_move rfl ?_)
      refine w_o rfl rfl rfl (op_assign rfl ?_)
      refine w_o rfl rfl rfl (op_assign rfl ?_)
      refine w_end ?_
      refine seq_normal ?_
      refine w_ret ?_
      rw [if_neg (by omega)] at k
      exact ret_ret rfl sel_ k
end Go.Proofs.Yteghmemcikiblaa.AM.B
