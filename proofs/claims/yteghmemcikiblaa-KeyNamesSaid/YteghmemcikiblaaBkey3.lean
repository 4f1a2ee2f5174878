/- The names of signs: the program's, and the reference's. -/
import Derived.Test.YteghmemcikiblaaAX
import Derived.Test.YteghmemcikiblaaBkey2
set_option linter.unusedVariables false
set_option linter.unusedSimpArgs false
set_option maxRecDepth 10000
set_option maxHeartbeats 4000000
namespace Go.Proofs.Yteghmemcikiblaa.AM.B
open Go Go.RowKit
abbrev hexT (n L : Int) : ByteArray := Go.Proofs.Yteghmemcikiblaa.P.num_Hex.v n L
theorem hex1 (v : Int) (h0 : 0 ≤ v) (h1 : v ≤ 2000000) : Go.Proofs.Yteghmemcikiblaa.P.num_Hex.f v 1 = some (hexT v 1) ∧ Go.Proofs.Yteghmemcikiblaa.P.dactylref01_Hex.f 100 v 1 = some (hexT v 1) ∧ (hexT v 1).size ≤ 6 := by
  obtain ⟨f1, f2⟩ := Go.Proofs.Yteghmemcikiblaa.P.hx_refHex_at v 1 6 100 h0 (by omega) (by omega) (by omega) (by omega) (by omega) (by omega) (by omega)
  exact ⟨Go.Proofs.Yteghmemcikiblaa.P.hx_f v 1 h0 (by omega), f1, f2⟩
theorem hex2 (v : Int) (h0 : 0 ≤ v) (h1 : v ≤ 255) : Go.Proofs.Yteghmemcikiblaa.P.num_Hex.f v 2 = some (hexT v 2) ∧ Go.Proofs.Yteghmemcikiblaa.P.dactylref01_Hex.f 100 v 2 = some (hexT v 2) ∧ (hexT v 2).size ≤ 2 := by
  obtain ⟨f1, f2⟩ := Go.Proofs.Yteghmemcikiblaa.P.hx_refHex_at v 2 2 100 h0 (by omega) (by omega) (by omega) (by omega) (by omega) (by omega) (by omega)
  exact ⟨Go.Proofs.Yteghmemcikiblaa.P.hx_f v 2 h0 (by omega), f1, f2⟩
theorem bsOf_size (l : List Int) : (bsOf l).size = l.length := by
  show (bsOf l).data.toList.length = _
  rw [bsOf_list, List.length_map]
theorem encL_ascii {v : Int} (h0 : 0 ≤ v) (h1 : v ≤ 127) : encL v = [v] := by
  unfold encL
  rw [if_pos (by simp only [pointV, decide_eq_true_eq]; omega), Lib.encodeRuneZ_one h0 h1]
theorem byteIn (s : ByteArray) (i : Int) : 0 ≤ byteAt s i ∧ byteAt s i ≤ 255 := by
  unfold byteAt
  have := ((s.data.toList[i.toNat]?).getD 0).toNat_lt
  omega
def signV (v : Int) : ByteArray := if 32 < v ∧ v < 127 ∧ v ≠ 60 then bsOf [v] else if 32 ≤ v then ((⟨#[60]⟩ : ByteArray) ++ hexT v 1) ++ ⟨#[62]⟩ else if 1 ≤ v ∧ v ≤ 26 then (⟨#[67, 45]⟩ : ByteArray) ++ bsOf [v + 96] else (⟨#[67, 45]⟩ : ByteArray) ++ bsOf [v + 64]
theorem sz1 (a : UInt8) : (⟨#[a]⟩ : ByteArray).size = 1 := rfl
theorem sz2 (a b : UInt8) : (⟨#[a, b]⟩ : ByteArray).size = 2 := rfl
theorem signV_size {v : Int} (h0 : 0 ≤ v) (h1 : v ≤ 2000000) : (signV v).size ≤ 8 := by
  have h := (hex1 v h0 h1).2.2
  unfold signV
  generalize hexT v 1 = t at h ⊢
  (repeat' split) <;> simp only [ByteArray.size_append, bsOf_size, sz1, sz2, List.length_cons, List.length_nil] <;> omega
theorem sign_w {H : Hyp} {K : V → Hyp → Prop} {v : Int} (h0 : 0 ≤ v) (h1 : v ≤ 2000000) (k : K (vS (signV v)) H) : CallW Try.prog Xs 16 [vI v] H K := by
  obtain ⟨q1, q2, q3⟩ := hex1 v h0 h1
  generalize hq : hexT v 1 = t at q1 q2 q3
  refine call_of (n := 41) (fun _ => rfl) Try.func16 rfl rfl ?_
  refine w_seq ?_
  refine w_region ?_
  refine w_o rfl rfl rfl (op_assign rfl ?_)
  refine w_end ?_
  refine seq_normal ?_
  refine w_seq ?_
  refine w_block ?_
  refine w_seq ?_
  refine w_region ?_
  refine w_o rfl rfl rfl (op_move rfl ?_)
  refine w_o rfl rfl rfl (op_gt rfl rfl ?_)
  refine w_o rfl rfl rfl (op_move rfl ?_)
  first | refine w_known (t := 6) rfl (fun g6 => ?_) (fun g6 => ?_) | refine w_knownB (t := 6) rfl (fun g6 => ?_) (fun g6 => ?_)
  · refine w_og rfl rfl rfl rfl rfl (op_move rfl ?_)
    refine w_og rfl rfl rfl rfl rfl (op_lt rfl rfl ?_)
    refine w_o rfl rfl rfl (op_pick rfl rfl rfl ?_)
    refine w_o rfl rfl rfl (op_move rfl ?_)
    first | refine w_known (t := 10) rfl (fun g10 => ?_) (fun g10 => ?_) | refine w_knownB (t := 10) rfl (fun g10 => ?_) (fun g10 => ?_)
    · refine w_og rfl rfl rfl rfl rfl (op_move rfl ?_)
      refine w_og rfl rfl rfl rfl rfl (op_ne rfl rfl ?_)
      refine w_o rfl rfl rfl (op_pick rfl rfl rfl ?_)
      refine w_o rfl rfl rfl (op_assign rfl ?_)
      refine w_end ?_
      refine seq_normal ?_
      first | refine w_cond rfl (fun hI1 => ?_) (fun hI1 => ?_) | refine w_condB rfl (fun hI1 => ?_) (fun hI1 => ?_)
      · refine w_seq ?_
        refine w_region ?_
        refine w_o rfl rfl rfl (op_move rfl ?_)
        refine w_o rfl rfl rfl (op_buildSlice rfl (bsl_51 _ _ _ (rfl : _ = some [_]) rfl (by decide)) fun b15 => ?_)
        refine w_o rfl rfl rfl (op_call rfl rfl rfl ?_)
        refine Encode1_w (v := v) (Sl.of_row (List.Mem.head _) rfl) ?_
        refine w_o rfl rfl rfl (op_assign rfl ?_)
        refine w_end ?_
        refine seq_normal ?_
        refine w_ret ?_
        refine block_ret ?_
        refine seq_ret ?_
        rw [show signV v = bsOf (encL v) by unfold signV; rw [if_pos (by omega), encL_ascii (by omega) (by omega)]] at k
        exact ret_ret rfl sel_ k
      · refine w_seq ?_
        refine w_region ?_
        refine w_o rfl rfl rfl (op_move rfl ?_)
        refine w_o rfl rfl rfl (op_ge rfl rfl ?_)
        refine w_o rfl rfl rfl (op_assign rfl ?_)
        refine w_end ?_
        refine seq_normal ?_
        first | refine w_cond rfl (fun hI2 => ?_) (fun hI2 => ?_) | refine w_condB rfl (fun hI2 => ?_) (fun hI2 => ?_)
        · refine w_seq ?_
          refine w_region ?_
          refine w_o rfl rfl rfl (op_move rfl ?_)
          refine w_o rfl rfl rfl (op_call rfl rfl rfl ?_)
          refine num_Hex_sw q1 ?_
          refine w_o rfl rfl rfl (op_stradd rfl rfl (by rw [sz1]; omega) ?_)
          refine w_o rfl rfl rfl (op_stradd rfl rfl (by rw [ByteArray.size_append, sz1, sz1]; omega) ?_)
          refine w_o rfl rfl rfl (op_assign rfl ?_)
          refine w_end ?_
          refine seq_normal ?_
          refine w_ret ?_
          refine block_ret ?_
          refine seq_ret ?_
          rw [show signV v = ((⟨#[60]⟩ : ByteArray) ++ t) ++ ⟨#[62]⟩ by unfold signV; rw [if_neg (by omega), if_pos hI2, hq]] at k
          exact ret_ret rfl sel_ k
        · refine w_seq ?_
          refine w_region ?_
          refine w_o rfl rfl rfl (op_move rfl ?_)
          refine w_o rfl rfl rfl (op_ge rfl rfl ?_)
          refine w_o rfl rfl rfl (op_move rfl ?_)
          first | refine w_known (t := 27) rfl (fun g27 => ?_) (fun g27 => ?_) | refine w_knownB (t := 27) rfl (fun g27 => ?_) (fun g27 => ?_)
          · refine w_og rfl rfl rfl rfl rfl (op_move rfl ?_)
            refine w_og rfl rfl rfl rfl rfl (op_le rfl rfl ?_)
            refine w_o rfl rfl rfl (op_pick rfl rfl rfl ?_)
            refine w_o rfl rfl rfl (op_assign rfl ?_)
            refine w_end ?_
            refine seq_normal ?_
            first | refine w_cond rfl (fun hI3 => ?_) (fun hI3 => ?_) | refine w_condB rfl (fun hI3 => ?_) (fun hI3 => ?_)
            · refine w_seq ?_
              refine w_region ?_
              refine w_o rfl rfl rfl (op_move rfl ?_)
              refine w_o rfl rfl rfl (op_addi rfl rfl (by omega) (by omega) ?_)
              refine w_o rfl rfl rfl (op_buildSlice rfl (bsl_51 _ _ _ (rfl : _ = some [_]) rfl (by decide)) fun b33 => ?_)
              refine w_o rfl rfl rfl (op_call rfl rfl rfl ?_)
              refine Encode1_w (v := v + 96) (Sl.of_row (List.Mem.head _) rfl) ?_
              rw [encL_ascii (v := v + 96) (by omega) (by omega)]
              refine w_o rfl rfl rfl (op_stradd rfl rfl (by rw [sz2, bsOf_size]; simp) ?_)
              refine w_o rfl rfl rfl (op_assign rfl ?_)
              refine w_end ?_
              refine seq_normal ?_
              refine w_ret ?_
              refine block_ret ?_
              refine seq_ret ?_
              rw [show signV v = (⟨#[67, 45]⟩ : ByteArray) ++ bsOf [v + 96] by unfold signV; rw [if_neg (by omega), if_neg hI2, if_pos (by omega)]] at k
              exact ret_ret rfl sel_ k
            · refine w_skip ?_
              refine block_normal ?_
              refine seq_normal ?_
              refine w_seq ?_
              refine w_region ?_
              refine w_o rfl rfl rfl (op_move rfl ?_)
              refine w_o rfl rfl rfl (op_addi rfl rfl (by omega) (by omega) ?_)
              refine w_o rfl rfl rfl (op_buildSlice rfl (bsl_51 _ _ _ (rfl : _ = some [_]) rfl (by decide)) fun b38 => ?_)
              refine w_o rfl rfl rfl (op_call rfl rfl rfl ?_)
              refine Encode1_w (v := v + 64) (Sl.of_row (List.Mem.head _) rfl) ?_
              rw [encL_ascii (v := v + 64) (by omega) (by omega)]
              refine w_o rfl rfl rfl (op_stradd rfl rfl (by rw [sz2, bsOf_size]; simp) ?_)
              refine w_o rfl rfl rfl (op_assign rfl ?_)
              refine w_end ?_
              refine seq_normal ?_
              refine w_ret ?_
              rw [show signV v = (⟨#[67, 45]⟩ : ByteArray) ++ bsOf [v + 64] by unfold signV; rw [if_neg (by omega), if_neg hI2, if_neg (by omega)]] at k
              exact ret_ret rfl sel_ k
          · refine w_u rfl rfl rfl rfl rfl rfl ?_
            refine w_u rfl rfl rfl rfl rfl rfl ?_
            refine w_o rfl rfl rfl (op_pick rfl rfl rfl ?_)
            refine w_o rfl rfl rfl (op_assign rfl ?_)
            refine w_end ?_
            refine seq_normal ?_
            refine w_condF rfl ?_
            refine w_skip ?_
            refine block_normal ?_
            refine seq_normal ?_
            refine w_seq ?_
            refine w_region ?_
            refine w_o rfl rfl rfl (op_move rfl ?_)
            refine w_o rfl rfl rfl (op_addi rfl rfl (by omega) (by omega) ?_)
            refine w_o rfl rfl rfl (op_buildSlice rfl (bsl_51 _ _ _ (rfl : _ = some [_]) rfl (by decide)) fun b38 => ?_)
            refine w_o rfl rfl rfl (op_call rfl rfl rfl ?_)
            refine Encode1_w (v := v + 64) (Sl.of_row (List.Mem.head _) rfl) ?_
            rw [encL_ascii (v := v + 64) (by omega) (by omega)]
            refine w_o rfl rfl rfl (op_stradd rfl rfl (by rw [sz2, bsOf_size]; simp) ?_)
            refine w_o rfl rfl rfl (op_assign rfl ?_)
            refine w_end ?_
            refine seq_normal ?_
            refine w_ret ?_
            rw [show signV v = (⟨#[67, 45]⟩ : ByteArray) ++ bsOf [v + 64] by unfold signV; rw [if_neg (by omega), if_neg hI2, if_neg (by omega)]] at k
            exact ret_ret rfl sel_ k
    · refine w_u rfl rfl rfl rfl rfl rfl ?_
      refine w_u rfl rfl rfl rfl rfl rfl ?_
      refine w_o rfl rfl rfl (op_pick rfl rfl rfl ?_)
      refine w_o rfl rfl rfl (op_assign rfl ?_)
      refine w_end ?_
      refine seq_normal ?_
      refine w_condF rfl ?_
      refine w_seq ?_
      refine w_region ?_
      refine w_o rfl rfl rfl (op_move rfl ?_)
      refine w_o rfl rfl rfl (op_ge rfl rfl ?_)
      refine w_o rfl rfl rfl (op_assign rfl ?_)
      refine w_end ?_
      refine seq_normal ?_
      first | refine w_cond rfl (fun hI2 => ?_) (fun hI2 => ?_) | refine w_condB rfl (fun hI2 => ?_) (fun hI2 => ?_)
      · refine w_seq ?_
        refine w_region ?_
        refine w_o rfl rfl rfl (op_move rfl ?_)
        refine w_o rfl rfl rfl (op_call rfl rfl rfl ?_)
        refine num_Hex_sw q1 ?_
        refine w_o rfl rfl rfl (op_stradd rfl rfl (by rw [sz1]; omega) ?_)
        refine w_o rfl rfl rfl (op_stradd rfl rfl (by rw [ByteArray.size_append, sz1, sz1]; omega) ?_)
        refine w_o rfl rfl rfl (op_assign rfl ?_)
        refine w_end ?_
        refine seq_normal ?_
        refine w_ret ?_
        refine block_ret ?_
        refine seq_ret ?_
        rw [show signV v = ((⟨#[60]⟩ : ByteArray) ++ t) ++ ⟨#[62]⟩ by unfold signV; rw [if_neg (by omega), if_pos hI2, hq]] at k
        exact ret_ret rfl sel_ k
      · refine w_seq ?_
        refine w_region ?_
        refine w_o rfl rfl rfl (op_move rfl ?_)
        refine w_o rfl rfl rfl (op_ge rfl rfl ?_)
        refine w_o rfl rfl rfl (op_move rfl ?_)
        first | refine w_known (t := 27) rfl (fun g27 => ?_) (fun g27 => ?_) | refine w_knownB (t := 27) rfl (fun g27 => ?_) (fun g27 => ?_)
        · refine w_og rfl rfl rfl rfl rfl (op_move rfl ?_)
          refine w_og rfl rfl rfl rfl rfl (op_le rfl rfl ?_)
          refine w_o rfl rfl rfl (op_pick rfl rfl rfl ?_)
          refine w_o rfl rfl rfl (op_assign rfl ?_)
          refine w_end ?_
          refine seq_normal ?_
          first | refine w_cond rfl (fun hI3 => ?_) (fun hI3 => ?_) | refine w_condB rfl (fun hI3 => ?_) (fun hI3 => ?_)
          · refine w_seq ?_
            refine w_region ?_
            refine w_o rfl rfl rfl (op_move rfl ?_)
            refine w_o rfl rfl rfl (op_addi rfl rfl (by omega) (by omega) ?_)
            refine w_o rfl rfl rfl (op_buildSlice rfl (bsl_51 _ _ _ (rfl : _ = some [_]) rfl (by decide)) fun b33 => ?_)
            refine w_o rfl rfl rfl (op_call rfl rfl rfl ?_)
            refine Encode1_w (v := v + 96) (Sl.of_row (List.Mem.head _) rfl) ?_
            rw [encL_ascii (v := v + 96) (by omega) (by omega)]
            refine w_o rfl rfl rfl (op_stradd rfl rfl (by rw [sz2, bsOf_size]; simp) ?_)
            refine w_o rfl rfl rfl (op_assign rfl ?_)
            refine w_end ?_
            refine seq_normal ?_
            refine w_ret ?_
            refine block_ret ?_
            refine seq_ret ?_
            rw [show signV v = (⟨#[67, 45]⟩ : ByteArray) ++ bsOf [v + 96] by unfold signV; rw [if_neg (by omega), if_neg hI2, if_pos (by omega)]] at k
            exact ret_ret rfl sel_ k
          · refine w_skip ?_
            refine block_normal ?_
            refine seq_normal ?_
            refine w_seq ?_
            refine w_region ?_
            refine w_o rfl rfl rfl (op_move rfl ?_)
            refine w_o rfl rfl rfl (op_addi rfl rfl (by omega) (by omega) ?_)
            refine w_o rfl rfl rfl (op_buildSlice rfl (bsl_51 _ _ _ (rfl : _ = some [_]) rfl (by decide)) fun b38 => ?_)
            refine w_o rfl rfl rfl (op_call rfl rfl rfl ?_)
            refine Encode1_w (v := v + 64) (Sl.of_row (List.Mem.head _) rfl) ?_
            rw [encL_ascii (v := v + 64) (by omega) (by omega)]
            refine w_o rfl rfl rfl (op_stradd rfl rfl (by rw [sz2, bsOf_size]; simp) ?_)
            refine w_o rfl rfl rfl (op_assign rfl ?_)
            refine w_end ?_
            refine seq_normal ?_
            refine w_ret ?_
            rw [show signV v = (⟨#[67, 45]⟩ : ByteArray) ++ bsOf [v + 64] by unfold signV; rw [if_neg (by omega), if_neg hI2, if_neg (by omega)]] at k
            exact ret_ret rfl sel_ k
        · refine w_u rfl rfl rfl rfl rfl rfl ?_
          refine w_u rfl rfl rfl rfl rfl rfl ?_
          refine w_o rfl rfl rfl (op_pick rfl rfl rfl ?_)
          refine w_o rfl rfl rfl (op_assign rfl ?_)
          refine w_end ?_
          refine seq_normal ?_
          refine w_condF rfl ?_
          refine w_skip ?_
          refine block_normal ?_
          refine seq_normal ?_
          refine w_seq ?_
          refine w_region ?_
          refine w_o rfl rfl rfl (op_move rfl ?_)
          refine w_o rfl rfl rfl (op_addi rfl rfl (by omega) (by omega) ?_)
          refine w_o rfl rfl rfl (op_buildSlice rfl (bsl_51 _ _ _ (rfl : _ = some [_]) rfl (by decide)) fun b38 => ?_)
          refine w_o rfl rfl rfl (op_call rfl rfl rfl ?_)
          refine Encode1_w (v := v + 64) (Sl.of_row (List.Mem.head _) rfl) ?_
          rw [encL_ascii (v := v + 64) (by omega) (by omega)]
          refine w_o rfl rfl rfl (op_stradd rfl rfl (by rw [sz2, bsOf_size]; simp) ?_)
          refine w_o rfl rfl rfl (op_assign rfl ?_)
          refine w_end ?_
          refine seq_normal ?_
          refine w_ret ?_
          rw [show signV v = (⟨#[67, 45]⟩ : ByteArray) ++ bsOf [v + 64] by unfold signV; rw [if_neg (by omega), if_neg hI2, if_neg (by omega)]] at k
          exact ret_ret rfl sel_ k
  · refine w_u rfl rfl rfl rfl rfl rfl ?_
    refine w_u rfl rfl rfl rfl rfl rfl ?_
    refine w_o rfl rfl rfl (op_pick rfl rfl rfl ?_)
    refine w_o rfl rfl rfl (op_move rfl ?_)
    refine w_u rfl rfl rfl rfl rfl rfl ?_
    refine w_u rfl rfl rfl rfl rfl rfl ?_
    refine w_o rfl rfl rfl (op_pick rfl rfl rfl ?_)
    refine w_o rfl rfl rfl (op_assign rfl ?_)
    refine w_end ?_
    refine seq_normal ?_
    refine w_condF rfl ?_
    refine w_seq ?_
    refine w_region ?_
    refine w_o rfl rfl rfl (op_move rfl ?_)
    refine w_o rfl rfl rfl (op_ge rfl rfl ?_)
    refine w_o rfl rfl rfl (op_assign rfl ?_)
    refine w_end ?_
    refine seq_normal ?_
    first | refine w_cond rfl (fun hI2 => ?_) (fun hI2 => ?_) | refine w_condB rfl (fun hI2 => ?_) (fun hI2 => ?_)
    · refine w_seq ?_
      refine w_region ?_
      refine w_o rfl rfl rfl (op_move rfl ?_)
      refine w_o rfl rfl rfl (op_call rfl rfl rfl ?_)
      refine num_Hex_sw q1 ?_
      refine w_o rfl rfl rfl (op_stradd rfl rfl (by rw [sz1]; omega) ?_)
      refine w_o rfl rfl rfl (op_stradd rfl rfl (by rw [ByteArray.size_append, sz1, sz1]; omega) ?_)
      refine w_o rfl rfl rfl (op_assign rfl ?_)
      refine w_end ?_
      refine seq_normal ?_
      refine w_ret ?_
      refine block_ret ?_
      refine seq_ret ?_
      rw [show signV v = ((⟨#[60]⟩ : ByteArray) ++ t) ++ ⟨#[62]⟩ by unfold signV; rw [if_neg (by omega), if_pos hI2, hq]] at k
      exact ret_ret rfl sel_ k
    · refine w_seq ?_
      refine w_region ?_
      refine w_o rfl rfl rfl (op_move rfl ?_)
      refine w_o rfl rfl rfl (op_ge rfl rfl ?_)
      refine w_o rfl rfl rfl (op_move rfl ?_)
      first | refine w_known (t := 27) rfl (fun g27 => ?_) (fun g27 => ?_) | refine w_knownB (t := 27) rfl (fun g27 => ?_) (fun g27 => ?_)
      · refine w_og rfl rfl rfl rfl rfl (op_move rfl ?_)
        refine w_og rfl rfl rfl rfl rfl (op_le rfl rfl ?_)
        refine w_o rfl rfl rfl (op_pick rfl rfl rfl ?_)
        refine w_o rfl rfl rfl (op_assign rfl ?_)
        refine w_end ?_
        refine seq_normal ?_
        first | refine w_cond rfl (fun hI3 => ?_) (fun hI3 => ?_) | refine w_condB rfl (fun hI3 => ?_) (fun hI3 => ?_)
        · refine w_seq ?_
          refine w_region ?_
          refine w_o rfl rfl rfl (op_move rfl ?_)
          refine w_o rfl rfl rfl (op_addi rfl rfl (by omega) (by omega) ?_)
          refine w_o rfl rfl rfl (op_buildSlice rfl (bsl_51 _ _ _ (rfl : _ = some [_]) rfl (by decide)) fun b33 => ?_)
          refine w_o rfl rfl rfl (op_call rfl rfl rfl ?_)
          refine Encode1_w (v := v + 96) (Sl.of_row (List.Mem.head _) rfl) ?_
          rw [encL_ascii (v := v + 96) (by omega) (by omega)]
          refine w_o rfl rfl rfl (op_stradd rfl rfl (by rw [sz2, bsOf_size]; simp) ?_)
          refine w_o rfl rfl rfl (op_assign rfl ?_)
          refine w_end ?_
          refine seq_normal ?_
          refine w_ret ?_
          refine block_ret ?_
          refine seq_ret ?_
          rw [show signV v = (⟨#[67, 45]⟩ : ByteArray) ++ bsOf [v + 96] by unfold signV; rw [if_neg (by omega), if_neg hI2, if_pos (by omega)]] at k
          exact ret_ret rfl sel_ k
        · refine w_skip ?_
          refine block_normal ?_
          refine seq_normal ?_
          refine w_seq ?_
          refine w_region ?_
          refine w_o rfl rfl rfl (op_move rfl ?_)
          refine w_o rfl rfl rfl (op_addi rfl rfl (by omega) (by omega) ?_)
          refine w_o rfl rfl rfl (op_buildSlice rfl (bsl_51 _ _ _ (rfl : _ = some [_]) rfl (by decide)) fun b38 => ?_)
          refine w_o rfl rfl rfl (op_call rfl rfl rfl ?_)
          refine Encode1_w (v := v + 64) (Sl.of_row (List.Mem.head _) rfl) ?_
          rw [encL_ascii (v := v + 64) (by omega) (by omega)]
          refine w_o rfl rfl rfl (op_stradd rfl rfl (by rw [sz2, bsOf_size]; simp) ?_)
          refine w_o rfl rfl rfl (op_assign rfl ?_)
          refine w_end ?_
          refine seq_normal ?_
          refine w_ret ?_
          rw [show signV v = (⟨#[67, 45]⟩ : ByteArray) ++ bsOf [v + 64] by unfold signV; rw [if_neg (by omega), if_neg hI2, if_neg (by omega)]] at k
          exact ret_ret rfl sel_ k
      · refine w_u rfl rfl rfl rfl rfl rfl ?_
        refine w_u rfl rfl rfl rfl rfl rfl ?_
        refine w_o rfl rfl rfl (op_pick rfl rfl rfl ?_)
        refine w_o rfl rfl rfl (op_assign rfl ?_)
        refine w_end ?_
        refine seq_normal ?_
        refine w_condF rfl ?_
        refine w_skip ?_
        refine block_normal ?_
        refine seq_normal ?_
        refine w_seq ?_
        refine w_region ?_
        refine w_o rfl rfl rfl (op_move rfl ?_)
        refine w_o rfl rfl rfl (op_addi rfl rfl (by omega) (by omega) ?_)
        refine w_o rfl rfl rfl (op_buildSlice rfl (bsl_51 _ _ _ (rfl : _ = some [_]) rfl (by decide)) fun b38 => ?_)
        refine w_o rfl rfl rfl (op_call rfl rfl rfl ?_)
        refine Encode1_w (v := v + 64) (Sl.of_row (List.Mem.head _) rfl) ?_
        rw [encL_ascii (v := v + 64) (by omega) (by omega)]
        refine w_o rfl rfl rfl (op_stradd rfl rfl (by rw [sz2, bsOf_size]; simp) ?_)
        refine w_o rfl rfl rfl (op_assign rfl ?_)
        refine w_end ?_
        refine seq_normal ?_
        refine w_ret ?_
        rw [show signV v = (⟨#[67, 45]⟩ : ByteArray) ++ bsOf [v + 64] by unfold signV; rw [if_neg (by omega), if_neg hI2, if_neg (by omega)]] at k
        exact ret_ret rfl sel_ k
theorem refsign_w {H : Hyp} {K : V → Hyp → Prop} {v : Int} (h0 : 0 ≤ v) (h1 : v ≤ 2000000) (k : K (vS (signV v)) H) : CallW Try.prog Xs 25 [vI v] H K := by
  obtain ⟨q1, q2, q3⟩ := hex1 v h0 h1
  generalize hq : hexT v 1 = t at q1 q2 q3
  refine call_of (n := 41) (fun _ => rfl) Try.func25 rfl rfl ?_
  refine w_seq ?_
  refine w_region ?_
  refine w_o rfl rfl rfl (op_assign rfl ?_)
  refine w_end ?_
  refine seq_normal ?_
  refine w_seq ?_
  refine w_seq ?_
  refine w_region ?_
  refine w_o rfl rfl rfl (op_move rfl ?_)
  refine w_o rfl rfl rfl (op_ge rfl rfl ?_)
  refine w_o rfl rfl rfl (op_move rfl ?_)
  first | refine w_known (t := 5) rfl (fun g5 => ?_) (fun g5 => ?_) | refine w_knownB (t := 5) rfl (fun g5 => ?_) (fun g5 => ?_)
  · refine w_og rfl rfl rfl rfl rfl (op_move rfl ?_)
    refine w_og rfl rfl rfl rfl rfl (op_le rfl rfl ?_)
    refine w_o rfl rfl rfl (op_pick rfl rfl rfl ?_)
    refine w_o rfl rfl rfl (op_move rfl ?_)
    first | refine w_known (t := 9) rfl (fun g9 => ?_) (fun g9 => ?_) | refine w_knownB (t := 9) rfl (fun g9 => ?_) (fun g9 => ?_)
    · refine w_og rfl rfl rfl rfl rfl (op_move rfl ?_)
      refine w_og rfl rfl rfl rfl rfl (op_ne rfl rfl ?_)
      refine w_o rfl rfl rfl (op_pick rfl rfl rfl ?_)
      refine w_end ?_
      refine seq_normal ?_
      first | refine w_cond rfl (fun hI1 => ?_) (fun hI1 => ?_) | refine w_condB rfl (fun hI1 => ?_) (fun hI1 => ?_)
      · refine w_seq ?_
        refine w_region ?_
        refine w_o rfl rfl rfl (op_move rfl ?_)
        refine w_o rfl rfl rfl (op_convi und_3 und_5 rfl (c := v) (by rw [w_u8]; omega) ?_)
        refine w_o rfl rfl rfl (op_buildSlice rfl (bsl_48 _ _ _ (rfl : _ = some [_]) rfl (by decide)) fun b15 => ?_)
        refine w_o rfl rfl rfl (op_bytesStr (l := [v]) (N := [(b15, .row true 5 1 [.int .u8 v])]) und_48 und_5 und_9 rfl (Own.row _ 1 _ rfl) (fun y hy => by rw [List.mem_singleton.1 hy]; exact List.Mem.head _) ?_)
        refine w_o rfl rfl rfl (op_assign rfl ?_)
        refine w_end ?_
        refine seq_normal ?_
        refine w_ret ?_
        refine seq_ret ?_
        rw [show signV v = bsOf [v] by unfold signV; rw [if_pos (by omega)]] at k
        exact ret_ret rfl sel_ k
      · refine w_skip ?_
        refine seq_normal ?_
        refine w_seq ?_
        refine w_seq ?_
        refine w_region ?_
        refine w_o rfl rfl rfl (op_move rfl ?_)
        refine w_o rfl rfl rfl (op_ge rfl rfl ?_)
        refine w_end ?_
        refine seq_normal ?_
        first | refine w_cond rfl (fun hI2 => ?_) (fun hI2 => ?_) | refine w_condB rfl (fun hI2 => ?_) (fun hI2 => ?_)
        · refine w_seq ?_
          refine w_region ?_
          refine w_o rfl rfl rfl (op_move rfl ?_)
          refine w_o rfl rfl rfl (op_call rfl rfl rfl ?_)
          refine dactylref01_Hex_sw q2 ?_
          refine w_o rfl rfl rfl (op_stradd rfl rfl (by rw [sz1]; omega) ?_)
          refine w_o rfl rfl rfl (op_stradd rfl rfl (by rw [ByteArray.size_append, sz1, sz1]; omega) ?_)
          refine w_o rfl rfl rfl (op_assign rfl ?_)
          refine w_end ?_
          refine seq_normal ?_
          refine w_ret ?_
          refine seq_ret ?_
          rw [show signV v = ((⟨#[60]⟩ : ByteArray) ++ t) ++ ⟨#[62]⟩ by unfold signV; rw [if_neg (by omega), if_pos hI2, hq]] at k
          exact ret_ret rfl sel_ k
        · refine w_skip ?_
          refine seq_normal ?_
          refine w_seq ?_
          refine w_seq ?_
          refine w_region ?_
          refine w_o rfl rfl rfl (op_move rfl ?_)
          refine w_o rfl rfl rfl (op_ge rfl rfl ?_)
          refine w_o rfl rfl rfl (op_move rfl ?_)
          first | refine w_known (t := 25) rfl (fun g25 => ?_) (fun g25 => ?_) | refine w_knownB (t := 25) rfl (fun g25 => ?_) (fun g25 => ?_)
          · refine w_og rfl rfl rfl rfl rfl (op_move rfl ?_)
            refine w_og rfl rfl rfl rfl rfl (op_le rfl rfl ?_)
            refine w_o rfl rfl rfl (op_pick rfl rfl rfl ?_)
            refine w_end ?_
            refine seq_normal ?_
            first | refine w_cond rfl (fun hI3 => ?_) (fun hI3 => ?_) | refine w_condB rfl (fun hI3 => ?_) (fun hI3 => ?_)
            · refine w_seq ?_
              refine w_region ?_
              refine w_o rfl rfl rfl (op_move rfl ?_)
              refine w_o rfl rfl rfl (op_addi rfl rfl (by omega) (by omega) ?_)
              refine w_o rfl rfl rfl (op_convi und_3 und_5 rfl (c := v + 96) (by rw [w_u8]; omega) ?_)
              refine w_o rfl rfl rfl (op_buildSlice rfl (bsl_48 _ _ _ (rfl : _ = some [_]) rfl (by decide)) fun b32 => ?_)
              refine w_o rfl rfl rfl (op_bytesStr (l := [v + 96]) (N := [(b32, .row true 5 1 [.int .u8 (v + 96)])]) und_48 und_5 und_9 rfl (Own.row _ 1 _ rfl) (fun y hy => by rw [List.mem_singleton.1 hy]; exact List.Mem.head _) ?_)
              refine w_o rfl rfl rfl (op_stradd rfl rfl (by rw [sz2, bsOf_size]; simp) ?_)
              refine w_o rfl rfl rfl (op_assign rfl ?_)
              refine w_end ?_
              refine seq_normal ?_
              refine w_ret ?_
              refine seq_ret ?_
              rw [show signV v = (⟨#[67, 45]⟩ : ByteArray) ++ bsOf [v + 96] by unfold signV; rw [if_neg (by omega), if_neg hI2, if_pos (by omega)]] at k
              exact ret_ret rfl sel_ k
            · refine w_skip ?_
              refine seq_normal ?_
              refine w_seq ?_
              refine w_region ?_
              refine w_o rfl rfl rfl (op_move rfl ?_)
              refine w_o rfl rfl rfl (op_addi rfl rfl (by omega) (by omega) ?_)
              refine w_o rfl rfl rfl (op_convi und_3 und_5 rfl (c := v + 64) (by rw [w_u8]; omega) ?_)
              refine w_o rfl rfl rfl (op_buildSlice rfl (bsl_48 _ _ _ (rfl : _ = some [_]) rfl (by decide)) fun b38 => ?_)
              refine w_o rfl rfl rfl (op_bytesStr (l := [v + 64]) (N := [(b38, .row true 5 1 [.int .u8 (v + 64)])]) und_48 und_5 und_9 rfl (Own.row _ 1 _ rfl) (fun y hy => by rw [List.mem_singleton.1 hy]; exact List.Mem.head _) ?_)
              refine w_o rfl rfl rfl (op_stradd rfl rfl (by rw [sz2, bsOf_size]; simp) ?_)
              refine w_o rfl rfl rfl (op_assign rfl ?_)
              refine w_end ?_
              refine seq_normal ?_
              refine w_ret ?_
              rw [show signV v = (⟨#[67, 45]⟩ : ByteArray) ++ bsOf [v + 64] by unfold signV; rw [if_neg (by omega), if_neg hI2, if_neg (by omega)]] at k
              exact ret_ret rfl sel_ k
          · refine w_u rfl rfl rfl rfl rfl rfl ?_
            refine w_u rfl rfl rfl rfl rfl rfl ?_
            refine w_o rfl rfl rfl (op_pick rfl rfl rfl ?_)
            refine w_end ?_
            refine seq_normal ?_
            refine w_condF rfl ?_
            refine w_skip ?_
            refine seq_normal ?_
            refine w_seq ?_
            refine w_region ?_
            refine w_o rfl rfl rfl (op_move rfl ?_)
            refine w_o rfl rfl rfl (op_addi rfl rfl (by omega) (by omega) ?_)
            refine w_o rfl rfl rfl (op_convi und_3 und_5 rfl (c := v + 64) (by rw [w_u8]; omega) ?_)
            refine w_o rfl rfl rfl (op_buildSlice rfl (bsl_48 _ _ _ (rfl : _ = some [_]) rfl (by decide)) fun b38 => ?_)
            refine w_o rfl rfl rfl (op_bytesStr (l := [v + 64]) (N := [(b38, .row true 5 1 [.int .u8 (v + 64)])]) und_48 und_5 und_9 rfl (Own.row _ 1 _ rfl) (fun y hy => by rw [List.mem_singleton.1 hy]; exact List.Mem.head _) ?_)
            refine w_o rfl rfl rfl (op_stradd rfl rfl (by rw [sz2, bsOf_size]; simp) ?_)
            refine w_o rfl rfl rfl (op_assign rfl ?_)
            refine w_end ?_
            refine seq_normal ?_
            refine w_ret ?_
            rw [show signV v = (⟨#[67, 45]⟩ : ByteArray) ++ bsOf [v + 64] by unfold signV; rw [if_neg (by omega), if_neg hI2, if_neg (by omega)]] at k
            exact ret_ret rfl sel_ k
    · refine w_u rfl rfl rfl rfl rfl rfl ?_
      refine w_u rfl rfl rfl rfl rfl rfl ?_
      refine w_o rfl rfl rfl (op_pick rfl rfl rfl ?_)
      refine w_end ?_
      refine seq_normal ?_
      refine w_condF rfl ?_
      refine w_skip ?_
      refine seq_normal ?_
      refine w_seq ?_
      refine w_seq ?_
      refine w_region ?_
      refine w_o rfl rfl rfl (op_move rfl ?_)
      refine w_o rfl rfl rfl (op_ge rfl rfl ?_)
      refine w_end ?_
      refine seq_normal ?_
      first | refine w_cond rfl (fun hI2 => ?_) (fun hI2 => ?_) | refine w_condB rfl (fun hI2 => ?_) (fun hI2 => ?_)
      · refine w_seq ?_
        refine w_region ?_
        refine w_o rfl rfl rfl (op_move rfl ?_)
        refine w_o rfl rfl rfl (op_call rfl rfl rfl ?_)
        refine dactylref01_Hex_sw q2 ?_
        refine w_o rfl rfl rfl (op_stradd rfl rfl (by rw [sz1]; omega) ?_)
        refine w_o rfl rfl rfl (op_stradd rfl rfl (by rw [ByteArray.size_append, sz1, sz1]; omega) ?_)
        refine w_o rfl rfl rfl (op_assign rfl ?_)
        refine w_end ?_
        refine seq_normal ?_
        refine w_ret ?_
        refine seq_ret ?_
        rw [show signV v = ((⟨#[60]⟩ : ByteArray) ++ t) ++ ⟨#[62]⟩ by unfold signV; rw [if_neg (by omega), if_pos hI2, hq]] at k
        exact ret_ret rfl sel_ k
      · refine w_skip ?_
        refine seq_normal ?_
        refine w_seq ?_
        refine w_seq ?_
        refine w_region ?_
        refine w_o rfl rfl rfl (op_move rfl ?_)
        refine w_o rfl rfl rfl (op_ge rfl rfl ?_)
        refine w_o rfl rfl rfl (op_move rfl ?_)
        first | refine w_known (t := 25) rfl (fun g25 => ?_) (fun g25 => ?_) | refine w_knownB (t := 25) rfl (fun g25 => ?_) (fun g25 => ?_)
        · refine w_og rfl rfl rfl rfl rfl (op_move rfl ?_)
          refine w_og rfl rfl rfl rfl rfl (op_le rfl rfl ?_)
          refine w_o rfl rfl rfl (op_pick rfl rfl rfl ?_)
          refine w_end ?_
          refine seq_normal ?_
          first | refine w_cond rfl (fun hI3 => ?_) (fun hI3 => ?_) | refine w_condB rfl (fun hI3 => ?_) (fun hI3 => ?_)
          · refine w_seq ?_
            refine w_region ?_
            refine w_o rfl rfl rfl (op_move rfl ?_)
            refine w_o rfl rfl rfl (op_addi rfl rfl (by omega) (by omega) ?_)
            refine w_o rfl rfl rfl (op_convi und_3 und_5 rfl (c := v + 96) (by rw [w_u8]; omega) ?_)
            refine w_o rfl rfl rfl (op_buildSlice rfl (bsl_48 _ _ _ (rfl : _ = some [_]) rfl (by decide)) fun b32 => ?_)
            refine w_o rfl rfl rfl (op_bytesStr (l := [v + 96]) (N := [(b32, .row true 5 1 [.int .u8 (v + 96)])]) und_48 und_5 und_9 rfl (Own.row _ 1 _ rfl) (fun y hy => by rw [List.mem_singleton.1 hy]; exact List.Mem.head _) ?_)
            refine w_o rfl rfl rfl (op_stradd rfl rfl (by rw [sz2, bsOf_size]; simp) ?_)
            refine w_o rfl rfl rfl (op_assign rfl ?_)
            refine w_end ?_
            refine seq_normal ?_
            refine w_ret ?_
            refine seq_ret ?_
            rw [show signV v = (⟨#[67, 45]⟩ : ByteArray) ++ bsOf [v + 96] by unfold signV; rw [if_neg (by omega), if_neg hI2, if_pos (by omega)]] at k
            exact ret_ret rfl sel_ k
          · refine w_skip ?_
            refine seq_normal ?_
            refine w_seq ?_
            refine w_region ?_
            refine w_o rfl rfl rfl (op_move rfl ?_)
            refine w_o rfl rfl rfl (op_addi rfl rfl (by omega) (by omega) ?_)
            refine w_o rfl rfl rfl (op_convi und_3 und_5 rfl (c := v + 64) (by rw [w_u8]; omega) ?_)
            refine w_o rfl rfl rfl (op_buildSlice rfl (bsl_48 _ _ _ (rfl : _ = some [_]) rfl (by decide)) fun b38 => ?_)
            refine w_o rfl rfl rfl (op_bytesStr (l := [v + 64]) (N := [(b38, .row true 5 1 [.int .u8 (v + 64)])]) und_48 und_5 und_9 rfl (Own.row _ 1 _ rfl) (fun y hy => by rw [List.mem_singleton.1 hy]; exact List.Mem.head _) ?_)
            refine w_o rfl rfl rfl (op_stradd rfl rfl (by rw [sz2, bsOf_size]; simp) ?_)
            refine w_o rfl rfl rfl (op_assign rfl ?_)
            refine w_end ?_
            refine seq_normal ?_
            refine w_ret ?_
            rw [show signV v = (⟨#[67, 45]⟩ : ByteArray) ++ bsOf [v + 64] by unfold signV; rw [if_neg (by omega), if_neg hI2, if_neg (by omega)]] at k
            exact ret_ret rfl sel_ k
        · refine w_u rfl rfl rfl rfl rfl rfl ?_
          refine w_u rfl rfl rfl rfl rfl rfl ?_
          refine w_o rfl rfl rfl (op_pick rfl rfl rfl ?_)
          refine w_end ?_
          refine seq_normal ?_
          refine w_condF rfl ?_
          refine w_skip ?_
          refine seq_normal ?_
          refine w_seq ?_
          refine w_region ?_
          refine w_o rfl rfl rfl (op_move rfl ?_)
          refine w_o rfl rfl rfl (op_addi rfl rfl (by omega) (by omega) ?_)
          refine w_o rfl rfl rfl (op_convi und_3 und_5 rfl (c := v + 64) (by rw [w_u8]; omega) ?_)
          refine w_o rfl rfl rfl (op_buildSlice rfl (bsl_48 _ _ _ (rfl : _ = some [_]) rfl (by decide)) fun b38 => ?_)
          refine w_o rfl rfl rfl (op_bytesStr (l := [v + 64]) (N := [(b38, .row true 5 1 [.int .u8 (v + 64)])]) und_48 und_5 und_9 rfl (Own.row _ 1 _ rfl) (fun y hy => by rw [List.mem_singleton.1 hy]; exact List.Mem.head _) ?_)
          refine w_o rfl rfl rfl (op_stradd rfl rfl (by rw [sz2, bsOf_size]; simp) ?_)
          refine w_o rfl rfl rfl (op_assign rfl ?_)
          refine w_end ?_
          refine seq_normal ?_
          refine w_ret ?_
          rw [show signV v = (⟨#[67, 45]⟩ : ByteArray) ++ bsOf [v + 64] by unfold signV; rw [if_neg (by omega), if_neg hI2, if_neg (by omega)]] at k
          exact ret_ret rfl sel_ k
  · refine w_u rfl rfl rfl rfl rfl rfl ?_
    refine w_u rfl rfl rfl rfl rfl rfl ?_
    refine w_o rfl rfl rfl (op_pick rfl rfl rfl ?_)
    refine w_o rfl rfl rfl (op_move rfl ?_)
    refine w_u rfl rfl rfl rfl rfl rfl ?_
    refine w_u rfl rfl rfl rfl rfl rfl ?_
    refine w_o rfl rfl rfl (op_pick rfl rfl rfl ?_)
    refine w_end ?_
    refine seq_normal ?_
    refine w_condF rfl ?_
    refine w_skip ?_
    refine seq_normal ?_
    refine w_seq ?_
    refine w_seq ?_
    refine w_region ?_
    refine w_o rfl rfl rfl (op_move rfl ?_)
    refine w_o rfl rfl rfl (op_ge rfl rfl ?_)
    refine w_end ?_
    refine seq_normal ?_
    first | refine w_cond rfl (fun hI2 => ?_) (fun hI2 => ?_) | refine w_condB rfl (fun hI2 => ?_) (fun hI2 => ?_)
    · refine w_seq ?_
      refine w_region ?_
      refine w_o rfl rfl rfl (op_move rfl ?_)
      refine w_o rfl rfl rfl (op_call rfl rfl rfl ?_)
      refine dactylref01_Hex_sw q2 ?_
      refine w_o rfl rfl rfl (op_stradd rfl rfl (by rw [sz1]; omega) ?_)
      refine w_o rfl rfl rfl (op_stradd rfl rfl (by rw [ByteArray.size_append, sz1, sz1]; omega) ?_)
      refine w_o rfl rfl rfl (op_assign rfl ?_)
      refine w_end ?_
      refine seq_normal ?_
      refine w_ret ?_
      refine seq_ret ?_
      rw [show signV v = ((⟨#[60]⟩ : ByteArray) ++ t) ++ ⟨#[62]⟩ by unfold signV; rw [if_neg (by omega), if_pos hI2, hq]] at k
      exact ret_ret rfl sel_ k
    · refine w_skip ?_
      refine seq_normal ?_
      refine w_seq ?_
      refine w_seq ?_
      refine w_region ?_
      refine w_o rfl rfl rfl (op_move rfl ?_)
      refine w_o rfl rfl rfl (op_ge rfl rfl ?_)
      refine w_o rfl rfl rfl (op_move rfl ?_)
      first | refine w_known (t := 25) rfl (fun g25 => ?_) (fun g25 => ?_) | refine w_knownB (t := 25) rfl (fun g25 => ?_) (fun g25 => ?_)
      · refine w_og rfl rfl rfl rfl rfl (op_move rfl ?_)
        refine w_og rfl rfl rfl rfl rfl (op_le rfl rfl ?_)
        refine w_o rfl rfl rfl (op_pick rfl rfl rfl ?_)
        refine w_end ?_
        refine seq_normal ?_
        first | refine w_cond rfl (fun hI3 => ?_) (fun hI3 => ?_) | refine w_condB rfl (fun hI3 => ?_) (fun hI3 => ?_)
        · refine w_seq ?_
          refine w_region ?_
          refine w_o rfl rfl rfl (op_move rfl ?_)
          refine w_o rfl rfl rfl (op_addi rfl rfl (by omega) (by omega) ?_)
          refine w_o rfl rfl rfl (op_convi und_3 und_5 rfl (c := v + 96) (by rw [w_u8]; omega) ?_)
          refine w_o rfl rfl rfl (op_buildSlice rfl (bsl_48 _ _ _ (rfl : _ = some [_]) rfl (by decide)) fun b32 => ?_)
          refine w_o rfl rfl rfl (op_bytesStr (l := [v + 96]) (N := [(b32, .row true 5 1 [.int .u8 (v + 96)])]) und_48 und_5 und_9 rfl (Own.row _ 1 _ rfl) (fun y hy => by rw [List.mem_singleton.1 hy]; exact List.Mem.head _) ?_)
          refine w_o rfl rfl rfl (op_stradd rfl rfl (by rw [sz2, bsOf_size]; simp) ?_)
          refine w_o rfl rfl rfl (op_assign rfl ?_)
          refine w_end ?_
          refine seq_normal ?_
          refine w_ret ?_
          refine seq_ret ?_
          rw [show signV v = (⟨#[67, 45]⟩ : ByteArray) ++ bsOf [v + 96] by unfold signV; rw [if_neg (by omega), if_neg hI2, if_pos (by omega)]] at k
          exact ret_ret rfl sel_ k
        · refine w_skip ?_
          refine seq_normal ?_
          refine w_seq ?_
          refine w_region ?_
          refine w_o rfl rfl rfl (op_move rfl ?_)
          refine w_o rfl rfl rfl (op_addi rfl rfl (by omega) (by omega) ?_)
          refine w_o rfl rfl rfl (op_convi und_3 und_5 rfl (c := v + 64) (by rw [w_u8]; omega) ?_)
          refine w_o rfl rfl rfl (op_buildSlice rfl (bsl_48 _ _ _ (rfl : _ = some [_]) rfl (by decide)) fun b38 => ?_)
          refine w_o rfl rfl rfl (op_bytesStr (l := [v + 64]) (N := [(b38, .row true 5 1 [.int .u8 (v + 64)])]) und_48 und_5 und_9 rfl (Own.row _ 1 _ rfl) (fun y hy => by rw [List.mem_singleton.1 hy]; exact List.Mem.head _) ?_)
          refine w_o rfl rfl rfl (op_stradd rfl rfl (by rw [sz2, bsOf_size]; simp) ?_)
          refine w_o rfl rfl rfl (op_assign rfl ?_)
          refine w_end ?_
          refine seq_normal ?_
          refine w_ret ?_
          rw [show signV v = (⟨#[67, 45]⟩ : ByteArray) ++ bsOf [v + 64] by unfold signV; rw [if_neg (by omega), if_neg hI2, if_neg (by omega)]] at k
          exact ret_ret rfl sel_ k
      · refine w_u rfl rfl rfl rfl rfl rfl ?_
        refine w_u rfl rfl rfl rfl rfl rfl ?_
        refine w_o rfl rfl rfl (op_pick rfl rfl rfl ?_)
        refine w_end ?_
        refine seq_normal ?_
        refine w_condF rfl ?_
        refine w_skip ?_
        refine seq_normal ?_
        refine w_seq ?_
        refine w_region ?_
        refine w_o rfl rfl rfl (op_move rfl ?_)
        refine w_o rfl rfl rfl (op_addi rfl rfl (by omega) (by omega) ?_)
        refine w_o rfl rfl rfl (op_convi und_3 und_5 rfl (c := v + 64) (by rw [w_u8]; omega) ?_)
        refine w_o rfl rfl rfl (op_buildSlice rfl (bsl_48 _ _ _ (rfl : _ = some [_]) rfl (by decide)) fun b38 => ?_)
        refine w_o rfl rfl rfl (op_bytesStr (l := [v + 64]) (N := [(b38, .row true 5 1 [.int .u8 (v + 64)])]) und_48 und_5 und_9 rfl (Own.row _ 1 _ rfl) (fun y hy => by rw [List.mem_singleton.1 hy]; exact List.Mem.head _) ?_)
        refine w_o rfl rfl rfl (op_stradd rfl rfl (by rw [sz2, bsOf_size]; simp) ?_)
        refine w_o rfl rfl rfl (op_assign rfl ?_)
        refine w_end ?_
        refine seq_normal ?_
        refine w_ret ?_
        rw [show signV v = (⟨#[67, 45]⟩ : ByteArray) ++ bsOf [v + 64] by unfold signV; rw [if_neg (by omega), if_neg hI2, if_neg (by omega)]] at k
        exact ret_ret rfl sel_ k
end Go.Proofs.Yteghmemcikiblaa.AM.B
