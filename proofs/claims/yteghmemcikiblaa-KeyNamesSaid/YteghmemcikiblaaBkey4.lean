/- The names of keys. -/
import Derived.Test.YteghmemcikiblaaAX
import Derived.Test.YteghmemcikiblaaBkey3
set_option linter.unusedVariables false
set_option linter.unusedSimpArgs false
set_option maxRecDepth 10000
set_option maxHeartbeats 4000000
namespace Go.Proofs.Yteghmemcikiblaa.AM.B
open Go Go.RowKit
def pasteTo (t : ByteArray) (i : Nat) : ByteArray := (List.range i).foldl (fun s (i : Nat) => s ++ hexT (byteAt t i) 2) ⟨#[80, 45]⟩
theorem pasteTo_succ (t : ByteArray) (i : Nat) : pasteTo t (i + 1) = pasteTo t i ++ hexT (byteAt t i) 2 := by
  unfold pasteTo; rw [List.range_succ, List.foldl_append]; rfl
theorem pasteTo_size (t : ByteArray) : ∀ i, (pasteTo t i).size ≤ 2 + 2 * i
  | 0 => Nat.le_refl 2
  | i + 1 => by
    have h1 := pasteTo_size t i
    have h2 := byteIn t i
    have h3 := (hex2 _ h2.1 h2.2).2.2
    rw [pasteTo_succ, ByteArray.size_append]
    generalize (pasteTo t i).size = a at h1 ⊢
    generalize (hexT (byteAt t i) 2).size = b at h3 ⊢
    omega
def pasteV (x : KeyS) : ByteArray := if x.f3 then pasteTo x.f2 x.f2.size ++ (⟨#[33]⟩ : ByteArray) else pasteTo x.f2 x.f2.size
theorem paste_w {H : Hyp} {K : V → Hyp → Prop} {x : KeyS} (hx : x.f2.size ≤ 65536) (k : K (vS (pasteV x)) H) : CallW Try.prog Xs 17 [.one (.agg (encK x))] H K := by
  refine call_of (n := 25) (fun _ => rfl) Try.func17 rfl rfl ?_
  refine w_seq ?_
  refine w_region ?_
  refine w_o rfl rfl rfl (op_box rfl fun b1 => ?_)
  refine w_o rfl rfl rfl (op_assign rfl ?_)
  refine w_end ?_
  refine seq_normal ?_
  refine w_seq ?_
  refine w_region ?_
  refine w_o rfl rfl rfl (op_assign rfl ?_)
  refine w_end ?_
  refine seq_normal ?_
  refine w_seq ?_
  refine w_seq ?_
  refine w_region ?_
  refine w_o rfl rfl rfl (op_fieldAddr fa_23_2 rfl ?_)
  refine w_o rfl rfl rfl (op_loadF agg_9 rfl el_ rfl ?_)
  refine w_o rfl rfl rfl (op_lenS und_9 rfl ?_)
  refine w_o rfl rfl rfl (op_move rfl ?_)
  refine w_end ?_
  refine seq_normal ?_
  refine w_block ?_
  refine w_loop (fun m e H' => ∃ (i : Nat), i ≤ x.f2.size ∧ m = x.f2.size - i ∧ H' = (b1, .row true 23 1 (encK x)) :: H ∧ e = [(1, ptrV b1 0), (3, vS (pasteTo x.f2 i)), (7, vI (x.f2.size : Nat)), (8, vI (i : Nat))]) ?_ ?_
  · exact ⟨_, _, _, ⟨0, Nat.zero_le _, rfl, rfl, rfl⟩, env_, sel_⟩
  · rintro m e H' ⟨i, hi, rfl, rfl, rfl⟩
    have hb := byteIn x.f2 i
    obtain ⟨h, hh1, hh2, hh3, hhe⟩ : ∃ h, Go.Proofs.Yteghmemcikiblaa.P.num_Hex.f (byteAt x.f2 i) 2 = some h ∧ Go.Proofs.Yteghmemcikiblaa.P.dactylref01_Hex.f 100 (byteAt x.f2 i) 2 = some h ∧ h.size ≤ 2 ∧ hexT (byteAt x.f2 i) 2 = h := ⟨_, (hex2 _ hb.1 hb.2).1, (hex2 _ hb.1 hb.2).2.1, (hex2 _ hb.1 hb.2).2.2, rfl⟩
    have hz := pasteTo_size x.f2 i
    have hp := pasteTo_succ x.f2 i
    rw [hhe] at hp
    clear hhe
    generalize hu : pasteTo x.f2 i = u at hz hp ⊢
    refine w_seq ?_
    refine w_region ?_
    refine w_o rfl rfl rfl (op_lt rfl rfl ?_)
    refine w_end ?_
    refine seq_normal ?_
    refine w_seq ?_
    first | refine w_cond rfl (fun hI1 => ?_) (fun hI1 => ?_) | refine w_condB rfl (fun hI1 => ?_) (fun hI1 => ?_)
    · refine w_skip ?_
      refine seq_normal ?_
      refine w_seq ?_
      refine w_block ?_
      refine w_seq ?_
      refine w_region ?_
      refine w_o rfl rfl rfl (op_move rfl ?_)
      refine w_o rfl rfl rfl (op_assign rfl ?_)
      refine w_end ?_
      refine seq_normal ?_
      refine w_region ?_
      refine w_o rfl rfl rfl (op_move rfl ?_)
      refine w_o rfl rfl rfl (op_fieldAddr fa_23_2 rfl ?_)
      refine w_o rfl rfl rfl (op_loadF agg_9 rfl el_ rfl ?_)
      refine w_o rfl rfl rfl (op_move rfl ?_)
      refine w_o rfl rfl rfl (op_indexS und_9 rfl rfl (by omega) (by omega) ?_)
      refine w_o rfl rfl rfl (op_convi und_5 und_3 rfl (wrap_i64 (by omega) (by omega)) ?_)
      refine w_o rfl rfl rfl (op_call rfl rfl rfl ?_)
      refine num_Hex_sw hh1 ?_
      refine w_o rfl rfl rfl (op_stradd rfl rfl (by omega) ?_)
      refine w_o rfl rfl rfl (op_assign rfl ?_)
      refine w_end ?_
      refine block_normal ?_
      refine seq_normal ?_
      refine w_region ?_
      refine w_o rfl rfl rfl (op_addi rfl rfl (by omega) (by omega) ?_)
      refine w_o rfl rfl rfl (op_move rfl ?_)
      refine w_end ?_
      exact loop_normal (k' := x.f2.size - (i + 1)) (by omega) ⟨i + 1, by omega, rfl, rfl, rfl⟩ (by rw [hp]; exact env_) sel_
    · have hi' : i = x.f2.size := by omega
      refine w_exit ?_
      refine seq_exit ?_
      refine loop_exit ?_
      refine block_hit rfl ?_
      refine seq_normal ?_
      refine w_seq ?_
      refine w_seq ?_
      refine w_region ?_
      refine w_o rfl rfl rfl (op_fieldAddr fa_23_3 rfl ?_)
      refine w_o rfl rfl rfl (op_loadF agg_4 rfl el_ rfl ?_)
      refine w_end ?_
      refine seq_normal ?_
      first | refine w_cond rfl (fun hI2 => ?_) (fun hI2 => ?_) | refine w_condB rfl (fun hI2 => ?_) (fun hI2 => ?_)
      · rw [show pasteV x = u ++ (⟨#[33]⟩ : ByteArray) by unfold pasteV; rw [if_pos hI2, ← hi', hu]] at k
        refine w_region ?_
        refine w_o rfl rfl rfl (op_move rfl ?_)
        refine w_o rfl rfl rfl (op_stradd rfl rfl (by rw [sz1]; omega) ?_)
        refine w_o rfl rfl rfl (op_assign rfl ?_)
        refine w_end ?_
        refine seq_normal ?_
        refine w_seq ?_
        refine w_region ?_
        refine w_o rfl rfl rfl (op_move rfl ?_)
        refine w_o rfl rfl rfl (op_assign rfl ?_)
        refine w_end ?_
        refine seq_normal ?_
        refine w_ret ?_
        exact ret_ret rfl sel_ k
      · rw [show pasteV x = u by unfold pasteV; rw [if_neg (by rw [hI2]; decide), ← hi', hu]] at k
        refine w_skip ?_
        refine seq_normal ?_
        refine w_seq ?_
        refine w_region ?_
        refine w_o rfl rfl rfl (op_move rfl ?_)
        refine w_o rfl rfl rfl (op_assign rfl ?_)
        refine w_end ?_
        refine seq_normal ?_
        refine w_ret ?_
        exact ret_ret rfl sel_ k
def nameV (x : KeyS) : ByteArray := if x.f0 = 1 ∨ x.f0 = 2 then signV x.f1 else if x.f0 = 3 then (⟨#[77, 45]⟩ : ByteArray) ++ signV x.f1 else if x.f0 = 15 then pasteV x else (foundV (ofP x)).f2
theorem rightV_in {v : Int} (h : rightV v = true) : 0 ≤ v ∧ v ≤ 1114367 := by
  simp only [rightV, pointV, Bool.or_eq_true, decide_eq_true_eq] at h; omega
theorem controlV_in {v : Int} (h : controlV v = true) : 0 ≤ v ∧ v ≤ 31 := by
  simp only [controlV, decide_eq_true_eq] at h; omega
theorem may_in {x : KeyS} (h : mayV x = true) (hk : x.f0 = 1 ∨ x.f0 = 2 ∨ x.f0 = 3) : 0 ≤ x.f1 ∧ x.f1 ≤ 2000000 := by
  unfold mayV at h
  rw [if_neg (by omega)] at h
  simp only [Bool.and_eq_true] at h
  have hr := h.1.1
  unfold rightK at hr
  rcases hk with q | q | q
  · rw [if_pos q] at hr
    simp only [Bool.and_eq_true] at hr
    have := rightV_in hr.1; omega
  · rw [if_neg (by omega), if_pos q] at hr
    have := controlV_in hr; omega
  · rw [if_neg (by omega), if_neg (by omega), if_pos q] at hr
    simp only [Bool.or_eq_true, decide_eq_true_eq] at hr
    rcases hr with hr | hr
    · have := controlV_in hr; omega
    · omega
theorem may_15 {x : KeyS} (h : mayV x = true) (hk : x.f0 = 15) : x.f2.size ≤ 65536 := by
  unfold mayV at h
  rw [if_pos hk] at h
  exact (of_decide_eq_true h).2
theorem Name_w {H : Hyp} {K : V → Hyp → Prop} {x : KeyS} (k1 : mayV x = false → K (.tup [.c (.str ⟨#[]⟩), .c (.int .i64 2)]) H) (k2 : mayV x = true → K (.tup [.c (.str (nameV x)), .c (.int .i64 0)]) H) : CallW Try.prog Xs 6 [.one (.agg (encK x))] H K := by
  refine call_of (n := 37) (fun _ => rfl) Try.func6 rfl rfl ?_
  refine w_seq ?_
  refine w_region ?_
  refine w_o rfl rfl rfl (op_box rfl fun b1 => ?_)
  refine w_o rfl rfl rfl (op_assign rfl ?_)
  refine w_o rfl rfl rfl (op_assign rfl ?_)
  refine w_end ?_
  refine seq_normal ?_
  refine w_seq ?_
  refine w_seq ?_
  refine w_region ?_
  refine w_o rfl rfl rfl (op_loadA agg_23 siz_23 rfl rfl el_ ?_)
  refine w_o rfl rfl rfl (op_call rfl rfl rfl ?_)
  refine Check_w ?_
  refine w_o rfl rfl rfl (op_assign rfl ?_)
  refine w_end ?_
  refine seq_normal ?_
  refine w_seq ?_
  refine w_region ?_
  refine w_o rfl rfl rfl (op_move rfl ?_)
  refine w_o rfl rfl rfl (op_ne rfl rfl ?_)
  refine w_end ?_
  refine seq_normal ?_
  first | refine w_cond rfl (fun hI1 => ?_) (fun hI1 => ?_) | refine w_condB rfl (fun hI1 => ?_) (fun hI1 => ?_)
  · have hm : mayV x = false := by cases h : mayV x; rfl; simp [h] at hI1
    rw [hm]
    refine w_seq ?_
    refine w_region ?_
    refine w_o rfl rfl rfl (op_move rfl ?_)
    refine w_o rfl rfl rfl (op_assign rfl ?_)
    refine w_o rfl rfl rfl (op_assign rfl ?_)
    refine w_end ?_
    refine seq_normal ?_
    refine w_ret ?_
    refine seq_ret ?_
    exact ret_ret rfl sel_ (k1 hm)
  · have hm : mayV x = true := by cases h : mayV x; simp [h] at hI1; rfl
    have k := k2 hm
    clear k2
    refine w_skip ?_
    refine seq_normal ?_
    refine w_seq ?_
    refine w_seq ?_
    refine w_region ?_
    refine w_o rfl rfl rfl (op_fieldAddr fa_23_0 rfl ?_)
    refine w_o rfl rfl rfl (op_loadF agg_3 rfl el_ rfl ?_)
    refine w_end ?_
    refine seq_normal ?_
    refine w_block ?_
    refine w_seq ?_
    refine w_seq ?_
    refine w_region ?_
    refine w_o rfl rfl rfl (op_eq rfl rfl ?_)
    refine w_o rfl rfl rfl (op_assign rfl ?_)
    refine w_end ?_
    refine seq_normal ?_
    first | refine w_cond rfl (fun hI2 => ?_) (fun hI2 => ?_) | refine w_condB rfl (fun hI2 => ?_) (fun hI2 => ?_)
    · refine w_skip ?_
      refine seq_normal ?_
      first | refine w_cond rfl (fun hI3 => ?_) (fun hI3 => ?_) | refine w_condB rfl (fun hI3 => ?_) (fun hI3 => ?_)
      · try (exfalso; omega)
        all_goals
          refine w_seq ?_
          refine w_region ?_
          refine w_o rfl rfl rfl (op_fieldAddr fa_23_1 rfl ?_)
          refine w_o rfl rfl rfl (op_loadF agg_3 rfl el_ rfl ?_)
          refine w_o rfl rfl rfl (op_call rfl rfl rfl ?_)
          have hv := may_in hm (by omega)
          refine sign_w hv.1 hv.2 ?_
          refine w_o rfl rfl rfl (op_assign rfl ?_)
          refine w_o rfl rfl rfl (op_assign rfl ?_)
          refine w_end ?_
          refine seq_normal ?_
          refine w_ret ?_
          refine block_ret ?_
          refine seq_ret ?_
          rw [show nameV x = signV x.f1 from if_pos (by omega)] at k
          exact ret_ret rfl sel_ k
      · try (exfalso; omega)
        all_goals
          refine w_seq ?_
          refine w_region ?_
          refine w_o rfl rfl rfl (op_eq rfl rfl ?_)
          refine w_o rfl rfl rfl (op_assign rfl ?_)
          refine w_end ?_
          refine seq_normal ?_
          first | refine w_cond rfl (fun hI4 => ?_) (fun hI4 => ?_) | refine w_condB rfl (fun hI4 => ?_) (fun hI4 => ?_)
          · refine w_seq ?_
            refine w_region ?_
            refine w_o rfl rfl rfl (op_fieldAddr fa_23_1 rfl ?_)
            refine w_o rfl rfl rfl (op_loadF agg_3 rfl el_ rfl ?_)
            refine w_o rfl rfl rfl (op_call rfl rfl rfl ?_)
            have hv := may_in hm (by omega)
            have hz := signV_size hv.1 hv.2
            refine sign_w hv.1 hv.2 ?_
            generalize hsg : signV x.f1 = t at hz ⊢
            refine w_o rfl rfl rfl (op_stradd rfl rfl (by rw [sz2]; omega) ?_)
            refine w_o rfl rfl rfl (op_assign rfl ?_)
            refine w_o rfl rfl rfl (op_assign rfl ?_)
            refine w_end ?_
            refine seq_normal ?_
            refine w_ret ?_
            refine block_ret ?_
            refine seq_ret ?_
            rw [show nameV x = (⟨#[77, 45]⟩ : ByteArray) ++ t by unfold nameV; rw [if_neg (by omega), if_pos hI4, hsg]] at k
            exact ret_ret rfl sel_ k
          · refine w_seq ?_
            refine w_region ?_
            refine w_o rfl rfl rfl (op_eq rfl rfl ?_)
            refine w_o rfl rfl rfl (op_assign rfl ?_)
            refine w_end ?_
            refine seq_normal ?_
            first | refine w_cond rfl (fun hI5 => ?_) (fun hI5 => ?_) | refine w_condB rfl (fun hI5 => ?_) (fun hI5 => ?_)
            · refine w_seq ?_
              refine w_region ?_
              refine w_o rfl rfl rfl (op_loadA agg_23 siz_23 rfl rfl el_ ?_)
              refine w_o rfl rfl rfl (op_call rfl rfl rfl ?_)
              refine paste_w (may_15 hm hI5) ?_
              refine w_o rfl rfl rfl (op_assign rfl ?_)
              refine w_o rfl rfl rfl (op_assign rfl ?_)
              refine w_end ?_
              refine seq_normal ?_
              refine w_ret ?_
              refine block_ret ?_
              refine seq_ret ?_
              rw [show nameV x = pasteV x by unfold nameV; rw [if_neg (by omega), if_neg (by omega), if_pos hI5]] at k
              exact ret_ret rfl sel_ k
            · refine w_skip ?_
              refine block_normal ?_
              refine seq_normal ?_
              refine w_seq ?_
              refine w_region ?_
              refine w_o rfl rfl rfl (op_loadA agg_23 siz_23 rfl rfl el_ ?_)
              refine w_o rfl rfl rfl (op_call rfl rfl rfl ?_)
              refine of_w ?_
              refine w_o rfl rfl rfl (op_move rfl ?_)
              refine w_o rfl rfl rfl (op_extract rfl rfl ?_)
              refine w_o rfl rfl rfl (op_extract rfl rfl ?_)
              refine w_o rfl rfl rfl (op_alloc zer_40 fun b5 => ?_)
              refine w_on rfl rfl (op_store siz_40 rfl rfl rfl (by (repeat (first | exact Pick.head _ _ _ | apply Pick.tail | apply Pick.app)); first | done | fail) (Nat.le_of_ble_eq_true rfl) rfl ?_)
              refine w_o rfl rfl rfl (op_assign rfl ?_)
              refine w_end ?_
              refine seq_normal ?_
              refine w_seq ?_
              refine w_region ?_
              refine w_o rfl rfl rfl (op_fieldAddr fa_40_2 rfl ?_)
              refine w_o rfl rfl rfl (op_loadF agg_9 rfl el_ rfl ?_)
              refine w_o rfl rfl rfl (op_assign rfl ?_)
              refine w_o rfl rfl rfl (op_assign rfl ?_)
              refine w_end ?_
              refine seq_normal ?_
              refine w_ret ?_
              rw [show nameV x = (foundV (ofP x)).f2 by unfold nameV; rw [if_neg (by omega), if_neg (by omega), if_neg (by omega)]] at k
              exact ret_ret rfl sel_ k
    · refine w_region ?_
      refine w_o rfl rfl rfl (op_eq rfl rfl ?_)
      refine w_o rfl rfl rfl (op_assign rfl ?_)
      refine w_end ?_
      refine seq_normal ?_
      first | refine w_cond rfl (fun hI3 => ?_) (fun hI3 => ?_) | refine w_condB rfl (fun hI3 => ?_) (fun hI3 => ?_)
      · try (exfalso; omega)
        all_goals
          refine w_seq ?_
          refine w_region ?_
          refine w_o rfl rfl rfl (op_fieldAddr fa_23_1 rfl ?_)
          refine w_o rfl rfl rfl (op_loadF agg_3 rfl el_ rfl ?_)
          refine w_o rfl rfl rfl (op_call rfl rfl rfl ?_)
          have hv := may_in hm (by omega)
          refine sign_w hv.1 hv.2 ?_
          refine w_o rfl rfl rfl (op_assign rfl ?_)
          refine w_o rfl rfl rfl (op_assign rfl ?_)
          refine w_end ?_
          refine seq_normal ?_
          refine w_ret ?_
          refine block_ret ?_
          refine seq_ret ?_
          rw [show nameV x = signV x.f1 from if_pos (by omega)] at k
          exact ret_ret rfl sel_ k
      · try (exfalso; omega)
        all_goals
          refine w_seq ?_
          refine w_region ?_
          refine w_o rfl rfl rfl (op_eq rfl rfl ?_)
          refine w_o rfl rfl rfl (op_assign rfl ?_)
          refine w_end ?_
          refine seq_normal ?_
          first | refine w_cond rfl (fun hI4 => ?_) (fun hI4 => ?_) | refine w_condB rfl (fun hI4 => ?_) (fun hI4 => ?_)
          · refine w_seq ?_
            refine w_region ?_
            refine w_o rfl rfl rfl (op_fieldAddr fa_23_1 rfl ?_)
            refine w_o rfl rfl rfl (op_loadF agg_3 rfl el_ rfl ?_)
            refine w_o rfl rfl rfl (op_call rfl rfl rfl ?_)
            have hv := may_in hm (by omega)
            have hz := signV_size hv.1 hv.2
            refine sign_w hv.1 hv.2 ?_
            generalize hsg : signV x.f1 = t at hz ⊢
            refine w_o rfl rfl rfl (op_stradd rfl rfl (by rw [sz2]; omega) ?_)
            refine w_o rfl rfl rfl (op_assign rfl ?_)
            refine w_o rfl rfl rfl (op_assign rfl ?_)
            refine w_end ?_
            refine seq_normal ?_
            refine w_ret ?_
            refine block_ret ?_
            refine seq_ret ?_
            rw [show nameV x = (⟨#[77, 45]⟩ : ByteArray) ++ t by unfold nameV; rw [if_neg (by omega), if_pos hI4, hsg]] at k
            exact ret_ret rfl sel_ k
          · refine w_seq ?_
            refine w_region ?_
            refine w_o rfl rfl rfl (op_eq rfl rfl ?_)
            refine w_o rfl rfl rfl (op_assign rfl ?_)
            refine w_end ?_
            refine seq_normal ?_
            first | refine w_cond rfl (fun hI5 => ?_) (fun hI5 => ?_) | refine w_condB rfl (fun hI5 => ?_) (fun hI5 => ?_)
            · refine w_seq ?_
              refine w_region ?_
              refine w_o rfl rfl rfl (op_loadA agg_23 siz_23 rfl rfl el_ ?_)
              refine w_o rfl rfl rfl (op_call rfl rfl rfl ?_)
              refine paste_w (may_15 hm hI5) ?_
              refine w_o rfl rfl rfl (op_assign rfl ?_)
              refine w_o rfl rfl rfl (op_assign rfl ?_)
              refine w_end ?_
              refine seq_normal ?_
              refine w_ret ?_
              refine block_ret ?_
              refine seq_ret ?_
              rw [show nameV x = pasteV x by unfold nameV; rw [if_neg (by omega), if_neg (by omega), if_pos hI5]] at k
              exact ret_ret rfl sel_ k
            · refine w_skip ?_
              refine block_normal ?_
              refine seq_normal ?_
              refine w_seq ?_
              refine w_region ?_
              refine w_o rfl rfl rfl (op_loadA agg_23 siz_23 rfl rfl el_ ?_)
              refine w_o rfl rfl rfl (op_call rfl rfl rfl ?_)
              refine of_w ?_
              refine w_o rfl rfl rfl (op_move rfl ?_)
              refine w_o rfl rfl rfl (op_extract rfl rfl ?_)
              refine w_o rfl rfl rfl (op_extract rfl rfl ?_)
              refine w_o rfl rfl rfl (op_alloc zer_40 fun b5 => ?_)
              refine w_on rfl rfl (op_store siz_40 rfl rfl rfl (by (repeat (first | exact Pick.head _ _ _ | apply Pick.tail | apply Pick.app)); first | done | fail) (Nat.le_of_ble_eq_true rfl) rfl ?_)
              refine w_o rfl rfl rfl (op_assign rfl ?_)
              refine w_end ?_
              refine seq_normal ?_
              refine w_seq ?_
              refine w_region ?_
              refine w_o rfl rfl rfl (op_fieldAddr fa_40_2 rfl ?_)
              refine w_o rfl rfl rfl (op_loadF agg_9 rfl el_ rfl ?_)
              refine w_o rfl rfl rfl (op_assign rfl ?_)
              refine w_o rfl rfl rfl (op_assign rfl ?_)
              refine w_end ?_
              refine seq_normal ?_
              refine w_ret ?_
              rw [show nameV x = (foundV (ofP x)).f2 by unfold nameV; rw [if_neg (by omega), if_neg (by omega), if_neg (by omega)]] at k
              exact ret_ret rfl sel_ k
end Go.Proofs.Yteghmemcikiblaa.AM.B
