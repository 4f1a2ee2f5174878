/- The law UtfJoin: it answers true, whatever comes in. -/
import Derived.Test.YtaoocfkadjcbkaaDoorAX
import Derived.Test.YtaoocfkadjcbkaaDoorButf
import Derived.Test.YtaoocfkadjcbkaaDoorBints
set_option linter.unusedVariables false
set_option linter.unusedSimpArgs false
set_option maxRecDepth 10000
set_option maxHeartbeats 4000000
namespace Go.Proofs.YtaoocfkadjcbkaaDoor.AM.B
open Go Go.RowKit
theorem bl_append (a b : ByteArray) : bl (a ++ b) = bl a ++ bl b := by
  show (a ++ b).data.toList = _
  rw [ByteArray.data_append, Array.toList_append]
theorem UtfJoin_law {H : Hyp} {s t : ByteArray} : CallW Tryd.prog Xs 6 [vS s, vS t] H (fun v _ => v = vB true) := by
  refine call_of (n := 56) (fun _ => rfl) Tryd.func6 rfl rfl ?_
  refine w_seq ?_
  refine w_region ?_
  refine w_o rfl rfl rfl (op_assign rfl ?_)
  refine w_end ?_
  refine seq_normal ?_
  refine w_seq ?_
  refine w_seq ?_
  refine w_region ?_
  refine w_o rfl rfl rfl (op_move rfl ?_)
  refine w_o rfl rfl rfl (op_lenS und_9 rfl ?_)
  refine w_o rfl rfl rfl (op_gt rfl rfl ?_)
  refine w_o rfl rfl rfl (op_move rfl ?_)
  first | refine w_known (t := 10) rfl (fun g10 => ?_) (fun g10 => ?_) | refine w_knownB (t := 10) rfl (fun g10 => ?_) (fun g10 => ?_)
  · refine w_u rfl rfl rfl rfl rfl rfl ?_
    refine w_u rfl rfl rfl rfl rfl rfl ?_
    refine w_u rfl rfl rfl rfl rfl rfl ?_
    refine w_o rfl rfl rfl (op_pick rfl rfl rfl ?_)
    refine w_end ?_
    refine seq_normal ?_
    refine w_condT rfl ?_
    refine w_seq ?_
    refine w_region ?_
    refine w_o rfl rfl rfl (op_call rfl rfl rfl ?_)
    refine awake_w ?_
    refine w_o rfl rfl rfl (op_assign rfl ?_)
    refine w_end ?_
    refine seq_normal ?_
    refine w_ret ?_
    refine seq_ret ?_
    exact ret_ret rfl sel_ rfl
  · refine w_og rfl rfl rfl rfl rfl (op_move rfl ?_)
    refine w_og rfl rfl rfl rfl rfl (op_lenS und_9 rfl ?_)
    refine w_og rfl rfl rfl rfl rfl (op_gt rfl rfl ?_)
    refine w_o rfl rfl rfl (op_pick rfl rfl rfl ?_)
    refine w_end ?_
    refine seq_normal ?_
    first | refine w_cond rfl (fun hI1 => ?_) (fun hI1 => ?_) | refine w_condB rfl (fun hI1 => ?_) (fun hI1 => ?_)
    · refine w_seq ?_
      refine w_region ?_
      refine w_o rfl rfl rfl (op_call rfl rfl rfl ?_)
      refine awake_w ?_
      refine w_o rfl rfl rfl (op_assign rfl ?_)
      refine w_end ?_
      refine seq_normal ?_
      refine w_ret ?_
      refine seq_ret ?_
      exact ret_ret rfl sel_ rfl
    · have hvs := vals_len (bl s)
      have hvt := vals_len (bl t)
      rw [bl_len] at hvs hvt
      have hst : s.size ≤ 300 ∧ t.size ≤ 300 := by omega
      refine w_skip ?_
      refine seq_normal ?_
      refine w_seq ?_
      refine w_region ?_
      refine w_o rfl rfl rfl (op_move rfl ?_)
      refine w_o rfl rfl rfl (op_call rfl rfl rfl ?_)
      refine utfDecode_w (by omega) fun ca Na ha => ?_
      refine w_o rfl rfl rfl (op_assign rfl ?_)
      refine w_end ?_
      refine seq_normal ?_
      refine w_seq ?_
      refine w_seq ?_
      refine w_region ?_
      refine w_o rfl rfl rfl (op_assign rfl ?_)
      refine w_end ?_
      refine seq_normal ?_
      refine w_block ?_
      refine w_loop (fun m e H' => ∃ (i : Nat), i ≤ (vals (bl s)).length ∧ m = (vals (bl s)).length - i ∧ (∀ v ∈ (vals (bl s)).take i, v ≤ 1114111) ∧ H' = Na ++ H ∧ e = [(0, vS s), (1, vS t), (5, .one (.c ca)), (6, vI (i : Nat))]) ?_ ?_
      · exact ⟨_, _, _, ⟨0, Nat.zero_le _, rfl, fun v hv => absurd hv (by simp), rfl, rfl⟩, env_, sel_⟩
      · rintro m e H' ⟨i, hi, rfl, hv, rfl, rfl⟩
        refine w_seq ?_
        refine w_seq ?_
        refine w_region ?_
        refine w_o rfl rfl rfl (op_move rfl ?_)
        refine w_o rfl rfl rfl (op_move rfl ?_)
        refine w_o rfl rfl rfl (op_lenC und_23 rfl (Own.lenT ha (fun _ => rfl) (by decide)) ?_)
        refine w_o rfl rfl rfl (op_lt rfl rfl ?_)
        refine w_end ?_
        refine seq_normal ?_
        first | refine w_cond rfl (fun hI2 => ?_) (fun hI2 => ?_) | refine w_condB rfl (fun hI2 => ?_) (fun hI2 => ?_)
        · obtain ⟨x, hx⟩ : ∃ x, (vals (bl s))[i]? = some x := ⟨_, List.getElem?_eq_getElem (by omega)⟩
          refine w_skip ?_
          refine seq_normal ?_
          refine w_seq ?_
          refine w_block ?_
          refine w_seq ?_
          refine w_region ?_
          refine w_o rfl rfl rfl (op_move rfl ?_)
          refine w_o rfl rfl rfl (op_move rfl ?_)
          refine w_o rfl rfl rfl (op_indexT (xs := vals (bl s)) (enc := encI) und_23 siz_3 rfl rfl (Own.slT ha (fun _ => rfl) (by decide) subs_) (fun _ => rfl) rfl (by omega) fun b26 o26 z26 h26 e26 => ?_)
          obtain rfl : x = z26 := Option.some.inj (hx.symm.trans h26)
          refine w_o rfl rfl rfl (op_load1 agg_3 rfl el_ ?_)
          refine w_o rfl rfl rfl (op_gt rfl rfl ?_)
          refine w_end ?_
          refine seq_normal ?_
          first | refine w_cond rfl (fun hI3 => ?_) (fun hI3 => ?_) | refine w_condB rfl (fun hI3 => ?_) (fun hI3 => ?_)
          · refine w_seq ?_
            refine w_region ?_
            refine w_o rfl rfl rfl (op_call rfl rfl rfl ?_)
            refine awake_w ?_
            refine w_o rfl rfl rfl (op_assign rfl ?_)
            refine w_end ?_
            refine seq_normal ?_
            refine w_ret ?_
            refine block_ret ?_
            refine seq_ret ?_
            refine loop_ret ?_
            refine block_ret ?_
            refine seq_ret ?_
            exact ret_ret rfl sel_ rfl
          · refine w_skip ?_
            refine block_normal ?_
            refine seq_normal ?_
            refine w_region ?_
            refine w_o rfl rfl rfl (op_move rfl ?_)
            refine w_o rfl rfl rfl (op_addi rfl rfl (by omega) (by omega) ?_)
            refine w_o rfl rfl rfl (op_assign rfl ?_)
            refine w_end ?_
            exact loop_normal (k' := (vals (bl s)).length - (i + 1)) (by omega) ⟨i + 1, by omega, rfl, (fun v q => by
              rw [List.take_add_one, hx] at q
              rcases List.mem_append.1 q with q | q
              · exact hv v q
              · have e1 : v = x := by simpa using q
                omega), rfl, rfl⟩ env_ sel_
        · have hi' : i = (vals (bl s)).length := by omega
          rw [hi', List.take_length] at hv
          have hj := vals_join _ (bl s) (bl t) (Nat.le_refl _) hv
          refine w_exit ?_
          refine seq_exit ?_
          refine loop_exit ?_
          refine block_hit rfl ?_
          refine seq_normal ?_
          refine w_seq ?_
          refine w_region ?_
          refine w_o rfl rfl rfl (op_call rfl rfl rfl ?_)
          refine awake_w ?_
          refine w_o rfl rfl rfl (op_move rfl ?_)
          refine w_og rfl rfl rfl rfl rfl (op_move rfl ?_)
          refine w_og rfl rfl rfl rfl rfl (op_move rfl ?_)
          refine w_og rfl rfl rfl rfl rfl (op_stradd rfl rfl (by omega) ?_)
          refine w_og rfl rfl rfl rfl rfl (op_call rfl rfl rfl ?_)
          refine utfDecode_w (by rw [ByteArray.size_append]; omega) fun cj Nj hjo => ?_
          rw [bl_append, hj] at hjo
          refine w_og rfl rfl rfl rfl rfl (op_buildSlice rfl (bsl_23 _ _ _ (rfl : _ = some []) rfl (by decide)) fun b36 => ?_)
          refine w_og rfl rfl rfl rfl rfl (op_move rfl ?_)
          refine w_og rfl rfl rfl rfl rfl (op_appendT (xs := []) (ys := vals (bl s)) (enc := encI) elm_23 inf_3 zer_3 (by decide) und_23 rfl rfl (.row b36 0 [] rfl) (fun _ => rfl) (by (repeat (first | exact PickL.front _ _ | exact PickL.nil _ | apply PickL.skip | apply PickL.skipL)); first | done | fail) (Own.slT ha (fun _ => rfl) (by decide) subs_) (by simp only [List.length_nil]; omega) fun c38 N38 h38 => ?_)
          rw [List.nil_append] at h38
          refine w_og rfl rfl rfl rfl rfl (op_move rfl ?_)
          refine w_og rfl rfl rfl rfl rfl (op_call rfl rfl rfl ?_)
          refine utfDecode_w (by omega) fun cb Nb hb => ?_
          refine w_og rfl rfl rfl rfl rfl (op_appendT (xs := vals (bl s)) (ys := vals (bl t)) (enc := encI) elm_23 inf_3 zer_3 (by decide) und_23 rfl rfl h38 (fun _ => rfl) (by (repeat (first | exact PickL.front _ _ | exact PickL.nil _ | apply PickL.skip | apply PickL.skipL)); first | done | fail) (Own.slT hb (fun _ => rfl) (by decide) subs_) (by omega) fun c41 N41 h41 => ?_)
          refine w_og rfl rfl rfl rfl rfl (op_call rfl rfl rfl ?_)
          refine R01Ints_w (l := vals (bl s) ++ vals (bl t)) (l' := vals (bl s) ++ vals (bl t)) (Own.slT hjo (fun _ => rfl) (by decide) subs_) (Own.slT h41 (fun _ => rfl) (by decide) subs_) (by rw [List.length_append]; omega) ?_
          refine w_o rfl rfl rfl (op_pick rfl rfl rfl ?_)
          refine w_o rfl rfl rfl (op_move rfl ?_)
          first | refine w_known (t := 44) rfl (fun g44 => ?_) (fun g44 => ?_) | refine w_knownB (t := 44) rfl (fun g44 => ?_) (fun g44 => ?_)
          · refine w_og rfl rfl rfl rfl rfl (op_move rfl ?_)
            refine w_og rfl rfl rfl rfl rfl (op_move rfl ?_)
            refine w_og rfl rfl rfl rfl rfl (op_stradd rfl rfl (by omega) ?_)
            refine w_og rfl rfl rfl rfl rfl (op_call rfl rfl rfl ?_)
            refine utfCount_w (by rw [ByteArray.size_append]; omega) ?_
            rw [bl_append, hj, List.length_append]
            refine w_og rfl rfl rfl rfl rfl (op_move rfl ?_)
            refine w_og rfl rfl rfl rfl rfl (op_call rfl rfl rfl ?_)
            refine utfCount_w (by omega) ?_
            refine w_og rfl rfl rfl rfl rfl (op_move rfl ?_)
            refine w_og rfl rfl rfl rfl rfl (op_call rfl rfl rfl ?_)
            refine utfCount_w (by omega) ?_
            refine w_og rfl rfl rfl rfl rfl (op_addi rfl rfl (by omega) (by omega) ?_)
            refine w_og rfl rfl rfl rfl rfl (op_eq rfl rfl ?_)
            refine w_o rfl rfl rfl (op_pick rfl rfl rfl ?_)
            refine w_o rfl rfl rfl (op_assign rfl ?_)
            refine w_end ?_
            refine seq_normal ?_
            refine w_ret ?_
            exact ret_bool (b' := true) rfl sel_ (by simp) rfl
          · exact absurd rfl g44 --closed
end Go.Proofs.YtaoocfkadjcbkaaDoor.AM.B
