/- The law UtfEncodes: it answers true, whatever comes in. -/
import Derived.Test.YtaoocfkadjcbkaaDoorAX
import Derived.Test.YtaoocfkadjcbkaaDoorButf
import Derived.Test.YtaoocfkadjcbkaaDoorBints
set_option linter.unusedVariables false
set_option linter.unusedSimpArgs false
set_option maxRecDepth 10000
set_option maxHeartbeats 4000000
namespace Go.Proofs.YtaoocfkadjcbkaaDoor.AM.B
open Go Go.RowKit
theorem UtfEncodes_law {H : Hyp} {c : Cell} {l : List Int} (h : Sl H 3 1 c l.length (l.flatMap encI)) : CallW Tryd.prog Xs 4 [.one (.c c)] H (fun v _ => v = vB true) := by
  refine call_of (n := 61) (fun _ => rfl) Tryd.func4 rfl rfl ?_
  refine w_seq ?_
  refine w_region ?_
  refine w_o rfl rfl rfl (op_assign rfl ?_)
  refine w_end ?_
  refine seq_normal ?_
  refine w_seq ?_
  refine w_seq ?_
  refine w_region ?_
  refine w_o rfl rfl rfl (op_move rfl ?_)
  refine w_o rfl rfl rfl (op_lenC und_23 rfl h.lenC ?_)
  refine w_o rfl rfl rfl (op_gt rfl rfl ?_)
  refine w_end ?_
  refine seq_normal ?_
  first | refine w_cond rfl (fun hI1 => ?_) (fun hI1 => ?_) | refine w_condB rfl (fun hI1 => ?_) (fun hI1 => ?_)
  · refine w_seq ?_
    refine w_region ?_
    refine w_o rfl rfl rfl (op_call rfl rfl rfl ?_)
    refine awake_w ?_
    refine w_o rfl rfl rfl (op_assign rfl ?_)
    refine w_end ?_
    refine seq_normal ?_
    refine w_ret ?_
    refine seq_ret ?_
    exact ret_ret rfl sel_ rfl
  · refine w_skip ?_
    refine seq_normal ?_
    refine w_seq ?_
    refine w_region ?_
    refine w_o rfl rfl rfl (op_move rfl ?_)
    refine w_o rfl rfl rfl (op_call rfl rfl rfl ?_)
    refine utfEncode_w h (by omega) ?_
    refine w_o rfl rfl rfl (op_assign rfl ?_)
    refine w_end ?_
    refine seq_normal ?_
    refine w_seq ?_
    refine w_region ?_
    refine w_o rfl rfl rfl (op_assign rfl ?_)
    refine w_end ?_
    refine seq_normal ?_
    refine w_seq ?_
    refine w_seq ?_
    refine w_region ?_
    refine w_o rfl rfl rfl (op_assign rfl ?_)
    refine w_end ?_
    refine seq_normal ?_
    refine w_block ?_
    refine w_loop (fun m e H' => ∃ (i : Nat) (b : Bool), i ≤ l.length ∧ m = l.length - i ∧ (b = true → ∀ v ∈ l.take i, pointV v = true) ∧ H = H' ∧ e = [(0, .one (.c c)), (3, vS (bsOf (l.flatMap encL))), (4, vB b), (5, vI (i : Nat))]) ?_ ?_
    · exact ⟨_, _, _, ⟨0, true, Nat.zero_le _, rfl, fun _ v hv => absurd hv (by simp), rfl, rfl⟩, env_, sel_⟩
    · rintro m e H' ⟨i, b, hi, rfl, hb, rfl, rfl⟩
      refine w_seq ?_
      refine w_seq ?_
      refine w_region ?_
      refine w_o rfl rfl rfl (op_move rfl ?_)
      refine w_o rfl rfl rfl (op_move rfl ?_)
      refine w_o rfl rfl rfl (op_lenC und_23 rfl h.lenC ?_)
      refine w_o rfl rfl rfl (op_lt rfl rfl ?_)
      refine w_end ?_
      refine seq_normal ?_
      first | refine w_cond rfl (fun hI2 => ?_) (fun hI2 => ?_) | refine w_condB rfl (fun hI2 => ?_) (fun hI2 => ?_)
      · obtain ⟨x, hx⟩ : ∃ x, l[i]? = some x := ⟨_, List.getElem?_eq_getElem (by omega)⟩
        refine w_skip ?_
        refine seq_normal ?_
        refine w_seq ?_
        refine w_block ?_
        refine w_seq ?_
        refine w_seq ?_
        refine w_drawF (H) sel_ (by decide +kernel) (by decide +kernel) ?_
        refine f_b (guard_none rfl) rfl rfl rfl rfl (op_move rfl ?_)
        refine f_b (guard_none rfl) rfl rfl rfl rfl (op_move rfl ?_)
        refine f_b (guard_none rfl) rfl rfl rfl rfl (op_indexT (xs := l) (enc := encI) und_23 siz_3 rfl rfl h (fun _ => rfl) rfl (by omega) fun b20 o20 z20 h20 e20 => ?_)
        obtain rfl : x = z20 := Option.some.inj (hx.symm.trans h20)
        refine f_l (guard_none rfl) rfl rfl rfl sel_ (op_load1 agg_3 rfl el_ rfl) ?_
        refine f_m (guard_none rfl) rfl rfl rfl (op_call rfl rfl rfl ?_)
        refine Right_w ?_
        refine ⟨sel_, ?_⟩
        refine f_b (guard_none rfl) rfl rfl rfl rfl (op_move rfl ?_)
        refine f_b (guard_none rfl) rfl rfl rfl rfl (op_move rfl ?_)
        refine f_b (guard_none rfl) rfl rfl rfl rfl (op_indexT (xs := l) (enc := encI) und_23 siz_3 rfl rfl h (fun _ => rfl) rfl (by omega) fun b25 o25 z25 h25 e25 => ?_)
        obtain rfl : x = z25 := Option.some.inj (hx.symm.trans h25)
        refine f_l (guard_none rfl) rfl rfl rfl sel_ (op_load1 agg_3 rfl el_ rfl) ?_
        refine f_m (guard_none rfl) rfl rfl rfl (op_call rfl rfl rfl ?_)
        refine R02Right_w ?_
        refine ⟨sel_, ?_⟩
        refine f_b (guard_none rfl) rfl rfl rfl rfl (op_boolne und_4 rfl rfl ?_)
        refine f_end ?_
        refine seq_normal ?_
        refine w_condNB rfl (by simp) ?_
        refine w_skip ?_
        refine seq_normal ?_
        refine w_region ?_
        refine w_o rfl rfl rfl (op_move rfl ?_)
        refine w_o rfl rfl rfl (op_move rfl ?_)
        first | refine w_known (t := 30) rfl (fun g30 => ?_) (fun g30 => ?_) | refine w_knownB (t := 30) rfl (fun g30 => ?_) (fun g30 => ?_)
        · refine w_og rfl rfl rfl rfl rfl (op_move rfl ?_)
          refine w_og rfl rfl rfl rfl rfl (op_move rfl ?_)
          refine w_og rfl rfl rfl rfl rfl (op_indexT (xs := l) (enc := encI) und_23 siz_3 rfl rfl h (fun _ => rfl) rfl (by omega) fun b33 o33 z33 h33 e33 => ?_)
          obtain rfl : x = z33 := Option.some.inj (hx.symm.trans h33)
          refine w_og rfl rfl rfl rfl rfl (op_load1 agg_3 rfl el_ ?_)
          refine w_og rfl rfl rfl rfl rfl (op_call rfl rfl rfl ?_)
          refine R02Right_w ?_
          refine w_o rfl rfl rfl (op_pick rfl rfl rfl ?_)
          refine w_o rfl rfl rfl (op_move rfl ?_)
          first | refine w_known (t := 37) rfl (fun g37 => ?_) (fun g37 => ?_) | refine w_knownB (t := 37) rfl (fun g37 => ?_) (fun g37 => ?_)
          · refine w_og rfl rfl rfl rfl rfl (op_move rfl ?_)
            refine w_og rfl rfl rfl rfl rfl (op_move rfl ?_)
            refine w_og rfl rfl rfl rfl rfl (op_indexT (xs := l) (enc := encI) und_23 siz_3 rfl rfl h (fun _ => rfl) rfl (by omega) fun b40 o40 z40 h40 e40 => ?_)
            obtain rfl : x = z40 := Option.some.inj (hx.symm.trans h40)
            refine w_og rfl rfl rfl rfl rfl (op_load1 agg_3 rfl el_ ?_)
            refine w_og rfl rfl rfl rfl rfl (op_le rfl rfl ?_)
            refine w_o rfl rfl rfl (op_pick rfl rfl rfl ?_)
            refine w_o rfl rfl rfl (op_assign rfl ?_)
            refine w_end ?_
            refine block_normal ?_
            refine seq_normal ?_
            refine w_region ?_
            refine w_o rfl rfl rfl (op_move rfl ?_)
            refine w_o rfl rfl rfl (op_addi rfl rfl (by omega) (by omega) ?_)
            refine w_o rfl rfl rfl (op_assign rfl ?_)
            refine w_end ?_
            first
              | exact loop_normal (k' := l.length - (i + 1)) (by omega) ⟨i + 1, false, by omega, rfl, (fun q => by cases q), rfl, rfl⟩ env_ sel_
              | exact loop_normal (k' := l.length - (i + 1)) (by omega) ⟨i + 1, decide (x ≤ 1114111), by omega, rfl, (fun q v hv => by
                  rw [List.take_add_one, hx] at hv
                  rcases List.mem_append.1 hv with hv | hv
                  · exact hb (by assumption) v hv
                  · have e1 : v = x := by simpa using hv
                    have q2 := of_decide_eq_true q
                    have g := g37
                    rw [e1]
                    unfold rightV at g
                    rcases Bool.or_eq_true _ _ ▸ g with g | g
                    · exact g
                    · have := of_decide_eq_true g; omega), rfl, rfl⟩ env_ sel_
          · refine w_u rfl rfl rfl rfl rfl rfl ?_
            refine w_u rfl rfl rfl rfl rfl rfl ?_
            refine w_u rfl rfl rfl rfl rfl rfl ?_
            refine w_u rfl rfl rfl rfl rfl rfl ?_
            refine w_u rfl rfl rfl rfl rfl rfl ?_
            refine w_o rfl rfl rfl (op_pick rfl rfl rfl ?_)
            refine w_o rfl rfl rfl (op_assign rfl ?_)
            refine w_end ?_
            refine block_normal ?_
            refine seq_normal ?_
            refine w_region ?_
            refine w_o rfl rfl rfl (op_move rfl ?_)
            refine w_o rfl rfl rfl (op_addi rfl rfl (by omega) (by omega) ?_)
            refine w_o rfl rfl rfl (op_assign rfl ?_)
            refine w_end ?_
            first
              | exact loop_normal (k' := l.length - (i + 1)) (by omega) ⟨i + 1, false, by omega, rfl, (fun q => by cases q), rfl, rfl⟩ env_ sel_
              | exact loop_normal (k' := l.length - (i + 1)) (by omega) ⟨i + 1, decide (x ≤ 1114111), by omega, rfl, (fun q v hv => by
                  rw [List.take_add_one, hx] at hv
                  rcases List.mem_append.1 hv with hv | hv
                  · exact hb (by assumption) v hv
                  · have e1 : v = x := by simpa using hv
                    have q2 := of_decide_eq_true q
                    have g := g37
                    rw [e1]
                    unfold rightV at g
                    rcases Bool.or_eq_true _ _ ▸ g with g | g
                    · exact g
                    · have := of_decide_eq_true g; omega), rfl, rfl⟩ env_ sel_
        · refine w_u rfl rfl rfl rfl rfl rfl ?_
          refine w_u rfl rfl rfl rfl rfl rfl ?_
          refine w_u rfl rfl rfl rfl rfl rfl ?_
          refine w_u rfl rfl rfl rfl rfl rfl ?_
          refine w_u rfl rfl rfl rfl rfl rfl ?_
          refine w_o rfl rfl rfl (op_pick rfl rfl rfl ?_)
          refine w_o rfl rfl rfl (op_move rfl ?_)
          refine w_u rfl rfl rfl rfl rfl rfl ?_
          refine w_u rfl rfl rfl rfl rfl rfl ?_
          refine w_u rfl rfl rfl rfl rfl rfl ?_
          refine w_u rfl rfl rfl rfl rfl rfl ?_
          refine w_u rfl rfl rfl rfl rfl rfl ?_
          refine w_o rfl rfl rfl (op_pick rfl rfl rfl ?_)
          refine w_o rfl rfl rfl (op_assign rfl ?_)
          refine w_end ?_
          refine block_normal ?_
          refine seq_normal ?_
          refine w_region ?_
          refine w_o rfl rfl rfl (op_move rfl ?_)
          refine w_o rfl rfl rfl (op_addi rfl rfl (by omega) (by omega) ?_)
          refine w_o rfl rfl rfl (op_assign rfl ?_)
          refine w_end ?_
          first
            | exact loop_normal (k' := l.length - (i + 1)) (by omega) ⟨i + 1, false, by omega, rfl, (fun q => by cases q), rfl, rfl⟩ env_ sel_
            | exact loop_normal (k' := l.length - (i + 1)) (by omega) ⟨i + 1, decide (x ≤ 1114111), by omega, rfl, (fun q v hv => by
                rw [List.take_add_one, hx] at hv
                rcases List.mem_append.1 hv with hv | hv
                · exact hb (by assumption) v hv
                · have e1 : v = x := by simpa using hv
                  have q2 := of_decide_eq_true q
                  have g := g37
                  rw [e1]
                  unfold rightV at g
                  rcases Bool.or_eq_true _ _ ▸ g with g | g
                  · exact g
                  · have := of_decide_eq_true g; omega), rfl, rfl⟩ env_ sel_
      · have hi' : i = l.length := by omega
        rw [hi', List.take_length] at hb
        refine w_exit ?_
        refine seq_exit ?_
        refine loop_exit ?_
        refine block_hit rfl ?_
        refine seq_normal ?_
        refine w_seq ?_
        refine w_region ?_
        refine w_o rfl rfl rfl (op_call rfl rfl rfl ?_)
        refine awake_w ?_
        refine w_o rfl rfl rfl (op_move rfl ?_)
        refine w_og rfl rfl rfl rfl rfl (op_move rfl ?_)
        refine w_og rfl rfl rfl rfl rfl (op_move rfl ?_)
        refine w_og rfl rfl rfl rfl rfl (op_call rfl rfl rfl ?_)
        refine R02Encode_w h (by omega) ?_
        refine w_og rfl rfl rfl rfl rfl (op_streq rfl rfl ?_)
        refine w_o rfl rfl rfl (op_pick rfl rfl rfl ?_)
        refine w_o rfl rfl rfl (op_move rfl ?_)
        first | refine w_known (t := 51) rfl (fun g51 => ?_) (fun g51 => ?_) | refine w_knownB (t := 51) rfl (fun g51 => ?_) (fun g51 => ?_)
        · refine w_og rfl rfl rfl rfl rfl (op_move rfl ?_)
          refine w_og rfl rfl rfl rfl rfl (op_not rfl ?_)
          refine w_og rfl rfl rfl rfl rfl (op_move rfl ?_)
          first | refine w_known (t := 54) rfl (fun g54 => ?_) (fun g54 => ?_) | refine w_knownB (t := 54) rfl (fun g54 => ?_) (fun g54 => ?_)
          · refine w_u rfl rfl rfl rfl rfl rfl ?_
            refine w_u rfl rfl rfl rfl rfl rfl ?_
            refine w_u rfl rfl rfl rfl rfl rfl ?_
            refine w_u rfl rfl rfl rfl rfl rfl ?_
            refine w_og rfl rfl rfl rfl rfl (op_pick rfl rfl rfl ?_)
            refine w_o rfl rfl rfl (op_pick rfl rfl rfl ?_)
            refine w_o rfl rfl rfl (op_assign rfl ?_)
            refine w_end ?_
            refine seq_normal ?_
            refine w_ret ?_
            exact ret_bool (b' := true) rfl sel_ (by simp [*]) rfl
          · refine w_og rfl rfl rfl rfl rfl (op_move rfl ?_)
            refine w_og rfl rfl rfl rfl rfl (op_call rfl rfl rfl ?_)
            refine utfDecode_w (by rw [bsOf_size]; have := encLs_len l; omega) fun ca Na ha => ?_
            refine w_og rfl rfl rfl rfl rfl (op_move rfl ?_)
            refine w_og rfl rfl rfl rfl rfl (op_call rfl rfl rfl ?_)
            have hbl : vals (bl (bsOf (l.flatMap encL))) = l := vals_encs l (hb (by simpa using g54))
            rw [hbl] at ha
            refine R01Ints_w (l := l) (l' := l) (Own.slT ha (fun _ => rfl) (by decide) subs_) h.app (by omega) ?_
            refine w_og rfl rfl rfl rfl rfl (op_pick rfl rfl rfl ?_)
            refine w_o rfl rfl rfl (op_pick rfl rfl rfl ?_)
            refine w_o rfl rfl rfl (op_assign rfl ?_)
            refine w_end ?_
            refine seq_normal ?_
            refine w_ret ?_
            exact ret_bool (b' := true) rfl sel_ (by simp [*]) rfl
        · exact absurd rfl g51 --closed
end Go.Proofs.YtaoocfkadjcbkaaDoor.AM.B
