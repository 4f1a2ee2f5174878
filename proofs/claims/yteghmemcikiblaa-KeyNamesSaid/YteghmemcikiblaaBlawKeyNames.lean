/- The law KeyNames: it answers true, whatever comes in. -/
import Derived.Test.YteghmemcikiblaaAX
import Derived.Test.YteghmemcikiblaaBkey10
set_option linter.unusedVariables false
set_option linter.unusedSimpArgs false
set_option maxRecDepth 10000
set_option maxHeartbeats 4000000
namespace Go.Proofs.Yteghmemcikiblaa.AM.B
open Go Go.RowKit
theorem beq_self_ba (s : ByteArray) : (s == s) = true := by
  cases s with
  | mk d => show (d == d) = true; simp
theorem KeyNames_law {H : Hyp} {x : KeyS} : CallW Try.prog Xs 3 [.one (.agg (encK x))] H (fun v _ => v = vB true) := by
  refine call_of (n := 106) (fun _ => rfl) Try.func3 rfl rfl ?_
  refine w_seq ?_
  refine w_region ?_
  refine w_o rfl rfl rfl (op_box rfl fun b1 => ?_)
  refine w_o rfl rfl rfl (op_assign rfl ?_)
  refine w_end ?_
  refine seq_normal ?_
  refine w_seq ?_
  refine w_seq ?_
  refine w_region ?_
  refine w_o rfl rfl rfl (op_fieldAddr fa_23_2 rfl ?_)
  refine w_o rfl rfl rfl (op_loadF agg_9 rfl el_ rfl ?_)
  refine w_o rfl rfl rfl (op_lenS und_9 rfl ?_)
  refine w_o rfl rfl rfl (op_gt rfl rfl ?_)
  refine w_end ?_
  refine seq_normal ?_
  first | refine w_cond rfl (fun hI1 => ?_) (fun hI1 => ?_) | refine w_condB rfl (fun hI1 => ?_) (fun hI1 => ?_)
  · refine w_seq ?_
    refine w_region ?_
    refine w_o rfl rfl rfl (op_call rfl rfl rfl ?_)
    refine awake_w ?_
    refine w_o rfl rfl rfl (op_assign rfl ?_)
    refine w_end ?_
    refine seq_normal ?_
    refine w_ret ?_
    refine seq_ret ?_
    exact ret_ret rfl sel_ rfl
  · have ht : x.f2.size ≤ 300 := by omega
    refine w_skip ?_
    refine seq_normal ?_
    refine w_seq ?_
    refine w_region ?_
    refine w_o rfl rfl rfl (op_loadA agg_23 siz_23 rfl rfl el_ ?_)
    refine w_o rfl rfl rfl (op_call rfl rfl rfl ?_)
    refine Name_w (x := x) (fun hm => ?_) (fun hm => ?_)
    · refine w_o rfl rfl rfl (op_move rfl ?_)
      refine w_o rfl rfl rfl (op_extract rfl rfl ?_)
      refine w_o rfl rfl rfl (op_extract rfl rfl ?_)
      refine w_o rfl rfl rfl (op_assign rfl ?_)
      refine w_o rfl rfl rfl (op_assign rfl ?_)
      refine w_end ?_
      refine seq_normal ?_
      refine w_seq ?_
      refine w_region ?_
      refine w_o rfl rfl rfl (op_loadA agg_23 siz_23 rfl rfl el_ ?_)
      refine w_o rfl rfl rfl (op_call rfl rfl rfl ?_)
      first
        | refine Value_w (x := x) (fun hm2 => ?_) (fun hm2 => Bool.noConfusion (hm.symm.trans hm2))
        | refine Value_w (x := x) (fun hm2 => Bool.noConfusion (hm2.symm.trans hm)) (fun hm2 => ?_)
      refine w_o rfl rfl rfl (op_move rfl ?_)
      refine w_o rfl rfl rfl (op_extract rfl rfl ?_)
      refine w_o rfl rfl rfl (op_extract rfl rfl ?_)
      refine w_o rfl rfl rfl (op_assign rfl ?_)
      refine w_o rfl rfl rfl (op_assign rfl ?_)
      refine w_end ?_
      refine seq_normal ?_
      refine w_seq ?_
      refine w_seq ?_
      refine w_region ?_
      refine w_o rfl rfl rfl (op_loadA agg_23 siz_23 rfl rfl el_ ?_)
      refine w_o rfl rfl rfl (op_call rfl rfl rfl ?_)
      refine May_w (x := x) ?_
      rw [hm]
      refine w_o rfl rfl rfl (op_not rfl ?_)
      refine w_end ?_
      refine seq_normal ?_
      first | refine w_cond rfl (fun hI2 => ?_) (fun hI2 => ?_) | refine w_condB rfl (fun hI2 => ?_) (fun hI2 => ?_)
      · try (cases hI2; done)
        all_goals
          refine w_seq ?_
          refine w_region ?_
          refine w_o rfl rfl rfl (op_call rfl rfl rfl ?_)
          refine awake_w ?_
          refine w_o rfl rfl rfl (op_move rfl ?_)
          refine w_og rfl rfl rfl rfl rfl (op_move rfl ?_)
          refine w_og rfl rfl rfl rfl rfl (op_streq rfl rfl ?_)
          refine w_o rfl rfl rfl (op_pick rfl rfl rfl ?_)
          refine w_o rfl rfl rfl (op_move rfl ?_)
          first | refine w_known (t := 33) rfl (fun g33 => ?_) (fun g33 => ?_) | refine w_knownB (t := 33) rfl (fun g33 => ?_) (fun g33 => ?_)
          · refine w_og rfl rfl rfl rfl rfl (op_move rfl ?_)
            refine w_og rfl rfl rfl rfl rfl (op_eq rfl rfl ?_)
            refine w_o rfl rfl rfl (op_pick rfl rfl rfl ?_)
            refine w_o rfl rfl rfl (op_move rfl ?_)
            first | refine w_known (t := 37) rfl (fun g37 => ?_) (fun g37 => ?_) | refine w_knownB (t := 37) rfl (fun g37 => ?_) (fun g37 => ?_)
            · refine w_og rfl rfl rfl rfl rfl (op_loadA agg_23 siz_23 rfl rfl el_ ?_)
              refine w_og rfl rfl rfl rfl rfl (op_call rfl rfl rfl ?_)
              refine Check_w (x := x) ?_
              rw [hm]
              refine w_og rfl rfl rfl rfl rfl (op_eq rfl rfl ?_)
              refine w_o rfl rfl rfl (op_pick rfl rfl rfl ?_)
              refine w_o rfl rfl rfl (op_move rfl ?_)
              first | refine w_known (t := 42) rfl (fun g42 => ?_) (fun g42 => ?_) | refine w_knownB (t := 42) rfl (fun g42 => ?_) (fun g42 => ?_)
              · refine w_og rfl rfl rfl rfl rfl (op_loadA agg_23 siz_23 rfl rfl el_ ?_)
                refine w_og rfl rfl rfl rfl rfl (op_call rfl rfl rfl ?_)
                refine Bytes_w (x := x) ht (fun hm3 => ?_) (fun hm3 => absurd hm3 (by rw [hm]; decide))
                refine w_og rfl rfl rfl rfl rfl (op_streq rfl rfl ?_)
                refine w_o rfl rfl rfl (op_pick rfl rfl rfl ?_)
                refine w_o rfl rfl rfl (op_move rfl ?_)
                first | refine w_known (t := 47) rfl (fun g47 => ?_) (fun g47 => ?_) | refine w_knownB (t := 47) rfl (fun g47 => ?_) (fun g47 => ?_)
                · refine w_og rfl rfl rfl rfl rfl (op_move rfl ?_)
                  refine w_og rfl rfl rfl rfl rfl (op_eq rfl rfl ?_)
                  refine w_o rfl rfl rfl (op_pick rfl rfl rfl ?_)
                  refine w_o rfl rfl rfl (op_move rfl ?_)
                  first | refine w_known (t := 51) rfl (fun g51 => ?_) (fun g51 => ?_) | refine w_knownB (t := 51) rfl (fun g51 => ?_) (fun g51 => ?_)
                  · refine w_og rfl rfl rfl rfl rfl (op_move rfl ?_)
                    refine w_og rfl rfl rfl rfl rfl (op_not rfl ?_)
                    refine w_o rfl rfl rfl (op_pick rfl rfl rfl ?_)
                    refine w_o rfl rfl rfl (op_assign rfl ?_)
                    refine w_end ?_
                    refine seq_normal ?_
                    refine w_ret ?_
                    refine seq_ret ?_
                    exact ret_bool (b' := true) rfl sel_ (by simp) rfl
                  · exact absurd rfl g51 --closed
                · exact absurd rfl g47 --closed
              · exact absurd rfl g42 --closed
            · exact absurd rfl g37 --closed
          · exact absurd rfl g33 --closed
      · try (cases hI2; done)
        all_goals
          refine w_skip ?_
          refine seq_normal ?_
          refine w_seq ?_
          refine w_region ?_
          refine w_o rfl rfl rfl (op_move rfl ?_)
          refine w_o rfl rfl rfl (op_call rfl rfl rfl ?_)
          refine ParseX_w hm ht ?_
          refine w_o rfl rfl rfl (op_move rfl ?_)
          refine w_o rfl rfl rfl (op_extract rfl rfl ?_)
          refine w_o rfl rfl rfl (op_extract rfl rfl ?_)
          refine w_o rfl rfl rfl (op_alloc zer_23 fun b7 => ?_)
          refine w_on rfl rfl (op_store siz_23 rfl rfl rfl (by (repeat (first | exact Pick.head _ _ _ | apply Pick.tail | apply Pick.app)); first | done | fail) (Nat.le_of_ble_eq_true rfl) rfl ?_)
          refine w_o rfl rfl rfl (op_assign rfl ?_)
          refine w_end ?_
          refine seq_normal ?_
          refine w_seq ?_
          refine w_region ?_
          refine w_o rfl rfl rfl (op_loadA agg_23 siz_23 rfl rfl el_ ?_)
          refine w_o rfl rfl rfl (op_call rfl rfl rfl ?_)
          refine refValue_w (x := x) ?_
          refine w_o rfl rfl rfl (op_assign rfl ?_)
          refine w_end ?_
          refine seq_normal ?_
          refine w_seq ?_
          refine w_drawF (_) sel_ (by decide +kernel) (by decide +kernel) ?_
          refine f_m (guard_none rfl) rfl rfl rfl (op_call rfl rfl rfl ?_)
          refine awake_w ?_
          refine ⟨sel_, ?_⟩
          refine f_b (guard_none rfl) rfl rfl rfl rfl (op_move rfl ?_)
          refine f_b (guard_some rfl rfl rfl rfl) rfl rfl rfl rfl (op_move rfl ?_)
          refine f_b (guard_some rfl rfl rfl rfl) rfl rfl rfl rfl (op_eq rfl rfl ?_)
          refine f_b (guard_none rfl) rfl rfl rfl rfl (op_pick rfl rfl rfl ?_)
          refine f_b (guard_none rfl) rfl rfl rfl rfl (op_move rfl ?_)
          first | refine f_known (t := 67) rfl (fun g67 => ?_) (fun g67 => ?_) | refine f_knownB (t := 67) rfl (fun g67 => ?_) (fun g67 => ?_)
          · refine f_l (guard_some rfl rfl rfl rfl) rfl rfl rfl sel_ (op_loadA agg_23 siz_23 rfl rfl el_ rfl) ?_
            refine f_m (guard_some rfl rfl rfl rfl) rfl rfl rfl (op_call rfl rfl rfl ?_)
            refine Check_w (x := x) ?_
            rw [hm]
            refine ⟨sel_, ?_⟩
            refine f_b (guard_some rfl rfl rfl rfl) rfl rfl rfl rfl (op_eq rfl rfl ?_)
            refine f_b (guard_none rfl) rfl rfl rfl rfl (op_pick rfl rfl rfl ?_)
            refine f_b (guard_none rfl) rfl rfl rfl rfl (op_move rfl ?_)
            first | refine f_known (t := 72) rfl (fun g72 => ?_) (fun g72 => ?_) | refine f_knownB (t := 72) rfl (fun g72 => ?_) (fun g72 => ?_)
            · refine f_b (guard_some rfl rfl rfl rfl) rfl rfl rfl rfl (op_move rfl ?_)
              refine f_l (guard_some rfl rfl rfl rfl) rfl rfl rfl sel_ (op_loadA agg_23 siz_23 rfl rfl el_ rfl) ?_
              refine f_m (guard_some rfl rfl rfl rfl) rfl rfl rfl (op_call rfl rfl rfl ?_)
              refine refName_w hm ?_
              refine ⟨sel_, ?_⟩
              refine f_b (guard_some rfl rfl rfl rfl) rfl rfl rfl rfl (op_streq rfl rfl ?_)
              refine f_b (guard_none rfl) rfl rfl rfl rfl (op_pick rfl rfl rfl ?_)
              refine f_b (guard_none rfl) rfl rfl rfl rfl (op_move rfl ?_)
              first | refine f_known (t := 78) rfl (fun g78 => ?_) (fun g78 => ?_) | refine f_knownB (t := 78) rfl (fun g78 => ?_) (fun g78 => ?_)
              · refine f_l (guard_some rfl rfl rfl rfl) rfl rfl rfl sel_ (op_loadA agg_23 siz_23 rfl rfl el_ rfl) ?_
                refine f_l (guard_some rfl rfl rfl rfl) rfl rfl rfl sel_ (op_loadA agg_23 siz_23 rfl rfl el_ rfl) ?_
                refine f_b (guard_some rfl rfl rfl rfl) rfl rfl rfl rfl (op_eqs_23 rfl rfl ?_)
                refine f_b (guard_none rfl) rfl rfl rfl rfl (op_pick rfl rfl rfl ?_)
                refine f_b (guard_none rfl) rfl rfl rfl rfl (op_move rfl ?_)
                first | refine f_known (t := 83) rfl (fun g83 => ?_) (fun g83 => ?_) | refine f_knownB (t := 83) rfl (fun g83 => ?_) (fun g83 => ?_)
                · refine f_b (guard_some rfl rfl rfl rfl) rfl rfl rfl rfl (op_move rfl ?_)
                  refine f_b (guard_some rfl rfl rfl rfl) rfl rfl rfl rfl (op_eq rfl rfl ?_)
                  refine f_b (guard_none rfl) rfl rfl rfl rfl (op_pick rfl rfl rfl ?_)
                  refine f_b (guard_none rfl) rfl rfl rfl rfl (op_move rfl ?_)
                  first | refine f_known (t := 87) rfl (fun g87 => ?_) (fun g87 => ?_) | refine f_knownB (t := 87) rfl (fun g87 => ?_) (fun g87 => ?_)
                  · refine f_l (guard_some rfl rfl rfl rfl) rfl rfl rfl sel_ (op_loadA agg_23 siz_23 rfl rfl el_ rfl) ?_
                    refine f_m (guard_some rfl rfl rfl rfl) rfl rfl rfl (op_call rfl rfl rfl ?_)
                    refine Bytes_w (x := x) ht (fun hm3 => absurd hm3 (by rw [hm]; decide)) (fun hm3 => ?_)
                    refine ⟨sel_, ?_⟩
                    refine f_l (guard_some rfl rfl rfl rfl) rfl rfl rfl sel_ (op_loadA agg_23 siz_23 rfl rfl el_ rfl) ?_
                    refine f_m (guard_some rfl rfl rfl rfl) rfl rfl rfl (op_call rfl rfl rfl ?_)
                    refine refBytes_w hm ht ?_
                    refine ⟨sel_, ?_⟩
                    refine f_b (guard_some rfl rfl rfl rfl) rfl rfl rfl rfl (op_streq rfl rfl ?_)
                    refine f_b (guard_none rfl) rfl rfl rfl rfl (op_pick rfl rfl rfl ?_)
                    refine f_b (guard_none rfl) rfl rfl rfl rfl (op_move rfl ?_)
                    first | refine f_known (t := 94) rfl (fun g94 => ?_) (fun g94 => ?_) | refine f_knownB (t := 94) rfl (fun g94 => ?_) (fun g94 => ?_)
                    · refine f_b (guard_some rfl rfl rfl rfl) rfl rfl rfl rfl (op_move rfl ?_)
                      refine f_b (guard_some rfl rfl rfl rfl) rfl rfl rfl rfl (op_move rfl ?_)
                      refine f_b (guard_some rfl rfl rfl rfl) rfl rfl rfl rfl (op_ge rfl rfl ?_)
                      refine f_b (guard_some rfl rfl rfl rfl) rfl rfl rfl rfl (op_booleq und_4 rfl rfl ?_)
                      refine f_b (guard_none rfl) rfl rfl rfl rfl (op_pick rfl rfl rfl ?_)
                      refine f_b (guard_none rfl) rfl rfl rfl rfl (op_move rfl ?_)
                      first | refine f_known (t := 100) rfl (fun g100 => ?_) (fun g100 => ?_) | refine f_knownB (t := 100) rfl (fun g100 => ?_) (fun g100 => ?_)
                      · refine f_b (guard_some rfl rfl rfl rfl) rfl rfl rfl rfl (op_move rfl ?_)
                        refine f_b (guard_some rfl rfl rfl rfl) rfl rfl rfl rfl (op_move rfl ?_)
                        refine f_m (guard_some rfl rfl rfl rfl) rfl rfl rfl (op_call rfl rfl rfl ?_)
                        refine High_w ?_
                        refine ⟨sel_, ?_⟩
                        refine f_b (guard_some rfl rfl rfl rfl) rfl rfl rfl rfl (op_eq rfl rfl ?_)
                        refine f_b (guard_none rfl) rfl rfl rfl rfl (op_pick rfl rfl rfl ?_)
                        refine f_b (guard_none rfl) rfl rfl rfl rfl (op_assign rfl ?_)
                        refine f_end ?_
                        refine seq_normal ?_
                        refine w_ret ?_
                        exact ret_bool (b' := true) rfl sel_ (by simp) rfl
                      · exfalso; revert g100; simp --closed
                    · exact absurd rfl g94 --closed
                  · exact absurd rfl g87 --closed
                · exfalso; revert g83; simp [beq_self_ba] --closed
              · exact absurd rfl g78 --closed
            · exact absurd rfl g72 --closed
          · exact absurd rfl g67 --closed
    · refine w_o rfl rfl rfl (op_move rfl ?_)
      refine w_o rfl rfl rfl (op_extract rfl rfl ?_)
      refine w_o rfl rfl rfl (op_extract rfl rfl ?_)
      refine w_o rfl rfl rfl (op_assign rfl ?_)
      refine w_o rfl rfl rfl (op_assign rfl ?_)
      refine w_end ?_
      refine seq_normal ?_
      refine w_seq ?_
      refine w_region ?_
      refine w_o rfl rfl rfl (op_loadA agg_23 siz_23 rfl rfl el_ ?_)
      refine w_o rfl rfl rfl (op_call rfl rfl rfl ?_)
      first
        | refine Value_w (x := x) (fun hm2 => ?_) (fun hm2 => Bool.noConfusion (hm.symm.trans hm2))
        | refine Value_w (x := x) (fun hm2 => Bool.noConfusion (hm2.symm.trans hm)) (fun hm2 => ?_)
      refine w_o rfl rfl rfl (op_move rfl ?_)
      refine w_o rfl rfl rfl (op_extract rfl rfl ?_)
      refine w_o rfl rfl rfl (op_extract rfl rfl ?_)
      refine w_o rfl rfl rfl (op_assign rfl ?_)
      refine w_o rfl rfl rfl (op_assign rfl ?_)
      refine w_end ?_
      refine seq_normal ?_
      refine w_seq ?_
      refine w_seq ?_
      refine w_region ?_
      refine w_o rfl rfl rfl (op_loadA agg_23 siz_23 rfl rfl el_ ?_)
      refine w_o rfl rfl rfl (op_call rfl rfl rfl ?_)
      refine May_w (x := x) ?_
      rw [hm]
      refine w_o rfl rfl rfl (op_not rfl ?_)
      refine w_end ?_
      refine seq_normal ?_
      first | refine w_cond rfl (fun hI2 => ?_) (fun hI2 => ?_) | refine w_condB rfl (fun hI2 => ?_) (fun hI2 => ?_)
      · try (cases hI2; done)
        all_goals
          refine w_seq ?_
          refine w_region ?_
          refine w_o rfl rfl rfl (op_call rfl rfl rfl ?_)
          refine awake_w ?_
          refine w_o rfl rfl rfl (op_move rfl ?_)
          refine w_og rfl rfl rfl rfl rfl (op_move rfl ?_)
          refine w_og rfl rfl rfl rfl rfl (op_streq rfl rfl ?_)
          refine w_o rfl rfl rfl (op_pick rfl rfl rfl ?_)
          refine w_o rfl rfl rfl (op_move rfl ?_)
          first | refine w_known (t := 33) rfl (fun g33 => ?_) (fun g33 => ?_) | refine w_knownB (t := 33) rfl (fun g33 => ?_) (fun g33 => ?_)
          · refine w_og rfl rfl rfl rfl rfl (op_move rfl ?_)
            refine w_og rfl rfl rfl rfl rfl (op_eq rfl rfl ?_)
            refine w_o rfl rfl rfl (op_pick rfl rfl rfl ?_)
            refine w_o rfl rfl rfl (op_move rfl ?_)
            first | refine w_known (t := 37) rfl (fun g37 => ?_) (fun g37 => ?_) | refine w_knownB (t := 37) rfl (fun g37 => ?_) (fun g37 => ?_)
            · refine w_og rfl rfl rfl rfl rfl (op_loadA agg_23 siz_23 rfl rfl el_ ?_)
              refine w_og rfl rfl rfl rfl rfl (op_call rfl rfl rfl ?_)
              refine Check_w (x := x) ?_
              rw [hm]
              refine w_og rfl rfl rfl rfl rfl (op_eq rfl rfl ?_)
              refine w_o rfl rfl rfl (op_pick rfl rfl rfl ?_)
              refine w_o rfl rfl rfl (op_move rfl ?_)
              first | refine w_known (t := 42) rfl (fun g42 => ?_) (fun g42 => ?_) | refine w_knownB (t := 42) rfl (fun g42 => ?_) (fun g42 => ?_)
              · refine w_og rfl rfl rfl rfl rfl (op_loadA agg_23 siz_23 rfl rfl el_ ?_)
                refine w_og rfl rfl rfl rfl rfl (op_call rfl rfl rfl ?_)
                refine Bytes_w (x := x) ht (fun hm3 => ?_) (fun hm3 => absurd hm3 (by rw [hm]; decide))
                refine w_og rfl rfl rfl rfl rfl (op_streq rfl rfl ?_)
                refine w_o rfl rfl rfl (op_pick rfl rfl rfl ?_)
                refine w_o rfl rfl rfl (op_move rfl ?_)
                first | refine w_known (t := 47) rfl (fun g47 => ?_) (fun g47 => ?_) | refine w_knownB (t := 47) rfl (fun g47 => ?_) (fun g47 => ?_)
                · refine w_og rfl rfl rfl rfl rfl (op_move rfl ?_)
                  refine w_og rfl rfl rfl rfl rfl (op_eq rfl rfl ?_)
                  refine w_o rfl rfl rfl (op_pick rfl rfl rfl ?_)
                  refine w_o rfl rfl rfl (op_move rfl ?_)
                  first | refine w_known (t := 51) rfl (fun g51 => ?_) (fun g51 => ?_) | refine w_knownB (t := 51) rfl (fun g51 => ?_) (fun g51 => ?_)
                  · refine w_og rfl rfl rfl rfl rfl (op_move rfl ?_)
                    refine w_og rfl rfl rfl rfl rfl (op_not rfl ?_)
                    refine w_o rfl rfl rfl (op_pick rfl rfl rfl ?_)
                    refine w_o rfl rfl rfl (op_assign rfl ?_)
                    refine w_end ?_
                    refine seq_normal ?_
                    refine w_ret ?_
                    refine seq_ret ?_
                    exact ret_bool (b' := true) rfl sel_ (by simp) rfl
                  · exact absurd rfl g51 --closed
                · exact absurd rfl g47 --closed
              · exact absurd rfl g42 --closed
            · exact absurd rfl g37 --closed
          · exact absurd rfl g33 --closed
      · try (cases hI2; done)
        all_goals
          refine w_skip ?_
          refine seq_normal ?_
          refine w_seq ?_
          refine w_region ?_
          refine w_o rfl rfl rfl (op_move rfl ?_)
          refine w_o rfl rfl rfl (op_call rfl rfl rfl ?_)
          refine ParseX_w hm ht ?_
          refine w_o rfl rfl rfl (op_move rfl ?_)
          refine w_o rfl rfl rfl (op_extract rfl rfl ?_)
          refine w_o rfl rfl rfl (op_extract rfl rfl ?_)
          refine w_o rfl rfl rfl (op_alloc zer_23 fun b7 => ?_)
          refine w_on rfl rfl (op_store siz_23 rfl rfl rfl (by (repeat (first | exact Pick.head _ _ _ | apply Pick.tail | apply Pick.app)); first | done | fail) (Nat.le_of_ble_eq_true rfl) rfl ?_)
          refine w_o rfl rfl rfl (op_assign rfl ?_)
          refine w_end ?_
          refine seq_normal ?_
          refine w_seq ?_
          refine w_region ?_
          refine w_o rfl rfl rfl (op_loadA agg_23 siz_23 rfl rfl el_ ?_)
          refine w_o rfl rfl rfl (op_call rfl rfl rfl ?_)
          refine refValue_w (x := x) ?_
          refine w_o rfl rfl rfl (op_assign rfl ?_)
          refine w_end ?_
          refine seq_normal ?_
          refine w_seq ?_
          refine w_drawF (_) sel_ (by decide +kernel) (by decide +kernel) ?_
          refine f_m (guard_none rfl) rfl rfl rfl (op_call rfl rfl rfl ?_)
          refine awake_w ?_
          refine ⟨sel_, ?_⟩
          refine f_b (guard_none rfl) rfl rfl rfl rfl (op_move rfl ?_)
          refine f_b (guard_some rfl rfl rfl rfl) rfl rfl rfl rfl (op_move rfl ?_)
          refine f_b (guard_some rfl rfl rfl rfl) rfl rfl rfl rfl (op_eq rfl rfl ?_)
          refine f_b (guard_none rfl) rfl rfl rfl rfl (op_pick rfl rfl rfl ?_)
          refine f_b (guard_none rfl) rfl rfl rfl rfl (op_move rfl ?_)
          first | refine f_known (t := 67) rfl (fun g67 => ?_) (fun g67 => ?_) | refine f_knownB (t := 67) rfl (fun g67 => ?_) (fun g67 => ?_)
          · refine f_l (guard_some rfl rfl rfl rfl) rfl rfl rfl sel_ (op_loadA agg_23 siz_23 rfl rfl el_ rfl) ?_
            refine f_m (guard_some rfl rfl rfl rfl) rfl rfl rfl (op_call rfl rfl rfl ?_)
            refine Check_w (x := x) ?_
            rw [hm]
            refine ⟨sel_, ?_⟩
            refine f_b (guard_some rfl rfl rfl rfl) rfl rfl rfl rfl (op_eq rfl rfl ?_)
            refine f_b (guard_none rfl) rfl rfl rfl rfl (op_pick rfl rfl rfl ?_)
            refine f_b (guard_none rfl) rfl rfl rfl rfl (op_move rfl ?_)
            first | refine f_known (t := 72) rfl (fun g72 => ?_) (fun g72 => ?_) | refine f_knownB (t := 72) rfl (fun g72 => ?_) (fun g72 => ?_)
            · refine f_b (guard_some rfl rfl rfl rfl) rfl rfl rfl rfl (op_move rfl ?_)
              refine f_l (guard_some rfl rfl rfl rfl) rfl rfl rfl sel_ (op_loadA agg_23 siz_23 rfl rfl el_ rfl) ?_
              refine f_m (guard_some rfl rfl rfl rfl) rfl rfl rfl (op_call rfl rfl rfl ?_)
              refine refName_w hm ?_
              refine ⟨sel_, ?_⟩
              refine f_b (guard_some rfl rfl rfl rfl) rfl rfl rfl rfl (op_streq rfl rfl ?_)
              refine f_b (guard_none rfl) rfl rfl rfl rfl (op_pick rfl rfl rfl ?_)
              refine f_b (guard_none rfl) rfl rfl rfl rfl (op_move rfl ?_)
              first | refine f_known (t := 78) rfl (fun g78 => ?_) (fun g78 => ?_) | refine f_knownB (t := 78) rfl (fun g78 => ?_) (fun g78 => ?_)
              · refine f_l (guard_some rfl rfl rfl rfl) rfl rfl rfl sel_ (op_loadA agg_23 siz_23 rfl rfl el_ rfl) ?_
                refine f_l (guard_some rfl rfl rfl rfl) rfl rfl rfl sel_ (op_loadA agg_23 siz_23 rfl rfl el_ rfl) ?_
                refine f_b (guard_some rfl rfl rfl rfl) rfl rfl rfl rfl (op_eqs_23 rfl rfl ?_)
                refine f_b (guard_none rfl) rfl rfl rfl rfl (op_pick rfl rfl rfl ?_)
                refine f_b (guard_none rfl) rfl rfl rfl rfl (op_move rfl ?_)
                first | refine f_known (t := 83) rfl (fun g83 => ?_) (fun g83 => ?_) | refine f_knownB (t := 83) rfl (fun g83 => ?_) (fun g83 => ?_)
                · refine f_b (guard_some rfl rfl rfl rfl) rfl rfl rfl rfl (op_move rfl ?_)
                  refine f_b (guard_some rfl rfl rfl rfl) rfl rfl rfl rfl (op_eq rfl rfl ?_)
                  refine f_b (guard_none rfl) rfl rfl rfl rfl (op_pick rfl rfl rfl ?_)
                  refine f_b (guard_none rfl) rfl rfl rfl rfl (op_move rfl ?_)
                  first | refine f_known (t := 87) rfl (fun g87 => ?_) (fun g87 => ?_) | refine f_knownB (t := 87) rfl (fun g87 => ?_) (fun g87 => ?_)
                  · refine f_l (guard_some rfl rfl rfl rfl) rfl rfl rfl sel_ (op_loadA agg_23 siz_23 rfl rfl el_ rfl) ?_
                    refine f_m (guard_some rfl rfl rfl rfl) rfl rfl rfl (op_call rfl rfl rfl ?_)
                    refine Bytes_w (x := x) ht (fun hm3 => absurd hm3 (by rw [hm]; decide)) (fun hm3 => ?_)
                    refine ⟨sel_, ?_⟩
                    refine f_l (guard_some rfl rfl rfl rfl) rfl rfl rfl sel_ (op_loadA agg_23 siz_23 rfl rfl el_ rfl) ?_
                    refine f_m (guard_some rfl rfl rfl rfl) rfl rfl rfl (op_call rfl rfl rfl ?_)
                    refine refBytes_w hm ht ?_
                    refine ⟨sel_, ?_⟩
                    refine f_b (guard_some rfl rfl rfl rfl) rfl rfl rfl rfl (op_streq rfl rfl ?_)
                    refine f_b (guard_none rfl) rfl rfl rfl rfl (op_pick rfl rfl rfl ?_)
                    refine f_b (guard_none rfl) rfl rfl rfl rfl (op_move rfl ?_)
                    first | refine f_known (t := 94) rfl (fun g94 => ?_) (fun g94 => ?_) | refine f_knownB (t := 94) rfl (fun g94 => ?_) (fun g94 => ?_)
                    · refine f_b (guard_some rfl rfl rfl rfl) rfl rfl rfl rfl (op_move rfl ?_)
                      refine f_b (guard_some rfl rfl rfl rfl) rfl rfl rfl rfl (op_move rfl ?_)
                      refine f_b (guard_some rfl rfl rfl rfl) rfl rfl rfl rfl (op_ge rfl rfl ?_)
                      refine f_b (guard_some rfl rfl rfl rfl) rfl rfl rfl rfl (op_booleq und_4 rfl rfl ?_)
                      refine f_b (guard_none rfl) rfl rfl rfl rfl (op_pick rfl rfl rfl ?_)
                      refine f_b (guard_none rfl) rfl rfl rfl rfl (op_move rfl ?_)
                      first | refine f_known (t := 100) rfl (fun g100 => ?_) (fun g100 => ?_) | refine f_knownB (t := 100) rfl (fun g100 => ?_) (fun g100 => ?_)
                      · refine f_b (guard_some rfl rfl rfl rfl) rfl rfl rfl rfl (op_move rfl ?_)
                        refine f_b (guard_some rfl rfl rfl rfl) rfl rfl rfl rfl (op_move rfl ?_)
                        refine f_m (guard_some rfl rfl rfl rfl) rfl rfl rfl (op_call rfl rfl rfl ?_)
                        refine High_w ?_
                        refine ⟨sel_, ?_⟩
                        refine f_b (guard_some rfl rfl rfl rfl) rfl rfl rfl rfl (op_eq rfl rfl ?_)
                        refine f_b (guard_none rfl) rfl rfl rfl rfl (op_pick rfl rfl rfl ?_)
                        refine f_b (guard_none rfl) rfl rfl rfl rfl (op_assign rfl ?_)
                        refine f_end ?_
                        refine seq_normal ?_
                        refine w_ret ?_
                        exact ret_bool (b' := true) rfl sel_ (by simp) rfl
                      · exfalso; revert g100; simp --closed
                    · exact absurd rfl g94 --closed
                  · exact absurd rfl g87 --closed
                · exfalso; revert g83; simp [beq_self_ba] --closed
              · exact absurd rfl g78 --closed
            · exact absurd rfl g72 --closed
          · exact absurd rfl g67 --closed
end Go.Proofs.Yteghmemcikiblaa.AM.B
