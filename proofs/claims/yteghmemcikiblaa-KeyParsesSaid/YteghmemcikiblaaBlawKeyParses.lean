/- The law KeyParses: it answers true, whatever comes in. -/
import Derived.Test.YteghmemcikiblaaAX
import Derived.Test.YteghmemcikiblaaBkey5
set_option linter.unusedVariables false
set_option linter.unusedSimpArgs false
set_option maxRecDepth 10000
set_option maxHeartbeats 4000000
namespace Go.Proofs.Yteghmemcikiblaa.AM.B
open Go Go.RowKit
theorem KeyParses_law {H : Hyp} {s : ByteArray} : CallW Try.prog Xs 4 [vS s] H (fun v _ => v = vB true) := by
  refine call_of (n := 37) (fun _ => rfl) Try.func4 rfl rfl ?_
  refine w_seq ?_
  refine w_region ?_
  refine w_o rfl rfl rfl (op_assign rfl ?_)
  refine w_end ?_
  refine seq_normal ?_
  refine w_seq ?_
  refine w_seq ?_
  refine w_region ?_
  refine w_o rfl rfl rfl (op_move rfl ?_)
  refine w_o rfl rfl rfl (op_lenS und_9 rfl ?_)
  refine w_o rfl rfl rfl (op_gt rfl rfl ?_)
  refine w_end ?_
  refine seq_normal ?_
  first | refine w_cond rfl (fun hI1 => ?_) (fun hI1 => ?_) | refine w_condB rfl (fun hI1 => ?_) (fun hI1 => ?_)
  · refine w_seq ?_
    refine w_region ?_
    refine w_o rfl rfl rfl (op_call rfl rfl rfl ?_)
    refine awake_w ?_
    refine w_o rfl rfl rfl (op_assign rfl ?_)
    refine w_end ?_
    refine seq_normal ?_
    refine w_ret ?_
    refine seq_ret ?_
    exact ret_ret rfl sel_ rfl
  · refine w_skip ?_
    refine seq_normal ?_
    refine w_seq ?_
    refine w_region ?_
    refine w_o rfl rfl rfl (op_move rfl ?_)
    refine w_o rfl rfl rfl (op_call rfl rfl rfl ?_)
    refine Parse_w (by omega) ?_ (fun x hm hn => ?_)
    · refine w_o rfl rfl rfl (op_move rfl ?_)
      refine w_o rfl rfl rfl (op_extract rfl rfl ?_)
      refine w_o rfl rfl rfl (op_extract rfl rfl ?_)
      refine w_o rfl rfl rfl (op_alloc zer_23 fun b3 => ?_)
      refine w_on rfl rfl (op_store siz_23 rfl rfl rfl (by (repeat (first | exact Pick.head _ _ _ | apply Pick.tail | apply Pick.app)); first | done | fail) (Nat.le_of_ble_eq_true rfl) rfl ?_)
      refine w_o rfl rfl rfl (op_assign rfl ?_)
      refine w_end ?_
      refine seq_normal ?_
      refine w_seq ?_
      refine w_seq ?_
      refine w_region ?_
      refine w_o rfl rfl rfl (op_move rfl ?_)
      refine w_o rfl rfl rfl (op_ne rfl rfl ?_)
      refine w_end ?_
      refine seq_normal ?_
      first | refine w_cond rfl (fun hI2 => ?_) (fun hI2 => ?_) | refine w_condB rfl (fun hI2 => ?_) (fun hI2 => ?_)
      · try (exfalso; revert hI2; decide)
        all_goals
          refine w_seq ?_
          refine w_region ?_
          refine w_o rfl rfl rfl (op_call rfl rfl rfl ?_)
          refine awake_w ?_
          refine w_o rfl rfl rfl (op_move rfl ?_)
          refine w_og rfl rfl rfl rfl rfl (op_move rfl ?_)
          refine w_og rfl rfl rfl rfl rfl (op_eq rfl rfl ?_)
          refine w_o rfl rfl rfl (op_pick rfl rfl rfl ?_)
          refine w_o rfl rfl rfl (op_move rfl ?_)
          first | refine w_known (t := 21) rfl (fun g21 => ?_) (fun g21 => ?_) | refine w_knownB (t := 21) rfl (fun g21 => ?_) (fun g21 => ?_)
          · refine w_og rfl rfl rfl rfl rfl (op_loadA agg_23 siz_23 rfl rfl el_ ?_)
            refine w_og rfl rfl rfl rfl rfl (op_build rfl ((bld_23 _).trans (rfl : _ = some [_, _, _, _])) ?_)
            refine w_og rfl rfl rfl rfl rfl (op_eqs_23 rfl rfl ?_)
            refine w_o rfl rfl rfl (op_pick rfl rfl rfl ?_)
            refine w_o rfl rfl rfl (op_assign rfl ?_)
            refine w_end ?_
            refine seq_normal ?_
            refine w_ret ?_
            refine seq_ret ?_
            exact ret_bool (b' := true) rfl sel_ (by simp; rfl) rfl
          · exact absurd rfl g21 --closed
      · try (exfalso; revert hI2; decide)
        all_goals
          refine w_skip ?_
          refine seq_normal ?_
          refine w_seq ?_
          refine w_region ?_
          refine w_o rfl rfl rfl (op_call rfl rfl rfl ?_)
          refine awake_w ?_
          refine w_o rfl rfl rfl (op_move rfl ?_)
          refine w_og rfl rfl rfl rfl rfl (op_loadA agg_23 siz_23 rfl rfl el_ ?_)
          refine w_og rfl rfl rfl rfl rfl (op_call rfl rfl rfl ?_)
          refine May_w ?_
          refine w_o rfl rfl rfl (op_pick rfl rfl rfl ?_)
          refine w_o rfl rfl rfl (op_move rfl ?_)
          first | refine w_known (t := 31) rfl (fun g31 => ?_) (fun g31 => ?_) | refine w_knownB (t := 31) rfl (fun g31 => ?_) (fun g31 => ?_)
          · refine w_og rfl rfl rfl rfl rfl (op_loadA agg_23 siz_23 rfl rfl el_ ?_)
            refine w_og rfl rfl rfl rfl rfl (op_call rfl rfl rfl ?_)
            refine refName_w hm ?_
            refine w_og rfl rfl rfl rfl rfl (op_move rfl ?_)
            refine w_og rfl rfl rfl rfl rfl (op_streq rfl rfl ?_)
            refine w_o rfl rfl rfl (op_pick rfl rfl rfl ?_)
            refine w_o rfl rfl rfl (op_assign rfl ?_)
            refine w_end ?_
            refine seq_normal ?_
            refine w_ret ?_
            exact ret_bool (b' := true) rfl sel_ (by simp [hn]) rfl
          · exact absurd hm (by simpa using g31) --closed
    · refine w_o rfl rfl rfl (op_move rfl ?_)
      refine w_o rfl rfl rfl (op_extract rfl rfl ?_)
      refine w_o rfl rfl rfl (op_extract rfl rfl ?_)
      refine w_o rfl rfl rfl (op_alloc zer_23 fun b3 => ?_)
      refine w_on rfl rfl (op_store siz_23 rfl rfl rfl (by (repeat (first | exact Pick.head _ _ _ | apply Pick.tail | apply Pick.app)); first | done | fail) (Nat.le_of_ble_eq_true rfl) rfl ?_)
      refine w_o rfl rfl rfl (op_assign rfl ?_)
      refine w_end ?_
      refine seq_normal ?_
      refine w_seq ?_
      refine w_seq ?_
      refine w_region ?_
      refine w_o rfl rfl rfl (op_move rfl ?_)
      refine w_o rfl rfl rfl (op_ne rfl rfl ?_)
      refine w_end ?_
      refine seq_normal ?_
      first | refine w_cond rfl (fun hI2 => ?_) (fun hI2 => ?_) | refine w_condB rfl (fun hI2 => ?_) (fun hI2 => ?_)
      · try (exfalso; revert hI2; decide)
        all_goals
          refine w_seq ?_
          refine w_region ?_
          refine w_o rfl rfl rfl (op_call rfl rfl rfl ?_)
          refine awake_w ?_
          refine w_o rfl rfl rfl (op_move rfl ?_)
          refine w_og rfl rfl rfl rfl rfl (op_move rfl ?_)
          refine w_og rfl rfl rfl rfl rfl (op_eq rfl rfl ?_)
          refine w_o rfl rfl rfl (op_pick rfl rfl rfl ?_)
          refine w_o rfl rfl rfl (op_move rfl ?_)
          first | refine w_known (t := 21) rfl (fun g21 => ?_) (fun g21 => ?_) | refine w_knownB (t := 21) rfl (fun g21 => ?_) (fun g21 => ?_)
          · refine w_og rfl rfl rfl rfl rfl (op_loadA agg_23 siz_23 rfl rfl el_ ?_)
            refine w_og rfl rfl rfl rfl rfl (op_build rfl ((bld_23 _).trans (rfl : _ = some [_, _, _, _])) ?_)
            refine w_og rfl rfl rfl rfl rfl (op_eqs_23 rfl rfl ?_)
            refine w_o rfl rfl rfl (op_pick rfl rfl rfl ?_)
            refine w_o rfl rfl rfl (op_assign rfl ?_)
            refine w_end ?_
            refine seq_normal ?_
            refine w_ret ?_
            refine seq_ret ?_
            exact ret_bool (b' := true) rfl sel_ (by simp; rfl) rfl
          · exact absurd rfl g21 --closed
      · try (exfalso; revert hI2; decide)
        all_goals
          refine w_skip ?_
          refine seq_normal ?_
          refine w_seq ?_
          refine w_region ?_
          refine w_o rfl rfl rfl (op_call rfl rfl rfl ?_)
          refine awake_w ?_
          refine w_o rfl rfl rfl (op_move rfl ?_)
          refine w_og rfl rfl rfl rfl rfl (op_loadA agg_23 siz_23 rfl rfl el_ ?_)
          refine w_og rfl rfl rfl rfl rfl (op_call rfl rfl rfl ?_)
          refine May_w ?_
          refine w_o rfl rfl rfl (op_pick rfl rfl rfl ?_)
          refine w_o rfl rfl rfl (op_move rfl ?_)
          first | refine w_known (t := 31) rfl (fun g31 => ?_) (fun g31 => ?_) | refine w_knownB (t := 31) rfl (fun g31 => ?_) (fun g31 => ?_)
          · refine w_og rfl rfl rfl rfl rfl (op_loadA agg_23 siz_23 rfl rfl el_ ?_)
            refine w_og rfl rfl rfl rfl rfl (op_call rfl rfl rfl ?_)
            refine refName_w hm ?_
            refine w_og rfl rfl rfl rfl rfl (op_move rfl ?_)
            refine w_og rfl rfl rfl rfl rfl (op_streq rfl rfl ?_)
            refine w_o rfl rfl rfl (op_pick rfl rfl rfl ?_)
            refine w_o rfl rfl rfl (op_assign rfl ?_)
            refine w_end ?_
            refine seq_normal ?_
            refine w_ret ?_
            exact ret_bool (b' := true) rfl sel_ (by simp [hn]) rfl
          · exact absurd hm (by simpa using g31) --closed
end Go.Proofs.Yteghmemcikiblaa.AM.B
