/- The law UtfDecodes: it answers true, whatever comes in. -/
import Derived.Test.YtaoocfkadjcbkaaDoorAX
import Derived.Test.YtaoocfkadjcbkaaDoorButf
import Derived.Test.YtaoocfkadjcbkaaDoorBints
set_option linter.unusedVariables false
set_option linter.unusedSimpArgs false
set_option maxRecDepth 10000
set_option maxHeartbeats 4000000
namespace Go.Proofs.YtaoocfkadjcbkaaDoor.AM.B
open Go Go.RowKit
theorem UtfDecodes_law {H : Hyp} {s : ByteArray} : CallW Tryd.prog Xs 3 [vS s] H (fun v _ => v = vB true) := by
  refine call_of (n := 30) (fun _ => rfl) Tryd.func3 rfl rfl ?_
  refine w_seq ?_
  refine w_region ?_
  refine w_o rfl rfl rfl (op_assign rfl ?_)
  refine w_end ?_
  refine seq_normal ?_
  refine w_seq ?_
  refine w_seq ?_
  refine w_region ?_
  refine w_o rfl rfl rfl (op_move rfl ?_)
  refine w_o rfl rfl rfl (op_lenS und_9 rfl ?_)
  refine w_o rfl rfl rfl (op_gt rfl rfl ?_)
  refine w_end ?_
  refine seq_normal ?_
  first | refine w_cond rfl (fun hI1 => ?_) (fun hI1 => ?_) | refine w_condB rfl (fun hI1 => ?_) (fun hI1 => ?_)
  · refine w_seq ?_
    refine w_region ?_
    refine w_o rfl rfl rfl (op_call rfl rfl rfl ?_)
    refine awake_w ?_
    refine w_o rfl rfl rfl (op_assign rfl ?_)
    refine w_end ?_
    refine seq_normal ?_
    refine w_ret ?_
    refine seq_ret ?_
    exact ret_ret rfl sel_ rfl
  · have hvl := vals_len (bl s)
    rw [bl_len] at hvl
    refine w_skip ?_
    refine seq_normal ?_
    refine w_seq ?_
    refine w_region ?_
    refine w_o rfl rfl rfl (op_move rfl ?_)
    refine w_o rfl rfl rfl (op_call rfl rfl rfl ?_)
    refine utfDecode_w (by omega) fun ca Na ha => ?_
    refine w_o rfl rfl rfl (op_assign rfl ?_)
    refine w_end ?_
    refine seq_normal ?_
    refine w_seq ?_
    refine w_region ?_
    refine w_o rfl rfl rfl (op_call rfl rfl rfl ?_)
    refine awake_w ?_
    refine w_o rfl rfl rfl (op_move rfl ?_)
    refine w_og rfl rfl rfl rfl rfl (op_move rfl ?_)
    refine w_og rfl rfl rfl rfl rfl (op_move rfl ?_)
    refine w_og rfl rfl rfl rfl rfl (op_call rfl rfl rfl ?_)
    refine R02Decode_w (by omega) fun cb Nb hb => ?_
    refine w_og rfl rfl rfl rfl rfl (op_call rfl rfl rfl ?_)
    refine R01Ints_w (l := vals (bl s)) (l' := vals (bl s)) (Own.slT ha (fun _ => rfl) (by decide) subs_) (Own.slT hb (fun _ => rfl) (by decide) subs_) (by omega) ?_
    refine w_o rfl rfl rfl (op_pick rfl rfl rfl ?_)
    refine w_o rfl rfl rfl (op_move rfl ?_)
    first | refine w_known (t := 17) rfl (fun g17 => ?_) (fun g17 => ?_) | refine w_knownB (t := 17) rfl (fun g17 => ?_) (fun g17 => ?_)
    · refine w_og rfl rfl rfl rfl rfl (op_move rfl ?_)
      refine w_og rfl rfl rfl rfl rfl (op_call rfl rfl rfl ?_)
      refine utfEncode_w (l := vals (bl s)) (Own.slT ha (fun _ => rfl) (by decide) subs_) (by omega) ?_
      rw [vals_back]
      refine w_og rfl rfl rfl rfl rfl (op_move rfl ?_)
      refine w_og rfl rfl rfl rfl rfl (op_streq rfl rfl ?_)
      refine w_o rfl rfl rfl (op_pick rfl rfl rfl ?_)
      refine w_o rfl rfl rfl (op_move rfl ?_)
      first | refine w_known (t := 23) rfl (fun g23 => ?_) (fun g23 => ?_) | refine w_knownB (t := 23) rfl (fun g23 => ?_) (fun g23 => ?_)
      · refine w_og rfl rfl rfl rfl rfl (op_move rfl ?_)
        refine w_og rfl rfl rfl rfl rfl (op_call rfl rfl rfl ?_)
        refine utfCount_w (by omega) ?_
        refine w_og rfl rfl rfl rfl rfl (op_move rfl ?_)
        refine w_og rfl rfl rfl rfl rfl (op_lenC und_23 rfl (Own.lenT ha (fun _ => rfl) (by decide)) ?_)
        refine w_og rfl rfl rfl rfl rfl (op_eq rfl rfl ?_)
        refine w_o rfl rfl rfl (op_pick rfl rfl rfl ?_)
        refine w_o rfl rfl rfl (op_assign rfl ?_)
        refine w_end ?_
        refine seq_normal ?_
        refine w_ret ?_
        exact ret_bool (b' := true) rfl sel_ (by simp) rfl
      · exact absurd rfl g23 --closed
    · exact absurd rfl g17 --closed
end Go.Proofs.YtaoocfkadjcbkaaDoor.AM.B
