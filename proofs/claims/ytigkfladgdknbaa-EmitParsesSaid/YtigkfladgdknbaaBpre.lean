/- What strings.HasPrefix answers. -/
import Derived.Test.YtigkfladgdknbaaAX
import Derived.Test.YtigkfladgdknbaaButfenc
set_option linter.unusedVariables false
set_option linter.unusedSimpArgs false
set_option maxRecDepth 10000
set_option maxHeartbeats 4000000
namespace Go.Proofs.Ytigkfladgdknbaa.AM.B
open Go Go.RowKit
def hasPre (s p : ByteArray) : Bool := decide (p.size ≤ s.size) && decide (s.extract 0 p.size = p)
theorem hasPre_len {s p : ByteArray} (h : hasPre s p = true) : p.size ≤ s.size := by simp only [hasPre, Bool.and_eq_true, decide_eq_true_eq] at h; exact h.1
theorem slHasPrefix_w {H : Hyp} {K : V → Hyp → Prop} {s p : ByteArray} (h1 : s.size ≤ 1000000000) (h2 : p.size ≤ 1000000000) (k : K (vB (hasPre s p)) H) : CallW Try.prog Xs 56 [vS s, vS p] H K := by
  refine call_of (n := 18) (fun _ => rfl) Try.func56 rfl rfl ?_
  refine w_seq ?_
  refine w_region ?_
  refine w_o rfl rfl rfl (op_assign rfl ?_)
  refine w_end ?_
  refine seq_normal ?_
  refine w_seq ?_
  refine w_region ?_
  refine w_o rfl rfl rfl (op_move rfl ?_)
  refine w_o rfl rfl rfl (op_lenS und_9 rfl ?_)
  refine w_o rfl rfl rfl (op_move rfl ?_)
  refine w_o rfl rfl rfl (op_lenS und_9 rfl ?_)
  refine w_o rfl rfl rfl (op_ge rfl rfl ?_)
  refine w_o rfl rfl rfl (op_move rfl ?_)
  first | refine w_known (t := 10) rfl (fun g10 => ?_) (fun g10 => ?_) | refine w_knownB (t := 10) rfl (fun g10 => ?_) (fun g10 => ?_)
  · refine w_og rfl rfl rfl rfl rfl (op_move rfl ?_)
    refine w_og rfl rfl rfl rfl rfl (op_move rfl ?_)
    refine w_og rfl rfl rfl rfl rfl (op_lenS und_9 rfl ?_)
    refine w_og rfl rfl rfl rfl rfl (op_sliceS und_9 rfl rfl rfl (by omega) (by omega) (by omega) ?_)
    refine w_og rfl rfl rfl rfl rfl (op_move rfl ?_)
    refine w_og rfl rfl rfl rfl rfl (op_streq rfl rfl ?_)
    refine w_o rfl rfl rfl (op_pick rfl rfl rfl ?_)
    refine w_o rfl rfl rfl (op_assign rfl ?_)
    refine w_end ?_
    refine seq_normal ?_
    refine w_ret ?_
    exact ret_bool rfl sel_ (by rw [Bool.eq_iff_iff]; simp [hasPre, *] <;> omega) k
  · refine w_u rfl rfl rfl rfl rfl rfl ?_
    refine w_u rfl rfl rfl rfl rfl rfl ?_
    refine w_u rfl rfl rfl rfl rfl rfl ?_
    refine w_u rfl rfl rfl rfl rfl rfl ?_
    refine w_u rfl rfl rfl rfl rfl rfl ?_
    refine w_u rfl rfl rfl rfl rfl rfl ?_
    refine w_o rfl rfl rfl (op_pick rfl rfl rfl ?_)
    refine w_o rfl rfl rfl (op_assign rfl ?_)
    refine w_end ?_
    refine seq_normal ?_
    refine w_ret ?_
    exact ret_bool rfl sel_ (by rw [Bool.eq_iff_iff]; simp [hasPre, *] <;> omega) k
theorem HasPrefix_w {H : Hyp} {K : V → Hyp → Prop} {s p : ByteArray} (h1 : s.size ≤ 1000000000) (h2 : p.size ≤ 1000000000) (k : K (vB (hasPre s p)) H) : CallW Try.prog Xs 58 [vS s, vS p] H K := by
  refine call_of (n := 8) (fun _ => rfl) Try.func58 rfl rfl ?_
  refine w_seq ?_
  refine w_region ?_
  refine w_o rfl rfl rfl (op_assign rfl ?_)
  refine w_end ?_
  refine seq_normal ?_
  refine w_seq ?_
  refine w_region ?_
  refine w_o rfl rfl rfl (op_move rfl ?_)
  refine w_o rfl rfl rfl (op_move rfl ?_)
  refine w_o rfl rfl rfl (op_call rfl rfl rfl ?_)
  refine slHasPrefix_w h1 h2 ?_
  refine w_o rfl rfl rfl (op_assign rfl ?_)
  refine w_end ?_
  refine seq_normal ?_
  refine w_ret ?_
  exact ret_ret rfl sel_ k
end Go.Proofs.Ytigkfladgdknbaa.AM.B
