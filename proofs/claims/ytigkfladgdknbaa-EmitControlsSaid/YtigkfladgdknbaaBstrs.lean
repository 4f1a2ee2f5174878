/- What Go's own functions of texts answer. -/
import Derived.Test.YtigkfladgdknbaaAX
import Derived.Test.YtigkfladgdknbaaBpre
set_option linter.unusedVariables false
set_option linter.unusedSimpArgs false
set_option maxRecDepth 10000
set_option maxHeartbeats 4000000
namespace Go.Proofs.Ytigkfladgdknbaa.AM.B
open Go Go.RowKit
theorem slCutPrefix_w {H : Hyp} {K : V → Hyp → Prop} {s p : ByteArray} (h1 : s.size ≤ 1000000000) (h2 : p.size ≤ 1000000000) (k : K (.tup [.c (.str (if hasPre s p then s.extract p.size s.size else s)), .c (.bool (hasPre s p))]) H) : CallW Try.prog Xs 45 [vS s, vS p] H K := by
  refine call_of (n := 15) (fun _ => rfl) Try.func45 rfl rfl ?_
  refine w_seq ?_
  refine w_region ?_
  refine w_o rfl rfl rfl (op_assign rfl ?_)
  refine w_o rfl rfl rfl (op_assign rfl ?_)
  refine w_end ?_
  refine seq_normal ?_
  refine w_seq ?_
  refine w_seq ?_
  refine w_region ?_
  refine w_o rfl rfl rfl (op_move rfl ?_)
  refine w_o rfl rfl rfl (op_move rfl ?_)
  refine w_o rfl rfl rfl (op_call rfl rfl rfl ?_)
  refine slHasPrefix_w h1 h2 ?_
  refine w_o rfl rfl rfl (op_not rfl ?_)
  refine w_end ?_
  refine seq_normal ?_
  first | refine w_cond rfl (fun hI1 => ?_) (fun hI1 => ?_) | refine w_condB rfl (fun hI1 => ?_) (fun hI1 => ?_)
  · refine w_seq ?_
    refine w_region ?_
    refine w_o rfl rfl rfl (op_move rfl ?_)
    refine w_o rfl rfl rfl (op_assign rfl ?_)
    refine w_o rfl rfl rfl (op_assign rfl ?_)
    refine w_end ?_
    refine seq_normal ?_
    refine w_ret ?_
    refine seq_ret ?_
    have e : hasPre s p = false := by simpa using hI1
    rw [e] at k
    exact ret_ret rfl sel_ k
  · have hle := hasPre_len (s := s) (p := p) (by simpa using hI1)
    refine w_skip ?_
    refine seq_normal ?_
    refine w_seq ?_
    refine w_region ?_
    refine w_o rfl rfl rfl (op_move rfl ?_)
    refine w_o rfl rfl rfl (op_move rfl ?_)
    refine w_o rfl rfl rfl (op_lenS und_9 rfl ?_)
    refine w_o rfl rfl rfl (op_sliceS und_9 rfl rfl rfl (by omega) (by omega) (by omega) ?_)
    refine w_o rfl rfl rfl (op_assign rfl ?_)
    refine w_o rfl rfl rfl (op_assign rfl ?_)
    refine w_end ?_
    refine seq_normal ?_
    refine w_ret ?_
    have e : hasPre s p = true := by simpa using hI1
    rw [e] at k
    exact ret_ret rfl sel_ k
theorem CutPrefix_w {H : Hyp} {K : V → Hyp → Prop} {s p : ByteArray} (h1 : s.size ≤ 1000000000) (h2 : p.size ≤ 1000000000) (k : K (.tup [.c (.str (if hasPre s p then s.extract p.size s.size else s)), .c (.bool (hasPre s p))]) H) : CallW Try.prog Xs 29 [vS s, vS p] H K := by
  refine call_of (n := 11) (fun _ => rfl) Try.func29 rfl rfl ?_
  refine w_seq ?_
  refine w_region ?_
  refine w_o rfl rfl rfl (op_assign rfl ?_)
  refine w_o rfl rfl rfl (op_assign rfl ?_)
  refine w_end ?_
  refine seq_normal ?_
  refine w_seq ?_
  refine w_region ?_
  refine w_o rfl rfl rfl (op_move rfl ?_)
  refine w_o rfl rfl rfl (op_move rfl ?_)
  refine w_o rfl rfl rfl (op_call rfl rfl rfl ?_)
  refine slCutPrefix_w h1 h2 ?_
  refine w_o rfl rfl rfl (op_extract rfl rfl ?_)
  refine w_o rfl rfl rfl (op_extract rfl rfl ?_)
  refine w_o rfl rfl rfl (op_assign rfl ?_)
  refine w_o rfl rfl rfl (op_assign rfl ?_)
  refine w_end ?_
  refine seq_normal ?_
  refine w_ret ?_
  exact ret_ret rfl sel_ k
/-- What is cut is no longer than what was. -/
theorem cutPre_size (s p : ByteArray) : (if hasPre s p then s.extract p.size s.size else s).size ≤ s.size := by split <;> (try rw [ByteArray.size_extract]) <;> omega
end Go.Proofs.Ytigkfladgdknbaa.AM.B
