/- What Go's own functions of texts answer. -/
import Derived.Test.YteghmemcikiblaaAX
import Derived.Test.YteghmemcikiblaaButfenc
set_option linter.unusedVariables false
set_option linter.unusedSimpArgs false
set_option maxRecDepth 10000
set_option maxHeartbeats 4000000
namespace Go.Proofs.Yteghmemcikiblaa.AM.B
open Go Go.RowKit
def hasPre (s p : ByteArray) : Bool := decide (p.size ≤ s.size) && decide (s.extract 0 p.size = p)
def hasSuf (s p : ByteArray) : Bool := decide (p.size ≤ s.size) && decide (s.extract (s.size - p.size) s.size = p)
theorem hasPre_len {s p : ByteArray} (h : hasPre s p = true) : p.size ≤ s.size := by simp only [hasPre, Bool.and_eq_true, decide_eq_true_eq] at h; exact h.1
theorem hasSuf_len {s p : ByteArray} (h : hasSuf s p = true) : p.size ≤ s.size := by simp only [hasSuf, Bool.and_eq_true, decide_eq_true_eq] at h; exact h.1
theorem slHasPrefix_w {H : Hyp} {K : V → Hyp → Prop} {s p : ByteArray} (h1 : s.size ≤ 1000000000) (h2 : p.size ≤ 1000000000) (k : K (vB (hasPre s p)) H) : CallW Try.prog Xs 49 [vS s, vS p] H K := by
  refine call_of (n := 18) (fun _ => rfl) Try.func49 rfl rfl ?_
  refine w_seq ?_
  refine w_region ?_
  refine w_o rfl rfl rfl (op_assign rfl ?_)
  refine w_end ?_
  refine seq_normal ?_
  refine w_seq ?_
  refine w_region ?_
  refine w_o rfl rfl rfl (op_move rfl ?_)
  refine w_o rfl rfl rfl (op_lenS und_9 rfl ?_)
  refine w_o rfl rfl rfl (op_move rfl ?_)
  refine w_o rfl rfl rfl (op_lenS und_9 rfl ?_)
  refine w_o rfl rfl rfl (op_ge rfl rfl ?_)
  refine w_o rfl rfl rfl (op_move rfl ?_)
  first | refine w_known (t := 10) rfl (fun g10 => ?_) (fun g10 => ?_) | refine w_knownB (t := 10) rfl (fun g10 => ?_) (fun g10 => ?_)
  · refine w_og rfl rfl rfl rfl rfl (op_move rfl ?_)
    refine w_og rfl rfl rfl rfl rfl (op_move rfl ?_)
    refine w_og rfl rfl rfl rfl rfl (op_lenS und_9 rfl ?_)
    refine w_og rfl rfl rfl rfl rfl (op_sliceS und_9 rfl rfl rfl (by omega) (by omega) (by omega) ?_)
    refine w_og rfl rfl rfl rfl rfl (op_move rfl ?_)
    refine w_og rfl rfl rfl rfl rfl (op_streq rfl rfl ?_)
    refine w_o rfl rfl rfl (op_pick rfl rfl rfl ?_)
    refine w_o rfl rfl rfl (op_assign rfl ?_)
    refine w_end ?_
    refine seq_normal ?_
    refine w_ret ?_
    exact ret_bool rfl sel_ (by rw [Bool.eq_iff_iff]; simp [hasPre, *] <;> omega) k
  · refine w_u rfl rfl rfl rfl rfl rfl ?_
    refine w_u rfl rfl rfl rfl rfl rfl ?_
    refine w_u rfl rfl rfl rfl rfl rfl ?_
    refine w_u rfl rfl rfl rfl rfl rfl ?_
    refine w_u rfl rfl rfl rfl rfl rfl ?_
    refine w_u rfl rfl rfl rfl rfl rfl ?_
    refine w_o rfl rfl rfl (op_pick rfl rfl rfl ?_)
    refine w_o rfl rfl rfl (op_assign rfl ?_)
    refine w_end ?_
    refine seq_normal ?_
    refine w_ret ?_
    exact ret_bool rfl sel_ (by rw [Bool.eq_iff_iff]; simp [hasPre, *] <;> omega) k
theorem slHasSuffix_w {H : Hyp} {K : V → Hyp → Prop} {s p : ByteArray} (h1 : s.size ≤ 1000000000) (h2 : p.size ≤ 1000000000) (k : K (vB (hasSuf s p)) H) : CallW Try.prog Xs 50 [vS s, vS p] H K := by
  refine call_of (n := 21) (fun _ => rfl) Try.func50 rfl rfl ?_
  refine w_seq ?_
  refine w_region ?_
  refine w_o rfl rfl rfl (op_assign rfl ?_)
  refine w_end ?_
  refine seq_normal ?_
  refine w_seq ?_
  refine w_region ?_
  refine w_o rfl rfl rfl (op_move rfl ?_)
  refine w_o rfl rfl rfl (op_lenS und_9 rfl ?_)
  refine w_o rfl rfl rfl (op_move rfl ?_)
  refine w_o rfl rfl rfl (op_lenS und_9 rfl ?_)
  refine w_o rfl rfl rfl (op_ge rfl rfl ?_)
  refine w_o rfl rfl rfl (op_move rfl ?_)
  first | refine w_known (t := 10) rfl (fun g10 => ?_) (fun g10 => ?_) | refine w_knownB (t := 10) rfl (fun g10 => ?_) (fun g10 => ?_)
  · refine w_og rfl rfl rfl rfl rfl (op_move rfl ?_)
    refine w_og rfl rfl rfl rfl rfl (op_move rfl ?_)
    refine w_og rfl rfl rfl rfl rfl (op_lenS und_9 rfl ?_)
    refine w_og rfl rfl rfl rfl rfl (op_move rfl ?_)
    refine w_og rfl rfl rfl rfl rfl (op_lenS und_9 rfl ?_)
    refine w_og rfl rfl rfl rfl rfl (op_subi rfl rfl (by omega) (by omega) ?_)
    refine w_og rfl rfl rfl rfl rfl (op_sliceS und_9 rfl rfl rfl (by omega) (by omega) (by omega) ?_)
    refine w_og rfl rfl rfl rfl rfl (op_move rfl ?_)
    refine w_og rfl rfl rfl rfl rfl (op_streq rfl rfl ?_)
    refine w_o rfl rfl rfl (op_pick rfl rfl rfl ?_)
    refine w_o rfl rfl rfl (op_assign rfl ?_)
    refine w_end ?_
    refine seq_normal ?_
    refine w_ret ?_
    have e : ((s.size : Int) - (p.size : Int)).toNat = s.size - p.size := by omega
    exact ret_bool rfl sel_ (by rw [Bool.eq_iff_iff]; simp [hasSuf, *] <;> omega) k
  · refine w_u rfl rfl rfl rfl rfl rfl ?_
    refine w_u rfl rfl rfl rfl rfl rfl ?_
    refine w_u rfl rfl rfl rfl rfl rfl ?_
    refine w_u rfl rfl rfl rfl rfl rfl ?_
    refine w_u rfl rfl rfl rfl rfl rfl ?_
    refine w_u rfl rfl rfl rfl rfl rfl ?_
    refine w_u rfl rfl rfl rfl rfl rfl ?_
    refine w_u rfl rfl rfl rfl rfl rfl ?_
    refine w_u rfl rfl rfl rfl rfl rfl ?_
    refine w_o rfl rfl rfl (op_pick rfl rfl rfl ?_)
    refine w_o rfl rfl rfl (op_assign rfl ?_)
    refine w_end ?_
    refine seq_normal ?_
    refine w_ret ?_
    have e : ((s.size : Int) - (p.size : Int)).toNat = s.size - p.size := by omega
    exact ret_bool rfl sel_ (by rw [Bool.eq_iff_iff]; simp [hasSuf, *] <;> omega) k
theorem slCutPrefix_w {H : Hyp} {K : V → Hyp → Prop} {s p : ByteArray} (h1 : s.size ≤ 1000000000) (h2 : p.size ≤ 1000000000) (k : K (.tup [.c (.str (if hasPre s p then s.extract p.size s.size else s)), .c (.bool (hasPre s p))]) H) : CallW Try.prog Xs 43 [vS s, vS p] H K := by
  refine call_of (n := 15) (fun _ => rfl) Try.func43 rfl rfl ?_
  refine w_seq ?_
  refine w_region ?_
  refine w_o rfl rfl rfl (op_assign rfl ?_)
  refine w_o rfl rfl rfl (op_assign rfl ?_)
  refine w_end ?_
  refine seq_normal ?_
  refine w_seq ?_
  refine w_seq ?_
  refine w_region ?_
  refine w_o rfl rfl rfl (op_move rfl ?_)
  refine w_o rfl rfl rfl (op_move rfl ?_)
  refine w_o rfl rfl rfl (op_call rfl rfl rfl ?_)
  refine slHasPrefix_w h1 h2 ?_
  refine w_o rfl rfl rfl (op_not rfl ?_)
  refine w_end ?_
  refine seq_normal ?_
  first | refine w_cond rfl (fun hI1 => ?_) (fun hI1 => ?_) | refine w_condB rfl (fun hI1 => ?_) (fun hI1 => ?_)
  · refine w_seq ?_
    refine w_region ?_
    refine w_o rfl rfl rfl (op_move rfl ?_)
    refine w_o rfl rfl rfl (op_assign rfl ?_)
    refine w_o rfl rfl rfl (op_assign rfl ?_)
    refine w_end ?_
    refine seq_normal ?_
    refine w_ret ?_
    refine seq_ret ?_
    have e : hasPre s p = false := by simpa using hI1
    rw [e] at k
    exact ret_ret rfl sel_ k
  · have hle := hasPre_len (s := s) (p := p) (by simpa using hI1)
    refine w_skip ?_
    refine seq_normal ?_
    refine w_seq ?_
    refine w_region ?_
    refine w_o rfl rfl rfl (op_move rfl ?_)
    refine w_o rfl rfl rfl (op_move rfl ?_)
    refine w_o rfl rfl rfl (op_lenS und_9 rfl ?_)
    refine w_o rfl rfl rfl (op_sliceS und_9 rfl rfl rfl (by omega) (by omega) (by omega) ?_)
    refine w_o rfl rfl rfl (op_assign rfl ?_)
    refine w_o rfl rfl rfl (op_assign rfl ?_)
    refine w_end ?_
    refine seq_normal ?_
    refine w_ret ?_
    have e : hasPre s p = true := by simpa using hI1
    rw [e] at k
    exact ret_ret rfl sel_ k
theorem slCutSuffix_w {H : Hyp} {K : V → Hyp → Prop} {s p : ByteArray} (h1 : s.size ≤ 1000000000) (h2 : p.size ≤ 1000000000) (k : K (.tup [.c (.str (if hasSuf s p then s.extract 0 (s.size - p.size) else s)), .c (.bool (hasSuf s p))]) H) : CallW Try.prog Xs 44 [vS s, vS p] H K := by
  refine call_of (n := 18) (fun _ => rfl) Try.func44 rfl rfl ?_
  refine w_seq ?_
  refine w_region ?_
  refine w_o rfl rfl rfl (op_assign rfl ?_)
  refine w_o rfl rfl rfl (op_assign rfl ?_)
  refine w_end ?_
  refine seq_normal ?_
  refine w_seq ?_
  refine w_seq ?_
  refine w_region ?_
  refine w_o rfl rfl rfl (op_move rfl ?_)
  refine w_o rfl rfl rfl (op_move rfl ?_)
  refine w_o rfl rfl rfl (op_call rfl rfl rfl ?_)
  refine slHasSuffix_w h1 h2 ?_
  refine w_o rfl rfl rfl (op_not rfl ?_)
  refine w_end ?_
  refine seq_normal ?_
  first | refine w_cond rfl (fun hI1 => ?_) (fun hI1 => ?_) | refine w_condB rfl (fun hI1 => ?_) (fun hI1 => ?_)
  · refine w_seq ?_
    refine w_region ?_
    refine w_o rfl rfl rfl (op_move rfl ?_)
    refine w_o rfl rfl rfl (op_assign rfl ?_)
    refine w_o rfl rfl rfl (op_assign rfl ?_)
    refine w_end ?_
    refine seq_normal ?_
    refine w_ret ?_
    refine seq_ret ?_
    have e : hasSuf s p = false := by simpa using hI1
    rw [e] at k
    exact ret_ret rfl sel_ k
  · have hle := hasSuf_len (s := s) (p := p) (by simpa using hI1)
    refine w_skip ?_
    refine seq_normal ?_
    refine w_seq ?_
    refine w_region ?_
    refine w_o rfl rfl rfl (op_move rfl ?_)
    refine w_o rfl rfl rfl (op_move rfl ?_)
    refine w_o rfl rfl rfl (op_lenS und_9 rfl ?_)
    refine w_o rfl rfl rfl (op_move rfl ?_)
    refine w_o rfl rfl rfl (op_lenS und_9 rfl ?_)
    refine w_o rfl rfl rfl (op_subi rfl rfl (by omega) (by omega) ?_)
    refine w_o rfl rfl rfl (op_sliceS und_9 rfl rfl rfl (by omega) (by omega) (by omega) ?_)
    refine w_o rfl rfl rfl (op_assign rfl ?_)
    refine w_o rfl rfl rfl (op_assign rfl ?_)
    refine w_end ?_
    refine seq_normal ?_
    refine w_ret ?_
    have e : hasSuf s p = true := by simpa using hI1
    have e2 : ((s.size : Int) - (p.size : Int)).toNat = s.size - p.size := by omega
    rw [e, ← e2] at k
    exact ret_ret rfl sel_ k
theorem HasSuffix_w {H : Hyp} {K : V → Hyp → Prop} {s p : ByteArray} (h1 : s.size ≤ 1000000000) (h2 : p.size ≤ 1000000000) (k : K (vB (hasSuf s p)) H) : CallW Try.prog Xs 46 [vS s, vS p] H K := by
  refine call_of (n := 8) (fun _ => rfl) Try.func46 rfl rfl ?_
  refine w_seq ?_
  refine w_region ?_
  refine w_o rfl rfl rfl (op_assign rfl ?_)
  refine w_end ?_
  refine seq_normal ?_
  refine w_seq ?_
  refine w_region ?_
  refine w_o rfl rfl rfl (op_move rfl ?_)
  refine w_o rfl rfl rfl (op_move rfl ?_)
  refine w_o rfl rfl rfl (op_call rfl rfl rfl ?_)
  refine slHasSuffix_w h1 h2 ?_
  refine w_o rfl rfl rfl (op_assign rfl ?_)
  refine w_end ?_
  refine seq_normal ?_
  refine w_ret ?_
  exact ret_ret rfl sel_ k
theorem CutPrefix_w {H : Hyp} {K : V → Hyp → Prop} {s p : ByteArray} (h1 : s.size ≤ 1000000000) (h2 : p.size ≤ 1000000000) (k : K (.tup [.c (.str (if hasPre s p then s.extract p.size s.size else s)), .c (.bool (hasPre s p))]) H) : CallW Try.prog Xs 34 [vS s, vS p] H K := by
  refine call_of (n := 11) (fun _ => rfl) Try.func34 rfl rfl ?_
  refine w_seq ?_
  refine w_region ?_
  refine w_o rfl rfl rfl (op_assign rfl ?_)
  refine w_o rfl rfl rfl (op_assign rfl ?_)
  refine w_end ?_
  refine seq_normal ?_
  refine w_seq ?_
  refine w_region ?_
  refine w_o rfl rfl rfl (op_move rfl ?_)
  refine w_o rfl rfl rfl (op_move rfl ?_)
  refine w_o rfl rfl rfl (op_call rfl rfl rfl ?_)
  refine slCutPrefix_w h1 h2 ?_
  refine w_o rfl rfl rfl (op_extract rfl rfl ?_)
  refine w_o rfl rfl rfl (op_extract rfl rfl ?_)
  refine w_o rfl rfl rfl (op_assign rfl ?_)
  refine w_o rfl rfl rfl (op_assign rfl ?_)
  refine w_end ?_
  refine seq_normal ?_
  refine w_ret ?_
  exact ret_ret rfl sel_ k
theorem CutSuffix_w {H : Hyp} {K : V → Hyp → Prop} {s p : ByteArray} (h1 : s.size ≤ 1000000000) (h2 : p.size ≤ 1000000000) (k : K (.tup [.c (.str (if hasSuf s p then s.extract 0 (s.size - p.size) else s)), .c (.bool (hasSuf s p))]) H) : CallW Try.prog Xs 35 [vS s, vS p] H K := by
  refine call_of (n := 11) (fun _ => rfl) Try.func35 rfl rfl ?_
  refine w_seq ?_
  refine w_region ?_
  refine w_o rfl rfl rfl (op_assign rfl ?_)
  refine w_o rfl rfl rfl (op_assign rfl ?_)
  refine w_end ?_
  refine seq_normal ?_
  refine w_seq ?_
  refine w_region ?_
  refine w_o rfl rfl rfl (op_move rfl ?_)
  refine w_o rfl rfl rfl (op_move rfl ?_)
  refine w_o rfl rfl rfl (op_call rfl rfl rfl ?_)
  refine slCutSuffix_w h1 h2 ?_
  refine w_o rfl rfl rfl (op_extract rfl rfl ?_)
  refine w_o rfl rfl rfl (op_extract rfl rfl ?_)
  refine w_o rfl rfl rfl (op_assign rfl ?_)
  refine w_o rfl rfl rfl (op_assign rfl ?_)
  refine w_end ?_
  refine seq_normal ?_
  refine w_ret ?_
  exact ret_ret rfl sel_ k
end Go.Proofs.Yteghmemcikiblaa.AM.B
