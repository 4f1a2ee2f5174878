/- The reference of emit, walked. -/
import Derived.Test.YtigkfladgdknbaaAX
import Derived.Test.YtigkfladgdknbaaBemit3
set_option linter.unusedVariables false
set_option linter.unusedSimpArgs false
set_option maxRecDepth 10000
set_option maxHeartbeats 4000000
namespace Go.Proofs.Ytigkfladgdknbaa.AM.B
open Go Go.RowKit
theorem R10Cols_w {H : Hyp} {K : V → Hyp → Prop} {s : ByteArray} (hs : s.size ≤ 100000) (k : ∀ n : Int, (0 ≤ n ↔ ∀ v ∈ vals (bl s), widthV v ≠ 0) → K (vI n) H) : CallW Try.prog Xs 26 [vS s] H K := by
  have hvl := vals_len (bl s)
  rw [bl_len] at hvl
  refine call_of (n := 34) (fun _ => rfl) Try.func26 rfl rfl ?_
  refine w_seq ?_
  refine w_region ?_
  refine w_o rfl rfl rfl (op_assign rfl ?_)
  refine w_end ?_
  refine seq_normal ?_
  refine w_seq ?_
  refine w_region ?_
  refine w_o rfl rfl rfl (op_move rfl ?_)
  refine w_o rfl rfl rfl (op_call rfl rfl rfl ?_)
  refine R02Decode_w (by omega) fun ca Na ha => ?_
  refine w_o rfl rfl rfl (op_assign rfl ?_)
  refine w_end ?_
  refine seq_normal ?_
  refine w_seq ?_
  refine w_region ?_
  refine w_o rfl rfl rfl (op_assign rfl ?_)
  refine w_end ?_
  refine seq_normal ?_
  refine w_seq ?_
  refine w_seq ?_
  refine w_region ?_
  refine w_o rfl rfl rfl (op_assign rfl ?_)
  refine w_end ?_
  refine seq_normal ?_
  refine w_block ?_
  refine w_loop (fun m e H' => ∃ (i : Nat) (n : Int), i ≤ (vals (bl s)).length ∧ 0 ≤ n ∧ n ≤ 2 * i ∧ (∀ v ∈ (vals (bl s)).take i, widthV v ≠ 0) ∧ m = (vals (bl s)).length - i ∧ H' = Na ++ H ∧ e = [(3, .one (.c ca)), (4, vI n), (5, vI (i : Nat))]) ?_ ?_
  · exact ⟨_, _, _, ⟨0, 0, Nat.zero_le _, Int.le_refl _, Int.le_refl _, (fun v hv => absurd hv (by simp)), rfl, rfl, rfl⟩, env_, sel_⟩
  · rintro m e H' ⟨i, n, hi, hn0, hn1, hal, rfl, rfl, rfl⟩
    refine w_seq ?_
    refine w_seq ?_
    refine w_region ?_
    refine w_o rfl rfl rfl (op_move rfl ?_)
    refine w_o rfl rfl rfl (op_move rfl ?_)
    refine w_o rfl rfl rfl (op_lenC und_38 rfl (Own.lenT ha (fun _ => rfl) (by decide)) ?_)
    refine w_o rfl rfl rfl (op_lt rfl rfl ?_)
    refine w_end ?_
    refine seq_normal ?_
    first | refine w_cond rfl (fun hI1 => ?_) (fun hI1 => ?_) | refine w_condB rfl (fun hI1 => ?_) (fun hI1 => ?_)
    · refine w_skip ?_
      refine seq_normal ?_
      refine w_seq ?_
      refine w_block ?_
      refine w_seq ?_
      refine w_region ?_
      refine w_o rfl rfl rfl (op_move rfl ?_)
      refine w_o rfl rfl rfl (op_move rfl ?_)
      refine w_o rfl rfl rfl (op_indexT (xs := vals (bl s)) (enc := encI) und_38 siz_3 rfl rfl (Own.slT ha (fun _ => rfl) (by decide) subs_) (fun _ => rfl) rfl (by omega) fun b17 o17 z17 h17 e17 => ?_)
      refine w_o rfl rfl rfl (op_load1 agg_3 rfl el_ ?_)
      refine w_o rfl rfl rfl (op_call rfl rfl rfl ?_)
      refine dactylref03_Of_sw (Go.Proofs.Ytigkfladgdknbaa.P.ref_Of _ 100 (by decide)) ?_
      refine w_o rfl rfl rfl (op_assign rfl ?_)
      refine w_end ?_
      refine seq_normal ?_
      refine w_seq ?_
      refine w_seq ?_
      refine w_region ?_
      refine w_o rfl rfl rfl (op_move rfl ?_)
      refine w_o rfl rfl rfl (op_lt rfl rfl ?_)
      refine w_o rfl rfl rfl (op_move rfl ?_)
      first | refine w_known (t := 22) rfl (fun g22 => ?_) (fun g22 => ?_) | refine w_knownB (t := 22) rfl (fun g22 => ?_) (fun g22 => ?_)
      · refine w_u rfl rfl rfl rfl rfl rfl ?_
        refine w_u rfl rfl rfl rfl rfl rfl ?_
        refine w_o rfl rfl rfl (op_pick rfl rfl rfl ?_)
        refine w_end ?_
        refine seq_normal ?_
        refine w_condT rfl ?_
        refine w_seq ?_
        refine w_region ?_
        refine w_o rfl rfl rfl (op_assign rfl ?_)
        refine w_end ?_
        refine seq_normal ?_
        refine w_ret ?_
        refine seq_ret ?_
        refine block_ret ?_
        refine seq_ret ?_
        refine loop_ret ?_
        refine block_ret ?_
        refine seq_ret ?_
        have hz : ¬ widthV z17 ≠ 0 := fun q => by
          have := width_cls.1 q
          have e : clsV z17 = Go.Proofs.Ytigkfladgdknbaa.P.class_Of.v z17 := rfl
          omega
        exact ret_ret rfl sel_ (k (-1) ⟨fun q => absurd q (by decide), fun q => absurd (q z17 (List.mem_of_getElem? h17)) hz⟩)
      · refine w_og rfl rfl rfl rfl rfl (op_move rfl ?_)
        refine w_og rfl rfl rfl rfl rfl (op_gt rfl rfl ?_)
        refine w_o rfl rfl rfl (op_pick rfl rfl rfl ?_)
        refine w_end ?_
        refine seq_normal ?_
        first | refine w_cond rfl (fun hI2 => ?_) (fun hI2 => ?_) | refine w_condB rfl (fun hI2 => ?_) (fun hI2 => ?_)
        · refine w_seq ?_
          refine w_region ?_
          refine w_o rfl rfl rfl (op_assign rfl ?_)
          refine w_end ?_
          refine seq_normal ?_
          refine w_ret ?_
          refine seq_ret ?_
          refine block_ret ?_
          refine seq_ret ?_
          refine loop_ret ?_
          refine block_ret ?_
          refine seq_ret ?_
          have hz : ¬ widthV z17 ≠ 0 := fun q => by
            have := width_cls.1 q
            have e : clsV z17 = Go.Proofs.Ytigkfladgdknbaa.P.class_Of.v z17 := rfl
            omega
          exact ret_ret rfl sel_ (k (-1) ⟨fun q => absurd q (by decide), fun q => absurd (q z17 (List.mem_of_getElem? h17)) hz⟩)
        · have hz : widthV z17 ≠ 0 := by
            refine width_cls.2 ?_
            have e : clsV z17 = Go.Proofs.Ytigkfladgdknbaa.P.class_Of.v z17 := rfl
            omega
          have hzp := width_pos hz
          refine w_skip ?_
          refine seq_normal ?_
          refine w_region ?_
          refine w_o rfl rfl rfl (op_move rfl ?_)
          refine w_o rfl rfl rfl (op_move rfl ?_)
          refine w_o rfl rfl rfl (op_move rfl ?_)
          refine w_o rfl rfl rfl (op_indexT (xs := vals (bl s)) (enc := encI) und_38 siz_3 rfl rfl (Own.slT ha (fun _ => rfl) (by decide) subs_) (fun _ => rfl) rfl (by omega) fun b29 o29 z29 h29 e29 => ?_)
          obtain rfl : z17 = z29 := Option.some.inj (h17.symm.trans h29)
          refine w_o rfl rfl rfl (op_load1 agg_3 rfl el_ ?_)
          refine w_o rfl rfl rfl (op_call rfl rfl rfl ?_)
          refine dactylref03_Width_sw (Go.Proofs.Ytigkfladgdknbaa.P.ref_Width _ 100 (by decide)) ?_
          refine w_o rfl rfl rfl (op_addi (b := widthV z17) rfl rfl (by omega) (by omega) ?_)
          refine w_o rfl rfl rfl (op_assign rfl ?_)
          refine w_end ?_
          refine block_normal ?_
          refine seq_normal ?_
          refine w_region ?_
          refine w_o rfl rfl rfl (op_move rfl ?_)
          refine w_o rfl rfl rfl (op_addi rfl rfl (by omega) (by omega) ?_)
          refine w_o rfl rfl rfl (op_assign rfl ?_)
          refine w_end ?_
          exact loop_normal (k' := (vals (bl s)).length - (i + 1)) (by omega) ⟨i + 1, n + widthV z17, by omega, by omega, by omega, (fun v hv => by
            rw [List.take_add_one, h17] at hv
            rcases List.mem_append.1 hv with q | q
            · exact hal v q
            · have : v = z17 := by simpa using q
              rw [this]; exact hz), rfl, rfl, rfl⟩ env_ sel_
    · refine w_exit ?_
      refine seq_exit ?_
      refine loop_exit ?_
      refine block_hit rfl ?_
      refine seq_normal ?_
      refine w_seq ?_
      refine w_region ?_
      refine w_o rfl rfl rfl (op_move rfl ?_)
      refine w_o rfl rfl rfl (op_assign rfl ?_)
      refine w_end ?_
      refine seq_normal ?_
      refine w_ret ?_
      have hi' : i = (vals (bl s)).length := by omega
      rw [hi', List.take_length] at hal
      exact ret_ret rfl sel_ (k n ⟨fun _ => hal, fun _ => hn0⟩)
theorem R10May_w {H : Hyp} {K : V → Hyp → Prop} {o : OutS} (hs : o.f3.size ≤ 100000) (k : K (vB (mayO o)) H) : CallW Try.prog Xs 13 [.one (.agg (encO o))] H K := by
  refine call_of (n := 85) (fun _ => rfl) Try.func13 rfl rfl ?_
  refine w_seq ?_
  refine w_region ?_
  refine w_o rfl rfl rfl (op_box rfl fun b1 => ?_)
  refine w_o rfl rfl rfl (op_assign rfl ?_)
  refine w_end ?_
  refine seq_normal ?_
  refine w_seq ?_
  refine w_seq ?_
  refine w_region ?_
  refine w_o rfl rfl rfl (op_fieldAddr fa_31_0 rfl ?_)
  refine w_o rfl rfl rfl (op_loadF agg_3 rfl el_ rfl ?_)
  refine w_o rfl rfl rfl (op_lt rfl rfl ?_)
  refine w_o rfl rfl rfl (op_move rfl ?_)
  first | refine w_known (t := 6) rfl (fun g6 => ?_) (fun g6 => ?_) | refine w_knownB (t := 6) rfl (fun g6 => ?_) (fun g6 => ?_)
  · refine w_u rfl rfl rfl rfl rfl rfl ?_
    refine w_u rfl rfl rfl rfl rfl rfl ?_
    refine w_u rfl rfl rfl rfl rfl rfl ?_
    refine w_o rfl rfl rfl (op_pick rfl rfl rfl ?_)
    refine w_end ?_
    refine seq_normal ?_
    refine w_condT rfl ?_
    refine w_seq ?_
    refine w_region ?_
    refine w_o rfl rfl rfl (op_assign rfl ?_)
    refine w_end ?_
    refine seq_normal ?_
    refine w_ret ?_
    refine seq_ret ?_
    have hf : mayO o = false := by
      cases q : mayO o with
      | false => rfl
      | true => have := may_num q; omega
    rw [hf] at k
    exact ret_bool (b' := false) rfl sel_ (by first | rfl | (simp; done) | (simp at *; done)) k
  · refine w_og rfl rfl rfl rfl rfl (op_fieldAddr fa_31_0 rfl ?_)
    refine w_og rfl rfl rfl rfl rfl (op_loadF agg_3 rfl el_ rfl ?_)
    refine w_og rfl rfl rfl rfl rfl (op_gt rfl rfl ?_)
    refine w_o rfl rfl rfl (op_pick rfl rfl rfl ?_)
    refine w_end ?_
    refine seq_normal ?_
    first | refine w_cond rfl (fun hI1 => ?_) (fun hI1 => ?_) | refine w_condB rfl (fun hI1 => ?_) (fun hI1 => ?_)
    · refine w_seq ?_
      refine w_region ?_
      refine w_o rfl rfl rfl (op_assign rfl ?_)
      refine w_end ?_
      refine seq_normal ?_
      refine w_ret ?_
      refine seq_ret ?_
      have hf : mayO o = false := by
        cases q : mayO o with
        | false => rfl
        | true => have := may_num q; omega
      rw [hf] at k
      exact ret_bool (b' := false) rfl sel_ (by first | rfl | (simp; done) | (simp at *; done)) k
    · refine w_skip ?_
      refine seq_normal ?_
      refine w_seq ?_
      refine w_seq ?_
      refine w_region ?_
      refine w_o rfl rfl rfl (op_fieldAddr fa_31_0 rfl ?_)
      refine w_o rfl rfl rfl (op_loadF agg_3 rfl el_ rfl ?_)
      refine w_o rfl rfl rfl (op_eq rfl rfl ?_)
      refine w_end ?_
      refine seq_normal ?_
      first | refine w_cond rfl (fun hI2 => ?_) (fun hI2 => ?_) | refine w_condB rfl (fun hI2 => ?_) (fun hI2 => ?_)
      · have hq := chk0 (o := o) hI2
        refine w_seq ?_
        refine w_region ?_
        refine w_o rfl rfl rfl (op_fieldAddr fa_31_1 rfl ?_)
        refine w_o rfl rfl rfl (op_loadF agg_3 rfl el_ rfl ?_)
        refine w_o rfl rfl rfl (op_eq rfl rfl ?_)
        refine w_o rfl rfl rfl (op_move rfl ?_)
        first | refine w_known (t := 17) rfl (fun g17 => ?_) (fun g17 => ?_) | refine w_knownB (t := 17) rfl (fun g17 => ?_) (fun g17 => ?_)
        · refine w_og rfl rfl rfl rfl rfl (op_fieldAddr fa_31_2 rfl ?_)
          refine w_og rfl rfl rfl rfl rfl (op_loadF agg_3 rfl el_ rfl ?_)
          refine w_og rfl rfl rfl rfl rfl (op_eq rfl rfl ?_)
          refine w_o rfl rfl rfl (op_pick rfl rfl rfl ?_)
          refine w_o rfl rfl rfl (op_move rfl ?_)
          first | refine w_known (t := 22) rfl (fun g22 => ?_) (fun g22 => ?_) | refine w_knownB (t := 22) rfl (fun g22 => ?_) (fun g22 => ?_)
          · refine w_og rfl rfl rfl rfl rfl (op_fieldAddr fa_31_3 rfl ?_)
            refine w_og rfl rfl rfl rfl rfl (op_loadF agg_9 rfl el_ rfl ?_)
            refine w_og rfl rfl rfl rfl rfl (op_strne rfl rfl ?_)
            refine w_o rfl rfl rfl (op_pick rfl rfl rfl ?_)
            refine w_o rfl rfl rfl (op_move rfl ?_)
            first | refine w_known (t := 27) rfl (fun g27 => ?_) (fun g27 => ?_) | refine w_knownB (t := 27) rfl (fun g27 => ?_) (fun g27 => ?_)
            · refine w_og rfl rfl rfl rfl rfl (op_fieldAddr fa_31_3 rfl ?_)
              refine w_og rfl rfl rfl rfl rfl (op_loadF agg_9 rfl el_ rfl ?_)
              refine w_og rfl rfl rfl rfl rfl (op_call rfl rfl rfl ?_)
              refine R10Cols_w hs fun n hn => ?_
              refine w_og rfl rfl rfl rfl rfl (op_ge rfl rfl ?_)
              refine w_o rfl rfl rfl (op_pick rfl rfl rfl ?_)
              refine w_o rfl rfl rfl (op_assign rfl ?_)
              refine w_end ?_
              refine seq_normal ?_
              refine w_ret ?_
              refine seq_ret ?_
              refine ret_bool rfl sel_ ?_ k
              rw [Bool.eq_iff_iff]
              unfold mayO
              rw [if_pos hI2]
              unfold plainL
              simp only [Bool.and_eq_true, decide_eq_true_eq, List.all_eq_true]
              first
                | (constructor
                   · intro q; exact ⟨⟨by omega, by omega⟩, fun z => g27 (empty_iff.2 z), hn.1 (by simpa using q)⟩
                   · rintro ⟨_, _, q⟩; simpa using hn.2 q)
                | (constructor
                   · intro q; simp at q
                   · rintro ⟨⟨a, b⟩, c, _⟩; first | (exact absurd a (by omega)) | (exact absurd b (by omega)) | (exact absurd (fun z => c (empty_iff.1 z)) (by assumption)))
            · refine w_u rfl rfl rfl rfl rfl rfl ?_
              refine w_u rfl rfl rfl rfl rfl rfl ?_
              refine w_u rfl rfl rfl rfl rfl rfl ?_
              refine w_u rfl rfl rfl rfl rfl rfl ?_
              refine w_o rfl rfl rfl (op_pick rfl rfl rfl ?_)
              refine w_o rfl rfl rfl (op_assign rfl ?_)
              refine w_end ?_
              refine seq_normal ?_
              refine w_ret ?_
              refine seq_ret ?_
              refine ret_bool rfl sel_ ?_ k
              rw [Bool.eq_iff_iff]
              unfold mayO
              rw [if_pos hI2]
              unfold plainL
              simp only [Bool.and_eq_true, decide_eq_true_eq, List.all_eq_true]
              first
                | (constructor
                   · intro q; exact ⟨⟨by omega, by omega⟩, fun z => g27 (empty_iff.2 z), hn.1 (by simpa using q)⟩
                   · rintro ⟨_, _, q⟩; simpa using hn.2 q)
                | (constructor
                   · intro q; simp at q
                   · rintro ⟨⟨a, b⟩, c, _⟩; first | (exact absurd a (by omega)) | (exact absurd b (by omega)) | (exact absurd (fun z => c (empty_iff.1 z)) (by assumption)))
          · refine w_u rfl rfl rfl rfl rfl rfl ?_
            refine w_u rfl rfl rfl rfl rfl rfl ?_
            refine w_u rfl rfl rfl rfl rfl rfl ?_
            refine w_o rfl rfl rfl (op_pick rfl rfl rfl ?_)
            refine w_o rfl rfl rfl (op_move rfl ?_)
            refine w_u rfl rfl rfl rfl rfl rfl ?_
            refine w_u rfl rfl rfl rfl rfl rfl ?_
            refine w_u rfl rfl rfl rfl rfl rfl ?_
            refine w_u rfl rfl rfl rfl rfl rfl ?_
            refine w_o rfl rfl rfl (op_pick rfl rfl rfl ?_)
            refine w_o rfl rfl rfl (op_assign rfl ?_)
            refine w_end ?_
            refine seq_normal ?_
            refine w_ret ?_
            refine seq_ret ?_
            refine ret_bool rfl sel_ ?_ k
            rw [Bool.eq_iff_iff]
            unfold mayO
            rw [if_pos hI2]
            unfold plainL
            simp only [Bool.and_eq_true, decide_eq_true_eq, List.all_eq_true]
            first
              | (constructor
                 · intro q; exact ⟨⟨by omega, by omega⟩, fun z => g27 (empty_iff.2 z), hn.1 (by simpa using q)⟩
                 · rintro ⟨_, _, q⟩; simpa using hn.2 q)
              | (constructor
                 · intro q; simp at q
                 · rintro ⟨⟨a, b⟩, c, _⟩; first | (exact absurd a (by omega)) | (exact absurd b (by omega)) | (exact absurd (fun z => c (empty_iff.1 z)) (by assumption)))
        · refine w_u rfl rfl rfl rfl rfl rfl ?_
          refine w_u rfl rfl rfl rfl rfl rfl ?_
          refine w_u rfl rfl rfl rfl rfl rfl ?_
          refine w_o rfl rfl rfl (op_pick rfl rfl rfl ?_)
          refine w_o rfl rfl rfl (op_move rfl ?_)
          refine w_u rfl rfl rfl rfl rfl rfl ?_
          refine w_u rfl rfl rfl rfl rfl rfl ?_
          refine w_u rfl rfl rfl rfl rfl rfl ?_
          refine w_o rfl rfl rfl (op_pick rfl rfl rfl ?_)
          refine w_o rfl rfl rfl (op_move rfl ?_)
          refine w_u rfl rfl rfl rfl rfl rfl ?_
          refine w_u rfl rfl rfl rfl rfl rfl ?_
          refine w_u rfl rfl rfl rfl rfl rfl ?_
          refine w_u rfl rfl rfl rfl rfl rfl ?_
          refine w_o rfl rfl rfl (op_pick rfl rfl rfl ?_)
          refine w_o rfl rfl rfl (op_assign rfl ?_)
          refine w_end ?_
          refine seq_normal ?_
          refine w_ret ?_
          refine seq_ret ?_
          refine ret_bool rfl sel_ ?_ k
          rw [Bool.eq_iff_iff]
          unfold mayO
          rw [if_pos hI2]
          unfold plainL
          simp only [Bool.and_eq_true, decide_eq_true_eq, List.all_eq_true]
          first
            | (constructor
               · intro q; exact ⟨⟨by omega, by omega⟩, fun z => g27 (empty_iff.2 z), hn.1 (by simpa using q)⟩
               · rintro ⟨_, _, q⟩; simpa using hn.2 q)
            | (constructor
               · intro q; simp at q
               · rintro ⟨⟨a, b⟩, c, _⟩; first | (exact absurd a (by omega)) | (exact absurd b (by omega)) | (exact absurd (fun z => c (empty_iff.1 z)) (by assumption)))
      · have hm3 : mayO o = true → o.f3 = ⟨#[]⟩ := fun q => (may_num q).2.2.2.2.2.2.2 hI2
        refine w_skip ?_
        refine seq_normal ?_
        refine w_seq ?_
        refine w_seq ?_
        refine w_region ?_
        refine w_o rfl rfl rfl (op_fieldAddr fa_31_3 rfl ?_)
        refine w_o rfl rfl rfl (op_loadF agg_9 rfl el_ rfl ?_)
        refine w_o rfl rfl rfl (op_strne rfl rfl ?_)
        refine w_end ?_
        refine seq_normal ?_
        first | refine w_cond rfl (fun hI3 => ?_) (fun hI3 => ?_) | refine w_condB rfl (fun hI3 => ?_) (fun hI3 => ?_)
        · refine w_seq ?_
          refine w_region ?_
          refine w_o rfl rfl rfl (op_assign rfl ?_)
          refine w_end ?_
          refine seq_normal ?_
          refine w_ret ?_
          refine seq_ret ?_
          have hf : mayO o = false := by
            cases q : mayO o with
            | false => rfl
            | true => exact absurd (hm3 q) hI3
          rw [hf] at k
          exact ret_ret rfl sel_ k
        · have h3 : o.f3 = ⟨#[]⟩ := Classical.byContradiction fun q => hI3 q
          refine w_skip ?_
          refine seq_normal ?_
          refine w_seq ?_
          refine w_seq ?_
          refine w_region ?_
          refine w_o rfl rfl rfl (op_fieldAddr fa_31_0 rfl ?_)
          refine w_o rfl rfl rfl (op_loadF agg_3 rfl el_ rfl ?_)
          refine w_o rfl rfl rfl (op_eq rfl rfl ?_)
          refine w_end ?_
          refine seq_normal ?_
          first | refine w_cond rfl (fun hI4 => ?_) (fun hI4 => ?_) | refine w_condB rfl (fun hI4 => ?_) (fun hI4 => ?_)
          · refine w_seq ?_
            refine w_region ?_
            refine w_o rfl rfl rfl (op_fieldAddr fa_31_1 rfl ?_)
            refine w_o rfl rfl rfl (op_loadF agg_3 rfl el_ rfl ?_)
            refine w_o rfl rfl rfl (op_ge rfl rfl ?_)
            refine w_o rfl rfl rfl (op_move rfl ?_)
            first | refine w_known (t := 42) rfl (fun g42 => ?_) (fun g42 => ?_) | refine w_knownB (t := 42) rfl (fun g42 => ?_) (fun g42 => ?_)
            · refine w_og rfl rfl rfl rfl rfl (op_fieldAddr fa_31_1 rfl ?_)
              refine w_og rfl rfl rfl rfl rfl (op_loadF agg_3 rfl el_ rfl ?_)
              refine w_og rfl rfl rfl rfl rfl (op_le rfl rfl ?_)
              refine w_o rfl rfl rfl (op_pick rfl rfl rfl ?_)
              refine w_o rfl rfl rfl (op_move rfl ?_)
              first | refine w_known (t := 47) rfl (fun g47 => ?_) (fun g47 => ?_) | refine w_knownB (t := 47) rfl (fun g47 => ?_) (fun g47 => ?_)
              · refine w_og rfl rfl rfl rfl rfl (op_fieldAddr fa_31_2 rfl ?_)
                refine w_og rfl rfl rfl rfl rfl (op_loadF agg_3 rfl el_ rfl ?_)
                refine w_og rfl rfl rfl rfl rfl (op_ge rfl rfl ?_)
                refine w_o rfl rfl rfl (op_pick rfl rfl rfl ?_)
                refine w_o rfl rfl rfl (op_move rfl ?_)
                first | refine w_known (t := 52) rfl (fun g52 => ?_) (fun g52 => ?_) | refine w_knownB (t := 52) rfl (fun g52 => ?_) (fun g52 => ?_)
                · refine w_og rfl rfl rfl rfl rfl (op_fieldAddr fa_31_2 rfl ?_)
                  refine w_og rfl rfl rfl rfl rfl (op_loadF agg_3 rfl el_ rfl ?_)
                  refine w_og rfl rfl rfl rfl rfl (op_le rfl rfl ?_)
                  refine w_o rfl rfl rfl (op_pick rfl rfl rfl ?_)
                  refine w_o rfl rfl rfl (op_assign rfl ?_)
                  refine w_end ?_
                  refine seq_normal ?_
                  refine w_ret ?_
                  refine seq_ret ?_
                  refine ret_bool rfl sel_ ?_ k
                  rw [chk1 hI4]
                  have he : eqO o ⟨o.f0, o.f1, o.f2, ⟨#[]⟩⟩ = true := by unfold eqO; simp only [Bool.and_eq_true, beq_iff_eq, ba_beq, and_true, true_and]; exact h3
                  rw [he, Bool.and_true, Bool.eq_iff_iff]
                  simp <;> omega
                · refine w_u rfl rfl rfl rfl rfl rfl ?_
                  refine w_u rfl rfl rfl rfl rfl rfl ?_
                  refine w_u rfl rfl rfl rfl rfl rfl ?_
                  refine w_o rfl rfl rfl (op_pick rfl rfl rfl ?_)
                  refine w_o rfl rfl rfl (op_assign rfl ?_)
                  refine w_end ?_
                  refine seq_normal ?_
                  refine w_ret ?_
                  refine seq_ret ?_
                  refine ret_bool rfl sel_ ?_ k
                  rw [chk1 hI4]
                  have he : eqO o ⟨o.f0, o.f1, o.f2, ⟨#[]⟩⟩ = true := by unfold eqO; simp only [Bool.and_eq_true, beq_iff_eq, ba_beq, and_true, true_and]; exact h3
                  rw [he, Bool.and_true, Bool.eq_iff_iff]
                  simp <;> omega
              · refine w_u rfl rfl rfl rfl rfl rfl ?_
                refine w_u rfl rfl rfl rfl rfl rfl ?_
                refine w_u rfl rfl rfl rfl rfl rfl ?_
                refine w_o rfl rfl rfl (op_pick rfl rfl rfl ?_)
                refine w_o rfl rfl rfl (op_move rfl ?_)
                refine w_u rfl rfl rfl rfl rfl rfl ?_
                refine w_u rfl rfl rfl rfl rfl rfl ?_
                refine w_u rfl rfl rfl rfl rfl rfl ?_
                refine w_o rfl rfl rfl (op_pick rfl rfl rfl ?_)
                refine w_o rfl rfl rfl (op_assign rfl ?_)
                refine w_end ?_
                refine seq_normal ?_
                refine w_ret ?_
                refine seq_ret ?_
                refine ret_bool rfl sel_ ?_ k
                rw [chk1 hI4]
                have he : eqO o ⟨o.f0, o.f1, o.f2, ⟨#[]⟩⟩ = true := by unfold eqO; simp only [Bool.and_eq_true, beq_iff_eq, ba_beq, and_true, true_and]; exact h3
                rw [he, Bool.and_true, Bool.eq_iff_iff]
                simp <;> omega
            · refine w_u rfl rfl rfl rfl rfl rfl ?_
              refine w_u rfl rfl rfl rfl rfl rfl ?_
              refine w_u rfl rfl rfl rfl rfl rfl ?_
              refine w_o rfl rfl rfl (op_pick rfl rfl rfl ?_)
              refine w_o rfl rfl rfl (op_move rfl ?_)
              refine w_u rfl rfl rfl rfl rfl rfl ?_
              refine w_u rfl rfl rfl rfl rfl rfl ?_
              refine w_u rfl rfl rfl rfl rfl rfl ?_
              refine w_o rfl rfl rfl (op_pick rfl rfl rfl ?_)
              refine w_o rfl rfl rfl (op_move rfl ?_)
              refine w_u rfl rfl rfl rfl rfl rfl ?_
              refine w_u rfl rfl rfl rfl rfl rfl ?_
              refine w_u rfl rfl rfl rfl rfl rfl ?_
              refine w_o rfl rfl rfl (op_pick rfl rfl rfl ?_)
              refine w_o rfl rfl rfl (op_assign rfl ?_)
              refine w_end ?_
              refine seq_normal ?_
              refine w_ret ?_
              refine seq_ret ?_
              refine ret_bool rfl sel_ ?_ k
              rw [chk1 hI4]
              have he : eqO o ⟨o.f0, o.f1, o.f2, ⟨#[]⟩⟩ = true := by unfold eqO; simp only [Bool.and_eq_true, beq_iff_eq, ba_beq, and_true, true_and]; exact h3
              rw [he, Bool.and_true, Bool.eq_iff_iff]
              simp <;> omega
          · refine w_skip ?_
            refine seq_normal ?_
            refine w_seq ?_
            refine w_seq ?_
            refine w_region ?_
            refine w_o rfl rfl rfl (op_fieldAddr fa_31_2 rfl ?_)
            refine w_o rfl rfl rfl (op_loadF agg_3 rfl el_ rfl ?_)
            refine w_o rfl rfl rfl (op_ne rfl rfl ?_)
            refine w_end ?_
            refine seq_normal ?_
            first | refine w_cond rfl (fun hI5 => ?_) (fun hI5 => ?_) | refine w_condB rfl (fun hI5 => ?_) (fun hI5 => ?_)
            · refine w_seq ?_
              refine w_region ?_
              refine w_o rfl rfl rfl (op_assign rfl ?_)
              refine w_end ?_
              refine seq_normal ?_
              refine w_ret ?_
              refine seq_ret ?_
              have hf : mayO o = false := by
                cases q : mayO o with
                | false => rfl
                | true => have := may_num q; omega
              rw [hf] at k
              exact ret_ret rfl sel_ k
            · refine w_skip ?_
              refine seq_normal ?_
              refine w_seq ?_
              refine w_seq ?_
              refine w_region ?_
              refine w_o rfl rfl rfl (op_fieldAddr fa_31_0 rfl ?_)
              refine w_o rfl rfl rfl (op_loadF agg_3 rfl el_ rfl ?_)
              refine w_o rfl rfl rfl (op_eq rfl rfl ?_)
              refine w_end ?_
              refine seq_normal ?_
              first | refine w_cond rfl (fun hI6 => ?_) (fun hI6 => ?_) | refine w_condB rfl (fun hI6 => ?_) (fun hI6 => ?_)
              · refine w_seq ?_
                refine w_region ?_
                refine w_o rfl rfl rfl (op_fieldAddr fa_31_1 rfl ?_)
                refine w_o rfl rfl rfl (op_loadF agg_3 rfl el_ rfl ?_)
                refine w_o rfl rfl rfl (op_ge rfl rfl ?_)
                refine w_o rfl rfl rfl (op_move rfl ?_)
                first | refine w_known (t := 66) rfl (fun g66 => ?_) (fun g66 => ?_) | refine w_knownB (t := 66) rfl (fun g66 => ?_) (fun g66 => ?_)
                · refine w_og rfl rfl rfl rfl rfl (op_fieldAddr fa_31_1 rfl ?_)
                  refine w_og rfl rfl rfl rfl rfl (op_loadF agg_3 rfl el_ rfl ?_)
                  refine w_og rfl rfl rfl rfl rfl (op_le rfl rfl ?_)
                  refine w_o rfl rfl rfl (op_pick rfl rfl rfl ?_)
                  refine w_o rfl rfl rfl (op_assign rfl ?_)
                  refine w_end ?_
                  refine seq_normal ?_
                  refine w_ret ?_
                  refine seq_ret ?_
                  refine ret_bool rfl sel_ ?_ k
                  rw [chk4 hI6]
                  have he : eqO o ⟨o.f0, o.f1, 0, ⟨#[]⟩⟩ = true := by unfold eqO; simp only [Bool.and_eq_true, beq_iff_eq, ba_beq, and_true, true_and]; exact ⟨by omega, h3⟩
                  rw [he, Bool.and_true, Bool.eq_iff_iff]
                  simp <;> omega
                · refine w_u rfl rfl rfl rfl rfl rfl ?_
                  refine w_u rfl rfl rfl rfl rfl rfl ?_
                  refine w_u rfl rfl rfl rfl rfl rfl ?_
                  refine w_o rfl rfl rfl (op_pick rfl rfl rfl ?_)
                  refine w_o rfl rfl rfl (op_assign rfl ?_)
                  refine w_end ?_
                  refine seq_normal ?_
                  refine w_ret ?_
                  refine seq_ret ?_
                  refine ret_bool rfl sel_ ?_ k
                  rw [chk4 hI6]
                  have he : eqO o ⟨o.f0, o.f1, 0, ⟨#[]⟩⟩ = true := by unfold eqO; simp only [Bool.and_eq_true, beq_iff_eq, ba_beq, and_true, true_and]; exact ⟨by omega, h3⟩
                  rw [he, Bool.and_true, Bool.eq_iff_iff]
                  simp <;> omega
              · refine w_skip ?_
                refine seq_normal ?_
                refine w_seq ?_
                refine w_seq ?_
                refine w_region ?_
                refine w_o rfl rfl rfl (op_fieldAddr fa_31_0 rfl ?_)
                refine w_o rfl rfl rfl (op_loadF agg_3 rfl el_ rfl ?_)
                refine w_o rfl rfl rfl (op_eq rfl rfl ?_)
                refine w_end ?_
                refine seq_normal ?_
                first | refine w_cond rfl (fun hI7 => ?_) (fun hI7 => ?_) | refine w_condB rfl (fun hI7 => ?_) (fun hI7 => ?_)
                · refine w_seq ?_
                  refine w_region ?_
                  refine w_o rfl rfl rfl (op_fieldAddr fa_31_1 rfl ?_)
                  refine w_o rfl rfl rfl (op_loadF agg_3 rfl el_ rfl ?_)
                  refine w_o rfl rfl rfl (op_eq rfl rfl ?_)
                  refine w_o rfl rfl rfl (op_move rfl ?_)
                  first | refine w_known (t := 77) rfl (fun g77 => ?_) (fun g77 => ?_) | refine w_knownB (t := 77) rfl (fun g77 => ?_) (fun g77 => ?_)
                  · refine w_u rfl rfl rfl rfl rfl rfl ?_
                    refine w_u rfl rfl rfl rfl rfl rfl ?_
                    refine w_u rfl rfl rfl rfl rfl rfl ?_
                    refine w_o rfl rfl rfl (op_pick rfl rfl rfl ?_)
                    refine w_o rfl rfl rfl (op_assign rfl ?_)
                    refine w_end ?_
                    refine seq_normal ?_
                    refine w_ret ?_
                    refine seq_ret ?_
                    refine ret_bool rfl sel_ ?_ k
                    rw [chk5 hI7]
                    have he : eqO o ⟨o.f0, o.f1, 0, ⟨#[]⟩⟩ = true := by unfold eqO; simp only [Bool.and_eq_true, beq_iff_eq, ba_beq, and_true, true_and]; exact ⟨by omega, h3⟩
                    rw [he, Bool.and_true, Bool.eq_iff_iff]
                    simp <;> omega
                  · refine w_og rfl rfl rfl rfl rfl (op_fieldAddr fa_31_1 rfl ?_)
                    refine w_og rfl rfl rfl rfl rfl (op_loadF agg_3 rfl el_ rfl ?_)
                    refine w_og rfl rfl rfl rfl rfl (op_eq rfl rfl ?_)
                    refine w_o rfl rfl rfl (op_pick rfl rfl rfl ?_)
                    refine w_o rfl rfl rfl (op_assign rfl ?_)
                    refine w_end ?_
                    refine seq_normal ?_
                    refine w_ret ?_
                    refine seq_ret ?_
                    refine ret_bool rfl sel_ ?_ k
                    rw [chk5 hI7]
                    have he : eqO o ⟨o.f0, o.f1, 0, ⟨#[]⟩⟩ = true := by unfold eqO; simp only [Bool.and_eq_true, beq_iff_eq, ba_beq, and_true, true_and]; exact ⟨by omega, h3⟩
                    rw [he, Bool.and_true, Bool.eq_iff_iff]
                    simp <;> omega
                · refine w_skip ?_
                  refine seq_normal ?_
                  refine w_seq ?_
                  refine w_region ?_
                  refine w_o rfl rfl rfl (op_fieldAddr fa_31_1 rfl ?_)
                  refine w_o rfl rfl rfl (op_loadF agg_3 rfl el_ rfl ?_)
                  refine w_o rfl rfl rfl (op_eq rfl rfl ?_)
                  refine w_o rfl rfl rfl (op_assign rfl ?_)
                  refine w_end ?_
                  refine seq_normal ?_
                  refine w_ret ?_
                  refine ret_bool rfl sel_ ?_ k
                  rw [chkz (by omega), Bool.true_and]
                  unfold eqO
                  rw [Bool.eq_iff_iff]
                  simp only [Bool.and_eq_true, beq_iff_eq, ba_beq, decide_eq_true_eq, true_and]
                  exact ⟨fun q => ⟨q, by omega, h3⟩, fun q => q.1⟩
theorem R10All_w {H : Hyp} {K : V → Hyp → Prop} {c : Cell} {l : List OutS} (h : Sl H 31 4 c l.length (l.flatMap encO)) (hl : l.length ≤ 100000) (ht : ∀ o ∈ l, o.f3.size ≤ 100000) (k1 : (∀ o ∈ l, mayO o = true) → K (vB true) H) (k2 : ¬ (∀ o ∈ l, mayO o = true) → K (vB false) H) : CallW Try.prog Xs 14 [.one (.c c)] H K := by
  refine call_of (n := 16) (fun _ => rfl) Try.func14 rfl rfl ?_
  refine w_seq ?_
  refine w_region ?_
  refine w_o rfl rfl rfl (op_assign rfl ?_)
  refine w_end ?_
  refine seq_normal ?_
  refine w_seq ?_
  refine w_seq ?_
  refine w_region ?_
  refine w_o rfl rfl rfl (op_assign rfl ?_)
  refine w_end ?_
  refine seq_normal ?_
  refine w_block ?_
  refine w_loop (fun m e H' => ∃ (i : Nat), i ≤ l.length ∧ (∀ o ∈ l.take i, mayO o = true) ∧ m = l.length - i ∧ H = H' ∧ e = [(0, .one (.c c)), (3, vI (i : Nat))]) ?_ ?_
  · exact ⟨_, _, _, ⟨0, Nat.zero_le _, (fun o ho => absurd ho (by simp)), rfl, rfl, rfl⟩, env_, sel_⟩
  · rintro m e H' ⟨i, hi, hm, rfl, rfl, rfl⟩
    refine w_seq ?_
    refine w_seq ?_
    refine w_region ?_
    refine w_o rfl rfl rfl (op_move rfl ?_)
    refine w_o rfl rfl rfl (op_move rfl ?_)
    refine w_o rfl rfl rfl (op_lenC und_22 rfl h.lenC ?_)
    refine w_o rfl rfl rfl (op_lt rfl rfl ?_)
    refine w_end ?_
    refine seq_normal ?_
    first | refine w_cond rfl (fun hI1 => ?_) (fun hI1 => ?_) | refine w_condB rfl (fun hI1 => ?_) (fun hI1 => ?_)
    · refine w_skip ?_
      refine seq_normal ?_
      refine w_seq ?_
      refine w_block ?_
      refine w_seq ?_
      refine w_region ?_
      refine w_o rfl rfl rfl (op_move rfl ?_)
      refine w_o rfl rfl rfl (op_move rfl ?_)
      refine w_o rfl rfl rfl (op_indexT (xs := l) (enc := encO) und_22 siz_31 rfl rfl h (fun _ => rfl) rfl (by omega) fun b12 o12 z12 h12 e12 => ?_)
      refine w_o rfl rfl rfl (op_loadA agg_31 siz_31 rfl rfl el_ ?_)
      refine w_o rfl rfl rfl (op_call rfl rfl rfl ?_)
      refine R10May_w (o := z12) (ht z12 (List.mem_of_getElem? h12)) ?_
      refine w_o rfl rfl rfl (op_not rfl ?_)
      refine w_end ?_
      refine seq_normal ?_
      first | refine w_cond rfl (fun hI2 => ?_) (fun hI2 => ?_) | refine w_condB rfl (fun hI2 => ?_) (fun hI2 => ?_)
      · refine w_seq ?_
        refine w_region ?_
        refine w_o rfl rfl rfl (op_assign rfl ?_)
        refine w_end ?_
        refine seq_normal ?_
        refine w_ret ?_
        refine block_ret ?_
        refine seq_ret ?_
        refine loop_ret ?_
        refine block_ret ?_
        refine seq_ret ?_
        exact ret_ret rfl sel_ (k2 fun q => by rw [q z12 (List.mem_of_getElem? h12)] at hI2; cases hI2)
      · refine w_skip ?_
        refine block_normal ?_
        refine seq_normal ?_
        refine w_region ?_
        refine w_o rfl rfl rfl (op_move rfl ?_)
        refine w_o rfl rfl rfl (op_addi rfl rfl (by omega) (by omega) ?_)
        refine w_o rfl rfl rfl (op_assign rfl ?_)
        refine w_end ?_
        exact loop_normal (k' := l.length - (i + 1)) (by omega) ⟨i + 1, by omega, (fun o ho => by
          rw [List.take_add_one, h12] at ho
          rcases List.mem_append.1 ho with q | q
          · exact hm o q
          · have : o = z12 := by simpa using q
            rw [this]; simpa using hI2), rfl, rfl, rfl⟩ env_ sel_
    · refine w_exit ?_
      refine seq_exit ?_
      refine loop_exit ?_
      refine block_hit rfl ?_
      refine seq_normal ?_
      refine w_seq ?_
      refine w_region ?_
      refine w_o rfl rfl rfl (op_assign rfl ?_)
      refine w_end ?_
      refine seq_normal ?_
      refine w_ret ?_
      have hi' : i = l.length := by omega
      rw [hi', List.take_length] at hm
      exact ret_ret rfl sel_ (k1 hm)
theorem R10Looks_w {H : Hyp} {K : V → Hyp → Prop} {n : Int} (h0 : 0 ≤ n) (h7 : n ≤ 7) (k : ∀ t, bl t = looksB n → K (vS t) H) : CallW Try.prog Xs 47 [vI n] H K := by
  obtain ⟨m, rfl⟩ : ∃ m : Nat, n = (m : Int) := ⟨n.toNat, by omega⟩
  have key : ∀ m : Nat, m < 8 → ∀ (z : ByteArray), ([⟨#[48, 109]⟩, ⟨#[48, 59, 55, 109]⟩, ⟨#[48, 59, 52, 109]⟩, ⟨#[48, 59, 55, 59, 52, 109]⟩, ⟨#[48, 59, 49, 109]⟩, ⟨#[48, 59, 55, 59, 49, 109]⟩, ⟨#[48, 59, 52, 59, 49, 109]⟩, ⟨#[48, 59, 55, 59, 52, 59, 49, 109]⟩] : List ByteArray)[m]? = some z → bl z = (looksT[m]?).getD [] := by
    intro m hm z hz
    have h8 : m = 0 ∨ m = 1 ∨ m = 2 ∨ m = 3 ∨ m = 4 ∨ m = 5 ∨ m = 6 ∨ m = 7 := by omega
    rcases h8 with rfl | rfl | rfl | rfl | rfl | rfl | rfl | rfl <;> (have := Option.some.inj hz; rw [← this]; rfl)
  refine call_of (n := 9) (fun _ => rfl) Try.func47 rfl rfl ?_
  refine w_seq ?_
  refine w_region ?_
  refine w_o rfl rfl rfl (op_assign rfl ?_)
  refine w_end ?_
  refine seq_normal ?_
  refine w_seq ?_
  refine w_region ?_
  refine w_o rfl rfl rfl (op_buildSlice rfl (bsl_53 _ _ _ (rfl : _ = some [_, _, _, _, _, _, _, _]) rfl (by decide)) fun b4 => ?_)
  refine w_o rfl rfl rfl (op_assign rfl ?_)
  refine w_end ?_
  refine seq_normal ?_
  refine w_seq ?_
  refine w_region ?_
  refine w_o rfl rfl rfl (op_move rfl ?_)
  refine w_o rfl rfl rfl (op_move rfl ?_)
  refine w_o rfl rfl rfl (op_indexT (xs := [⟨#[48, 109]⟩, ⟨#[48, 59, 55, 109]⟩, ⟨#[48, 59, 52, 109]⟩, ⟨#[48, 59, 55, 59, 52, 109]⟩, ⟨#[48, 59, 49, 109]⟩, ⟨#[48, 59, 55, 59, 49, 109]⟩, ⟨#[48, 59, 52, 59, 49, 109]⟩, ⟨#[48, 59, 55, 59, 52, 59, 49, 109]⟩]) (enc := fun s : ByteArray => [Cell.str s]) und_53 siz_9 rfl rfl (Sl.of_row mem_ rfl) (fun _ => rfl) rfl (by show m < 8; omega) fun b7 o7 z7 h7 e7 => ?_)
  refine w_o rfl rfl rfl (op_load1 agg_9 rfl el_ ?_)
  refine w_o rfl rfl rfl (op_assign rfl ?_)
  refine w_end ?_
  refine seq_normal ?_
  refine w_ret ?_
  exact ret_ret rfl sel_ (k z7 (key m (by omega) z7 h7))
theorem R10Bytes_w {H : Hyp} {K : V → Hyp → Prop} {o : OutS} (hm : mayO o = true) (k : ∀ t, bl t = bytesL o → K (vS t) H) : CallW Try.prog Xs 30 [.one (.agg (encO o))] H K := by
  obtain ⟨n1, n2, n3, n4, n5, n6, n7, n8⟩ := may_num hm
  refine call_of (n := 54) (fun _ => rfl) Try.func30 rfl rfl ?_
  refine w_seq ?_
  refine w_region ?_
  refine w_o rfl rfl rfl (op_box rfl fun b1 => ?_)
  refine w_o rfl rfl rfl (op_assign rfl ?_)
  refine w_end ?_
  refine seq_normal ?_
  refine w_seq ?_
  refine w_region ?_
  refine w_o rfl rfl rfl (op_assign rfl ?_)
  refine w_end ?_
  refine seq_normal ?_
  refine w_seq ?_
  refine w_seq ?_
  refine w_region ?_
  refine w_o rfl rfl rfl (op_fieldAddr fa_31_0 rfl ?_)
  refine w_o rfl rfl rfl (op_loadF agg_3 rfl el_ rfl ?_)
  refine w_o rfl rfl rfl (op_eq rfl rfl ?_)
  refine w_end ?_
  refine seq_normal ?_
  first | refine w_cond rfl (fun hI1 => ?_) (fun hI1 => ?_) | refine w_condB rfl (fun hI1 => ?_) (fun hI1 => ?_)
  · refine w_seq ?_
    refine w_region ?_
    refine w_o rfl rfl rfl (op_fieldAddr fa_31_3 rfl ?_)
    refine w_o rfl rfl rfl (op_loadF agg_9 rfl el_ rfl ?_)
    refine w_o rfl rfl rfl (op_assign rfl ?_)
    refine w_end ?_
    refine seq_normal ?_
    refine w_ret ?_
    refine seq_ret ?_
    exact ret_ret rfl sel_ (k _ (bytes_text hI1).symm)
  · refine w_skip ?_
    refine seq_normal ?_
    refine w_seq ?_
    refine w_seq ?_
    refine w_region ?_
    refine w_o rfl rfl rfl (op_fieldAddr fa_31_0 rfl ?_)
    refine w_o rfl rfl rfl (op_loadF agg_3 rfl el_ rfl ?_)
    refine w_o rfl rfl rfl (op_eq rfl rfl ?_)
    refine w_end ?_
    refine seq_normal ?_
    first | refine w_cond rfl (fun hI2 => ?_) (fun hI2 => ?_) | refine w_condB rfl (fun hI2 => ?_) (fun hI2 => ?_)
    · refine w_seq ?_
      refine w_drawF ((b1, .row true 31 1 (encO o)) :: H) sel_ (by decide +kernel) (by decide +kernel) ?_
      refine f_b (guard_none rfl) rfl rfl rfl rfl (op_move rfl ?_)
      refine f_b (guard_none rfl) rfl rfl rfl rfl (op_fieldAddr fa_31_1 rfl ?_)
      refine f_l (guard_none rfl) rfl rfl rfl sel_ (op_loadF agg_3 rfl el_ rfl rfl) ?_
      refine f_m (guard_none rfl) rfl rfl rfl (op_call rfl rfl rfl ?_)
      refine R01Dec_w (n := o.f1) (by omega) (by omega) ?_
      have ds1 := decB_size o.f1 (by omega) (by omega)
      refine ⟨sel_, ?_⟩
      refine f_b (guard_none rfl) rfl rfl rfl rfl (op_stradd rfl rfl (by show 2 + (decB o.f1).size ≤ _; omega) ?_)
      refine f_b (guard_none rfl) rfl rfl rfl rfl (op_stradd rfl rfl (by rw [ByteArray.size_append]; show 2 + (decB o.f1).size + 1 ≤ _; omega) ?_)
      refine f_b (guard_none rfl) rfl rfl rfl rfl (op_fieldAddr fa_31_2 rfl ?_)
      refine f_l (guard_none rfl) rfl rfl rfl sel_ (op_loadF agg_3 rfl el_ rfl rfl) ?_
      refine f_m (guard_none rfl) rfl rfl rfl (op_call rfl rfl rfl ?_)
      refine R01Dec_w (n := o.f2) (by omega) (by omega) ?_
      have ds2 := decB_size o.f2 (by omega) (by omega)
      refine ⟨sel_, ?_⟩
      refine f_b (guard_none rfl) rfl rfl rfl rfl (op_stradd rfl rfl (by rw [ByteArray.size_append, ByteArray.size_append]; show 2 + (decB o.f1).size + 1 + (decB o.f2).size ≤ _; omega) ?_)
      refine f_b (guard_none rfl) rfl rfl rfl rfl (op_stradd rfl rfl (by rw [ByteArray.size_append, ByteArray.size_append, ByteArray.size_append]; show 2 + (decB o.f1).size + 1 + (decB o.f2).size + 1 ≤ _; omega) ?_)
      refine f_b (guard_none rfl) rfl rfl rfl rfl (op_assign rfl ?_)
      refine f_end ?_
      refine seq_normal ?_
      refine w_ret ?_
      refine seq_ret ?_
      refine ret_ret rfl sel_ (k _ ?_)
      rw [esc1 hI2]
      simp only [bl_append]
      rw [decB_dec (by omega), decB_dec (by omega)]
      simp [bl, begB]
    · refine w_skip ?_
      refine seq_normal ?_
      refine w_seq ?_
      refine w_seq ?_
      refine w_region ?_
      refine w_o rfl rfl rfl (op_fieldAddr fa_31_0 rfl ?_)
      refine w_o rfl rfl rfl (op_loadF agg_3 rfl el_ rfl ?_)
      refine w_o rfl rfl rfl (op_eq rfl rfl ?_)
      refine w_end ?_
      refine seq_normal ?_
      first | refine w_cond rfl (fun hI3 => ?_) (fun hI3 => ?_) | refine w_condB rfl (fun hI3 => ?_) (fun hI3 => ?_)
      · refine w_seq ?_
        refine w_region ?_
        refine w_o rfl rfl rfl (op_move rfl ?_)
        refine w_o rfl rfl rfl (op_fieldAddr fa_31_1 rfl ?_)
        refine w_o rfl rfl rfl (op_loadF agg_3 rfl el_ rfl ?_)
        refine w_o rfl rfl rfl (op_call rfl rfl rfl ?_)
        refine R10Looks_w (by omega) (by omega) fun t ht => ?_
        have hts : t.size ≤ 10 := by
          have key : ∀ k : Nat, k < 8 → ((looksT[k]?).getD []).length ≤ 10 := by decide
          have := key o.f1.toNat (by omega)
          have e := congrArg List.length ht
          rw [bl_len] at e
          rw [e]; exact this
        refine w_o rfl rfl rfl (op_stradd rfl rfl (by show 2 + t.size ≤ _; omega) ?_)
        refine w_o rfl rfl rfl (op_assign rfl ?_)
        refine w_end ?_
        refine seq_normal ?_
        refine w_ret ?_
        refine seq_ret ?_
        refine ret_ret rfl sel_ (k _ ?_)
        rw [esc4 hI3, bl_append, ht]; rfl
      · refine w_skip ?_
        refine seq_normal ?_
        refine w_seq ?_
        refine w_seq ?_
        refine w_region ?_
        refine w_o rfl rfl rfl (op_fieldAddr fa_31_0 rfl ?_)
        refine w_o rfl rfl rfl (op_loadF agg_3 rfl el_ rfl ?_)
        refine w_o rfl rfl rfl (op_eq rfl rfl ?_)
        refine w_o rfl rfl rfl (op_move rfl ?_)
        first | refine w_known (t := 35) rfl (fun g35 => ?_) (fun g35 => ?_) | refine w_knownB (t := 35) rfl (fun g35 => ?_) (fun g35 => ?_)
        · refine w_og rfl rfl rfl rfl rfl (op_fieldAddr fa_31_1 rfl ?_)
          refine w_og rfl rfl rfl rfl rfl (op_loadF agg_3 rfl el_ rfl ?_)
          refine w_og rfl rfl rfl rfl rfl (op_eq rfl rfl ?_)
          refine w_o rfl rfl rfl (op_pick rfl rfl rfl ?_)
          refine w_end ?_
          refine seq_normal ?_
          first | refine w_cond rfl (fun hI4 => ?_) (fun hI4 => ?_) | refine w_condB rfl (fun hI4 => ?_) (fun hI4 => ?_)
          · refine w_seq ?_
            refine w_region ?_
            refine w_o rfl rfl rfl (op_move rfl ?_)
            refine w_o rfl rfl rfl (op_stradd rfl rfl (by decide) ?_)
            refine w_o rfl rfl rfl (op_assign rfl ?_)
            refine w_end ?_
            refine seq_normal ?_
            refine w_ret ?_
            refine seq_ret ?_
            refine ret_ret rfl sel_ (k _ ?_)
            rw [esc51 (by omega) (by omega)]; rfl
          · refine w_skip ?_
            refine seq_normal ?_
            refine w_seq ?_
            refine w_region ?_
            refine w_o rfl rfl rfl (op_move rfl ?_)
            refine w_o rfl rfl rfl (op_stradd rfl rfl (by decide) ?_)
            refine w_o rfl rfl rfl (op_move rfl ?_)
            refine w_o rfl rfl rfl (op_stradd rfl rfl (by decide) ?_)
            refine w_o rfl rfl rfl (op_move rfl ?_)
            refine w_o rfl rfl rfl (op_stradd rfl rfl (by decide) ?_)
            refine w_o rfl rfl rfl (op_buildSlice rfl (bsl_53 _ _ _ (rfl : _ = some [_, _, _, _, _, _, _, _, _]) rfl (by decide)) fun b48 => ?_)
            have hk : o.f0 = 2 ∨ o.f0 = 3 ∨ (o.f0 = 5 ∧ o.f1 = 0) ∨ o.f0 = 6 ∨ o.f0 = 7 ∨ o.f0 = 8 := by omega
            refine w_o rfl rfl rfl (op_assign rfl ?_)
            refine w_end ?_
            refine seq_normal ?_
            refine w_seq ?_
            refine w_region ?_
            refine w_o rfl rfl rfl (op_move rfl ?_)
            refine w_o rfl rfl rfl (op_fieldAddr fa_31_0 rfl ?_)
            refine w_o rfl rfl rfl (op_loadF agg_3 rfl el_ rfl ?_)
            refine w_o rfl rfl rfl (op_indexT (xs := [⟨#[]⟩, ⟨#[]⟩, ⟨#[27, 91]⟩ ++ ⟨#[50, 74]⟩, ⟨#[27, 91]⟩ ++ ⟨#[75]⟩, ⟨#[]⟩, ⟨#[27, 91]⟩ ++ ⟨#[63, 50, 48, 48, 52, 108]⟩, ⟨#[7]⟩, ⟨#[13]⟩, ⟨#[10]⟩]) (j := o.f0.toNat) (enc := fun s : ByteArray => [Cell.str s]) und_53 siz_9 rfl rfl (Sl.of_row mem_ rfl) (fun _ => rfl) (by omega) (by show o.f0.toNat < 9; omega) fun b52 o52 z52 h52 e52 => ?_)
            refine w_o rfl rfl rfl (op_load1 agg_9 rfl el_ ?_)
            refine w_o rfl rfl rfl (op_assign rfl ?_)
            refine w_end ?_
            refine seq_normal ?_
            refine w_ret ?_
            refine ret_ret rfl sel_ (k z52 ?_)
            rcases hk with q | q | ⟨q, q1⟩ | q | q | q
            · rw [q] at h52; rw [esc2 q, ← Option.some.inj h52]; rfl
            · rw [q] at h52; rw [esc3 q, ← Option.some.inj h52]; rfl
            · rw [q] at h52; rw [esc50 q q1, ← Option.some.inj h52]; rfl
            · rw [q] at h52; rw [bts6 q, ← Option.some.inj h52]
            · rw [q] at h52; rw [bts7 q, ← Option.some.inj h52]
            · rw [q] at h52; rw [bts8 q, ← Option.some.inj h52]
        · refine w_u rfl rfl rfl rfl rfl rfl ?_
          refine w_u rfl rfl rfl rfl rfl rfl ?_
          refine w_u rfl rfl rfl rfl rfl rfl ?_
          refine w_o rfl rfl rfl (op_pick rfl rfl rfl ?_)
          refine w_end ?_
          refine seq_normal ?_
          refine w_condF rfl ?_
          refine w_skip ?_
          refine seq_normal ?_
          refine w_seq ?_
          refine w_region ?_
          refine w_o rfl rfl rfl (op_move rfl ?_)
          refine w_o rfl rfl rfl (op_stradd rfl rfl (by decide) ?_)
          refine w_o rfl rfl rfl (op_move rfl ?_)
          refine w_o rfl rfl rfl (op_stradd rfl rfl (by decide) ?_)
          refine w_o rfl rfl rfl (op_move rfl ?_)
          refine w_o rfl rfl rfl (op_stradd rfl rfl (by decide) ?_)
          refine w_o rfl rfl rfl (op_buildSlice rfl (bsl_53 _ _ _ (rfl : _ = some [_, _, _, _, _, _, _, _, _]) rfl (by decide)) fun b48 => ?_)
          have hk : o.f0 = 2 ∨ o.f0 = 3 ∨ (o.f0 = 5 ∧ o.f1 = 0) ∨ o.f0 = 6 ∨ o.f0 = 7 ∨ o.f0 = 8 := by omega
          refine w_o rfl rfl rfl (op_assign rfl ?_)
          refine w_end ?_
          refine seq_normal ?_
          refine w_seq ?_
          refine w_region ?_
          refine w_o rfl rfl rfl (op_move rfl ?_)
          refine w_o rfl rfl rfl (op_fieldAddr fa_31_0 rfl ?_)
          refine w_o rfl rfl rfl (op_loadF agg_3 rfl el_ rfl ?_)
          refine w_o rfl rfl rfl (op_indexT (xs := [⟨#[]⟩, ⟨#[]⟩, ⟨#[27, 91]⟩ ++ ⟨#[50, 74]⟩, ⟨#[27, 91]⟩ ++ ⟨#[75]⟩, ⟨#[]⟩, ⟨#[27, 91]⟩ ++ ⟨#[63, 50, 48, 48, 52, 108]⟩, ⟨#[7]⟩, ⟨#[13]⟩, ⟨#[10]⟩]) (j := o.f0.toNat) (enc := fun s : ByteArray => [Cell.str s]) und_53 siz_9 rfl rfl (Sl.of_row mem_ rfl) (fun _ => rfl) (by omega) (by show o.f0.toNat < 9; omega) fun b52 o52 z52 h52 e52 => ?_)
          refine w_o rfl rfl rfl (op_load1 agg_9 rfl el_ ?_)
          refine w_o rfl rfl rfl (op_assign rfl ?_)
          refine w_end ?_
          refine seq_normal ?_
          refine w_ret ?_
          refine ret_ret rfl sel_ (k z52 ?_)
          rcases hk with q | q | ⟨q, q1⟩ | q | q | q
          · rw [q] at h52; rw [esc2 q, ← Option.some.inj h52]; rfl
          · rw [q] at h52; rw [esc3 q, ← Option.some.inj h52]; rfl
          · rw [q] at h52; rw [esc50 q q1, ← Option.some.inj h52]; rfl
          · rw [q] at h52; rw [bts6 q, ← Option.some.inj h52]
          · rw [q] at h52; rw [bts7 q, ← Option.some.inj h52]
          · rw [q] at h52; rw [bts8 q, ← Option.some.inj h52]
theorem R10Text_w {H : Hyp} {K : V → Hyp → Prop} {c : Cell} {l : List OutS} (h : Sl H 31 4 c l.length (l.flatMap encO)) (hl : l.length ≤ 100000) (hm : ∀ o ∈ l, mayO o = true) (ht : ∀ o ∈ l, o.f3.size ≤ 1000000) (k : ∀ t, bl t = textL l → K (vS t) H) : CallW Try.prog Xs 16 [.one (.c c)] H K := by
  refine call_of (n := 19) (fun _ => rfl) Try.func16 rfl rfl ?_
  refine w_seq ?_
  refine w_region ?_
  refine w_o rfl rfl rfl (op_assign rfl ?_)
  refine w_end ?_
  refine seq_normal ?_
  refine w_seq ?_
  refine w_region ?_
  refine w_o rfl rfl rfl (op_assign rfl ?_)
  refine w_end ?_
  refine seq_normal ?_
  refine w_seq ?_
  refine w_seq ?_
  refine w_region ?_
  refine w_o rfl rfl rfl (op_assign rfl ?_)
  refine w_end ?_
  refine seq_normal ?_
  refine w_block ?_
  refine w_loop (fun m e H' => ∃ (i : Nat) (t : ByteArray), i ≤ l.length ∧ bl t = textL (l.take i) ∧ t.size ≤ i * 1000030 ∧ m = l.length - i ∧ H = H' ∧ e = [(0, .one (.c c)), (3, vS t), (4, vI (i : Nat))]) ?_ ?_
  · exact ⟨_, _, _, ⟨0, ⟨#[]⟩, Nat.zero_le _, rfl, Nat.zero_le _, rfl, rfl, rfl⟩, env_, sel_⟩
  · rintro m e H' ⟨i, t, hi, hbt, hts, rfl, rfl, rfl⟩
    refine w_seq ?_
    refine w_seq ?_
    refine w_region ?_
    refine w_o rfl rfl rfl (op_move rfl ?_)
    refine w_o rfl rfl rfl (op_move rfl ?_)
    refine w_o rfl rfl rfl (op_lenC und_22 rfl h.lenC ?_)
    refine w_o rfl rfl rfl (op_lt rfl rfl ?_)
    refine w_end ?_
    refine seq_normal ?_
    first | refine w_cond rfl (fun hI1 => ?_) (fun hI1 => ?_) | refine w_condB rfl (fun hI1 => ?_) (fun hI1 => ?_)
    · refine w_skip ?_
      refine seq_normal ?_
      refine w_seq ?_
      refine w_block ?_
      refine w_region ?_
      refine w_o rfl rfl rfl (op_move rfl ?_)
      refine w_o rfl rfl rfl (op_move rfl ?_)
      refine w_o rfl rfl rfl (op_move rfl ?_)
      refine w_o rfl rfl rfl (op_indexT (xs := l) (enc := encO) und_22 siz_31 rfl rfl h (fun _ => rfl) rfl (by omega) fun b14 o14 z14 h14 e14 => ?_)
      refine w_o rfl rfl rfl (op_loadA agg_31 siz_31 rfl rfl el_ ?_)
      refine w_o rfl rfl rfl (op_call rfl rfl rfl ?_)
      refine R10Bytes_w (hm z14 (List.mem_of_getElem? h14)) fun t2 ht2 => ?_
      have hs2 : t2.size ≤ 1000030 := by
        have e := congrArg List.length ht2
        have h1 := bytesL_len (hm z14 (List.mem_of_getElem? h14))
        have h2 := ht z14 (List.mem_of_getElem? h14)
        rw [bl_len] at e
        omega
      refine w_o rfl rfl rfl (op_stradd rfl rfl (by omega) ?_)
      refine w_o rfl rfl rfl (op_assign rfl ?_)
      refine w_end ?_
      refine block_normal ?_
      refine seq_normal ?_
      refine w_region ?_
      refine w_o rfl rfl rfl (op_move rfl ?_)
      refine w_o rfl rfl rfl (op_addi rfl rfl (by omega) (by omega) ?_)
      refine w_o rfl rfl rfl (op_assign rfl ?_)
      refine w_end ?_
      exact loop_normal (k' := l.length - (i + 1)) (by omega) ⟨i + 1, t ++ t2, by omega, by rw [bl_append, hbt, ht2, textL_snoc l i z14 h14], by rw [ByteArray.size_append]; omega, rfl, rfl, rfl⟩ env_ sel_
    · refine w_exit ?_
      refine seq_exit ?_
      refine loop_exit ?_
      refine block_hit rfl ?_
      refine seq_normal ?_
      refine w_seq ?_
      refine w_region ?_
      refine w_o rfl rfl rfl (op_move rfl ?_)
      refine w_o rfl rfl rfl (op_assign rfl ?_)
      refine w_end ?_
      refine seq_normal ?_
      refine w_ret ?_
      have hi' : i = l.length := by omega
      rw [hi', List.take_length] at hbt
      exact ret_ret rfl sel_ (k t hbt)
theorem eqO_iff (a b : OutS) : eqO a b = true ↔ a = b := by
  unfold eqO
  simp only [Bool.and_eq_true, beq_iff_eq, ba_beq]
  exact ⟨fun q => may_eta q.1 q.2.1 q.2.2.1 q.2.2.2, fun q => by rw [q]; exact ⟨rfl, rfl, rfl, rfl⟩⟩
theorem R10Same_w {H : Hyp} {K : V → Hyp → Prop} {c c' : Cell} {l l' : List OutS} (h : Sl H 31 4 c l.length (l.flatMap encO)) (h' : Sl H 31 4 c' l'.length (l'.flatMap encO)) (hl : l.length ≤ 1000000) (k1 : l = l' → K (vB true) H) (k2 : l ≠ l' → K (vB false) H) : CallW Try.prog Xs 11 [.one (.c c), .one (.c c')] H K := by
  refine call_of (n := 26) (fun _ => rfl) Try.func11 rfl rfl ?_
  refine w_seq ?_
  refine w_region ?_
  refine w_o rfl rfl rfl (op_assign rfl ?_)
  refine w_end ?_
  refine seq_normal ?_
  refine w_seq ?_
  refine w_seq ?_
  refine w_region ?_
  refine w_o rfl rfl rfl (op_move rfl ?_)
  refine w_o rfl rfl rfl (op_lenC und_22 rfl h.lenC ?_)
  refine w_o rfl rfl rfl (op_move rfl ?_)
  refine w_o rfl rfl rfl (op_lenC und_22 rfl h'.lenC ?_)
  refine w_o rfl rfl rfl (op_ne rfl rfl ?_)
  refine w_end ?_
  refine seq_normal ?_
  first | refine w_cond rfl (fun hI1 => ?_) (fun hI1 => ?_) | refine w_condB rfl (fun hI1 => ?_) (fun hI1 => ?_)
  · refine w_seq ?_
    refine w_region ?_
    refine w_o rfl rfl rfl (op_assign rfl ?_)
    refine w_end ?_
    refine seq_normal ?_
    refine w_ret ?_
    refine seq_ret ?_
    exact ret_ret rfl sel_ (k2 fun q => hI1 (by rw [q]))
  · have heq : l.length = l'.length := by omega
    refine w_skip ?_
    refine seq_normal ?_
    refine w_seq ?_
    refine w_seq ?_
    refine w_region ?_
    refine w_o rfl rfl rfl (op_assign rfl ?_)
    refine w_end ?_
    refine seq_normal ?_
    refine w_block ?_
    refine w_loop (fun m e H' => ∃ (i : Nat), i ≤ l.length ∧ m = l.length - i ∧ (∀ (j : Nat), j < i → l[j]? = l'[j]?) ∧ H = H' ∧ e = [(0, .one (.c c)), (1, .one (.c c')), (5, vI (i : Nat))]) ?_ ?_
    · exact ⟨_, _, _, ⟨0, Nat.zero_le _, rfl, (fun j hj => absurd hj (Nat.not_lt_zero _)), rfl, rfl⟩, env_, sel_⟩
    · rintro m e H' ⟨i, hi, rfl, hp, rfl, rfl⟩
      refine w_seq ?_
      refine w_seq ?_
      refine w_region ?_
      refine w_o rfl rfl rfl (op_move rfl ?_)
      refine w_o rfl rfl rfl (op_move rfl ?_)
      refine w_o rfl rfl rfl (op_lenC und_22 rfl h.lenC ?_)
      refine w_o rfl rfl rfl (op_lt rfl rfl ?_)
      refine w_end ?_
      refine seq_normal ?_
      first | refine w_cond rfl (fun hI2 => ?_) (fun hI2 => ?_) | refine w_condB rfl (fun hI2 => ?_) (fun hI2 => ?_)
      · refine w_skip ?_
        refine seq_normal ?_
        refine w_seq ?_
        refine w_block ?_
        refine w_seq ?_
        refine w_draw (by decide +kernel) (by decide +kernel) ?_
        refine w_d rfl rfl rfl (op_move rfl ?_)
        refine w_d rfl rfl rfl (op_move rfl ?_)
        refine w_d rfl rfl rfl (op_indexT (xs := l) (enc := encO) und_22 siz_31 rfl rfl h (fun _ => rfl) rfl (by omega) fun b19 o19 z19 h19 e19 => ?_)
        refine w_d rfl rfl rfl (op_loadA agg_31 siz_31 rfl rfl el_ ?_)
        refine w_d rfl rfl rfl (op_move rfl ?_)
        refine w_d rfl rfl rfl (op_move rfl ?_)
        refine w_d rfl rfl rfl (op_indexT (xs := l') (enc := encO) und_22 siz_31 rfl rfl h' (fun _ => rfl) rfl (by omega) fun b23 o23 z23 h23 e23 => ?_)
        refine w_d rfl rfl rfl (op_loadA agg_31 siz_31 rfl rfl el_ ?_)
        refine w_d rfl rfl rfl (op_nes_31 rfl rfl ?_)
        refine w_end ?_
        refine seq_normal ?_
        first | refine w_cond rfl (fun hI3 => ?_) (fun hI3 => ?_) | refine w_condB rfl (fun hI3 => ?_) (fun hI3 => ?_)
        · refine w_seq ?_
          refine w_region ?_
          refine w_o rfl rfl rfl (op_assign rfl ?_)
          refine w_end ?_
          refine seq_normal ?_
          refine w_ret ?_
          refine block_ret ?_
          refine seq_ret ?_
          refine loop_ret ?_
          refine block_ret ?_
          refine seq_ret ?_
          refine ret_ret rfl sel_ (k2 fun q => ?_)
          subst q
          rw [h19] at h23
          cases h23
          have e : eqO z19 z19 = true := (eqO_iff _ _).2 rfl
          have q2 : (!eqO z19 z19) = true := hI3
          rw [e] at q2; cases q2
        · refine w_skip ?_
          refine block_normal ?_
          refine seq_normal ?_
          refine w_region ?_
          refine w_o rfl rfl rfl (op_move rfl ?_)
          refine w_o rfl rfl rfl (op_addi rfl rfl (by omega) (by omega) ?_)
          refine w_o rfl rfl rfl (op_assign rfl ?_)
          refine w_end ?_
          refine loop_normal (k' := l.length - (i + 1)) (by omega) ⟨i + 1, by omega, rfl, (fun j hj => ?_), rfl, rfl⟩ env_ sel_
          rcases Nat.lt_or_ge j i with q | q
          · exact hp j q
          · obtain rfl : j = i := by omega
            have q2 : (!eqO z19 z23) = false := hI3
            rw [h19, h23, (eqO_iff z19 z23).1 (by simpa using q2)]
      · refine w_exit ?_
        refine seq_exit ?_
        refine loop_exit ?_
        refine block_hit rfl ?_
        refine seq_normal ?_
        refine w_seq ?_
        refine w_region ?_
        refine w_o rfl rfl rfl (op_assign rfl ?_)
        refine w_end ?_
        refine seq_normal ?_
        refine w_ret ?_
        have hi' : i = l.length := by omega
        refine ret_ret rfl sel_ (k1 ?_)
        apply List.ext_getElem?
        intro j
        rcases Nat.lt_or_ge j l.length with q | q
        · exact hp j (by omega)
        · rw [List.getElem?_eq_none q, List.getElem?_eq_none (by omega)]
theorem canon_at : ∀ {l : List OutS} {i : Nat} {y x : OutS}, canon l → l[i]? = some y → l[i + 1]? = some x → ¬ (isT y = true ∧ isT x = true)
  | [], i, y, x, _, h, _ => by simp at h
  | [a], i, y, x, _, _, h2 => by simp at h2
  | a :: b :: l, 0, y, x, hc, h, h2 => by
    simp at h h2
    subst h h2
    exact hc.1
  | a :: b :: l, i + 1, y, x, hc, h, h2 => canon_at (l := b :: l) (i := i) hc.2 (by simpa using h) (by simpa using h2)
/-- What has no two texts side by side is joined already. -/
theorem R10JoinedC_w {H : Hyp} {K : V → Hyp → Prop} {c : Cell} {l : List OutS} (h : Sl H 31 4 c l.length (l.flatMap encO)) (hl : l.length ≤ 100000) (hc : canon l) (k : ∀ c N, Own 31 4 c (l.flatMap encO) N → K (.one (.c c)) (N ++ H)) : CallW Try.prog Xs 17 [.one (.c c)] H K := by
  refine call_of (n := 65) (fun _ => rfl) Try.func17 rfl rfl ?_
  refine w_seq ?_
  refine w_region ?_
  refine w_o rfl rfl rfl (op_assign rfl ?_)
  refine w_end ?_
  refine seq_normal ?_
  refine w_seq ?_
  refine w_region ?_
  refine w_o rfl rfl rfl (op_assign rfl ?_)
  refine w_end ?_
  refine seq_normal ?_
  refine w_seq ?_
  refine w_seq ?_
  refine w_region ?_
  refine w_o rfl rfl rfl (op_assign rfl ?_)
  refine w_end ?_
  refine seq_normal ?_
  refine w_block ?_
  refine w_loop (fun m e H' => ∃ (i : Nat) (c' : Cell) (N : Hyp), i ≤ l.length ∧ m = l.length - i ∧ Own 31 4 c' ((l.take i).flatMap encO) N ∧ H' = N ++ H ∧ e = [(0, .one (.c c)), (3, .one (.c c')), (4, vI (i : Nat))]) ?_ ?_
  · exact ⟨_, _, _, ⟨0, .nils, [], Nat.zero_le _, rfl, .nil, rfl, rfl⟩, env_, sel_⟩
  · rintro m e H' ⟨i, c', N, hi, rfl, hO, rfl, rfl⟩
    have hlt : (l.take i).length = i := by rw [List.length_take]; omega
    refine w_seq ?_
    refine w_seq ?_
    refine w_region ?_
    refine w_o rfl rfl rfl (op_move rfl ?_)
    refine w_o rfl rfl rfl (op_move rfl ?_)
    refine w_o rfl rfl rfl (op_lenC und_22 rfl h.lenC ?_)
    refine w_o rfl rfl rfl (op_lt rfl rfl ?_)
    refine w_end ?_
    refine seq_normal ?_
    first | refine w_cond rfl (fun hI1 => ?_) (fun hI1 => ?_) | refine w_condB rfl (fun hI1 => ?_) (fun hI1 => ?_)
    · refine w_skip ?_
      refine seq_normal ?_
      refine w_seq ?_
      refine w_block ?_
      refine w_seq ?_
      refine w_region ?_
      refine w_o rfl rfl rfl (op_move rfl ?_)
      refine w_o rfl rfl rfl (op_lenC und_22 rfl (n := i) (by rw [← hlt]; exact Own.lenT hO (fun _ => rfl) (by decide)) ?_)
      refine w_o rfl rfl rfl (op_assign rfl ?_)
      refine w_end ?_
      refine seq_normal ?_
      refine w_seq ?_
      refine w_seq ?_
      refine w_region ?_
      refine w_o rfl rfl rfl (op_move rfl ?_)
      refine w_o rfl rfl rfl (op_gt rfl rfl ?_)
      refine w_o rfl rfl rfl (op_move rfl ?_)
      first | refine w_known (t := 17) rfl (fun g17 => ?_) (fun g17 => ?_) | refine w_knownB (t := 17) rfl (fun g17 => ?_) (fun g17 => ?_)
      · refine w_og rfl rfl rfl rfl rfl (op_move rfl ?_)
        refine w_og rfl rfl rfl rfl rfl (op_move rfl ?_)
        refine w_og rfl rfl rfl rfl rfl (op_indexT (xs := l) (enc := encO) und_22 siz_31 rfl rfl h.app (fun _ => rfl) rfl (by omega) fun b20 o20 z20 h20 e20 => ?_)
        refine w_og rfl rfl rfl rfl rfl (op_fieldAddr fa_31_0 rfl ?_)
        refine w_og rfl rfl rfl rfl rfl (op_loadF agg_3 rfl el_ rfl ?_)
        refine w_og rfl rfl rfl rfl rfl (op_eq rfl rfl ?_)
        refine w_o rfl rfl rfl (op_pick rfl rfl rfl ?_)
        refine w_o rfl rfl rfl (op_move rfl ?_)
        first | refine w_known (t := 25) rfl (fun g25 => ?_) (fun g25 => ?_) | refine w_knownB (t := 25) rfl (fun g25 => ?_) (fun g25 => ?_)
        · refine w_og rfl rfl rfl rfl rfl (op_move rfl ?_)
          refine w_og rfl rfl rfl rfl rfl (op_move rfl ?_)
          refine w_og rfl rfl rfl rfl rfl (op_subi rfl rfl (by omega) (by omega) ?_)
          refine w_og rfl rfl rfl rfl rfl (op_indexT (xs := l.take i) (enc := encO) und_22 siz_31 rfl rfl (Own.slT hO (fun _ => rfl) (by decide) subs_) (fun _ => rfl) (j := i - 1) (by omega) (by omega) fun b29 o29 z29 h29 e29 => ?_)
          refine w_og rfl rfl rfl rfl rfl (op_fieldAddr fa_31_0 rfl ?_)
          refine w_og rfl rfl rfl rfl rfl (op_loadF agg_3 rfl el_ rfl ?_)
          refine w_og rfl rfl rfl rfl rfl (op_eq rfl rfl ?_)
          have hno : ¬ (z29.f0 = 0) := by
            intro q
            rw [List.getElem?_take_of_lt (by omega)] at h29
            exact canon_at hc h29 (by rw [show i - 1 + 1 = i by omega]; exact h20) ⟨decide_eq_true q, decide_eq_true (by assumption)⟩
          refine w_o rfl rfl rfl (op_pick rfl rfl rfl ?_)
          refine w_end ?_
          refine seq_normal ?_
          refine w_condN rfl (hno) ?_
          refine w_skip ?_
          refine seq_normal ?_
          refine w_region ?_
          refine w_o rfl rfl rfl (op_move rfl ?_)
          refine w_o rfl rfl rfl (op_move rfl ?_)
          refine w_o rfl rfl rfl (op_move rfl ?_)
          refine w_o rfl rfl rfl (op_indexT (xs := l) (enc := encO) und_22 siz_31 rfl rfl h.app (fun _ => rfl) rfl (by omega) fun b60 o60 z60 h60 e60 => ?_)
          refine w_o rfl rfl rfl (op_loadA agg_31 siz_31 rfl rfl el_ ?_)
          refine w_o rfl rfl rfl (op_buildSlice rfl (bsl_22 _ _ _ (rfl : _ = some [_, _, _, _]) rfl (by decide)) fun b62 => ?_)
          refine w_o rfl rfl rfl (op_append1 (enc := encO) (z0 := z60) elm_22 inf_31 zer_31 (by decide) und_22 rfl rfl hO (fun _ => rfl) (by (repeat (first | exact PickL.front _ _ | exact PickL.nil _ | apply PickL.skip | apply PickL.skipL)); first | done | fail) rfl (by omega) fun c63 N63 h63 => ?_)
          refine w_o rfl rfl rfl (op_assign rfl ?_)
          refine w_end ?_
          refine block_normal ?_
          refine seq_normal ?_
          refine w_region ?_
          refine w_o rfl rfl rfl (op_move rfl ?_)
          refine w_o rfl rfl rfl (op_addi rfl rfl (by omega) (by omega) ?_)
          refine w_o rfl rfl rfl (op_assign rfl ?_)
          refine w_end ?_
          have e1 : l.take (i + 1) = l.take i ++ [z60] := by rw [List.take_add_one, h60]; rfl
          exact loop_normal (k' := l.length - (i + 1)) (by omega) ⟨i + 1, c63, N63, by omega, rfl, by rw [e1]; exact h63, rfl, rfl⟩ env_ sel_
        · refine w_u rfl rfl rfl rfl rfl rfl ?_
          refine w_u rfl rfl rfl rfl rfl rfl ?_
          refine w_u rfl rfl rfl rfl rfl rfl ?_
          refine w_u rfl rfl rfl rfl rfl rfl ?_
          refine w_u rfl rfl rfl rfl rfl rfl ?_
          refine w_u rfl rfl rfl rfl rfl rfl ?_
          refine w_u rfl rfl rfl rfl rfl rfl ?_
          refine w_o rfl rfl rfl (op_pick rfl rfl rfl ?_)
          refine w_end ?_
          refine seq_normal ?_
          refine w_condF rfl ?_
          refine w_skip ?_
          refine seq_normal ?_
          refine w_region ?_
          refine w_o rfl rfl rfl (op_move rfl ?_)
          refine w_o rfl rfl rfl (op_move rfl ?_)
          refine w_o rfl rfl rfl (op_move rfl ?_)
          refine w_o rfl rfl rfl (op_indexT (xs := l) (enc := encO) und_22 siz_31 rfl rfl h.app (fun _ => rfl) rfl (by omega) fun b60 o60 z60 h60 e60 => ?_)
          refine w_o rfl rfl rfl (op_loadA agg_31 siz_31 rfl rfl el_ ?_)
          refine w_o rfl rfl rfl (op_buildSlice rfl (bsl_22 _ _ _ (rfl : _ = some [_, _, _, _]) rfl (by decide)) fun b62 => ?_)
          refine w_o rfl rfl rfl (op_append1 (enc := encO) (z0 := z60) elm_22 inf_31 zer_31 (by decide) und_22 rfl rfl hO (fun _ => rfl) (by (repeat (first | exact PickL.front _ _ | exact PickL.nil _ | apply PickL.skip | apply PickL.skipL)); first | done | fail) rfl (by omega) fun c63 N63 h63 => ?_)
          refine w_o rfl rfl rfl (op_assign rfl ?_)
          refine w_end ?_
          refine block_normal ?_
          refine seq_normal ?_
          refine w_region ?_
          refine w_o rfl rfl rfl (op_move rfl ?_)
          refine w_o rfl rfl rfl (op_addi rfl rfl (by omega) (by omega) ?_)
          refine w_o rfl rfl rfl (op_assign rfl ?_)
          refine w_end ?_
          have e1 : l.take (i + 1) = l.take i ++ [z60] := by rw [List.take_add_one, h60]; rfl
          exact loop_normal (k' := l.length - (i + 1)) (by omega) ⟨i + 1, c63, N63, by omega, rfl, by rw [e1]; exact h63, rfl, rfl⟩ env_ sel_
      · refine w_u rfl rfl rfl rfl rfl rfl ?_
        refine w_u rfl rfl rfl rfl rfl rfl ?_
        refine w_u rfl rfl rfl rfl rfl rfl ?_
        refine w_u rfl rfl rfl rfl rfl rfl ?_
        refine w_u rfl rfl rfl rfl rfl rfl ?_
        refine w_u rfl rfl rfl rfl rfl rfl ?_
        refine w_o rfl rfl rfl (op_pick rfl rfl rfl ?_)
        refine w_o rfl rfl rfl (op_move rfl ?_)
        refine w_u rfl rfl rfl rfl rfl rfl ?_
        refine w_u rfl rfl rfl rfl rfl rfl ?_
        refine w_u rfl rfl rfl rfl rfl rfl ?_
        refine w_u rfl rfl rfl rfl rfl rfl ?_
        refine w_u rfl rfl rfl rfl rfl rfl ?_
        refine w_u rfl rfl rfl rfl rfl rfl ?_
        refine w_u rfl rfl rfl rfl rfl rfl ?_
        refine w_o rfl rfl rfl (op_pick rfl rfl rfl ?_)
        refine w_end ?_
        refine seq_normal ?_
        refine w_condF rfl ?_
        refine w_skip ?_
        refine seq_normal ?_
        refine w_region ?_
        refine w_o rfl rfl rfl (op_move rfl ?_)
        refine w_o rfl rfl rfl (op_move rfl ?_)
        refine w_o rfl rfl rfl (op_move rfl ?_)
        refine w_o rfl rfl rfl (op_indexT (xs := l) (enc := encO) und_22 siz_31 rfl rfl h.app (fun _ => rfl) rfl (by omega) fun b60 o60 z60 h60 e60 => ?_)
        refine w_o rfl rfl rfl (op_loadA agg_31 siz_31 rfl rfl el_ ?_)
        refine w_o rfl rfl rfl (op_buildSlice rfl (bsl_22 _ _ _ (rfl : _ = some [_, _, _, _]) rfl (by decide)) fun b62 => ?_)
        refine w_o rfl rfl rfl (op_append1 (enc := encO) (z0 := z60) elm_22 inf_31 zer_31 (by decide) und_22 rfl rfl hO (fun _ => rfl) (by (repeat (first | exact PickL.front _ _ | exact PickL.nil _ | apply PickL.skip | apply PickL.skipL)); first | done | fail) rfl (by omega) fun c63 N63 h63 => ?_)
        refine w_o rfl rfl rfl (op_assign rfl ?_)
        refine w_end ?_
        refine block_normal ?_
        refine seq_normal ?_
        refine w_region ?_
        refine w_o rfl rfl rfl (op_move rfl ?_)
        refine w_o rfl rfl rfl (op_addi rfl rfl (by omega) (by omega) ?_)
        refine w_o rfl rfl rfl (op_assign rfl ?_)
        refine w_end ?_
        have e1 : l.take (i + 1) = l.take i ++ [z60] := by rw [List.take_add_one, h60]; rfl
        exact loop_normal (k' := l.length - (i + 1)) (by omega) ⟨i + 1, c63, N63, by omega, rfl, by rw [e1]; exact h63, rfl, rfl⟩ env_ sel_
    · refine w_exit ?_
      refine seq_exit ?_
      refine loop_exit ?_
      refine block_hit rfl ?_
      refine seq_normal ?_
      refine w_seq ?_
      refine w_region ?_
      refine w_o rfl rfl rfl (op_move rfl ?_)
      refine w_o rfl rfl rfl (op_assign rfl ?_)
      refine w_end ?_
      refine seq_normal ?_
      refine w_ret ?_
      have hi' : i = l.length := by omega
      rw [hi', List.take_length] at hO
      exact ret_ret rfl sel_ (k _ _ hO)
end Go.Proofs.Ytigkfladgdknbaa.AM.B
