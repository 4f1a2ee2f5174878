/- The reference's names of keys. -/
import Derived.Test.YteghmemcikiblaaAX
import Derived.Test.YteghmemcikiblaaBkey4
set_option linter.unusedVariables false
set_option linter.unusedSimpArgs false
set_option maxRecDepth 10000
set_option maxHeartbeats 4000000
namespace Go.Proofs.Yteghmemcikiblaa.AM.B
open Go Go.RowKit
/-! ### The reference -/
theorem any_tab {x : KeyS} (h : tableV.any (ofP x) = true) : (x.f0 = 4 ∧ (x.f1 = 13 ∨ x.f1 = 10)) ∨ (5 ≤ x.f0 ∧ x.f0 ≤ 13 ∧ x.f1 = 0) ∨ (x.f0 = 14 ∧ (x.f1 = 0 ∨ x.f1 = 1)) := by
  simp only [tableV, List.any_cons, List.any_nil, ofP, Bool.or_eq_true, Bool.and_eq_true, decide_eq_true_eq, Bool.or_false, Bool.false_eq_true, or_false] at h
  rcases h with h | h | h | h | h | h | h | h | h | h | h | h | h <;> omega
theorem tab_any {x : KeyS} (h : (x.f0 = 4 ∧ (x.f1 = 13 ∨ x.f1 = 10)) ∨ (5 ≤ x.f0 ∧ x.f0 ≤ 13 ∧ x.f1 = 0) ∨ (x.f0 = 14 ∧ (x.f1 = 0 ∨ x.f1 = 1))) : tableV.any (ofP x) = true := by
  have : (x.f0 = 4 ∧ x.f1 = 13) ∨ (x.f0 = 4 ∧ x.f1 = 10) ∨ (x.f0 = 5 ∧ x.f1 = 0) ∨ (x.f0 = 6 ∧ x.f1 = 0) ∨ (x.f0 = 7 ∧ x.f1 = 0) ∨ (x.f0 = 8 ∧ x.f1 = 0) ∨ (x.f0 = 9 ∧ x.f1 = 0) ∨ (x.f0 = 10 ∧ x.f1 = 0) ∨ (x.f0 = 11 ∧ x.f1 = 0) ∨ (x.f0 = 12 ∧ x.f1 = 0) ∨ (x.f0 = 13 ∧ x.f1 = 0) ∨ (x.f0 = 14 ∧ x.f1 = 0) ∨ (x.f0 = 14 ∧ x.f1 = 1) := by
    rcases h with ⟨h1, h2 | h2⟩ | ⟨h1, h2, h3⟩ | ⟨h1, h2 | h2⟩
    · exact .inl ⟨h1, h2⟩
    · exact .inr (.inl ⟨h1, h2⟩)
    · have : x.f0 = 5 ∨ x.f0 = 6 ∨ x.f0 = 7 ∨ x.f0 = 8 ∨ x.f0 = 9 ∨ x.f0 = 10 ∨ x.f0 = 11 ∨ x.f0 = 12 ∨ x.f0 = 13 := by omega
      rcases this with h | h | h | h | h | h | h | h | h <;> simp [h, h3]
    · simp [h1, h2]
    · simp [h1, h2]
  rcases this with ⟨h1, h2⟩ | ⟨h1, h2⟩ | ⟨h1, h2⟩ | ⟨h1, h2⟩ | ⟨h1, h2⟩ | ⟨h1, h2⟩ | ⟨h1, h2⟩ | ⟨h1, h2⟩ | ⟨h1, h2⟩ | ⟨h1, h2⟩ | ⟨h1, h2⟩ | ⟨h1, h2⟩ | ⟨h1, h2⟩ <;> simp [tableV, ofP, h1, h2]
theorem any_iff (x : KeyS) : tableV.any (ofP x) = decide ((x.f0 = 4 ∧ (x.f1 = 13 ∨ x.f1 = 10)) ∨ (5 ≤ x.f0 ∧ x.f0 ≤ 13 ∧ x.f1 = 0) ∨ (x.f0 = 14 ∧ (x.f1 = 0 ∨ x.f1 = 1))) := by
  rw [Bool.eq_iff_iff, decide_eq_true_eq]
  exact ⟨any_tab, tab_any⟩
theorem refRight_w {H : Hyp} {K : V → Hyp → Prop} {v : Int} (k : K (vB (rightV v)) H) : CallW Try.prog Xs 19 [vI v] H K := R02Right_w k
theorem May_w {H : Hyp} {K : V → Hyp → Prop} {x : KeyS} (k : K (vB (mayV x)) H) : CallW Try.prog Xs 8 [.one (.agg (encK x))] H K := by
  refine call_of (n := 95) (fun _ => rfl) Try.func8 rfl rfl ?_
  refine w_seq ?_
  refine w_region ?_
  refine w_o rfl rfl rfl (op_box rfl fun b1 => ?_)
  refine w_o rfl rfl rfl (op_assign rfl ?_)
  refine w_end ?_
  refine seq_normal ?_
  refine w_seq ?_
  refine w_seq ?_
  refine w_region ?_
  refine w_o rfl rfl rfl (op_fieldAddr fa_23_0 rfl ?_)
  refine w_o rfl rfl rfl (op_loadF agg_3 rfl el_ rfl ?_)
  refine w_o rfl rfl rfl (op_eq rfl rfl ?_)
  refine w_end ?_
  refine seq_normal ?_
  first | refine w_cond rfl (fun hI1 => ?_) (fun hI1 => ?_) | refine w_condB rfl (fun hI1 => ?_) (fun hI1 => ?_)
  · refine w_seq ?_
    refine w_region ?_
    refine w_o rfl rfl rfl (op_fieldAddr fa_23_1 rfl ?_)
    refine w_o rfl rfl rfl (op_loadF agg_3 rfl el_ rfl ?_)
    refine w_o rfl rfl rfl (op_eq rfl rfl ?_)
    refine w_o rfl rfl rfl (op_move rfl ?_)
    first | refine w_known (t := 9) rfl (fun g9 => ?_) (fun g9 => ?_) | refine w_knownB (t := 9) rfl (fun g9 => ?_) (fun g9 => ?_)
    · refine w_og rfl rfl rfl rfl rfl (op_fieldAddr fa_23_2 rfl ?_)
      refine w_og rfl rfl rfl rfl rfl (op_loadF agg_9 rfl el_ rfl ?_)
      refine w_og rfl rfl rfl rfl rfl (op_lenS und_9 rfl ?_)
      refine w_og rfl rfl rfl rfl rfl (op_le rfl rfl ?_)
      refine w_o rfl rfl rfl (op_pick rfl rfl rfl ?_)
      refine w_o rfl rfl rfl (op_assign rfl ?_)
      refine w_end ?_
      refine seq_normal ?_
      refine w_ret ?_
      refine seq_ret ?_
      exact ret_bool rfl sel_ (by unfold mayV; rw [if_pos hI1, Bool.eq_iff_iff]; simp [*] <;> omega) k
    · refine w_u rfl rfl rfl rfl rfl rfl ?_
      refine w_u rfl rfl rfl rfl rfl rfl ?_
      refine w_u rfl rfl rfl rfl rfl rfl ?_
      refine w_u rfl rfl rfl rfl rfl rfl ?_
      refine w_o rfl rfl rfl (op_pick rfl rfl rfl ?_)
      refine w_o rfl rfl rfl (op_assign rfl ?_)
      refine w_end ?_
      refine seq_normal ?_
      refine w_ret ?_
      refine seq_ret ?_
      exact ret_bool rfl sel_ (by unfold mayV; rw [if_pos hI1, Bool.eq_iff_iff]; simp [*] <;> omega) k
  · refine w_skip ?_
    refine seq_normal ?_
    refine w_seq ?_
    refine w_seq ?_
    refine w_region ?_
    refine w_o rfl rfl rfl (op_fieldAddr fa_23_2 rfl ?_)
    refine w_o rfl rfl rfl (op_loadF agg_9 rfl el_ rfl ?_)
    refine w_o rfl rfl rfl (op_strne rfl rfl ?_)
    refine w_o rfl rfl rfl (op_move rfl ?_)
    first | refine w_known (t := 18) rfl (fun g18 => ?_) (fun g18 => ?_) | refine w_knownB (t := 18) rfl (fun g18 => ?_) (fun g18 => ?_)
    · refine w_u rfl rfl rfl rfl rfl rfl ?_
      refine w_u rfl rfl rfl rfl rfl rfl ?_
      refine w_o rfl rfl rfl (op_pick rfl rfl rfl ?_)
      refine w_end ?_
      refine seq_normal ?_
      refine w_condT rfl ?_
      refine w_seq ?_
      refine w_region ?_
      refine w_o rfl rfl rfl (op_assign rfl ?_)
      refine w_end ?_
      refine seq_normal ?_
      refine w_ret ?_
      refine seq_ret ?_
      exact ret_bool rfl sel_ (by unfold mayV; rw [if_neg hI1]; cases hx3 : x.f3 <;> simp_all) k
    · refine w_og rfl rfl rfl rfl rfl (op_fieldAddr fa_23_3 rfl ?_)
      refine w_og rfl rfl rfl rfl rfl (op_loadF agg_4 rfl el_ rfl ?_)
      refine w_o rfl rfl rfl (op_pick rfl rfl rfl ?_)
      refine w_end ?_
      refine seq_normal ?_
      first | refine w_cond rfl (fun hI2 => ?_) (fun hI2 => ?_) | refine w_condB rfl (fun hI2 => ?_) (fun hI2 => ?_)
      · have hm : mayV x = false := by
          unfold mayV
          rw [if_neg hI1]
          cases hx3 : x.f3 <;> simp_all
        refine w_seq ?_
        refine w_region ?_
        refine w_o rfl rfl rfl (op_assign rfl ?_)
        refine w_end ?_
        refine seq_normal ?_
        refine w_ret ?_
        refine seq_ret ?_
        exact ret_bool rfl sel_ (by unfold mayV; rw [if_neg hI1]; cases hx3 : x.f3 <;> simp_all) k
      · have hm : mayV x = rightK x := by
          unfold mayV
          rw [if_neg hI1]
          cases hx3 : x.f3 <;> simp_all
        rw [hm] at k
        refine w_skip ?_
        refine seq_normal ?_
        refine w_seq ?_
        refine w_seq ?_
        refine w_region ?_
        refine w_o rfl rfl rfl (op_fieldAddr fa_23_0 rfl ?_)
        refine w_o rfl rfl rfl (op_loadF agg_3 rfl el_ rfl ?_)
        refine w_o rfl rfl rfl (op_eq rfl rfl ?_)
        refine w_end ?_
        refine seq_normal ?_
        first | refine w_cond rfl (fun hI3 => ?_) (fun hI3 => ?_) | refine w_condB rfl (fun hI3 => ?_) (fun hI3 => ?_)
        · refine w_seq ?_
          refine w_region ?_
          refine w_o rfl rfl rfl (op_fieldAddr fa_23_1 rfl ?_)
          refine w_o rfl rfl rfl (op_loadF agg_3 rfl el_ rfl ?_)
          refine w_o rfl rfl rfl (op_ge rfl rfl ?_)
          refine w_o rfl rfl rfl (op_move rfl ?_)
          first | refine w_known (t := 28) rfl (fun g28 => ?_) (fun g28 => ?_) | refine w_knownB (t := 28) rfl (fun g28 => ?_) (fun g28 => ?_)
          · refine w_og rfl rfl rfl rfl rfl (op_fieldAddr fa_23_1 rfl ?_)
            refine w_og rfl rfl rfl rfl rfl (op_loadF agg_3 rfl el_ rfl ?_)
            refine w_og rfl rfl rfl rfl rfl (op_ne rfl rfl ?_)
            refine w_o rfl rfl rfl (op_pick rfl rfl rfl ?_)
            refine w_o rfl rfl rfl (op_move rfl ?_)
            first | refine w_known (t := 33) rfl (fun g33 => ?_) (fun g33 => ?_) | refine w_knownB (t := 33) rfl (fun g33 => ?_) (fun g33 => ?_)
            · refine w_og rfl rfl rfl rfl rfl (op_fieldAddr fa_23_1 rfl ?_)
              refine w_og rfl rfl rfl rfl rfl (op_loadF agg_3 rfl el_ rfl ?_)
              refine w_og rfl rfl rfl rfl rfl (op_call rfl rfl rfl ?_)
              refine refRight_w ?_
              refine w_o rfl rfl rfl (op_pick rfl rfl rfl ?_)
              refine w_o rfl rfl rfl (op_assign rfl ?_)
              refine w_end ?_
              refine seq_normal ?_
              refine w_ret ?_
              refine seq_ret ?_
              exact ret_bool rfl sel_ (by unfold rightK; rw [if_pos hI3, Bool.eq_iff_iff]; simp [*] <;> omega) k
            · refine w_u rfl rfl rfl rfl rfl rfl ?_
              refine w_u rfl rfl rfl rfl rfl rfl ?_
              refine w_u rfl rfl rfl rfl rfl rfl ?_
              refine w_o rfl rfl rfl (op_pick rfl rfl rfl ?_)
              refine w_o rfl rfl rfl (op_assign rfl ?_)
              refine w_end ?_
              refine seq_normal ?_
              refine w_ret ?_
              refine seq_ret ?_
              exact ret_bool rfl sel_ (by unfold rightK; rw [if_pos hI3, Bool.eq_iff_iff]; simp [*] <;> omega) k
          · refine w_u rfl rfl rfl rfl rfl rfl ?_
            refine w_u rfl rfl rfl rfl rfl rfl ?_
            refine w_u rfl rfl rfl rfl rfl rfl ?_
            refine w_o rfl rfl rfl (op_pick rfl rfl rfl ?_)
            refine w_o rfl rfl rfl (op_move rfl ?_)
            refine w_u rfl rfl rfl rfl rfl rfl ?_
            refine w_u rfl rfl rfl rfl rfl rfl ?_
            refine w_u rfl rfl rfl rfl rfl rfl ?_
            refine w_o rfl rfl rfl (op_pick rfl rfl rfl ?_)
            refine w_o rfl rfl rfl (op_assign rfl ?_)
            refine w_end ?_
            refine seq_normal ?_
            refine w_ret ?_
            refine seq_ret ?_
            exact ret_bool rfl sel_ (by unfold rightK; rw [if_pos hI3, Bool.eq_iff_iff]; simp [*] <;> omega) k
        · refine w_skip ?_
          refine seq_normal ?_
          refine w_seq ?_
          refine w_seq ?_
          refine w_region ?_
          refine w_o rfl rfl rfl (op_fieldAddr fa_23_0 rfl ?_)
          refine w_o rfl rfl rfl (op_loadF agg_3 rfl el_ rfl ?_)
          refine w_o rfl rfl rfl (op_eq rfl rfl ?_)
          refine w_end ?_
          refine seq_normal ?_
          first | refine w_cond rfl (fun hI4 => ?_) (fun hI4 => ?_) | refine w_condB rfl (fun hI4 => ?_) (fun hI4 => ?_)
          · refine w_seq ?_
            refine w_region ?_
            refine w_o rfl rfl rfl (op_fieldAddr fa_23_1 rfl ?_)
            refine w_o rfl rfl rfl (op_loadF agg_3 rfl el_ rfl ?_)
            refine w_o rfl rfl rfl (op_call rfl rfl rfl ?_)
            refine refControl_w ?_
            refine w_o rfl rfl rfl (op_assign rfl ?_)
            refine w_end ?_
            refine seq_normal ?_
            refine w_ret ?_
            refine seq_ret ?_
            exact ret_bool rfl sel_ (by unfold rightK; rw [if_neg hI3, if_pos hI4]) k
          · refine w_skip ?_
            refine seq_normal ?_
            refine w_seq ?_
            refine w_seq ?_
            refine w_region ?_
            refine w_o rfl rfl rfl (op_fieldAddr fa_23_0 rfl ?_)
            refine w_o rfl rfl rfl (op_loadF agg_3 rfl el_ rfl ?_)
            refine w_o rfl rfl rfl (op_eq rfl rfl ?_)
            refine w_end ?_
            refine seq_normal ?_
            first | refine w_cond rfl (fun hI5 => ?_) (fun hI5 => ?_) | refine w_condB rfl (fun hI5 => ?_) (fun hI5 => ?_)
            · refine w_seq ?_
              refine w_region ?_
              refine w_o rfl rfl rfl (op_fieldAddr fa_23_1 rfl ?_)
              refine w_o rfl rfl rfl (op_loadF agg_3 rfl el_ rfl ?_)
              refine w_o rfl rfl rfl (op_call rfl rfl rfl ?_)
              refine refControl_w ?_
              refine w_o rfl rfl rfl (op_move rfl ?_)
              first | refine w_known (t := 50) rfl (fun g50 => ?_) (fun g50 => ?_) | refine w_knownB (t := 50) rfl (fun g50 => ?_) (fun g50 => ?_)
              · refine w_u rfl rfl rfl rfl rfl rfl ?_
                refine w_u rfl rfl rfl rfl rfl rfl ?_
                refine w_u rfl rfl rfl rfl rfl rfl ?_
                refine w_u rfl rfl rfl rfl rfl rfl ?_
                refine w_u rfl rfl rfl rfl rfl rfl ?_
                refine w_u rfl rfl rfl rfl rfl rfl ?_
                refine w_u rfl rfl rfl rfl rfl rfl ?_
                refine w_u rfl rfl rfl rfl rfl rfl ?_
                refine w_o rfl rfl rfl (op_pick rfl rfl rfl ?_)
                refine w_o rfl rfl rfl (op_assign rfl ?_)
                refine w_end ?_
                refine seq_normal ?_
                refine w_ret ?_
                refine seq_ret ?_
                exact ret_bool rfl sel_ (by unfold rightK controlV; rw [if_neg hI3, if_neg hI4, if_pos hI5, Bool.eq_iff_iff]; simp [*] <;> omega) k
              · refine w_og rfl rfl rfl rfl rfl (op_fieldAddr fa_23_1 rfl ?_)
                refine w_og rfl rfl rfl rfl rfl (op_loadF agg_3 rfl el_ rfl ?_)
                refine w_og rfl rfl rfl rfl rfl (op_ge rfl rfl ?_)
                refine w_og rfl rfl rfl rfl rfl (op_move rfl ?_)
                first | refine w_known (t := 54) rfl (fun g54 => ?_) (fun g54 => ?_) | refine w_knownB (t := 54) rfl (fun g54 => ?_) (fun g54 => ?_)
                · refine w_og rfl rfl rfl rfl rfl (op_fieldAddr fa_23_1 rfl ?_)
                  refine w_og rfl rfl rfl rfl rfl (op_loadF agg_3 rfl el_ rfl ?_)
                  refine w_og rfl rfl rfl rfl rfl (op_le rfl rfl ?_)
                  refine w_og rfl rfl rfl rfl rfl (op_pick rfl rfl rfl ?_)
                  refine w_o rfl rfl rfl (op_pick rfl rfl rfl ?_)
                  refine w_o rfl rfl rfl (op_assign rfl ?_)
                  refine w_end ?_
                  refine seq_normal ?_
                  refine w_ret ?_
                  refine seq_ret ?_
                  exact ret_bool rfl sel_ (by unfold rightK controlV; rw [if_neg hI3, if_neg hI4, if_pos hI5, Bool.eq_iff_iff]; simp [*] <;> omega) k
                · refine w_u rfl rfl rfl rfl rfl rfl ?_
                  refine w_u rfl rfl rfl rfl rfl rfl ?_
                  refine w_u rfl rfl rfl rfl rfl rfl ?_
                  refine w_og rfl rfl rfl rfl rfl (op_pick rfl rfl rfl ?_)
                  refine w_o rfl rfl rfl (op_pick rfl rfl rfl ?_)
                  refine w_o rfl rfl rfl (op_assign rfl ?_)
                  refine w_end ?_
                  refine seq_normal ?_
                  refine w_ret ?_
                  refine seq_ret ?_
                  exact ret_bool rfl sel_ (by unfold rightK controlV; rw [if_neg hI3, if_neg hI4, if_pos hI5, Bool.eq_iff_iff]; simp [*] <;> omega) k
            · refine w_skip ?_
              refine seq_normal ?_
              refine w_seq ?_
              refine w_seq ?_
              refine w_region ?_
              refine w_o rfl rfl rfl (op_fieldAddr fa_23_0 rfl ?_)
              refine w_o rfl rfl rfl (op_loadF agg_3 rfl el_ rfl ?_)
              refine w_o rfl rfl rfl (op_eq rfl rfl ?_)
              refine w_end ?_
              refine seq_normal ?_
              first | refine w_cond rfl (fun hI6 => ?_) (fun hI6 => ?_) | refine w_condB rfl (fun hI6 => ?_) (fun hI6 => ?_)
              · refine w_seq ?_
                refine w_region ?_
                refine w_o rfl rfl rfl (op_fieldAddr fa_23_1 rfl ?_)
                refine w_o rfl rfl rfl (op_loadF agg_3 rfl el_ rfl ?_)
                refine w_o rfl rfl rfl (op_eq rfl rfl ?_)
                refine w_o rfl rfl rfl (op_move rfl ?_)
                first | refine w_known (t := 66) rfl (fun g66 => ?_) (fun g66 => ?_) | refine w_knownB (t := 66) rfl (fun g66 => ?_) (fun g66 => ?_)
                · refine w_u rfl rfl rfl rfl rfl rfl ?_
                  refine w_u rfl rfl rfl rfl rfl rfl ?_
                  refine w_u rfl rfl rfl rfl rfl rfl ?_
                  refine w_o rfl rfl rfl (op_pick rfl rfl rfl ?_)
                  refine w_o rfl rfl rfl (op_assign rfl ?_)
                  refine w_end ?_
                  refine seq_normal ?_
                  refine w_ret ?_
                  refine seq_ret ?_
                  exact ret_bool rfl sel_ (by unfold rightK; rw [if_neg hI3, if_neg hI4, if_neg hI5, any_iff, Bool.eq_iff_iff]; simp [*] <;> omega) k
                · refine w_og rfl rfl rfl rfl rfl (op_fieldAddr fa_23_1 rfl ?_)
                  refine w_og rfl rfl rfl rfl rfl (op_loadF agg_3 rfl el_ rfl ?_)
                  refine w_og rfl rfl rfl rfl rfl (op_eq rfl rfl ?_)
                  refine w_o rfl rfl rfl (op_pick rfl rfl rfl ?_)
                  refine w_o rfl rfl rfl (op_assign rfl ?_)
                  refine w_end ?_
                  refine seq_normal ?_
                  refine w_ret ?_
                  refine seq_ret ?_
                  exact ret_bool rfl sel_ (by unfold rightK; rw [if_neg hI3, if_neg hI4, if_neg hI5, any_iff, Bool.eq_iff_iff]; simp [*] <;> omega) k
              · refine w_skip ?_
                refine seq_normal ?_
                refine w_seq ?_
                refine w_seq ?_
                refine w_region ?_
                refine w_o rfl rfl rfl (op_fieldAddr fa_23_0 rfl ?_)
                refine w_o rfl rfl rfl (op_loadF agg_3 rfl el_ rfl ?_)
                refine w_o rfl rfl rfl (op_eq rfl rfl ?_)
                refine w_end ?_
                refine seq_normal ?_
                first | refine w_cond rfl (fun hI7 => ?_) (fun hI7 => ?_) | refine w_condB rfl (fun hI7 => ?_) (fun hI7 => ?_)
                · refine w_seq ?_
                  refine w_region ?_
                  refine w_o rfl rfl rfl (op_fieldAddr fa_23_1 rfl ?_)
                  refine w_o rfl rfl rfl (op_loadF agg_3 rfl el_ rfl ?_)
                  refine w_o rfl rfl rfl (op_eq rfl rfl ?_)
                  refine w_o rfl rfl rfl (op_move rfl ?_)
                  first | refine w_known (t := 77) rfl (fun g77 => ?_) (fun g77 => ?_) | refine w_knownB (t := 77) rfl (fun g77 => ?_) (fun g77 => ?_)
                  · refine w_u rfl rfl rfl rfl rfl rfl ?_
                    refine w_u rfl rfl rfl rfl rfl rfl ?_
                    refine w_u rfl rfl rfl rfl rfl rfl ?_
                    refine w_o rfl rfl rfl (op_pick rfl rfl rfl ?_)
                    refine w_o rfl rfl rfl (op_assign rfl ?_)
                    refine w_end ?_
                    refine seq_normal ?_
                    refine w_ret ?_
                    refine seq_ret ?_
                    exact ret_bool rfl sel_ (by unfold rightK; rw [if_neg hI3, if_neg hI4, if_neg hI5, any_iff, Bool.eq_iff_iff]; simp [*] <;> omega) k
                  · refine w_og rfl rfl rfl rfl rfl (op_fieldAddr fa_23_1 rfl ?_)
                    refine w_og rfl rfl rfl rfl rfl (op_loadF agg_3 rfl el_ rfl ?_)
                    refine w_og rfl rfl rfl rfl rfl (op_eq rfl rfl ?_)
                    refine w_o rfl rfl rfl (op_pick rfl rfl rfl ?_)
                    refine w_o rfl rfl rfl (op_assign rfl ?_)
                    refine w_end ?_
                    refine seq_normal ?_
                    refine w_ret ?_
                    refine seq_ret ?_
                    exact ret_bool rfl sel_ (by unfold rightK; rw [if_neg hI3, if_neg hI4, if_neg hI5, any_iff, Bool.eq_iff_iff]; simp [*] <;> omega) k
                · refine w_skip ?_
                  refine seq_normal ?_
                  refine w_seq ?_
                  refine w_region ?_
                  refine w_o rfl rfl rfl (op_fieldAddr fa_23_0 rfl ?_)
                  refine w_o rfl rfl rfl (op_loadF agg_3 rfl el_ rfl ?_)
                  refine w_o rfl rfl rfl (op_ge rfl rfl ?_)
                  refine w_o rfl rfl rfl (op_move rfl ?_)
                  first | refine w_known (t := 85) rfl (fun g85 => ?_) (fun g85 => ?_) | refine w_knownB (t := 85) rfl (fun g85 => ?_) (fun g85 => ?_)
                  · refine w_og rfl rfl rfl rfl rfl (op_fieldAddr fa_23_0 rfl ?_)
                    refine w_og rfl rfl rfl rfl rfl (op_loadF agg_3 rfl el_ rfl ?_)
                    refine w_og rfl rfl rfl rfl rfl (op_le rfl rfl ?_)
                    refine w_o rfl rfl rfl (op_pick rfl rfl rfl ?_)
                    refine w_o rfl rfl rfl (op_move rfl ?_)
                    first | refine w_known (t := 90) rfl (fun g90 => ?_) (fun g90 => ?_) | refine w_knownB (t := 90) rfl (fun g90 => ?_) (fun g90 => ?_)
                    · refine w_og rfl rfl rfl rfl rfl (op_fieldAddr fa_23_1 rfl ?_)
                      refine w_og rfl rfl rfl rfl rfl (op_loadF agg_3 rfl el_ rfl ?_)
                      refine w_og rfl rfl rfl rfl rfl (op_eq rfl rfl ?_)
                      refine w_o rfl rfl rfl (op_pick rfl rfl rfl ?_)
                      refine w_o rfl rfl rfl (op_assign rfl ?_)
                      refine w_end ?_
                      refine seq_normal ?_
                      refine w_ret ?_
                      exact ret_bool rfl sel_ (by unfold rightK; rw [if_neg hI3, if_neg hI4, if_neg hI5, any_iff, Bool.eq_iff_iff]; simp [*] <;> omega) k
                    · refine w_u rfl rfl rfl rfl rfl rfl ?_
                      refine w_u rfl rfl rfl rfl rfl rfl ?_
                      refine w_u rfl rfl rfl rfl rfl rfl ?_
                      refine w_o rfl rfl rfl (op_pick rfl rfl rfl ?_)
                      refine w_o rfl rfl rfl (op_assign rfl ?_)
                      refine w_end ?_
                      refine seq_normal ?_
                      refine w_ret ?_
                      exact ret_bool rfl sel_ (by unfold rightK; rw [if_neg hI3, if_neg hI4, if_neg hI5, any_iff, Bool.eq_iff_iff]; simp [*] <;> omega) k
                  · refine w_u rfl rfl rfl rfl rfl rfl ?_
                    refine w_u rfl rfl rfl rfl rfl rfl ?_
                    refine w_u rfl rfl rfl rfl rfl rfl ?_
                    refine w_o rfl rfl rfl (op_pick rfl rfl rfl ?_)
                    refine w_o rfl rfl rfl (op_move rfl ?_)
                    refine w_u rfl rfl rfl rfl rfl rfl ?_
                    refine w_u rfl rfl rfl rfl rfl rfl ?_
                    refine w_u rfl rfl rfl rfl rfl rfl ?_
                    refine w_o rfl rfl rfl (op_pick rfl rfl rfl ?_)
                    refine w_o rfl rfl rfl (op_assign rfl ?_)
                    refine w_end ?_
                    refine seq_normal ?_
                    refine w_ret ?_
                    exact ret_bool rfl sel_ (by unfold rightK; rw [if_neg hI3, if_neg hI4, if_neg hI5, any_iff, Bool.eq_iff_iff]; simp [*] <;> omega) k
def encStr (s : ByteArray) : List Cell := [.str s]
def namesL : List ByteArray := [⟨#[]⟩, ⟨#[]⟩, ⟨#[]⟩, ⟨#[]⟩, ⟨#[76, 70, 68]⟩, ⟨#[69, 83, 67]⟩, ⟨#[68, 69, 76]⟩, ⟨#[85, 80]⟩, ⟨#[68, 79, 87, 78]⟩, ⟨#[82, 73, 71, 72, 84]⟩, ⟨#[76, 69, 70, 84]⟩, ⟨#[72, 79, 77, 69]⟩, ⟨#[69, 78, 68]⟩, ⟨#[68, 69, 76, 69, 84, 69]⟩, ⟨#[80, 71, 85, 80]⟩]
theorem tab_name {x : KeyS} (h : tableV.any (ofP x) = true) (h13 : ¬ (x.f0 = 4 ∧ x.f1 = 13)) (h14 : ¬ (x.f0 = 14 ∧ x.f1 = 1)) : namesL[x.f0.toNat]? = some (foundV (ofP x)).f2 := by
  have hh := any_tab h
  obtain ⟨a, b, c, d⟩ := x
  simp only at hh h13 h14
  have : (a = 4 ∧ b = 10) ∨ (a = 5 ∧ b = 0) ∨ (a = 6 ∧ b = 0) ∨ (a = 7 ∧ b = 0) ∨ (a = 8 ∧ b = 0) ∨ (a = 9 ∧ b = 0) ∨ (a = 10 ∧ b = 0) ∨ (a = 11 ∧ b = 0) ∨ (a = 12 ∧ b = 0) ∨ (a = 13 ∧ b = 0) ∨ (a = 14 ∧ b = 0) := by omega
  rcases this with ⟨rfl, rfl⟩ | ⟨rfl, rfl⟩ | ⟨rfl, rfl⟩ | ⟨rfl, rfl⟩ | ⟨rfl, rfl⟩ | ⟨rfl, rfl⟩ | ⟨rfl, rfl⟩ | ⟨rfl, rfl⟩ | ⟨rfl, rfl⟩ | ⟨rfl, rfl⟩ | ⟨rfl, rfl⟩ <;> rfl
theorem tab_ret {x : KeyS} (h0 : x.f0 = 4) (h1 : x.f1 = 13) : (foundV (ofP x)).f2 = ⟨#[82, 69, 84]⟩ := by
  obtain ⟨a, b, c, d⟩ := x
  simp only at h0 h1
  subst h0; subst h1; rfl
theorem tab_pgdn {x : KeyS} (h0 : x.f0 = 14) (h1 : x.f1 = 1) : (foundV (ofP x)).f2 = ⟨#[80, 71, 68, 78]⟩ := by
  obtain ⟨a, b, c, d⟩ := x
  simp only at h0 h1
  subst h0; subst h1; rfl
theorem may_tab {x : KeyS} (h : mayV x = true) (h1 : ¬ x.f0 = 1) (h2 : ¬ x.f0 = 2) (h3 : ¬ x.f0 = 3) (h15 : ¬ x.f0 = 15) : tableV.any (ofP x) = true := by
  unfold mayV at h
  rw [if_neg h15] at h
  simp only [Bool.and_eq_true] at h
  have hr := h.1.1
  unfold rightK at hr
  rwa [if_neg h1, if_neg h2, if_neg h3] at hr
theorem may_kind {x : KeyS} (h : mayV x = true) : 1 ≤ x.f0 ∧ x.f0 ≤ 15 := by
  by_cases h1 : x.f0 = 1
  · omega
  · by_cases h2 : x.f0 = 2
    · omega
    · by_cases h3 : x.f0 = 3
      · omega
      · by_cases h4 : x.f0 = 15
        · omega
        · have := any_tab (may_tab h h1 h2 h3 h4); omega
theorem refName_w {H : Hyp} {K : V → Hyp → Prop} {x : KeyS} (hm : mayV x = true) (k : K (vS (nameV x)) H) : CallW Try.prog Xs 13 [.one (.agg (encK x))] H K := by
  have hk := may_kind hm
  refine call_of (n := 64) (fun _ => rfl) Try.func13 rfl rfl ?_
  refine w_seq ?_
  refine w_region ?_
  refine w_o rfl rfl rfl (op_box rfl fun b1 => ?_)
  refine w_o rfl rfl rfl (op_assign rfl ?_)
  refine w_end ?_
  refine seq_normal ?_
  refine w_seq ?_
  refine w_seq ?_
  refine w_region ?_
  refine w_o rfl rfl rfl (op_fieldAddr fa_23_0 rfl ?_)
  refine w_o rfl rfl rfl (op_loadF agg_3 rfl el_ rfl ?_)
  refine w_o rfl rfl rfl (op_le rfl rfl ?_)
  refine w_end ?_
  refine seq_normal ?_
  first | refine w_cond rfl (fun hI1 => ?_) (fun hI1 => ?_) | refine w_condB rfl (fun hI1 => ?_) (fun hI1 => ?_)
  · refine w_seq ?_
    refine w_region ?_
    refine w_o rfl rfl rfl (op_fieldAddr fa_23_1 rfl ?_)
    refine w_o rfl rfl rfl (op_loadF agg_3 rfl el_ rfl ?_)
    refine w_o rfl rfl rfl (op_call rfl rfl rfl ?_)
    have hv := may_in hm (by omega)
    refine refsign_w hv.1 hv.2 ?_
    refine w_o rfl rfl rfl (op_assign rfl ?_)
    refine w_end ?_
    refine seq_normal ?_
    refine w_ret ?_
    refine seq_ret ?_
    rw [show nameV x = signV x.f1 from if_pos (by omega)] at k
    exact ret_ret rfl sel_ k
  · refine w_skip ?_
    refine seq_normal ?_
    refine w_seq ?_
    refine w_seq ?_
    refine w_region ?_
    refine w_o rfl rfl rfl (op_fieldAddr fa_23_0 rfl ?_)
    refine w_o rfl rfl rfl (op_loadF agg_3 rfl el_ rfl ?_)
    refine w_o rfl rfl rfl (op_eq rfl rfl ?_)
    refine w_end ?_
    refine seq_normal ?_
    first | refine w_cond rfl (fun hI2 => ?_) (fun hI2 => ?_) | refine w_condB rfl (fun hI2 => ?_) (fun hI2 => ?_)
    · refine w_seq ?_
      refine w_region ?_
      refine w_o rfl rfl rfl (op_fieldAddr fa_23_1 rfl ?_)
      refine w_o rfl rfl rfl (op_loadF agg_3 rfl el_ rfl ?_)
      refine w_o rfl rfl rfl (op_call rfl rfl rfl ?_)
      have hv := may_in hm (by omega)
      have hz := signV_size hv.1 hv.2
      refine refsign_w hv.1 hv.2 ?_
      generalize hsg : signV x.f1 = t at hz ⊢
      refine w_o rfl rfl rfl (op_stradd rfl rfl (by rw [sz2]; omega) ?_)
      refine w_o rfl rfl rfl (op_assign rfl ?_)
      refine w_end ?_
      refine seq_normal ?_
      refine w_ret ?_
      refine seq_ret ?_
      rw [show nameV x = (⟨#[77, 45]⟩ : ByteArray) ++ t by unfold nameV; rw [if_neg (by omega), if_pos hI2, hsg]] at k
      exact ret_ret rfl sel_ k
    · refine w_skip ?_
      refine seq_normal ?_
      refine w_seq ?_
      refine w_seq ?_
      refine w_region ?_
      refine w_o rfl rfl rfl (op_fieldAddr fa_23_0 rfl ?_)
      refine w_o rfl rfl rfl (op_loadF agg_3 rfl el_ rfl ?_)
      refine w_o rfl rfl rfl (op_eq rfl rfl ?_)
      refine w_o rfl rfl rfl (op_move rfl ?_)
      first | refine w_known (t := 22) rfl (fun g22 => ?_) (fun g22 => ?_) | refine w_knownB (t := 22) rfl (fun g22 => ?_) (fun g22 => ?_)
      · refine w_og rfl rfl rfl rfl rfl (op_fieldAddr fa_23_1 rfl ?_)
        refine w_og rfl rfl rfl rfl rfl (op_loadF agg_3 rfl el_ rfl ?_)
        refine w_og rfl rfl rfl rfl rfl (op_eq rfl rfl ?_)
        refine w_o rfl rfl rfl (op_pick rfl rfl rfl ?_)
        refine w_end ?_
        refine seq_normal ?_
        first | refine w_cond rfl (fun hI3 => ?_) (fun hI3 => ?_) | refine w_condB rfl (fun hI3 => ?_) (fun hI3 => ?_)
        · refine w_seq ?_
          refine w_region ?_
          refine w_o rfl rfl rfl (op_assign rfl ?_)
          refine w_end ?_
          refine seq_normal ?_
          refine w_ret ?_
          refine seq_ret ?_
          rw [show nameV x = ⟨#[82, 69, 84]⟩ by unfold nameV; rw [if_neg (by omega), if_neg (by omega), if_neg (by omega), tab_ret (by omega) (by omega)]] at k
          exact ret_ret rfl sel_ k
        · refine w_skip ?_
          refine seq_normal ?_
          refine w_seq ?_
          refine w_seq ?_
          refine w_region ?_
          refine w_o rfl rfl rfl (op_fieldAddr fa_23_0 rfl ?_)
          refine w_o rfl rfl rfl (op_loadF agg_3 rfl el_ rfl ?_)
          refine w_o rfl rfl rfl (op_eq rfl rfl ?_)
          refine w_o rfl rfl rfl (op_move rfl ?_)
          first | refine w_known (t := 30) rfl (fun g30 => ?_) (fun g30 => ?_) | refine w_knownB (t := 30) rfl (fun g30 => ?_) (fun g30 => ?_)
          · refine w_og rfl rfl rfl rfl rfl (op_fieldAddr fa_23_1 rfl ?_)
            refine w_og rfl rfl rfl rfl rfl (op_loadF agg_3 rfl el_ rfl ?_)
            refine w_og rfl rfl rfl rfl rfl (op_eq rfl rfl ?_)
            refine w_o rfl rfl rfl (op_pick rfl rfl rfl ?_)
            refine w_end ?_
            refine seq_normal ?_
            first | refine w_cond rfl (fun hI4 => ?_) (fun hI4 => ?_) | refine w_condB rfl (fun hI4 => ?_) (fun hI4 => ?_)
            · refine w_seq ?_
              refine w_region ?_
              refine w_o rfl rfl rfl (op_assign rfl ?_)
              refine w_end ?_
              refine seq_normal ?_
              refine w_ret ?_
              refine seq_ret ?_
              rw [show nameV x = ⟨#[80, 71, 68, 78]⟩ by unfold nameV; rw [if_neg (by omega), if_neg (by omega), if_neg (by omega), tab_pgdn (by omega) (by omega)]] at k
              exact ret_ret rfl sel_ k
            · refine w_skip ?_
              refine seq_normal ?_
              refine w_seq ?_
              refine w_seq ?_
              refine w_region ?_
              refine w_o rfl rfl rfl (op_fieldAddr fa_23_0 rfl ?_)
              refine w_o rfl rfl rfl (op_loadF agg_3 rfl el_ rfl ?_)
              refine w_o rfl rfl rfl (op_ne rfl rfl ?_)
              refine w_end ?_
              refine seq_normal ?_
              first | refine w_cond rfl (fun hI5 => ?_) (fun hI5 => ?_) | refine w_condB rfl (fun hI5 => ?_) (fun hI5 => ?_)
              · have ht := tab_name (may_tab hm (by omega) (by omega) (by omega) (by omega)) (by omega) (by omega)
                refine w_seq ?_
                refine w_region ?_
                refine w_o rfl rfl rfl (op_buildSlice rfl (bsl_46 _ _ _ (rfl : _ = some [_, _, _, _, _, _, _, _, _, _, _, _, _, _, _]) rfl (by decide)) fun b38 => ?_)
                refine w_o rfl rfl rfl (op_assign rfl ?_)
                refine w_end ?_
                refine seq_normal ?_
                refine w_seq ?_
                refine w_region ?_
                refine w_o rfl rfl rfl (op_move rfl ?_)
                refine w_o rfl rfl rfl (op_fieldAddr fa_23_0 rfl ?_)
                refine w_o rfl rfl rfl (op_loadF agg_3 rfl el_ rfl ?_)
                refine w_o rfl rfl rfl (op_indexT (xs := namesL) (enc := encStr) (j := x.f0.toNat) und_46 siz_9 rfl rfl (Sl.of_row (List.Mem.head _) rfl) (fun _ => rfl) (by omega) (by show x.f0.toNat < 15; omega) fun b42 o42 z42 h42 e42 => ?_)
                refine w_o rfl rfl rfl (op_load1 agg_9 rfl el_ ?_)
                refine w_o rfl rfl rfl (op_assign rfl ?_)
                refine w_end ?_
                refine seq_normal ?_
                refine w_ret ?_
                refine seq_ret ?_
                rw [ht] at h42
                obtain rfl := Option.some.inj h42
                rw [show nameV x = (foundV (ofP x)).f2 by unfold nameV; rw [if_neg (by omega), if_neg (by omega), if_neg (by omega)]] at k
                exact ret_ret rfl sel_ k
              · refine w_skip ?_
                refine seq_normal ?_
                refine w_seq ?_
                refine w_region ?_
                refine w_o rfl rfl rfl (op_assign rfl ?_)
                refine w_end ?_
                refine seq_normal ?_
                refine w_seq ?_
                refine w_seq ?_
                refine w_region ?_
                refine w_o rfl rfl rfl (op_assign rfl ?_)
                refine w_end ?_
                refine seq_normal ?_
                refine w_block ?_
                refine w_loop (fun m e H' => ∃ (i : Nat), i ≤ x.f2.size ∧ m = x.f2.size - i ∧ H' = (b1, .row true 23 1 (encK x)) :: H ∧ e = [(1, ptrV b1 0), (4, vS (pasteTo x.f2 i)), (5, vI (i : Nat))]) ?_ ?_
                · exact ⟨_, _, _, ⟨0, Nat.zero_le _, rfl, rfl, rfl⟩, env_, sel_⟩
                · rintro m e H' ⟨i, hi, rfl, rfl, rfl⟩
                  have hx := may_15 hm (by omega)
                  have hb := byteIn x.f2 i
                  obtain ⟨h, hh1, hh2, hh3, hhe⟩ : ∃ h, Go.Proofs.Yteghmemcikiblaa.P.num_Hex.f (byteAt x.f2 i) 2 = some h ∧ Go.Proofs.Yteghmemcikiblaa.P.dactylref01_Hex.f 100 (byteAt x.f2 i) 2 = some h ∧ h.size ≤ 2 ∧ hexT (byteAt x.f2 i) 2 = h := ⟨_, (hex2 _ hb.1 hb.2).1, (hex2 _ hb.1 hb.2).2.1, (hex2 _ hb.1 hb.2).2.2, rfl⟩
                  have hz := pasteTo_size x.f2 i
                  have hp := pasteTo_succ x.f2 i
                  rw [hhe] at hp
                  clear hhe
                  generalize hu : pasteTo x.f2 i = u at hz hp ⊢
                  refine w_seq ?_
                  refine w_seq ?_
                  refine w_region ?_
                  refine w_o rfl rfl rfl (op_move rfl ?_)
                  refine w_o rfl rfl rfl (op_fieldAddr fa_23_2 rfl ?_)
                  refine w_o rfl rfl rfl (op_loadF agg_9 rfl el_ rfl ?_)
                  refine w_o rfl rfl rfl (op_lenS und_9 rfl ?_)
                  refine w_o rfl rfl rfl (op_lt rfl rfl ?_)
                  refine w_end ?_
                  refine seq_normal ?_
                  first | refine w_cond rfl (fun hI6 => ?_) (fun hI6 => ?_) | refine w_condB rfl (fun hI6 => ?_) (fun hI6 => ?_)
                  · refine w_skip ?_
                    refine seq_normal ?_
                    refine w_seq ?_
                    refine w_block ?_
                    refine w_region ?_
                    refine w_o rfl rfl rfl (op_move rfl ?_)
                    refine w_o rfl rfl rfl (op_fieldAddr fa_23_2 rfl ?_)
                    refine w_o rfl rfl rfl (op_loadF agg_9 rfl el_ rfl ?_)
                    refine w_o rfl rfl rfl (op_move rfl ?_)
                    refine w_o rfl rfl rfl (op_indexS und_9 rfl rfl (by omega) (by omega) ?_)
                    refine w_o rfl rfl rfl (op_convi und_5 und_3 rfl (wrap_i64 (by omega) (by omega)) ?_)
                    refine w_o rfl rfl rfl (op_call rfl rfl rfl ?_)
                    refine dactylref01_Hex_sw hh2 ?_
                    refine w_o rfl rfl rfl (op_stradd rfl rfl (by omega) ?_)
                    refine w_o rfl rfl rfl (op_assign rfl ?_)
                    refine w_end ?_
                    refine block_normal ?_
                    refine seq_normal ?_
                    refine w_region ?_
                    refine w_o rfl rfl rfl (op_move rfl ?_)
                    refine w_o rfl rfl rfl (op_addi rfl rfl (by omega) (by omega) ?_)
                    refine w_o rfl rfl rfl (op_assign rfl ?_)
                    refine w_end ?_
                    exact loop_normal (k' := x.f2.size - (i + 1)) (by omega) ⟨i + 1, by omega, rfl, rfl, rfl⟩ (by rw [hp]; exact env_) sel_
                  · have hi' : i = x.f2.size := by omega
                    have hn : nameV x = pasteV x := by unfold nameV; rw [if_neg (by omega), if_neg (by omega), if_pos (by omega)]
                    rw [hn] at k
                    refine w_exit ?_
                    refine seq_exit ?_
                    refine loop_exit ?_
                    refine block_hit rfl ?_
                    refine seq_normal ?_
                    refine w_seq ?_
                    refine w_seq ?_
                    refine w_region ?_
                    refine w_o rfl rfl rfl (op_fieldAddr fa_23_3 rfl ?_)
                    refine w_o rfl rfl rfl (op_loadF agg_4 rfl el_ rfl ?_)
                    refine w_end ?_
                    refine seq_normal ?_
                    first | refine w_cond rfl (fun hI7 => ?_) (fun hI7 => ?_) | refine w_condB rfl (fun hI7 => ?_) (fun hI7 => ?_)
                    · rw [show pasteV x = u ++ (⟨#[33]⟩ : ByteArray) by unfold pasteV; rw [if_pos hI7, ← hi', hu]] at k
                      refine w_region ?_
                      refine w_o rfl rfl rfl (op_move rfl ?_)
                      refine w_o rfl rfl rfl (op_stradd rfl rfl (by rw [sz1]; omega) ?_)
                      refine w_o rfl rfl rfl (op_assign rfl ?_)
                      refine w_end ?_
                      refine seq_normal ?_
                      refine w_seq ?_
                      refine w_region ?_
                      refine w_o rfl rfl rfl (op_move rfl ?_)
                      refine w_o rfl rfl rfl (op_assign rfl ?_)
                      refine w_end ?_
                      refine seq_normal ?_
                      refine w_ret ?_
                      exact ret_ret rfl sel_ k
                    · rw [show pasteV x = u by unfold pasteV; rw [if_neg (by rw [hI7]; decide), ← hi', hu]] at k
                      refine w_skip ?_
                      refine seq_normal ?_
                      refine w_seq ?_
                      refine w_region ?_
                      refine w_o rfl rfl rfl (op_move rfl ?_)
                      refine w_o rfl rfl rfl (op_assign rfl ?_)
                      refine w_end ?_
                      refine seq_normal ?_
                      refine w_ret ?_
                      exact ret_ret rfl sel_ k
          · refine w_u rfl rfl rfl rfl rfl rfl ?_
            refine w_u rfl rfl rfl rfl rfl rfl ?_
            refine w_u rfl rfl rfl rfl rfl rfl ?_
            refine w_o rfl rfl rfl (op_pick rfl rfl rfl ?_)
            refine w_end ?_
            refine seq_normal ?_
            refine w_condF rfl ?_
            refine w_skip ?_
            refine seq_normal ?_
            refine w_seq ?_
            refine w_seq ?_
            refine w_region ?_
            refine w_o rfl rfl rfl (op_fieldAddr fa_23_0 rfl ?_)
            refine w_o rfl rfl rfl (op_loadF agg_3 rfl el_ rfl ?_)
            refine w_o rfl rfl rfl (op_ne rfl rfl ?_)
            refine w_end ?_
            refine seq_normal ?_
            first | refine w_cond rfl (fun hI5 => ?_) (fun hI5 => ?_) | refine w_condB rfl (fun hI5 => ?_) (fun hI5 => ?_)
            · have ht := tab_name (may_tab hm (by omega) (by omega) (by omega) (by omega)) (by omega) (by omega)
              refine w_seq ?_
              refine w_region ?_
              refine w_o rfl rfl rfl (op_buildSlice rfl (bsl_46 _ _ _ (rfl : _ = some [_, _, _, _, _, _, _, _, _, _, _, _, _, _, _]) rfl (by decide)) fun b38 => ?_)
              refine w_o rfl rfl rfl (op_assign rfl ?_)
              refine w_end ?_
              refine seq_normal ?_
              refine w_seq ?_
              refine w_region ?_
              refine w_o rfl rfl rfl (op_move rfl ?_)
              refine w_o rfl rfl rfl (op_fieldAddr fa_23_0 rfl ?_)
              refine w_o rfl rfl rfl (op_loadF agg_3 rfl el_ rfl ?_)
              refine w_o rfl rfl rfl (op_indexT (xs := namesL) (enc := encStr) (j := x.f0.toNat) und_46 siz_9 rfl rfl (Sl.of_row (List.Mem.head _) rfl) (fun _ => rfl) (by omega) (by show x.f0.toNat < 15; omega) fun b42 o42 z42 h42 e42 => ?_)
              refine w_o rfl rfl rfl (op_load1 agg_9 rfl el_ ?_)
              refine w_o rfl rfl rfl (op_assign rfl ?_)
              refine w_end ?_
              refine seq_normal ?_
              refine w_ret ?_
              refine seq_ret ?_
              rw [ht] at h42
              obtain rfl := Option.some.inj h42
              rw [show nameV x = (foundV (ofP x)).f2 by unfold nameV; rw [if_neg (by omega), if_neg (by omega), if_neg (by omega)]] at k
              exact ret_ret rfl sel_ k
            · refine w_skip ?_
              refine seq_normal ?_
              refine w_seq ?_
              refine w_region ?_
              refine w_o rfl rfl rfl (op_assign rfl ?_)
              refine w_end ?_
              refine seq_normal ?_
              refine w_seq ?_
              refine w_seq ?_
              refine w_region ?_
              refine w_o rfl rfl rfl (op_assign rfl ?_)
              refine w_end ?_
              refine seq_normal ?_
              refine w_block ?_
              refine w_loop (fun m e H' => ∃ (i : Nat), i ≤ x.f2.size ∧ m = x.f2.size - i ∧ H' = (b1, .row true 23 1 (encK x)) :: H ∧ e = [(1, ptrV b1 0), (4, vS (pasteTo x.f2 i)), (5, vI (i : Nat))]) ?_ ?_
              · exact ⟨_, _, _, ⟨0, Nat.zero_le _, rfl, rfl, rfl⟩, env_, sel_⟩
              · rintro m e H' ⟨i, hi, rfl, rfl, rfl⟩
                have hx := may_15 hm (by omega)
                have hb := byteIn x.f2 i
                obtain ⟨h, hh1, hh2, hh3, hhe⟩ : ∃ h, Go.Proofs.Yteghmemcikiblaa.P.num_Hex.f (byteAt x.f2 i) 2 = some h ∧ Go.Proofs.Yteghmemcikiblaa.P.dactylref01_Hex.f 100 (byteAt x.f2 i) 2 = some h ∧ h.size ≤ 2 ∧ hexT (byteAt x.f2 i) 2 = h := ⟨_, (hex2 _ hb.1 hb.2).1, (hex2 _ hb.1 hb.2).2.1, (hex2 _ hb.1 hb.2).2.2, rfl⟩
                have hz := pasteTo_size x.f2 i
                have hp := pasteTo_succ x.f2 i
                rw [hhe] at hp
                clear hhe
                generalize hu : pasteTo x.f2 i = u at hz hp ⊢
                refine w_seq ?_
                refine w_seq ?_
                refine w_region ?_
                refine w_o rfl rfl rfl (op_move rfl ?_)
                refine w_o rfl rfl rfl (op_fieldAddr fa_23_2 rfl ?_)
                refine w_o rfl rfl rfl (op_loadF agg_9 rfl el_ rfl ?_)
                refine w_o rfl rfl rfl (op_lenS und_9 rfl ?_)
                refine w_o rfl rfl rfl (op_lt rfl rfl ?_)
                refine w_end ?_
                refine seq_normal ?_
                first | refine w_cond rfl (fun hI6 => ?_) (fun hI6 => ?_) | refine w_condB rfl (fun hI6 => ?_) (fun hI6 => ?_)
                · refine w_skip ?_
                  refine seq_normal ?_
                  refine w_seq ?_
                  refine w_block ?_
                  refine w_region ?_
                  refine w_o rfl rfl rfl (op_move rfl ?_)
                  refine w_o rfl rfl rfl (op_fieldAddr fa_23_2 rfl ?_)
                  refine w_o rfl rfl rfl (op_loadF agg_9 rfl el_ rfl ?_)
                  refine w_o rfl rfl rfl (op_move rfl ?_)
                  refine w_o rfl rfl rfl (op_indexS und_9 rfl rfl (by omega) (by omega) ?_)
                  refine w_o rfl rfl rfl (op_convi und_5 und_3 rfl (wrap_i64 (by omega) (by omega)) ?_)
                  refine w_o rfl rfl rfl (op_call rfl rfl rfl ?_)
                  refine dactylref01_Hex_sw hh2 ?_
                  refine w_o rfl rfl rfl (op_stradd rfl rfl (by omega) ?_)
                  refine w_o rfl rfl rfl (op_assign rfl ?_)
                  refine w_end ?_
                  refine block_normal ?_
                  refine seq_normal ?_
                  refine w_region ?_
                  refine w_o rfl rfl rfl (op_move rfl ?_)
                  refine w_o rfl rfl rfl (op_addi rfl rfl (by omega) (by omega) ?_)
                  refine w_o rfl rfl rfl (op_assign rfl ?_)
                  refine w_end ?_
                  exact loop_normal (k' := x.f2.size - (i + 1)) (by omega) ⟨i + 1, by omega, rfl, rfl, rfl⟩ (by rw [hp]; exact env_) sel_
                · have hi' : i = x.f2.size := by omega
                  have hn : nameV x = pasteV x := by unfold nameV; rw [if_neg (by omega), if_neg (by omega), if_pos (by omega)]
                  rw [hn] at k
                  refine w_exit ?_
                  refine seq_exit ?_
                  refine loop_exit ?_
                  refine block_hit rfl ?_
                  refine seq_normal ?_
                  refine w_seq ?_
                  refine w_seq ?_
                  refine w_region ?_
                  refine w_o rfl rfl rfl (op_fieldAddr fa_23_3 rfl ?_)
                  refine w_o rfl rfl rfl (op_loadF agg_4 rfl el_ rfl ?_)
                  refine w_end ?_
                  refine seq_normal ?_
                  first | refine w_cond rfl (fun hI7 => ?_) (fun hI7 => ?_) | refine w_condB rfl (fun hI7 => ?_) (fun hI7 => ?_)
                  · rw [show pasteV x = u ++ (⟨#[33]⟩ : ByteArray) by unfold pasteV; rw [if_pos hI7, ← hi', hu]] at k
                    refine w_region ?_
                    refine w_o rfl rfl rfl (op_move rfl ?_)
                    refine w_o rfl rfl rfl (op_stradd rfl rfl (by rw [sz1]; omega) ?_)
                    refine w_o rfl rfl rfl (op_assign rfl ?_)
                    refine w_end ?_
                    refine seq_normal ?_
                    refine w_seq ?_
                    refine w_region ?_
                    refine w_o rfl rfl rfl (op_move rfl ?_)
                    refine w_o rfl rfl rfl (op_assign rfl ?_)
                    refine w_end ?_
                    refine seq_normal ?_
                    refine w_ret ?_
                    exact ret_ret rfl sel_ k
                  · rw [show pasteV x = u by unfold pasteV; rw [if_neg (by rw [hI7]; decide), ← hi', hu]] at k
                    refine w_skip ?_
                    refine seq_normal ?_
                    refine w_seq ?_
                    refine w_region ?_
                    refine w_o rfl rfl rfl (op_move rfl ?_)
                    refine w_o rfl rfl rfl (op_assign rfl ?_)
                    refine w_end ?_
                    refine seq_normal ?_
                    refine w_ret ?_
                    exact ret_ret rfl sel_ k
      · refine w_u rfl rfl rfl rfl rfl rfl ?_
        refine w_u rfl rfl rfl rfl rfl rfl ?_
        refine w_u rfl rfl rfl rfl rfl rfl ?_
        refine w_o rfl rfl rfl (op_pick rfl rfl rfl ?_)
        refine w_end ?_
        refine seq_normal ?_
        refine w_condF rfl ?_
        refine w_skip ?_
        refine seq_normal ?_
        refine w_seq ?_
        refine w_seq ?_
        refine w_region ?_
        refine w_o rfl rfl rfl (op_fieldAddr fa_23_0 rfl ?_)
        refine w_o rfl rfl rfl (op_loadF agg_3 rfl el_ rfl ?_)
        refine w_o rfl rfl rfl (op_eq rfl rfl ?_)
        refine w_o rfl rfl rfl (op_move rfl ?_)
        first | refine w_known (t := 30) rfl (fun g30 => ?_) (fun g30 => ?_) | refine w_knownB (t := 30) rfl (fun g30 => ?_) (fun g30 => ?_)
        · refine w_og rfl rfl rfl rfl rfl (op_fieldAddr fa_23_1 rfl ?_)
          refine w_og rfl rfl rfl rfl rfl (op_loadF agg_3 rfl el_ rfl ?_)
          refine w_og rfl rfl rfl rfl rfl (op_eq rfl rfl ?_)
          refine w_o rfl rfl rfl (op_pick rfl rfl rfl ?_)
          refine w_end ?_
          refine seq_normal ?_
          first | refine w_cond rfl (fun hI4 => ?_) (fun hI4 => ?_) | refine w_condB rfl (fun hI4 => ?_) (fun hI4 => ?_)
          · refine w_seq ?_
            refine w_region ?_
            refine w_o rfl rfl rfl (op_assign rfl ?_)
            refine w_end ?_
            refine seq_normal ?_
            refine w_ret ?_
            refine seq_ret ?_
            rw [show nameV x = ⟨#[80, 71, 68, 78]⟩ by unfold nameV; rw [if_neg (by omega), if_neg (by omega), if_neg (by omega), tab_pgdn (by omega) (by omega)]] at k
            exact ret_ret rfl sel_ k
          · refine w_skip ?_
            refine seq_normal ?_
            refine w_seq ?_
            refine w_seq ?_
            refine w_region ?_
            refine w_o rfl rfl rfl (op_fieldAddr fa_23_0 rfl ?_)
            refine w_o rfl rfl rfl (op_loadF agg_3 rfl el_ rfl ?_)
            refine w_o rfl rfl rfl (op_ne rfl rfl ?_)
            refine w_end ?_
            refine seq_normal ?_
            first | refine w_cond rfl (fun hI5 => ?_) (fun hI5 => ?_) | refine w_condB rfl (fun hI5 => ?_) (fun hI5 => ?_)
            · have ht := tab_name (may_tab hm (by omega) (by omega) (by omega) (by omega)) (by omega) (by omega)
              refine w_seq ?_
              refine w_region ?_
              refine w_o rfl rfl rfl (op_buildSlice rfl (bsl_46 _ _ _ (rfl : _ = some [_, _, _, _, _, _, _, _, _, _, _, _, _, _, _]) rfl (by decide)) fun b38 => ?_)
              refine w_o rfl rfl rfl (op_assign rfl ?_)
              refine w_end ?_
              refine seq_normal ?_
              refine w_seq ?_
              refine w_region ?_
              refine w_o rfl rfl rfl (op_move rfl ?_)
              refine w_o rfl rfl rfl (op_fieldAddr fa_23_0 rfl ?_)
              refine w_o rfl rfl rfl (op_loadF agg_3 rfl el_ rfl ?_)
              refine w_o rfl rfl rfl (op_indexT (xs := namesL) (enc := encStr) (j := x.f0.toNat) und_46 siz_9 rfl rfl (Sl.of_row (List.Mem.head _) rfl) (fun _ => rfl) (by omega) (by show x.f0.toNat < 15; omega) fun b42 o42 z42 h42 e42 => ?_)
              refine w_o rfl rfl rfl (op_load1 agg_9 rfl el_ ?_)
              refine w_o rfl rfl rfl (op_assign rfl ?_)
              refine w_end ?_
              refine seq_normal ?_
              refine w_ret ?_
              refine seq_ret ?_
              rw [ht] at h42
              obtain rfl := Option.some.inj h42
              rw [show nameV x = (foundV (ofP x)).f2 by unfold nameV; rw [if_neg (by omega), if_neg (by omega), if_neg (by omega)]] at k
              exact ret_ret rfl sel_ k
            · refine w_skip ?_
              refine seq_normal ?_
              refine w_seq ?_
              refine w_region ?_
              refine w_o rfl rfl rfl (op_assign rfl ?_)
              refine w_end ?_
              refine seq_normal ?_
              refine w_seq ?_
              refine w_seq ?_
              refine w_region ?_
              refine w_o rfl rfl rfl (op_assign rfl ?_)
              refine w_end ?_
              refine seq_normal ?_
              refine w_block ?_
              refine w_loop (fun m e H' => ∃ (i : Nat), i ≤ x.f2.size ∧ m = x.f2.size - i ∧ H' = (b1, .row true 23 1 (encK x)) :: H ∧ e = [(1, ptrV b1 0), (4, vS (pasteTo x.f2 i)), (5, vI (i : Nat))]) ?_ ?_
              · exact ⟨_, _, _, ⟨0, Nat.zero_le _, rfl, rfl, rfl⟩, env_, sel_⟩
              · rintro m e H' ⟨i, hi, rfl, rfl, rfl⟩
                have hx := may_15 hm (by omega)
                have hb := byteIn x.f2 i
                obtain ⟨h, hh1, hh2, hh3, hhe⟩ : ∃ h, Go.Proofs.Yteghmemcikiblaa.P.num_Hex.f (byteAt x.f2 i) 2 = some h ∧ Go.Proofs.Yteghmemcikiblaa.P.dactylref01_Hex.f 100 (byteAt x.f2 i) 2 = some h ∧ h.size ≤ 2 ∧ hexT (byteAt x.f2 i) 2 = h := ⟨_, (hex2 _ hb.1 hb.2).1, (hex2 _ hb.1 hb.2).2.1, (hex2 _ hb.1 hb.2).2.2, rfl⟩
                have hz := pasteTo_size x.f2 i
                have hp := pasteTo_succ x.f2 i
                rw [hhe] at hp
                clear hhe
                generalize hu : pasteTo x.f2 i = u at hz hp ⊢
                refine w_seq ?_
                refine w_seq ?_
                refine w_region ?_
                refine w_o rfl rfl rfl (op_move rfl ?_)
                refine w_o rfl rfl rfl (op_fieldAddr fa_23_2 rfl ?_)
                refine w_o rfl rfl rfl (op_loadF agg_9 rfl el_ rfl ?_)
                refine w_o rfl rfl rfl (op_lenS und_9 rfl ?_)
                refine w_o rfl rfl rfl (op_lt rfl rfl ?_)
                refine w_end ?_
                refine seq_normal ?_
                first | refine w_cond rfl (fun hI6 => ?_) (fun hI6 => ?_) | refine w_condB rfl (fun hI6 => ?_) (fun hI6 => ?_)
                · refine w_skip ?_
                  refine seq_normal ?_
                  refine w_seq ?_
                  refine w_block ?_
                  refine w_region ?_
                  refine w_o rfl rfl rfl (op_move rfl ?_)
                  refine w_o rfl rfl rfl (op_fieldAddr fa_23_2 rfl ?_)
                  refine w_o rfl rfl rfl (op_loadF agg_9 rfl el_ rfl ?_)
                  refine w_o rfl rfl rfl (op_move rfl ?_)
                  refine w_o rfl rfl rfl (op_indexS und_9 rfl rfl (by omega) (by omega) ?_)
                  refine w_o rfl rfl rfl (op_convi und_5 und_3 rfl (wrap_i64 (by omega) (by omega)) ?_)
                  refine w_o rfl rfl rfl (op_call rfl rfl rfl ?_)
                  refine dactylref01_Hex_sw hh2 ?_
                  refine w_o rfl rfl rfl (op_stradd rfl rfl (by omega) ?_)
                  refine w_o rfl rfl rfl (op_assign rfl ?_)
                  refine w_end ?_
                  refine block_normal ?_
                  refine seq_normal ?_
                  refine w_region ?_
                  refine w_o rfl rfl rfl (op_move rfl ?_)
                  refine w_o rfl rfl rfl (op_addi rfl rfl (by omega) (by omega) ?_)
                  refine w_o rfl rfl rfl (op_assign rfl ?_)
                  refine w_end ?_
                  exact loop_normal (k' := x.f2.size - (i + 1)) (by omega) ⟨i + 1, by omega, rfl, rfl, rfl⟩ (by rw [hp]; exact env_) sel_
                · have hi' : i = x.f2.size := by omega
                  have hn : nameV x = pasteV x := by unfold nameV; rw [if_neg (by omega), if_neg (by omega), if_pos (by omega)]
                  rw [hn] at k
                  refine w_exit ?_
                  refine seq_exit ?_
                  refine loop_exit ?_
                  refine block_hit rfl ?_
                  refine seq_normal ?_
                  refine w_seq ?_
                  refine w_seq ?_
                  refine w_region ?_
                  refine w_o rfl rfl rfl (op_fieldAddr fa_23_3 rfl ?_)
                  refine w_o rfl rfl rfl (op_loadF agg_4 rfl el_ rfl ?_)
                  refine w_end ?_
                  refine seq_normal ?_
                  first | refine w_cond rfl (fun hI7 => ?_) (fun hI7 => ?_) | refine w_condB rfl (fun hI7 => ?_) (fun hI7 => ?_)
                  · rw [show pasteV x = u ++ (⟨#[33]⟩ : ByteArray) by unfold pasteV; rw [if_pos hI7, ← hi', hu]] at k
                    refine w_region ?_
                    refine w_o rfl rfl rfl (op_move rfl ?_)
                    refine w_o rfl rfl rfl (op_stradd rfl rfl (by rw [sz1]; omega) ?_)
                    refine w_o rfl rfl rfl (op_assign rfl ?_)
                    refine w_end ?_
                    refine seq_normal ?_
                    refine w_seq ?_
                    refine w_region ?_
                    refine w_o rfl rfl rfl (op_move rfl ?_)
                    refine w_o rfl rfl rfl (op_assign rfl ?_)
                    refine w_end ?_
                    refine seq_normal ?_
                    refine w_ret ?_
                    exact ret_ret rfl sel_ k
                  · rw [show pasteV x = u by unfold pasteV; rw [if_neg (by rw [hI7]; decide), ← hi', hu]] at k
                    refine w_skip ?_
                    refine seq_normal ?_
                    refine w_seq ?_
                    refine w_region ?_
                    refine w_o rfl rfl rfl (op_move rfl ?_)
                    refine w_o rfl rfl rfl (op_assign rfl ?_)
                    refine w_end ?_
                    refine seq_normal ?_
                    refine w_ret ?_
                    exact ret_ret rfl sel_ k
        · refine w_u rfl rfl rfl rfl rfl rfl ?_
          refine w_u rfl rfl rfl rfl rfl rfl ?_
          refine w_u rfl rfl rfl rfl rfl rfl ?_
          refine w_o rfl rfl rfl (op_pick rfl rfl rfl ?_)
          refine w_end ?_
          refine seq_normal ?_
          refine w_condF rfl ?_
          refine w_skip ?_
          refine seq_normal ?_
          refine w_seq ?_
          refine w_seq ?_
          refine w_region ?_
          refine w_o rfl rfl rfl (op_fieldAddr fa_23_0 rfl ?_)
          refine w_o rfl rfl rfl (op_loadF agg_3 rfl el_ rfl ?_)
          refine w_o rfl rfl rfl (op_ne rfl rfl ?_)
          refine w_end ?_
          refine seq_normal ?_
          first | refine w_cond rfl (fun hI5 => ?_) (fun hI5 => ?_) | refine w_condB rfl (fun hI5 => ?_) (fun hI5 => ?_)
          · have ht := tab_name (may_tab hm (by omega) (by omega) (by omega) (by omega)) (by omega) (by omega)
            refine w_seq ?_
            refine w_region ?_
            refine w_o rfl rfl rfl (op_buildSlice rfl (bsl_46 _ _ _ (rfl : _ = some [_, _, _, _, _, _, _, _, _, _, _, _, _, _, _]) rfl (by decide)) fun b38 => ?_)
            refine w_o rfl rfl rfl (op_assign rfl ?_)
            refine w_end ?_
            refine seq_normal ?_
            refine w_seq ?_
            refine w_region ?_
            refine w_o rfl rfl rfl (op_move rfl ?_)
            refine w_o rfl rfl rfl (op_fieldAddr fa_23_0 rfl ?_)
            refine w_o rfl rfl rfl (op_loadF agg_3 rfl el_ rfl ?_)
            refine w_o rfl rfl rfl (op_indexT (xs := namesL) (enc := encStr) (j := x.f0.toNat) und_46 siz_9 rfl rfl (Sl.of_row (List.Mem.head _) rfl) (fun _ => rfl) (by omega) (by show x.f0.toNat < 15; omega) fun b42 o42 z42 h42 e42 => ?_)
            refine w_o rfl rfl rfl (op_load1 agg_9 rfl el_ ?_)
            refine w_o rfl rfl rfl (op_assign rfl ?_)
            refine w_end ?_
            refine seq_normal ?_
            refine w_ret ?_
            refine seq_ret ?_
            rw [ht] at h42
            obtain rfl := Option.some.inj h42
            rw [show nameV x = (foundV (ofP x)).f2 by unfold nameV; rw [if_neg (by omega), if_neg (by omega), if_neg (by omega)]] at k
            exact ret_ret rfl sel_ k
          · refine w_skip ?_
            refine seq_normal ?_
            refine w_seq ?_
            refine w_region ?_
            refine w_o rfl rfl rfl (op_assign rfl ?_)
            refine w_end ?_
            refine seq_normal ?_
            refine w_seq ?_
            refine w_seq ?_
            refine w_region ?_
            refine w_o rfl rfl rfl (op_assign rfl ?_)
            refine w_end ?_
            refine seq_normal ?_
            refine w_block ?_
            refine w_loop (fun m e H' => ∃ (i : Nat), i ≤ x.f2.size ∧ m = x.f2.size - i ∧ H' = (b1, .row true 23 1 (encK x)) :: H ∧ e = [(1, ptrV b1 0), (4, vS (pasteTo x.f2 i)), (5, vI (i : Nat))]) ?_ ?_
            · exact ⟨_, _, _, ⟨0, Nat.zero_le _, rfl, rfl, rfl⟩, env_, sel_⟩
            · rintro m e H' ⟨i, hi, rfl, rfl, rfl⟩
              have hx := may_15 hm (by omega)
              have hb := byteIn x.f2 i
              obtain ⟨h, hh1, hh2, hh3, hhe⟩ : ∃ h, Go.Proofs.Yteghmemcikiblaa.P.num_Hex.f (byteAt x.f2 i) 2 = some h ∧ Go.Proofs.Yteghmemcikiblaa.P.dactylref01_Hex.f 100 (byteAt x.f2 i) 2 = some h ∧ h.size ≤ 2 ∧ hexT (byteAt x.f2 i) 2 = h := ⟨_, (hex2 _ hb.1 hb.2).1, (hex2 _ hb.1 hb.2).2.1, (hex2 _ hb.1 hb.2).2.2, rfl⟩
              have hz := pasteTo_size x.f2 i
              have hp := pasteTo_succ x.f2 i
              rw [hhe] at hp
              clear hhe
              generalize hu : pasteTo x.f2 i = u at hz hp ⊢
              refine w_seq ?_
              refine w_seq ?_
              refine w_region ?_
              refine w_o rfl rfl rfl (op_move rfl ?_)
              refine w_o rfl rfl rfl (op_fieldAddr fa_23_2 rfl ?_)
              refine w_o rfl rfl rfl (op_loadF agg_9 rfl el_ rfl ?_)
              refine w_o rfl rfl rfl (op_lenS und_9 rfl ?_)
              refine w_o rfl rfl rfl (op_lt rfl rfl ?_)
              refine w_end ?_
              refine seq_normal ?_
              first | refine w_cond rfl (fun hI6 => ?_) (fun hI6 => ?_) | refine w_condB rfl (fun hI6 => ?_) (fun hI6 => ?_)
              · refine w_skip ?_
                refine seq_normal ?_
                refine w_seq ?_
                refine w_block ?_
                refine w_region ?_
                refine w_o rfl rfl rfl (op_move rfl ?_)
                refine w_o rfl rfl rfl (op_fieldAddr fa_23_2 rfl ?_)
                refine w_o rfl rfl rfl (op_loadF agg_9 rfl el_ rfl ?_)
                refine w_o rfl rfl rfl (op_move rfl ?_)
                refine w_o rfl rfl rfl (op_indexS und_9 rfl rfl (by omega) (by omega) ?_)
                refine w_o rfl rfl rfl (op_convi und_5 und_3 rfl (wrap_i64 (by omega) (by omega)) ?_)
                refine w_o rfl rfl rfl (op_call rfl rfl rfl ?_)
                refine dactylref01_Hex_sw hh2 ?_
                refine w_o rfl rfl rfl (op_stradd rfl rfl (by omega) ?_)
                refine w_o rfl rfl rfl (op_assign rfl ?_)
                refine w_end ?_
                refine block_normal ?_
                refine seq_normal ?_
                refine w_region ?_
                refine w_o rfl rfl rfl (op_move rfl ?_)
                refine w_o rfl rfl rfl (op_addi rfl rfl (by omega) (by omega) ?_)
                refine w_o rfl rfl rfl (op_assign rfl ?_)
                refine w_end ?_
                exact loop_normal (k' := x.f2.size - (i + 1)) (by omega) ⟨i + 1, by omega, rfl, rfl, rfl⟩ (by rw [hp]; exact env_) sel_
              · have hi' : i = x.f2.size := by omega
                have hn : nameV x = pasteV x := by unfold nameV; rw [if_neg (by omega), if_neg (by omega), if_pos (by omega)]
                rw [hn] at k
                refine w_exit ?_
                refine seq_exit ?_
                refine loop_exit ?_
                refine block_hit rfl ?_
                refine seq_normal ?_
                refine w_seq ?_
                refine w_seq ?_
                refine w_region ?_
                refine w_o rfl rfl rfl (op_fieldAddr fa_23_3 rfl ?_)
                refine w_o rfl rfl rfl (op_loadF agg_4 rfl el_ rfl ?_)
                refine w_end ?_
                refine seq_normal ?_
                first | refine w_cond rfl (fun hI7 => ?_) (fun hI7 => ?_) | refine w_condB rfl (fun hI7 => ?_) (fun hI7 => ?_)
                · rw [show pasteV x = u ++ (⟨#[33]⟩ : ByteArray) by unfold pasteV; rw [if_pos hI7, ← hi', hu]] at k
                  refine w_region ?_
                  refine w_o rfl rfl rfl (op_move rfl ?_)
                  refine w_o rfl rfl rfl (op_stradd rfl rfl (by rw [sz1]; omega) ?_)
                  refine w_o rfl rfl rfl (op_assign rfl ?_)
                  refine w_end ?_
                  refine seq_normal ?_
                  refine w_seq ?_
                  refine w_region ?_
                  refine w_o rfl rfl rfl (op_move rfl ?_)
                  refine w_o rfl rfl rfl (op_assign rfl ?_)
                  refine w_end ?_
                  refine seq_normal ?_
                  refine w_ret ?_
                  exact ret_ret rfl sel_ k
                · rw [show pasteV x = u by unfold pasteV; rw [if_neg (by rw [hI7]; decide), ← hi', hu]] at k
                  refine w_skip ?_
                  refine seq_normal ?_
                  refine w_seq ?_
                  refine w_region ?_
                  refine w_o rfl rfl rfl (op_move rfl ?_)
                  refine w_o rfl rfl rfl (op_assign rfl ?_)
                  refine w_end ?_
                  refine seq_normal ?_
                  refine w_ret ?_
                  exact ret_ret rfl sel_ k
end Go.Proofs.Yteghmemcikiblaa.AM.B
