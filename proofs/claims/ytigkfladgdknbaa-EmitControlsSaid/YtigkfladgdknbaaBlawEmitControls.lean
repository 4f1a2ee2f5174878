/- The law EmitControls: it answers true, whatever comes in. -/
import Derived.Test.YtigkfladgdknbaaAX
import Derived.Test.YtigkfladgdknbaaBemitref
set_option linter.unusedVariables false
set_option linter.unusedSimpArgs false
set_option maxRecDepth 10000
set_option maxHeartbeats 4000000
namespace Go.Proofs.Ytigkfladgdknbaa.AM.B
open Go Go.RowKit
theorem clean_bytes {s : ByteArray} (h : clean (bl s)) {i : Nat} (hi : i < s.size) : (32 ≤ byteAt s (i : Int) ∧ byteAt s (i : Int) ≠ 127) ∨ byteAt s (i : Int) = 7 ∨ byteAt s (i : Int) = 10 ∨ byteAt s (i : Int) = 13 ∨ (byteAt s (i : Int) = 27 ∧ i + 1 < s.size ∧ byteAt s ((i : Int) + 1) = 91) := by
  obtain ⟨l, h1, h2⟩ := h
  have hg := good_text l h1
  rw [h2] at hg
  obtain ⟨x, hx⟩ : ∃ x, (bl s)[i]? = some x := ⟨_, List.getElem?_eq_getElem hi⟩
  have hb := byteAt_n hx
  rcases good_at hg hx with q | q | q | q | ⟨q, q2⟩
  · unfold okB at q; left; omega
  · right; left; rw [hb, q]; rfl
  · right; right; left; rw [hb, q]; rfl
  · right; right; right; left; rw [hb, q]; rfl
  · right; right; right; right
    have hb2 := byteAt_n q2
    have hl := (List.getElem?_eq_some_iff.1 q2).1
    rw [bl_len] at hl
    refine ⟨by rw [hb, q]; rfl, hl, ?_⟩
    rw [show (i : Int) + 1 = ((i + 1 : Nat) : Int) by omega, hb2]; rfl
theorem clean_vals {s : ByteArray} (h : clean (bl s)) : ∀ v ∈ vals (bl s), clsV v ≤ 4 := by
  obtain ⟨l, h1, h2⟩ := h
  rw [← h2]
  exact vals_text (fun v => clsV v ≤ 4) (fun v hv => by have := width_cls.1 hv; omega) (fun n hn => cls_ascii n hn) l h1
theorem EmitControls_law {H : Hyp} {s : ByteArray} : CallW Try.prog Xs 5 [vS s] H (fun v _ => v = vB true) := by
  have hvl := vals_len (bl s)
  rw [bl_len] at hvl
  refine call_of (n := 76) (fun _ => rfl) Try.func5 rfl rfl ?_
  refine w_seq ?_
  refine w_region ?_
  refine w_o rfl rfl rfl (op_assign rfl ?_)
  refine w_end ?_
  refine seq_normal ?_
  refine w_seq ?_
  refine w_seq ?_
  refine w_region ?_
  refine w_o rfl rfl rfl (op_move rfl ?_)
  refine w_o rfl rfl rfl (op_lenS und_9 rfl ?_)
  refine w_o rfl rfl rfl (op_gt rfl rfl ?_)
  refine w_o rfl rfl rfl (op_move rfl ?_)
  first | refine w_known (t := 10) rfl (fun g10 => ?_) (fun g10 => ?_) | refine w_knownB (t := 10) rfl (fun g10 => ?_) (fun g10 => ?_)
  · refine w_u rfl rfl rfl rfl rfl rfl ?_
    refine w_u rfl rfl rfl rfl rfl rfl ?_
    refine w_u rfl rfl rfl rfl rfl rfl ?_
    refine w_o rfl rfl rfl (op_pick rfl rfl rfl ?_)
    refine w_end ?_
    refine seq_normal ?_
    refine w_condT rfl ?_
    refine w_seq ?_
    refine w_region ?_
    refine w_o rfl rfl rfl (op_call rfl rfl rfl ?_)
    refine awake_w ?_
    refine w_o rfl rfl rfl (op_assign rfl ?_)
    refine w_end ?_
    refine seq_normal ?_
    refine w_ret ?_
    refine seq_ret ?_
    exact ret_ret rfl sel_ rfl
  · refine w_og rfl rfl rfl rfl rfl (op_move rfl ?_)
    refine w_og rfl rfl rfl rfl rfl (op_call rfl rfl rfl ?_)
    refine Clean_w (by omega) (fun hcl => ?_) (fun hno => ?_)
    · refine w_og rfl rfl rfl rfl rfl (op_not rfl ?_)
      refine w_o rfl rfl rfl (op_pick rfl rfl rfl ?_)
      refine w_end ?_
      refine seq_normal ?_
      first | refine w_cond rfl (fun hI1 => ?_) (fun hI1 => ?_) | refine w_condB rfl (fun hI1 => ?_) (fun hI1 => ?_)
      · try (first | cases hI1)
        all_goals
          refine w_seq ?_
          refine w_region ?_
          refine w_o rfl rfl rfl (op_call rfl rfl rfl ?_)
          refine awake_w ?_
          refine w_o rfl rfl rfl (op_assign rfl ?_)
          refine w_end ?_
          refine seq_normal ?_
          refine w_ret ?_
          refine seq_ret ?_
          exact ret_ret rfl sel_ rfl
      · try (first | cases hI1)
        all_goals
          have hby := @clean_bytes s hcl
          have hvs := clean_vals hcl
          refine w_skip ?_
          refine seq_normal ?_
          refine w_seq ?_
          refine w_seq ?_
          refine w_region ?_
          refine w_o rfl rfl rfl (op_assign rfl ?_)
          refine w_end ?_
          refine seq_normal ?_
          refine w_block ?_
          refine w_loop (fun m e H' => ∃ (i : Nat), i ≤ s.size ∧ m = s.size - i ∧ H = H' ∧ e = [(0, vS s), (3, vI (i : Nat))]) ?_ ?_
          · exact ⟨_, _, _, ⟨0, Nat.zero_le _, rfl, rfl, rfl⟩, env_, sel_⟩
          · rintro m e H' ⟨i, hi, rfl, rfl, rfl⟩
            refine w_seq ?_
            refine w_seq ?_
            refine w_region ?_
            refine w_o rfl rfl rfl (op_move rfl ?_)
            refine w_o rfl rfl rfl (op_move rfl ?_)
            refine w_o rfl rfl rfl (op_lenS und_9 rfl ?_)
            refine w_o rfl rfl rfl (op_lt rfl rfl ?_)
            refine w_end ?_
            refine seq_normal ?_
            first | refine w_cond rfl (fun hI2 => ?_) (fun hI2 => ?_) | refine w_condB rfl (fun hI2 => ?_) (fun hI2 => ?_)
            · refine w_skip ?_
              refine seq_normal ?_
              refine w_seq ?_
              refine w_block ?_
              refine w_seq ?_
              refine w_region ?_
              refine w_o rfl rfl rfl (op_move rfl ?_)
              refine w_o rfl rfl rfl (op_move rfl ?_)
              refine w_o rfl rfl rfl (op_indexS und_9 rfl rfl (by omega) (by omega) ?_)
              have hbi := hby (i := i) (by omega)
              refine w_o rfl rfl rfl (op_assign rfl ?_)
              refine w_end ?_
              refine seq_normal ?_
              refine w_seq ?_
              refine w_region ?_
              refine w_o rfl rfl rfl (op_move rfl ?_)
              refine w_o rfl rfl rfl (op_lt rfl rfl ?_)
              refine w_o rfl rfl rfl (op_move rfl ?_)
              first | refine w_known (t := 27) rfl (fun g27 => ?_) (fun g27 => ?_) | refine w_knownB (t := 27) rfl (fun g27 => ?_) (fun g27 => ?_)
              · refine w_og rfl rfl rfl rfl rfl (op_move rfl ?_)
                refine w_og rfl rfl rfl rfl rfl (op_ne rfl rfl ?_)
                refine w_o rfl rfl rfl (op_pick rfl rfl rfl ?_)
                refine w_o rfl rfl rfl (op_move rfl ?_)
                first | refine w_known (t := 31) rfl (fun g31 => ?_) (fun g31 => ?_) | refine w_knownB (t := 31) rfl (fun g31 => ?_) (fun g31 => ?_)
                · refine w_og rfl rfl rfl rfl rfl (op_move rfl ?_)
                  refine w_og rfl rfl rfl rfl rfl (op_ne rfl rfl ?_)
                  refine w_o rfl rfl rfl (op_pick rfl rfl rfl ?_)
                  refine w_o rfl rfl rfl (op_move rfl ?_)
                  first | refine w_known (t := 35) rfl (fun g35 => ?_) (fun g35 => ?_) | refine w_knownB (t := 35) rfl (fun g35 => ?_) (fun g35 => ?_)
                  · refine w_og rfl rfl rfl rfl rfl (op_move rfl ?_)
                    refine w_og rfl rfl rfl rfl rfl (op_ne rfl rfl ?_)
                    refine w_o rfl rfl rfl (op_pick rfl rfl rfl ?_)
                    refine w_o rfl rfl rfl (op_move rfl ?_)
                    first | refine w_known (t := 39) rfl (fun g39 => ?_) (fun g39 => ?_) | refine w_knownB (t := 39) rfl (fun g39 => ?_) (fun g39 => ?_)
                    · refine w_og rfl rfl rfl rfl rfl (op_move rfl ?_)
                      refine w_og rfl rfl rfl rfl rfl (op_ne rfl rfl ?_)
                      refine w_og rfl rfl rfl rfl rfl (op_move rfl ?_)
                      first | refine w_known (t := 42) rfl (fun g42 => ?_) (fun g42 => ?_) | refine w_knownB (t := 42) rfl (fun g42 => ?_) (fun g42 => ?_)
                      · refine w_u rfl rfl rfl rfl rfl rfl ?_
                        refine w_u rfl rfl rfl rfl rfl rfl ?_
                        refine w_u rfl rfl rfl rfl rfl rfl ?_
                        refine w_u rfl rfl rfl rfl rfl rfl ?_
                        refine w_u rfl rfl rfl rfl rfl rfl ?_
                        refine w_og rfl rfl rfl rfl rfl (op_pick rfl rfl rfl ?_)
                        refine w_og rfl rfl rfl rfl rfl (op_move rfl ?_)
                        refine w_u rfl rfl rfl rfl rfl rfl ?_
                        refine w_u rfl rfl rfl rfl rfl rfl ?_
                        refine w_u rfl rfl rfl rfl rfl rfl ?_
                        refine w_u rfl rfl rfl rfl rfl rfl ?_
                        refine w_u rfl rfl rfl rfl rfl rfl ?_
                        refine w_og rfl rfl rfl rfl rfl (op_pick rfl rfl rfl ?_)
                        refine w_o rfl rfl rfl (op_pick rfl rfl rfl ?_)
                        refine w_o rfl rfl rfl (op_move rfl ?_)
                        refine w_u rfl rfl rfl rfl rfl rfl ?_
                        refine w_u rfl rfl rfl rfl rfl rfl ?_
                        refine w_o rfl rfl rfl (op_pick rfl rfl rfl ?_)
                        refine w_end ?_
                        refine seq_normal ?_
                        refine w_condT rfl ?_
                        refine w_seq ?_
                        refine w_region ?_
                        refine w_o rfl rfl rfl (op_assign rfl ?_)
                        refine w_end ?_
                        refine seq_normal ?_
                        refine w_ret ?_
                        refine block_ret ?_
                        refine seq_ret ?_
                        refine loop_ret ?_
                        refine block_ret ?_
                        refine seq_ret ?_
                        exfalso; omega
                      · refine w_og rfl rfl rfl rfl rfl (op_move rfl ?_)
                        refine w_og rfl rfl rfl rfl rfl (op_addi rfl rfl (by omega) (by omega) ?_)
                        refine w_og rfl rfl rfl rfl rfl (op_move rfl ?_)
                        refine w_og rfl rfl rfl rfl rfl (op_lenS und_9 rfl ?_)
                        refine w_og rfl rfl rfl rfl rfl (op_eq rfl rfl ?_)
                        refine w_og rfl rfl rfl rfl rfl (op_pick rfl rfl rfl ?_)
                        refine w_og rfl rfl rfl rfl rfl (op_move rfl ?_)
                        first | refine w_known (t := 49) rfl (fun g49 => ?_) (fun g49 => ?_) | refine w_knownB (t := 49) rfl (fun g49 => ?_) (fun g49 => ?_)
                        · refine w_u rfl rfl rfl rfl rfl rfl ?_
                          refine w_u rfl rfl rfl rfl rfl rfl ?_
                          refine w_u rfl rfl rfl rfl rfl rfl ?_
                          refine w_u rfl rfl rfl rfl rfl rfl ?_
                          refine w_u rfl rfl rfl rfl rfl rfl ?_
                          refine w_og rfl rfl rfl rfl rfl (op_pick rfl rfl rfl ?_)
                          refine w_o rfl rfl rfl (op_pick rfl rfl rfl ?_)
                          refine w_o rfl rfl rfl (op_move rfl ?_)
                          refine w_u rfl rfl rfl rfl rfl rfl ?_
                          refine w_u rfl rfl rfl rfl rfl rfl ?_
                          refine w_o rfl rfl rfl (op_pick rfl rfl rfl ?_)
                          refine w_end ?_
                          refine seq_normal ?_
                          refine w_condT rfl ?_
                          refine w_seq ?_
                          refine w_region ?_
                          refine w_o rfl rfl rfl (op_assign rfl ?_)
                          refine w_end ?_
                          refine seq_normal ?_
                          refine w_ret ?_
                          refine block_ret ?_
                          refine seq_ret ?_
                          refine loop_ret ?_
                          refine block_ret ?_
                          refine seq_ret ?_
                          exfalso; omega
                        · refine w_og rfl rfl rfl rfl rfl (op_move rfl ?_)
                          refine w_og rfl rfl rfl rfl rfl (op_move rfl ?_)
                          refine w_og rfl rfl rfl rfl rfl (op_addi rfl rfl (by omega) (by omega) ?_)
                          refine w_og rfl rfl rfl rfl rfl (op_indexS und_9 rfl rfl (by omega) (by omega) ?_)
                          refine w_og rfl rfl rfl rfl rfl (op_ne rfl rfl ?_)
                          refine w_og rfl rfl rfl rfl rfl (op_pick rfl rfl rfl ?_)
                          refine w_o rfl rfl rfl (op_pick rfl rfl rfl ?_)
                          refine w_o rfl rfl rfl (op_move rfl ?_)
                          first | refine w_known (t := 57) rfl (fun g57 => ?_) (fun g57 => ?_) | refine w_knownB (t := 57) rfl (fun g57 => ?_) (fun g57 => ?_)
                          · refine w_u rfl rfl rfl rfl rfl rfl ?_
                            refine w_u rfl rfl rfl rfl rfl rfl ?_
                            refine w_o rfl rfl rfl (op_pick rfl rfl rfl ?_)
                            refine w_end ?_
                            refine seq_normal ?_
                            refine w_condT rfl ?_
                            refine w_seq ?_
                            refine w_region ?_
                            refine w_o rfl rfl rfl (op_assign rfl ?_)
                            refine w_end ?_
                            refine seq_normal ?_
                            refine w_ret ?_
                            refine block_ret ?_
                            refine seq_ret ?_
                            refine loop_ret ?_
                            refine block_ret ?_
                            refine seq_ret ?_
                            exfalso; omega
                          · refine w_og rfl rfl rfl rfl rfl (op_move rfl ?_)
                            refine w_og rfl rfl rfl rfl rfl (op_eq rfl rfl ?_)
                            refine w_o rfl rfl rfl (op_pick rfl rfl rfl ?_)
                            refine w_end ?_
                            refine seq_normal ?_
                            first | refine w_cond rfl (fun hI3 => ?_) (fun hI3 => ?_) | refine w_condB rfl (fun hI3 => ?_) (fun hI3 => ?_)
                            · refine w_seq ?_
                              refine w_region ?_
                              refine w_o rfl rfl rfl (op_assign rfl ?_)
                              refine w_end ?_
                              refine seq_normal ?_
                              refine w_ret ?_
                              refine block_ret ?_
                              refine seq_ret ?_
                              refine loop_ret ?_
                              refine block_ret ?_
                              refine seq_ret ?_
                              exfalso; omega
                            · refine w_skip ?_
                              refine block_normal ?_
                              refine seq_normal ?_
                              refine w_region ?_
                              refine w_o rfl rfl rfl (op_move rfl ?_)
                              refine w_o rfl rfl rfl (op_addi rfl rfl (by omega) (by omega) ?_)
                              refine w_o rfl rfl rfl (op_assign rfl ?_)
                              refine w_end ?_
                              exact loop_normal (k' := s.size - (i + 1)) (by omega) ⟨i + 1, by omega, rfl, rfl, rfl⟩ env_ sel_
                    · refine w_u rfl rfl rfl rfl rfl rfl ?_
                      refine w_u rfl rfl rfl rfl rfl rfl ?_
                      refine w_u rfl rfl rfl rfl rfl rfl ?_
                      refine w_u rfl rfl rfl rfl rfl rfl ?_
                      refine w_u rfl rfl rfl rfl rfl rfl ?_
                      refine w_u rfl rfl rfl rfl rfl rfl ?_
                      refine w_u rfl rfl rfl rfl rfl rfl ?_
                      refine w_u rfl rfl rfl rfl rfl rfl ?_
                      refine w_u rfl rfl rfl rfl rfl rfl ?_
                      refine w_u rfl rfl rfl rfl rfl rfl ?_
                      refine w_u rfl rfl rfl rfl rfl rfl ?_
                      refine w_u rfl rfl rfl rfl rfl rfl ?_
                      refine w_u rfl rfl rfl rfl rfl rfl ?_
                      refine w_u rfl rfl rfl rfl rfl rfl ?_
                      refine w_u rfl rfl rfl rfl rfl rfl ?_
                      refine w_u rfl rfl rfl rfl rfl rfl ?_
                      refine w_o rfl rfl rfl (op_pick rfl rfl rfl ?_)
                      refine w_o rfl rfl rfl (op_move rfl ?_)
                      refine w_og rfl rfl rfl rfl rfl (op_move rfl ?_)
                      refine w_og rfl rfl rfl rfl rfl (op_eq rfl rfl ?_)
                      refine w_o rfl rfl rfl (op_pick rfl rfl rfl ?_)
                      refine w_end ?_
                      refine seq_normal ?_
                      first | refine w_cond rfl (fun hI3 => ?_) (fun hI3 => ?_) | refine w_condB rfl (fun hI3 => ?_) (fun hI3 => ?_)
                      · refine w_seq ?_
                        refine w_region ?_
                        refine w_o rfl rfl rfl (op_assign rfl ?_)
                        refine w_end ?_
                        refine seq_normal ?_
                        refine w_ret ?_
                        refine block_ret ?_
                        refine seq_ret ?_
                        refine loop_ret ?_
                        refine block_ret ?_
                        refine seq_ret ?_
                        exfalso; omega
                      · refine w_skip ?_
                        refine block_normal ?_
                        refine seq_normal ?_
                        refine w_region ?_
                        refine w_o rfl rfl rfl (op_move rfl ?_)
                        refine w_o rfl rfl rfl (op_addi rfl rfl (by omega) (by omega) ?_)
                        refine w_o rfl rfl rfl (op_assign rfl ?_)
                        refine w_end ?_
                        exact loop_normal (k' := s.size - (i + 1)) (by omega) ⟨i + 1, by omega, rfl, rfl, rfl⟩ env_ sel_
                  · refine w_u rfl rfl rfl rfl rfl rfl ?_
                    refine w_u rfl rfl rfl rfl rfl rfl ?_
                    refine w_o rfl rfl rfl (op_pick rfl rfl rfl ?_)
                    refine w_o rfl rfl rfl (op_move rfl ?_)
                    refine w_u rfl rfl rfl rfl rfl rfl ?_
                    refine w_u rfl rfl rfl rfl rfl rfl ?_
                    refine w_u rfl rfl rfl rfl rfl rfl ?_
                    refine w_u rfl rfl rfl rfl rfl rfl ?_
                    refine w_u rfl rfl rfl rfl rfl rfl ?_
                    refine w_u rfl rfl rfl rfl rfl rfl ?_
                    refine w_u rfl rfl rfl rfl rfl rfl ?_
                    refine w_u rfl rfl rfl rfl rfl rfl ?_
                    refine w_u rfl rfl rfl rfl rfl rfl ?_
                    refine w_u rfl rfl rfl rfl rfl rfl ?_
                    refine w_u rfl rfl rfl rfl rfl rfl ?_
                    refine w_u rfl rfl rfl rfl rfl rfl ?_
                    refine w_u rfl rfl rfl rfl rfl rfl ?_
                    refine w_u rfl rfl rfl rfl rfl rfl ?_
                    refine w_u rfl rfl rfl rfl rfl rfl ?_
                    refine w_u rfl rfl rfl rfl rfl rfl ?_
                    refine w_o rfl rfl rfl (op_pick rfl rfl rfl ?_)
                    refine w_o rfl rfl rfl (op_move rfl ?_)
                    refine w_og rfl rfl rfl rfl rfl (op_move rfl ?_)
                    refine w_og rfl rfl rfl rfl rfl (op_eq rfl rfl ?_)
                    refine w_o rfl rfl rfl (op_pick rfl rfl rfl ?_)
                    refine w_end ?_
                    refine seq_normal ?_
                    first | refine w_cond rfl (fun hI3 => ?_) (fun hI3 => ?_) | refine w_condB rfl (fun hI3 => ?_) (fun hI3 => ?_)
                    · refine w_seq ?_
                      refine w_region ?_
                      refine w_o rfl rfl rfl (op_assign rfl ?_)
                      refine w_end ?_
                      refine seq_normal ?_
                      refine w_ret ?_
                      refine block_ret ?_
                      refine seq_ret ?_
                      refine loop_ret ?_
                      refine block_ret ?_
                      refine seq_ret ?_
                      exfalso; omega
                    · refine w_skip ?_
                      refine block_normal ?_
                      refine seq_normal ?_
                      refine w_region ?_
                      refine w_o rfl rfl rfl (op_move rfl ?_)
                      refine w_o rfl rfl rfl (op_addi rfl rfl (by omega) (by omega) ?_)
                      refine w_o rfl rfl rfl (op_assign rfl ?_)
                      refine w_end ?_
                      exact loop_normal (k' := s.size - (i + 1)) (by omega) ⟨i + 1, by omega, rfl, rfl, rfl⟩ env_ sel_
                · refine w_u rfl rfl rfl rfl rfl rfl ?_
                  refine w_u rfl rfl rfl rfl rfl rfl ?_
                  refine w_o rfl rfl rfl (op_pick rfl rfl rfl ?_)
                  refine w_o rfl rfl rfl (op_move rfl ?_)
                  refine w_u rfl rfl rfl rfl rfl rfl ?_
                  refine w_u rfl rfl rfl rfl rfl rfl ?_
                  refine w_o rfl rfl rfl (op_pick rfl rfl rfl ?_)
                  refine w_o rfl rfl rfl (op_move rfl ?_)
                  refine w_u rfl rfl rfl rfl rfl rfl ?_
                  refine w_u rfl rfl rfl rfl rfl rfl ?_
                  refine w_u rfl rfl rfl rfl rfl rfl ?_
                  refine w_u rfl rfl rfl rfl rfl rfl ?_
                  refine w_u rfl rfl rfl rfl rfl rfl ?_
                  refine w_u rfl rfl rfl rfl rfl rfl ?_
                  refine w_u rfl rfl rfl rfl rfl rfl ?_
                  refine w_u rfl rfl rfl rfl rfl rfl ?_
                  refine w_u rfl rfl rfl rfl rfl rfl ?_
                  refine w_u rfl rfl rfl rfl rfl rfl ?_
                  refine w_u rfl rfl rfl rfl rfl rfl ?_
                  refine w_u rfl rfl rfl rfl rfl rfl ?_
                  refine w_u rfl rfl rfl rfl rfl rfl ?_
                  refine w_u rfl rfl rfl rfl rfl rfl ?_
                  refine w_u rfl rfl rfl rfl rfl rfl ?_
                  refine w_u rfl rfl rfl rfl rfl rfl ?_
                  refine w_o rfl rfl rfl (op_pick rfl rfl rfl ?_)
                  refine w_o rfl rfl rfl (op_move rfl ?_)
                  refine w_og rfl rfl rfl rfl rfl (op_move rfl ?_)
                  refine w_og rfl rfl rfl rfl rfl (op_eq rfl rfl ?_)
                  refine w_o rfl rfl rfl (op_pick rfl rfl rfl ?_)
                  refine w_end ?_
                  refine seq_normal ?_
                  first | refine w_cond rfl (fun hI3 => ?_) (fun hI3 => ?_) | refine w_condB rfl (fun hI3 => ?_) (fun hI3 => ?_)
                  · refine w_seq ?_
                    refine w_region ?_
                    refine w_o rfl rfl rfl (op_assign rfl ?_)
                    refine w_end ?_
                    refine seq_normal ?_
                    refine w_ret ?_
                    refine block_ret ?_
                    refine seq_ret ?_
                    refine loop_ret ?_
                    refine block_ret ?_
                    refine seq_ret ?_
                    exfalso; omega
                  · refine w_skip ?_
                    refine block_normal ?_
                    refine seq_normal ?_
                    refine w_region ?_
                    refine w_o rfl rfl rfl (op_move rfl ?_)
                    refine w_o rfl rfl rfl (op_addi rfl rfl (by omega) (by omega) ?_)
                    refine w_o rfl rfl rfl (op_assign rfl ?_)
                    refine w_end ?_
                    exact loop_normal (k' := s.size - (i + 1)) (by omega) ⟨i + 1, by omega, rfl, rfl, rfl⟩ env_ sel_
              · refine w_u rfl rfl rfl rfl rfl rfl ?_
                refine w_u rfl rfl rfl rfl rfl rfl ?_
                refine w_o rfl rfl rfl (op_pick rfl rfl rfl ?_)
                refine w_o rfl rfl rfl (op_move rfl ?_)
                refine w_u rfl rfl rfl rfl rfl rfl ?_
                refine w_u rfl rfl rfl rfl rfl rfl ?_
                refine w_o rfl rfl rfl (op_pick rfl rfl rfl ?_)
                refine w_o rfl rfl rfl (op_move rfl ?_)
                refine w_u rfl rfl rfl rfl rfl rfl ?_
                refine w_u rfl rfl rfl rfl rfl rfl ?_
                refine w_o rfl rfl rfl (op_pick rfl rfl rfl ?_)
                refine w_o rfl rfl rfl (op_move rfl ?_)
                refine w_u rfl rfl rfl rfl rfl rfl ?_
                refine w_u rfl rfl rfl rfl rfl rfl ?_
                refine w_u rfl rfl rfl rfl rfl rfl ?_
                refine w_u rfl rfl rfl rfl rfl rfl ?_
                refine w_u rfl rfl rfl rfl rfl rfl ?_
                refine w_u rfl rfl rfl rfl rfl rfl ?_
                refine w_u rfl rfl rfl rfl rfl rfl ?_
                refine w_u rfl rfl rfl rfl rfl rfl ?_
                refine w_u rfl rfl rfl rfl rfl rfl ?_
                refine w_u rfl rfl rfl rfl rfl rfl ?_
                refine w_u rfl rfl rfl rfl rfl rfl ?_
                refine w_u rfl rfl rfl rfl rfl rfl ?_
                refine w_u rfl rfl rfl rfl rfl rfl ?_
                refine w_u rfl rfl rfl rfl rfl rfl ?_
                refine w_u rfl rfl rfl rfl rfl rfl ?_
                refine w_u rfl rfl rfl rfl rfl rfl ?_
                refine w_o rfl rfl rfl (op_pick rfl rfl rfl ?_)
                refine w_o rfl rfl rfl (op_move rfl ?_)
                refine w_og rfl rfl rfl rfl rfl (op_move rfl ?_)
                refine w_og rfl rfl rfl rfl rfl (op_eq rfl rfl ?_)
                refine w_o rfl rfl rfl (op_pick rfl rfl rfl ?_)
                refine w_end ?_
                refine seq_normal ?_
                first | refine w_cond rfl (fun hI3 => ?_) (fun hI3 => ?_) | refine w_condB rfl (fun hI3 => ?_) (fun hI3 => ?_)
                · refine w_seq ?_
                  refine w_region ?_
                  refine w_o rfl rfl rfl (op_assign rfl ?_)
                  refine w_end ?_
                  refine seq_normal ?_
                  refine w_ret ?_
                  refine block_ret ?_
                  refine seq_ret ?_
                  refine loop_ret ?_
                  refine block_ret ?_
                  refine seq_ret ?_
                  exfalso; omega
                · refine w_skip ?_
                  refine block_normal ?_
                  refine seq_normal ?_
                  refine w_region ?_
                  refine w_o rfl rfl rfl (op_move rfl ?_)
                  refine w_o rfl rfl rfl (op_addi rfl rfl (by omega) (by omega) ?_)
                  refine w_o rfl rfl rfl (op_assign rfl ?_)
                  refine w_end ?_
                  exact loop_normal (k' := s.size - (i + 1)) (by omega) ⟨i + 1, by omega, rfl, rfl, rfl⟩ env_ sel_
            · refine w_exit ?_
              refine seq_exit ?_
              refine loop_exit ?_
              refine block_hit rfl ?_
              refine seq_normal ?_
              refine w_seq ?_
              refine w_region ?_
              refine w_o rfl rfl rfl (op_move rfl ?_)
              refine w_o rfl rfl rfl (op_call rfl rfl rfl ?_)
              refine R02Decode_w (by omega) fun ca Na ha => ?_
              refine w_o rfl rfl rfl (op_assign rfl ?_)
              refine w_end ?_
              refine seq_normal ?_
              refine w_seq ?_
              refine w_seq ?_
              refine w_region ?_
              refine w_o rfl rfl rfl (op_assign rfl ?_)
              refine w_end ?_
              refine seq_normal ?_
              refine w_block ?_
              refine w_loop (fun m e H' => ∃ (i : Nat), i ≤ (vals (bl s)).length ∧ m = (vals (bl s)).length - i ∧ H' = Na ++ H ∧ e = [(5, .one (.c ca)), (6, vI (i : Nat))]) ?_ ?_
              · exact ⟨_, _, _, ⟨0, Nat.zero_le _, rfl, rfl, rfl⟩, env_, sel_⟩
              · rintro m e H' ⟨j, hj, rfl, rfl, rfl⟩
                refine w_seq ?_
                refine w_seq ?_
                refine w_region ?_
                refine w_o rfl rfl rfl (op_move rfl ?_)
                refine w_o rfl rfl rfl (op_move rfl ?_)
                refine w_o rfl rfl rfl (op_lenC und_38 rfl (Own.lenT ha (fun _ => rfl) (by decide)) ?_)
                refine w_o rfl rfl rfl (op_lt rfl rfl ?_)
                refine w_end ?_
                refine seq_normal ?_
                first | refine w_cond rfl (fun hI4 => ?_) (fun hI4 => ?_) | refine w_condB rfl (fun hI4 => ?_) (fun hI4 => ?_)
                · refine w_skip ?_
                  refine seq_normal ?_
                  refine w_seq ?_
                  refine w_block ?_
                  refine w_seq ?_
                  refine w_region ?_
                  refine w_o rfl rfl rfl (op_move rfl ?_)
                  refine w_o rfl rfl rfl (op_move rfl ?_)
                  refine w_o rfl rfl rfl (op_indexT (xs := vals (bl s)) (enc := encI) und_38 siz_3 rfl rfl (Own.slT ha (fun _ => rfl) (by decide) subs_) (fun _ => rfl) rfl (by omega) fun b71 o71 z71 h71 e71 => ?_)
                  refine w_o rfl rfl rfl (op_load1 agg_3 rfl el_ ?_)
                  have hz : Go.Proofs.Ytigkfladgdknbaa.P.class_Of.v z71 ≤ 4 := hvs z71 (List.mem_of_getElem? h71)
                  refine w_o rfl rfl rfl (op_call rfl rfl rfl ?_)
                  refine dactylref03_Of_sw (Go.Proofs.Ytigkfladgdknbaa.P.ref_Of _ 100 (by decide)) ?_
                  refine w_o rfl rfl rfl (op_gt rfl rfl ?_)
                  refine w_end ?_
                  refine seq_normal ?_
                  first | refine w_cond rfl (fun hI5 => ?_) (fun hI5 => ?_) | refine w_condB rfl (fun hI5 => ?_) (fun hI5 => ?_)
                  · refine w_seq ?_
                    refine w_region ?_
                    refine w_o rfl rfl rfl (op_assign rfl ?_)
                    refine w_end ?_
                    refine seq_normal ?_
                    refine w_ret ?_
                    refine block_ret ?_
                    refine seq_ret ?_
                    refine loop_ret ?_
                    refine block_ret ?_
                    refine seq_ret ?_
                    exfalso; omega
                  · refine w_skip ?_
                    refine block_normal ?_
                    refine seq_normal ?_
                    refine w_region ?_
                    refine w_o rfl rfl rfl (op_move rfl ?_)
                    refine w_o rfl rfl rfl (op_addi rfl rfl (by omega) (by omega) ?_)
                    refine w_o rfl rfl rfl (op_assign rfl ?_)
                    refine w_end ?_
                    exact loop_normal (k' := (vals (bl s)).length - (j + 1)) (by omega) ⟨j + 1, by omega, rfl, rfl, rfl⟩ env_ sel_
                · refine w_exit ?_
                  refine seq_exit ?_
                  refine loop_exit ?_
                  refine block_hit rfl ?_
                  refine seq_normal ?_
                  refine w_seq ?_
                  refine w_region ?_
                  refine w_o rfl rfl rfl (op_call rfl rfl rfl ?_)
                  refine awake_w ?_
                  refine w_o rfl rfl rfl (op_assign rfl ?_)
                  refine w_end ?_
                  refine seq_normal ?_
                  refine w_ret ?_
                  exact ret_ret rfl sel_ rfl
    · refine w_og rfl rfl rfl rfl rfl (op_not rfl ?_)
      refine w_o rfl rfl rfl (op_pick rfl rfl rfl ?_)
      refine w_end ?_
      refine seq_normal ?_
      first | refine w_cond rfl (fun hI1 => ?_) (fun hI1 => ?_) | refine w_condB rfl (fun hI1 => ?_) (fun hI1 => ?_)
      · try (first | cases hI1)
        all_goals
          refine w_seq ?_
          refine w_region ?_
          refine w_o rfl rfl rfl (op_call rfl rfl rfl ?_)
          refine awake_w ?_
          refine w_o rfl rfl rfl (op_assign rfl ?_)
          refine w_end ?_
          refine seq_normal ?_
          refine w_ret ?_
          refine seq_ret ?_
          exact ret_ret rfl sel_ rfl
      · try (first | cases hI1)
        all_goals
          have hby := @clean_bytes s hcl
          have hvs := clean_vals hcl
          refine w_skip ?_
          refine seq_normal ?_
          refine w_seq ?_
          refine w_seq ?_
          refine w_region ?_
          refine w_o rfl rfl rfl (op_assign rfl ?_)
          refine w_end ?_
          refine seq_normal ?_
          refine w_block ?_
          refine w_loop (fun m e H' => ∃ (i : Nat), i ≤ s.size ∧ m = s.size - i ∧ H = H' ∧ e = [(0, vS s), (3, vI (i : Nat))]) ?_ ?_
          · exact ⟨_, _, _, ⟨0, Nat.zero_le _, rfl, rfl, rfl⟩, env_, sel_⟩
          · rintro m e H' ⟨i, hi, rfl, rfl, rfl⟩
            refine w_seq ?_
            refine w_seq ?_
            refine w_region ?_
            refine w_o rfl rfl rfl (op_move rfl ?_)
            refine w_o rfl rfl rfl (op_move rfl ?_)
            refine w_o rfl rfl rfl (op_lenS und_9 rfl ?_)
            refine w_o rfl rfl rfl (op_lt rfl rfl ?_)
            refine w_end ?_
            refine seq_normal ?_
            first | refine w_cond rfl (fun hI2 => ?_) (fun hI2 => ?_) | refine w_condB rfl (fun hI2 => ?_) (fun hI2 => ?_)
            · refine w_skip ?_
              refine seq_normal ?_
              refine w_seq ?_
              refine w_block ?_
              refine w_seq ?_
              refine w_region ?_
              refine w_o rfl rfl rfl (op_move rfl ?_)
              refine w_o rfl rfl rfl (op_move rfl ?_)
              refine w_o rfl rfl rfl (op_indexS und_9 rfl rfl (by omega) (by omega) ?_)
              have hbi := hby (i := i) (by omega)
              refine w_o rfl rfl rfl (op_assign rfl ?_)
              refine w_end ?_
              refine seq_normal ?_
              refine w_seq ?_
              refine w_region ?_
              refine w_o rfl rfl rfl (op_move rfl ?_)
              refine w_o rfl rfl rfl (op_lt rfl rfl ?_)
              refine w_o rfl rfl rfl (op_move rfl ?_)
              first | refine w_known (t := 27) rfl (fun g27 => ?_) (fun g27 => ?_) | refine w_knownB (t := 27) rfl (fun g27 => ?_) (fun g27 => ?_)
              · refine w_og rfl rfl rfl rfl rfl (op_move rfl ?_)
                refine w_og rfl rfl rfl rfl rfl (op_ne rfl rfl ?_)
                refine w_o rfl rfl rfl (op_pick rfl rfl rfl ?_)
                refine w_o rfl rfl rfl (op_move rfl ?_)
                first | refine w_known (t := 31) rfl (fun g31 => ?_) (fun g31 => ?_) | refine w_knownB (t := 31) rfl (fun g31 => ?_) (fun g31 => ?_)
                · refine w_og rfl rfl rfl rfl rfl (op_move rfl ?_)
                  refine w_og rfl rfl rfl rfl rfl (op_ne rfl rfl ?_)
                  refine w_o rfl rfl rfl (op_pick rfl rfl rfl ?_)
                  refine w_o rfl rfl rfl (op_move rfl ?_)
                  first | refine w_known (t := 35) rfl (fun g35 => ?_) (fun g35 => ?_) | refine w_knownB (t := 35) rfl (fun g35 => ?_) (fun g35 => ?_)
                  · refine w_og rfl rfl rfl rfl rfl (op_move rfl ?_)
                    refine w_og rfl rfl rfl rfl rfl (op_ne rfl rfl ?_)
                    refine w_o rfl rfl rfl (op_pick rfl rfl rfl ?_)
                    refine w_o rfl rfl rfl (op_move rfl ?_)
                    first | refine w_known (t := 39) rfl (fun g39 => ?_) (fun g39 => ?_) | refine w_knownB (t := 39) rfl (fun g39 => ?_) (fun g39 => ?_)
                    · refine w_og rfl rfl rfl rfl rfl (op_move rfl ?_)
                      refine w_og rfl rfl rfl rfl rfl (op_ne rfl rfl ?_)
                      refine w_og rfl rfl rfl rfl rfl (op_move rfl ?_)
                      first | refine w_known (t := 42) rfl (fun g42 => ?_) (fun g42 => ?_) | refine w_knownB (t := 42) rfl (fun g42 => ?_) (fun g42 => ?_)
                      · refine w_u rfl rfl rfl rfl rfl rfl ?_
                        refine w_u rfl rfl rfl rfl rfl rfl ?_
                        refine w_u rfl rfl rfl rfl rfl rfl ?_
                        refine w_u rfl rfl rfl rfl rfl rfl ?_
                        refine w_u rfl rfl rfl rfl rfl rfl ?_
                        refine w_og rfl rfl rfl rfl rfl (op_pick rfl rfl rfl ?_)
                        refine w_og rfl rfl rfl rfl rfl (op_move rfl ?_)
                        refine w_u rfl rfl rfl rfl rfl rfl ?_
                        refine w_u rfl rfl rfl rfl rfl rfl ?_
                        refine w_u rfl rfl rfl rfl rfl rfl ?_
                        refine w_u rfl rfl rfl rfl rfl rfl ?_
                        refine w_u rfl rfl rfl rfl rfl rfl ?_
                        refine w_og rfl rfl rfl rfl rfl (op_pick rfl rfl rfl ?_)
                        refine w_o rfl rfl rfl (op_pick rfl rfl rfl ?_)
                        refine w_o rfl rfl rfl (op_move rfl ?_)
                        refine w_u rfl rfl rfl rfl rfl rfl ?_
                        refine w_u rfl rfl rfl rfl rfl rfl ?_
                        refine w_o rfl rfl rfl (op_pick rfl rfl rfl ?_)
                        refine w_end ?_
                        refine seq_normal ?_
                        refine w_condT rfl ?_
                        refine w_seq ?_
                        refine w_region ?_
                        refine w_o rfl rfl rfl (op_assign rfl ?_)
                        refine w_end ?_
                        refine seq_normal ?_
                        refine w_ret ?_
                        refine block_ret ?_
                        refine seq_ret ?_
                        refine loop_ret ?_
                        refine block_ret ?_
                        refine seq_ret ?_
                        exfalso; omega
                      · refine w_og rfl rfl rfl rfl rfl (op_move rfl ?_)
                        refine w_og rfl rfl rfl rfl rfl (op_addi rfl rfl (by omega) (by omega) ?_)
                        refine w_og rfl rfl rfl rfl rfl (op_move rfl ?_)
                        refine w_og rfl rfl rfl rfl rfl (op_lenS und_9 rfl ?_)
                        refine w_og rfl rfl rfl rfl rfl (op_eq rfl rfl ?_)
                        refine w_og rfl rfl rfl rfl rfl (op_pick rfl rfl rfl ?_)
                        refine w_og rfl rfl rfl rfl rfl (op_move rfl ?_)
                        first | refine w_known (t := 49) rfl (fun g49 => ?_) (fun g49 => ?_) | refine w_knownB (t := 49) rfl (fun g49 => ?_) (fun g49 => ?_)
                        · refine w_u rfl rfl rfl rfl rfl rfl ?_
                          refine w_u rfl rfl rfl rfl rfl rfl ?_
                          refine w_u rfl rfl rfl rfl rfl rfl ?_
                          refine w_u rfl rfl rfl rfl rfl rfl ?_
                          refine w_u rfl rfl rfl rfl rfl rfl ?_
                          refine w_og rfl rfl rfl rfl rfl (op_pick rfl rfl rfl ?_)
                          refine w_o rfl rfl rfl (op_pick rfl rfl rfl ?_)
                          refine w_o rfl rfl rfl (op_move rfl ?_)
                          refine w_u rfl rfl rfl rfl rfl rfl ?_
                          refine w_u rfl rfl rfl rfl rfl rfl ?_
                          refine w_o rfl rfl rfl (op_pick rfl rfl rfl ?_)
                          refine w_end ?_
                          refine seq_normal ?_
                          refine w_condT rfl ?_
                          refine w_seq ?_
                          refine w_region ?_
                          refine w_o rfl rfl rfl (op_assign rfl ?_)
                          refine w_end ?_
                          refine seq_normal ?_
                          refine w_ret ?_
                          refine block_ret ?_
                          refine seq_ret ?_
                          refine loop_ret ?_
                          refine block_ret ?_
                          refine seq_ret ?_
                          exfalso; omega
                        · refine w_og rfl rfl rfl rfl rfl (op_move rfl ?_)
                          refine w_og rfl rfl rfl rfl rfl (op_move rfl ?_)
                          refine w_og rfl rfl rfl rfl rfl (op_addi rfl rfl (by omega) (by omega) ?_)
                          refine w_og rfl rfl rfl rfl rfl (op_indexS und_9 rfl rfl (by omega) (by omega) ?_)
                          refine w_og rfl rfl rfl rfl rfl (op_ne rfl rfl ?_)
                          refine w_og rfl rfl rfl rfl rfl (op_pick rfl rfl rfl ?_)
                          refine w_o rfl rfl rfl (op_pick rfl rfl rfl ?_)
                          refine w_o rfl rfl rfl (op_move rfl ?_)
                          first | refine w_known (t := 57) rfl (fun g57 => ?_) (fun g57 => ?_) | refine w_knownB (t := 57) rfl (fun g57 => ?_) (fun g57 => ?_)
                          · refine w_u rfl rfl rfl rfl rfl rfl ?_
                            refine w_u rfl rfl rfl rfl rfl rfl ?_
                            refine w_o rfl rfl rfl (op_pick rfl rfl rfl ?_)
                            refine w_end ?_
                            refine seq_normal ?_
                            refine w_condT rfl ?_
                            refine w_seq ?_
                            refine w_region ?_
                            refine w_o rfl rfl rfl (op_assign rfl ?_)
                            refine w_end ?_
                            refine seq_normal ?_
                            refine w_ret ?_
                            refine block_ret ?_
                            refine seq_ret ?_
                            refine loop_ret ?_
                            refine block_ret ?_
                            refine seq_ret ?_
                            exfalso; omega
                          · refine w_og rfl rfl rfl rfl rfl (op_move rfl ?_)
                            refine w_og rfl rfl rfl rfl rfl (op_eq rfl rfl ?_)
                            refine w_o rfl rfl rfl (op_pick rfl rfl rfl ?_)
                            refine w_end ?_
                            refine seq_normal ?_
                            first | refine w_cond rfl (fun hI3 => ?_) (fun hI3 => ?_) | refine w_condB rfl (fun hI3 => ?_) (fun hI3 => ?_)
                            · refine w_seq ?_
                              refine w_region ?_
                              refine w_o rfl rfl rfl (op_assign rfl ?_)
                              refine w_end ?_
                              refine seq_normal ?_
                              refine w_ret ?_
                              refine block_ret ?_
                              refine seq_ret ?_
                              refine loop_ret ?_
                              refine block_ret ?_
                              refine seq_ret ?_
                              exfalso; omega
                            · refine w_skip ?_
                              refine block_normal ?_
                              refine seq_normal ?_
                              refine w_region ?_
                              refine w_o rfl rfl rfl (op_move rfl ?_)
                              refine w_o rfl rfl rfl (op_addi rfl rfl (by omega) (by omega) ?_)
                              refine w_o rfl rfl rfl (op_assign rfl ?_)
                              refine w_end ?_
                              exact loop_normal (k' := s.size - (i + 1)) (by omega) ⟨i + 1, by omega, rfl, rfl, rfl⟩ env_ sel_
                    · refine w_u rfl rfl rfl rfl rfl rfl ?_
                      refine w_u rfl rfl rfl rfl rfl rfl ?_
                      refine w_u rfl rfl rfl rfl rfl rfl ?_
                      refine w_u rfl rfl rfl rfl rfl rfl ?_
                      refine w_u rfl rfl rfl rfl rfl rfl ?_
                      refine w_u rfl rfl rfl rfl rfl rfl ?_
                      refine w_u rfl rfl rfl rfl rfl rfl ?_
                      refine w_u rfl rfl rfl rfl rfl rfl ?_
                      refine w_u rfl rfl rfl rfl rfl rfl ?_
                      refine w_u rfl rfl rfl rfl rfl rfl ?_
                      refine w_u rfl rfl rfl rfl rfl rfl ?_
                      refine w_u rfl rfl rfl rfl rfl rfl ?_
                      refine w_u rfl rfl rfl rfl rfl rfl ?_
                      refine w_u rfl rfl rfl rfl rfl rfl ?_
                      refine w_u rfl rfl rfl rfl rfl rfl ?_
                      refine w_u rfl rfl rfl rfl rfl rfl ?_
                      refine w_o rfl rfl rfl (op_pick rfl rfl rfl ?_)
                      refine w_o rfl rfl rfl (op_move rfl ?_)
                      refine w_og rfl rfl rfl rfl rfl (op_move rfl ?_)
                      refine w_og rfl rfl rfl rfl rfl (op_eq rfl rfl ?_)
                      refine w_o rfl rfl rfl (op_pick rfl rfl rfl ?_)
                      refine w_end ?_
                      refine seq_normal ?_
                      first | refine w_cond rfl (fun hI3 => ?_) (fun hI3 => ?_) | refine w_condB rfl (fun hI3 => ?_) (fun hI3 => ?_)
                      · refine w_seq ?_
                        refine w_region ?_
                        refine w_o rfl rfl rfl (op_assign rfl ?_)
                        refine w_end ?_
                        refine seq_normal ?_
                        refine w_ret ?_
                        refine block_ret ?_
                        refine seq_ret ?_
                        refine loop_ret ?_
                        refine block_ret ?_
                        refine seq_ret ?_
                        exfalso; omega
                      · refine w_skip ?_
                        refine block_normal ?_
                        refine seq_normal ?_
                        refine w_region ?_
                        refine w_o rfl rfl rfl (op_move rfl ?_)
                        refine w_o rfl rfl rfl (op_addi rfl rfl (by omega) (by omega) ?_)
                        refine w_o rfl rfl rfl (op_assign rfl ?_)
                        refine w_end ?_
                        exact loop_normal (k' := s.size - (i + 1)) (by omega) ⟨i + 1, by omega, rfl, rfl, rfl⟩ env_ sel_
                  · refine w_u rfl rfl rfl rfl rfl rfl ?_
                    refine w_u rfl rfl rfl rfl rfl rfl ?_
                    refine w_o rfl rfl rfl (op_pick rfl rfl rfl ?_)
                    refine w_o rfl rfl rfl (op_move rfl ?_)
                    refine w_u rfl rfl rfl rfl rfl rfl ?_
                    refine w_u rfl rfl rfl rfl rfl rfl ?_
                    refine w_u rfl rfl rfl rfl rfl rfl ?_
                    refine w_u rfl rfl rfl rfl rfl rfl ?_
                    refine w_u rfl rfl rfl rfl rfl rfl ?_
                    refine w_u rfl rfl rfl rfl rfl rfl ?_
                    refine w_u rfl rfl rfl rfl rfl rfl ?_
                    refine w_u rfl rfl rfl rfl rfl rfl ?_
                    refine w_u rfl rfl rfl rfl rfl rfl ?_
                    refine w_u rfl rfl rfl rfl rfl rfl ?_
                    refine w_u rfl rfl rfl rfl rfl rfl ?_
                    refine w_u rfl rfl rfl rfl rfl rfl ?_
                    refine w_u rfl rfl rfl rfl rfl rfl ?_
                    refine w_u rfl rfl rfl rfl rfl rfl ?_
                    refine w_u rfl rfl rfl rfl rfl rfl ?_
                    refine w_u rfl rfl rfl rfl rfl rfl ?_
                    refine w_o rfl rfl rfl (op_pick rfl rfl rfl ?_)
                    refine w_o rfl rfl rfl (op_move rfl ?_)
                    refine w_og rfl rfl rfl rfl rfl (op_move rfl ?_)
                    refine w_og rfl rfl rfl rfl rfl (op_eq rfl rfl ?_)
                    refine w_o rfl rfl rfl (op_pick rfl rfl rfl ?_)
                    refine w_end ?_
                    refine seq_normal ?_
                    first | refine w_cond rfl (fun hI3 => ?_) (fun hI3 => ?_) | refine w_condB rfl (fun hI3 => ?_) (fun hI3 => ?_)
                    · refine w_seq ?_
                      refine w_region ?_
                      refine w_o rfl rfl rfl (op_assign rfl ?_)
                      refine w_end ?_
                      refine seq_normal ?_
                      refine w_ret ?_
                      refine block_ret ?_
                      refine seq_ret ?_
                      refine loop_ret ?_
                      refine block_ret ?_
                      refine seq_ret ?_
                      exfalso; omega
                    · refine w_skip ?_
                      refine block_normal ?_
                      refine seq_normal ?_
                      refine w_region ?_
                      refine w_o rfl rfl rfl (op_move rfl ?_)
                      refine w_o rfl rfl rfl (op_addi rfl rfl (by omega) (by omega) ?_)
                      refine w_o rfl rfl rfl (op_assign rfl ?_)
                      refine w_end ?_
                      exact loop_normal (k' := s.size - (i + 1)) (by omega) ⟨i + 1, by omega, rfl, rfl, rfl⟩ env_ sel_
                · refine w_u rfl rfl rfl rfl rfl rfl ?_
                  refine w_u rfl rfl rfl rfl rfl rfl ?_
                  refine w_o rfl rfl rfl (op_pick rfl rfl rfl ?_)
                  refine w_o rfl rfl rfl (op_move rfl ?_)
                  refine w_u rfl rfl rfl rfl rfl rfl ?_
                  refine w_u rfl rfl rfl rfl rfl rfl ?_
                  refine w_o rfl rfl rfl (op_pick rfl rfl rfl ?_)
                  refine w_o rfl rfl rfl (op_move rfl ?_)
                  refine w_u rfl rfl rfl rfl rfl rfl ?_
                  refine w_u rfl rfl rfl rfl rfl rfl ?_
                  refine w_u rfl rfl rfl rfl rfl rfl ?_
                  refine w_u rfl rfl rfl rfl rfl rfl ?_
                  refine w_u rfl rfl rfl rfl rfl rfl ?_
                  refine w_u rfl rfl rfl rfl rfl rfl ?_
                  refine w_u rfl rfl rfl rfl rfl rfl ?_
                  refine w_u rfl rfl rfl rfl rfl rfl ?_
                  refine w_u rfl rfl rfl rfl rfl rfl ?_
                  refine w_u rfl rfl rfl rfl rfl rfl ?_
                  refine w_u rfl rfl rfl rfl rfl rfl ?_
                  refine w_u rfl rfl rfl rfl rfl rfl ?_
                  refine w_u rfl rfl rfl rfl rfl rfl ?_
                  refine w_u rfl rfl rfl rfl rfl rfl ?_
                  refine w_u rfl rfl rfl rfl rfl rfl ?_
                  refine w_u rfl rfl rfl rfl rfl rfl ?_
                  refine w_o rfl rfl rfl (op_pick rfl rfl rfl ?_)
                  refine w_o rfl rfl rfl (op_move rfl ?_)
                  refine w_og rfl rfl rfl rfl rfl (op_move rfl ?_)
                  refine w_og rfl rfl rfl rfl rfl (op_eq rfl rfl ?_)
                  refine w_o rfl rfl rfl (op_pick rfl rfl rfl ?_)
                  refine w_end ?_
                  refine seq_normal ?_
                  first | refine w_cond rfl (fun hI3 => ?_) (fun hI3 => ?_) | refine w_condB rfl (fun hI3 => ?_) (fun hI3 => ?_)
                  · refine w_seq ?_
                    refine w_region ?_
                    refine w_o rfl rfl rfl (op_assign rfl ?_)
                    refine w_end ?_
                    refine seq_normal ?_
                    refine w_ret ?_
                    refine block_ret ?_
                    refine seq_ret ?_
                    refine loop_ret ?_
                    refine block_ret ?_
                    refine seq_ret ?_
                    exfalso; omega
                  · refine w_skip ?_
                    refine block_normal ?_
                    refine seq_normal ?_
                    refine w_region ?_
                    refine w_o rfl rfl rfl (op_move rfl ?_)
                    refine w_o rfl rfl rfl (op_addi rfl rfl (by omega) (by omega) ?_)
                    refine w_o rfl rfl rfl (op_assign rfl ?_)
                    refine w_end ?_
                    exact loop_normal (k' := s.size - (i + 1)) (by omega) ⟨i + 1, by omega, rfl, rfl, rfl⟩ env_ sel_
              · refine w_u rfl rfl rfl rfl rfl rfl ?_
                refine w_u rfl rfl rfl rfl rfl rfl ?_
                refine w_o rfl rfl rfl (op_pick rfl rfl rfl ?_)
                refine w_o rfl rfl rfl (op_move rfl ?_)
                refine w_u rfl rfl rfl rfl rfl rfl ?_
                refine w_u rfl rfl rfl rfl rfl rfl ?_
                refine w_o rfl rfl rfl (op_pick rfl rfl rfl ?_)
                refine w_o rfl rfl rfl (op_move rfl ?_)
                refine w_u rfl rfl rfl rfl rfl rfl ?_
                refine w_u rfl rfl rfl rfl rfl rfl ?_
                refine w_o rfl rfl rfl (op_pick rfl rfl rfl ?_)
                refine w_o rfl rfl rfl (op_move rfl ?_)
                refine w_u rfl rfl rfl rfl rfl rfl ?_
                refine w_u rfl rfl rfl rfl rfl rfl ?_
                refine w_u rfl rfl rfl rfl rfl rfl ?_
                refine w_u rfl rfl rfl rfl rfl rfl ?_
                refine w_u rfl rfl rfl rfl rfl rfl ?_
                refine w_u rfl rfl rfl rfl rfl rfl ?_
                refine w_u rfl rfl rfl rfl rfl rfl ?_
                refine w_u rfl rfl rfl rfl rfl rfl ?_
                refine w_u rfl rfl rfl rfl rfl rfl ?_
                refine w_u rfl rfl rfl rfl rfl rfl ?_
                refine w_u rfl rfl rfl rfl rfl rfl ?_
                refine w_u rfl rfl rfl rfl rfl rfl ?_
                refine w_u rfl rfl rfl rfl rfl rfl ?_
                refine w_u rfl rfl rfl rfl rfl rfl ?_
                refine w_u rfl rfl rfl rfl rfl rfl ?_
                refine w_u rfl rfl rfl rfl rfl rfl ?_
                refine w_o rfl rfl rfl (op_pick rfl rfl rfl ?_)
                refine w_o rfl rfl rfl (op_move rfl ?_)
                refine w_og rfl rfl rfl rfl rfl (op_move rfl ?_)
                refine w_og rfl rfl rfl rfl rfl (op_eq rfl rfl ?_)
                refine w_o rfl rfl rfl (op_pick rfl rfl rfl ?_)
                refine w_end ?_
                refine seq_normal ?_
                first | refine w_cond rfl (fun hI3 => ?_) (fun hI3 => ?_) | refine w_condB rfl (fun hI3 => ?_) (fun hI3 => ?_)
                · refine w_seq ?_
                  refine w_region ?_
                  refine w_o rfl rfl rfl (op_assign rfl ?_)
                  refine w_end ?_
                  refine seq_normal ?_
                  refine w_ret ?_
                  refine block_ret ?_
                  refine seq_ret ?_
                  refine loop_ret ?_
                  refine block_ret ?_
                  refine seq_ret ?_
                  exfalso; omega
                · refine w_skip ?_
                  refine block_normal ?_
                  refine seq_normal ?_
                  refine w_region ?_
                  refine w_o rfl rfl rfl (op_move rfl ?_)
                  refine w_o rfl rfl rfl (op_addi rfl rfl (by omega) (by omega) ?_)
                  refine w_o rfl rfl rfl (op_assign rfl ?_)
                  refine w_end ?_
                  exact loop_normal (k' := s.size - (i + 1)) (by omega) ⟨i + 1, by omega, rfl, rfl, rfl⟩ env_ sel_
            · refine w_exit ?_
              refine seq_exit ?_
              refine loop_exit ?_
              refine block_hit rfl ?_
              refine seq_normal ?_
              refine w_seq ?_
              refine w_region ?_
              refine w_o rfl rfl rfl (op_move rfl ?_)
              refine w_o rfl rfl rfl (op_call rfl rfl rfl ?_)
              refine R02Decode_w (by omega) fun ca Na ha => ?_
              refine w_o rfl rfl rfl (op_assign rfl ?_)
              refine w_end ?_
              refine seq_normal ?_
              refine w_seq ?_
              refine w_seq ?_
              refine w_region ?_
              refine w_o rfl rfl rfl (op_assign rfl ?_)
              refine w_end ?_
              refine seq_normal ?_
              refine w_block ?_
              refine w_loop (fun m e H' => ∃ (i : Nat), i ≤ (vals (bl s)).length ∧ m = (vals (bl s)).length - i ∧ H' = Na ++ H ∧ e = [(5, .one (.c ca)), (6, vI (i : Nat))]) ?_ ?_
              · exact ⟨_, _, _, ⟨0, Nat.zero_le _, rfl, rfl, rfl⟩, env_, sel_⟩
              · rintro m e H' ⟨j, hj, rfl, rfl, rfl⟩
                refine w_seq ?_
                refine w_seq ?_
                refine w_region ?_
                refine w_o rfl rfl rfl (op_move rfl ?_)
                refine w_o rfl rfl rfl (op_move rfl ?_)
                refine w_o rfl rfl rfl (op_lenC und_38 rfl (Own.lenT ha (fun _ => rfl) (by decide)) ?_)
                refine w_o rfl rfl rfl (op_lt rfl rfl ?_)
                refine w_end ?_
                refine seq_normal ?_
                first | refine w_cond rfl (fun hI4 => ?_) (fun hI4 => ?_) | refine w_condB rfl (fun hI4 => ?_) (fun hI4 => ?_)
                · refine w_skip ?_
                  refine seq_normal ?_
                  refine w_seq ?_
                  refine w_block ?_
                  refine w_seq ?_
                  refine w_region ?_
                  refine w_o rfl rfl rfl (op_move rfl ?_)
                  refine w_o rfl rfl rfl (op_move rfl ?_)
                  refine w_o rfl rfl rfl (op_indexT (xs := vals (bl s)) (enc := encI) und_38 siz_3 rfl rfl (Own.slT ha (fun _ => rfl) (by decide) subs_) (fun _ => rfl) rfl (by omega) fun b71 o71 z71 h71 e71 => ?_)
                  refine w_o rfl rfl rfl (op_load1 agg_3 rfl el_ ?_)
                  have hz : Go.Proofs.Ytigkfladgdknbaa.P.class_Of.v z71 ≤ 4 := hvs z71 (List.mem_of_getElem? h71)
                  refine w_o rfl rfl rfl (op_call rfl rfl rfl ?_)
                  refine dactylref03_Of_sw (Go.Proofs.Ytigkfladgdknbaa.P.ref_Of _ 100 (by decide)) ?_
                  refine w_o rfl rfl rfl (op_gt rfl rfl ?_)
                  refine w_end ?_
                  refine seq_normal ?_
                  first | refine w_cond rfl (fun hI5 => ?_) (fun hI5 => ?_) | refine w_condB rfl (fun hI5 => ?_) (fun hI5 => ?_)
                  · refine w_seq ?_
                    refine w_region ?_
                    refine w_o rfl rfl rfl (op_assign rfl ?_)
                    refine w_end ?_
                    refine seq_normal ?_
                    refine w_ret ?_
                    refine block_ret ?_
                    refine seq_ret ?_
                    refine loop_ret ?_
                    refine block_ret ?_
                    refine seq_ret ?_
                    exfalso; omega
                  · refine w_skip ?_
                    refine block_normal ?_
                    refine seq_normal ?_
                    refine w_region ?_
                    refine w_o rfl rfl rfl (op_move rfl ?_)
                    refine w_o rfl rfl rfl (op_addi rfl rfl (by omega) (by omega) ?_)
                    refine w_o rfl rfl rfl (op_assign rfl ?_)
                    refine w_end ?_
                    exact loop_normal (k' := (vals (bl s)).length - (j + 1)) (by omega) ⟨j + 1, by omega, rfl, rfl, rfl⟩ env_ sel_
                · refine w_exit ?_
                  refine seq_exit ?_
                  refine loop_exit ?_
                  refine block_hit rfl ?_
                  refine seq_normal ?_
                  refine w_seq ?_
                  refine w_region ?_
                  refine w_o rfl rfl rfl (op_call rfl rfl rfl ?_)
                  refine awake_w ?_
                  refine w_o rfl rfl rfl (op_assign rfl ?_)
                  refine w_end ?_
                  refine seq_normal ?_
                  refine w_ret ?_
                  exact ret_ret rfl sel_ rfl
end Go.Proofs.Ytigkfladgdknbaa.AM.B
