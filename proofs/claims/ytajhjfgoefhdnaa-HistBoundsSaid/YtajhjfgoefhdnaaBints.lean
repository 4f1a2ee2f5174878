/- R01.Ints: two lists of whole numbers. -/
import Derived.Test.YtajhjfgoefhdnaaAX
import Derived.Test.YtajhjfgoefhdnaaBrights
set_option linter.unusedVariables false
set_option linter.unusedSimpArgs false
set_option maxRecDepth 10000
set_option maxHeartbeats 4000000
namespace Go.Proofs.Ytajhjfgoefhdnaa.AM.B
open Go Go.RowKit
theorem R01Ints_w {H : Hyp} {K : V → Hyp → Prop} {c c' : Cell} {l l' : List Int} (h : Sl H 3 1 c l.length (l.flatMap encI)) (h' : Sl H 3 1 c' l'.length (l'.flatMap encI)) (hl : l.length ≤ 1000000) (k : K (vB (decide (l = l'))) H) : CallW Try.prog Xs 10 [.one (.c c), .one (.c c')] H K := by
  refine call_of (n := 26) (fun _ => rfl) Try.func10 rfl rfl ?_
  refine w_seq ?_
  refine w_region ?_
  refine w_o rfl rfl rfl (op_assign rfl ?_)
  refine w_end ?_
  refine seq_normal ?_
  refine w_seq ?_
  refine w_seq ?_
  refine w_region ?_
  refine w_o rfl rfl rfl (op_move rfl ?_)
  refine w_o rfl rfl rfl (op_lenC und_34 rfl h.lenC ?_)
  refine w_o rfl rfl rfl (op_move rfl ?_)
  refine w_o rfl rfl rfl (op_lenC und_34 rfl h'.lenC ?_)
  refine w_o rfl rfl rfl (op_ne rfl rfl ?_)
  refine w_end ?_
  refine seq_normal ?_
  first | refine w_cond rfl (fun hI1 => ?_) (fun hI1 => ?_) | refine w_condB rfl (fun hI1 => ?_) (fun hI1 => ?_)
  · have hne : ¬ (l = l') := fun q => hI1 (by rw [q])
    refine w_seq ?_
    refine w_region ?_
    refine w_o rfl rfl rfl (op_assign rfl ?_)
    refine w_end ?_
    refine seq_normal ?_
    refine w_ret ?_
    refine seq_ret ?_
    exact ret_bool rfl sel_ (decide_eq_false hne).symm k
  · have heq : l.length = l'.length := by omega
    refine w_skip ?_
    refine seq_normal ?_
    refine w_seq ?_
    refine w_seq ?_
    refine w_region ?_
    refine w_o rfl rfl rfl (op_assign rfl ?_)
    refine w_end ?_
    refine seq_normal ?_
    refine w_block ?_
    refine w_loop (fun m e H' => ∃ (i : Nat), i ≤ l.length ∧ m = l.length - i ∧ (∀ (j : Nat), j < i → l[j]? = l'[j]?) ∧ H = H' ∧ e = [(0, .one (.c c)), (1, .one (.c c')), (5, vI (i : Nat))]) ?_ ?_
    · exact ⟨_, _, _, ⟨0, Nat.zero_le _, rfl, fun j hj => absurd hj (Nat.not_lt_zero _), rfl, rfl⟩, env_, sel_⟩
    · rintro m e H' ⟨i, hi, rfl, hp, rfl, rfl⟩
      refine w_seq ?_
      refine w_seq ?_
      refine w_region ?_
      refine w_o rfl rfl rfl (op_move rfl ?_)
      refine w_o rfl rfl rfl (op_move rfl ?_)
      refine w_o rfl rfl rfl (op_lenC und_34 rfl h.lenC ?_)
      refine w_o rfl rfl rfl (op_lt rfl rfl ?_)
      refine w_end ?_
      refine seq_normal ?_
      first | refine w_cond rfl (fun hI2 => ?_) (fun hI2 => ?_) | refine w_condB rfl (fun hI2 => ?_) (fun hI2 => ?_)
      · refine w_skip ?_
        refine seq_normal ?_
        refine w_seq ?_
        refine w_block ?_
        refine w_seq ?_
        refine w_draw (by decide +kernel) (by decide +kernel) ?_
        refine w_d rfl rfl rfl (op_move rfl ?_)
        refine w_d rfl rfl rfl (op_move rfl ?_)
        refine w_d rfl rfl rfl (op_indexT (enc := encI) und_34 siz_3 rfl rfl h (fun _ => rfl) rfl (by omega) fun b19 o19 z19 h19 e19 => ?_)
        refine w_d rfl rfl rfl (op_load1 agg_3 rfl el_ ?_)
        refine w_d rfl rfl rfl (op_move rfl ?_)
        refine w_d rfl rfl rfl (op_move rfl ?_)
        refine w_d rfl rfl rfl (op_indexT (enc := encI) und_34 siz_3 rfl rfl h' (fun _ => rfl) rfl (by omega) fun b23 o23 z23 h23 e23 => ?_)
        refine w_d rfl rfl rfl (op_load1 agg_3 rfl el_ ?_)
        refine w_d rfl rfl rfl (op_ne rfl rfl ?_)
        refine w_end ?_
        refine seq_normal ?_
        first | refine w_cond rfl (fun hI3 => ?_) (fun hI3 => ?_) | refine w_condB rfl (fun hI3 => ?_) (fun hI3 => ?_)
        · refine w_seq ?_
          refine w_region ?_
          refine w_o rfl rfl rfl (op_assign rfl ?_)
          refine w_end ?_
          refine seq_normal ?_
          refine w_ret ?_
          refine block_ret ?_
          refine seq_ret ?_
          refine loop_ret ?_
          refine block_ret ?_
          refine seq_ret ?_
          have hne : ¬ (l = l') := by
            intro q
            subst q
            rw [h19] at h23; cases h23
            exact hI3 rfl
          exact ret_bool rfl sel_ (decide_eq_false hne).symm k
        · refine w_skip ?_
          refine block_normal ?_
          refine seq_normal ?_
          refine w_region ?_
          refine w_o rfl rfl rfl (op_move rfl ?_)
          refine w_o rfl rfl rfl (op_addi rfl rfl (by omega) (by omega) ?_)
          refine w_o rfl rfl rfl (op_assign rfl ?_)
          refine w_end ?_
          refine loop_normal (k' := l.length - (i + 1)) (by omega) ⟨i + 1, by omega, rfl, ?_, rfl, rfl⟩ env_ sel_
          intro j hj
          by_cases e : j = i
          · subst e
            have : z19 = z23 := by omega
            rw [h19, h23, this]
          · exact hp j (by omega)
      · refine w_exit ?_
        refine seq_exit ?_
        refine loop_exit ?_
        refine block_hit rfl ?_
        refine seq_normal ?_
        refine w_seq ?_
        refine w_region ?_
        refine w_o rfl rfl rfl (op_assign rfl ?_)
        refine w_end ?_
        refine seq_normal ?_
        refine w_ret ?_
        have he : l = l' := by
          apply List.ext_getElem?
          intro j
          by_cases e : j < i
          · exact hp j e
          · rw [List.getElem?_eq_none (by omega), List.getElem?_eq_none (by omega)]
        exact ret_bool rfl sel_ (decide_eq_true he).symm k
end Go.Proofs.Ytajhjfgoefhdnaa.AM.B
