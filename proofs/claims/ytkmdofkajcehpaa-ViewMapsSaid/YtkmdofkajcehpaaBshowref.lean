/- What show.Same and the reference's cells answer. -/
import Derived.Test.YtkmdofkajcehpaaAX
import Derived.Test.YtkmdofkajcehpaaBshow
import Derived.Test.YtkmdofkajcehpaaQRefText
set_option linter.unusedVariables false
set_option linter.unusedSimpArgs false
set_option maxRecDepth 10000
set_option maxHeartbeats 4000000
namespace Go.Proofs.Ytkmdofkajcehpaa.AM.B
open Go Go.RowKit
abbrev colsV (v : Int) : Int := Go.Proofs.Ytkmdofkajcehpaa.P.colsV v
theorem cellsV_cols (x : Sign) (own : Int) : ((cellsV x own).length : Int) = colsV x.f0 := by
  have h0 := clsV_ge x.f0
  unfold colsV Go.Proofs.Ytkmdofkajcehpaa.P.colsV
  by_cases h : 3 < clsV x.f0
  · rw [cellsV_4 h, bytesC_len, if_pos h]
  · rw [if_neg h]
    have : clsV x.f0 = 0 ∨ clsV x.f0 = 1 ∨ clsV x.f0 = 3 ∨ clsV x.f0 = 2 := by omega
    rcases this with h | h | h | h
    · rw [cellsV_0 h, show Go.Proofs.Ytkmdofkajcehpaa.P.class_Of.v x.f0 = 0 from h]; rfl
    · rw [cellsV_1 (.inl h), show Go.Proofs.Ytkmdofkajcehpaa.P.class_Of.v x.f0 = 1 from h]; rfl
    · rw [cellsV_1 (.inr h), show Go.Proofs.Ytkmdofkajcehpaa.P.class_Of.v x.f0 = 3 from h]; rfl
    · rw [cellsV_2 h, show Go.Proofs.Ytkmdofkajcehpaa.P.class_Of.v x.f0 = 2 from h]; rfl
/-- Cells that are shown the same. -/
def sameD (x y : DC) : Bool := decide (x.f0 = y.f0) && decide (x.f1 = y.f1)
theorem refSame_w {H : Hyp} {K : V → Hyp → Prop} {c c' : Cell} {l l' : List DC} (h : Sl H 100 5 c l.length (l.flatMap encD)) (h' : Sl H 100 5 c' l'.length (l'.flatMap encD)) (hl : l.length ≤ 1000000) (k : K (vB (eqF sameD l l')) H) : CallW Try.prog Xs 23 [.one (.c c), .one (.c c')] H K := by
  refine call_of (n := 41) (fun _ => rfl) Try.func23 rfl rfl ?_
  refine w_seq ?_
  refine w_region ?_
  refine w_o rfl rfl rfl (op_assign rfl ?_)
  refine w_end ?_
  refine seq_normal ?_
  refine w_seq ?_
  refine w_seq ?_
  refine w_region ?_
  refine w_o rfl rfl rfl (op_move rfl ?_)
  refine w_o rfl rfl rfl (op_lenC und_24 rfl h.lenC ?_)
  refine w_o rfl rfl rfl (op_move rfl ?_)
  refine w_o rfl rfl rfl (op_lenC und_24 rfl h'.lenC ?_)
  refine w_o rfl rfl rfl (op_ne rfl rfl ?_)
  refine w_end ?_
  refine seq_normal ?_
  first | refine w_cond rfl (fun hI1 => ?_) (fun hI1 => ?_) | refine w_condB rfl (fun hI1 => ?_) (fun hI1 => ?_)
  · have hne : l.length ≠ l'.length := by omega
    refine w_seq ?_
    refine w_region ?_
    refine w_o rfl rfl rfl (op_assign rfl ?_)
    refine w_end ?_
    refine seq_normal ?_
    refine w_ret ?_
    refine seq_ret ?_
    exact ret_bool rfl sel_ (eqF_len hne).symm k
  · have heq : l.length = l'.length := by omega
    refine w_skip ?_
    refine seq_normal ?_
    refine w_seq ?_
    refine w_seq ?_
    refine w_region ?_
    refine w_o rfl rfl rfl (op_assign rfl ?_)
    refine w_end ?_
    refine seq_normal ?_
    refine w_block ?_
    refine w_loop (fun m e H' => ∃ (i : Nat), i ≤ l.length ∧ m = l.length - i ∧ (∀ (j : Nat) (x y : DC), j < i → l[j]? = some x → l'[j]? = some y → sameD x y = true) ∧ H = H' ∧ e = [(0, .one (.c c)), (1, .one (.c c')), (5, vI (i : Nat))]) ?_ ?_
    · exact ⟨_, _, _, ⟨0, Nat.zero_le _, rfl, fun j x y hj => absurd hj (Nat.not_lt_zero _), rfl, rfl⟩, env_, sel_⟩
    · rintro m e H' ⟨i, hi, rfl, hp, rfl, rfl⟩
      refine w_seq ?_
      refine w_seq ?_
      refine w_region ?_
      refine w_o rfl rfl rfl (op_move rfl ?_)
      refine w_o rfl rfl rfl (op_move rfl ?_)
      refine w_o rfl rfl rfl (op_lenC und_24 rfl h.lenC ?_)
      refine w_o rfl rfl rfl (op_lt rfl rfl ?_)
      refine w_end ?_
      refine seq_normal ?_
      first | refine w_cond rfl (fun hI2 => ?_) (fun hI2 => ?_) | refine w_condB rfl (fun hI2 => ?_) (fun hI2 => ?_)
      · refine w_skip ?_
        refine seq_normal ?_
        refine w_seq ?_
        refine w_block ?_
        refine w_seq ?_
        refine w_draw (by decide +kernel) (by decide +kernel) ?_
        refine w_d rfl rfl rfl (op_move rfl ?_)
        refine w_d rfl rfl rfl (op_move rfl ?_)
        refine w_d rfl rfl rfl (op_indexT (enc := encD) und_24 siz_100 rfl rfl h (fun _ => rfl) rfl (by omega) fun b19 o19 z19 h19 e19 => ?_)
        refine w_d rfl rfl rfl (op_fieldAddr fa_100_0 rfl ?_)
        refine w_d rfl rfl rfl (op_loadF agg_3 rfl el_ rfl ?_)
        refine w_d rfl rfl rfl (op_move rfl ?_)
        refine w_d rfl rfl rfl (op_move rfl ?_)
        refine w_d rfl rfl rfl (op_indexT (enc := encD) und_24 siz_100 rfl rfl h' (fun _ => rfl) rfl (by omega) fun b24 o24 z24 h24 e24 => ?_)
        refine w_d rfl rfl rfl (op_fieldAddr fa_100_0 rfl ?_)
        refine w_d rfl rfl rfl (op_loadF agg_3 rfl el_ rfl ?_)
        refine w_d rfl rfl rfl (op_ne rfl rfl ?_)
        refine w_d rfl rfl rfl (op_move rfl ?_)
        first | refine w_known (t := 28) rfl (fun g28 => ?_) (fun g28 => ?_) | refine w_knownB (t := 28) rfl (fun g28 => ?_) (fun g28 => ?_)
        · have hs : sameD z19 z24 = false := by simp [sameD, g28]
          refine w_u rfl rfl rfl rfl rfl rfl ?_
          refine w_u rfl rfl rfl rfl rfl rfl ?_
          refine w_u rfl rfl rfl rfl rfl rfl ?_
          refine w_u rfl rfl rfl rfl rfl rfl ?_
          refine w_u rfl rfl rfl rfl rfl rfl ?_
          refine w_u rfl rfl rfl rfl rfl rfl ?_
          refine w_u rfl rfl rfl rfl rfl rfl ?_
          refine w_u rfl rfl rfl rfl rfl rfl ?_
          refine w_u rfl rfl rfl rfl rfl rfl ?_
          refine w_u rfl rfl rfl rfl rfl rfl ?_
          refine w_u rfl rfl rfl rfl rfl rfl ?_
          refine w_d rfl rfl rfl (op_pick rfl rfl rfl ?_)
          refine w_end ?_
          refine seq_normal ?_
          refine w_condT rfl ?_
          refine w_seq ?_
          refine w_region ?_
          refine w_o rfl rfl rfl (op_assign rfl ?_)
          refine w_end ?_
          refine seq_normal ?_
          refine w_ret ?_
          refine block_ret ?_
          refine seq_ret ?_
          refine loop_ret ?_
          refine block_ret ?_
          refine seq_ret ?_
          exact ret_bool rfl sel_ (eqF_at h19 h24 hs).symm k
        · refine w_dg rfl rfl rfl rfl rfl (op_move rfl ?_)
          refine w_dg rfl rfl rfl rfl rfl (op_move rfl ?_)
          refine w_dg rfl rfl rfl rfl rfl (op_indexT (enc := encD) und_24 siz_100 rfl rfl h (fun _ => rfl) rfl (by omega) fun b31 o31 z31 h31 e31 => ?_)
          refine w_dg rfl rfl rfl rfl rfl (op_fieldAddr fa_100_1 rfl ?_)
          refine w_dg rfl rfl rfl rfl rfl (op_loadF agg_3 rfl el_ rfl ?_)
          refine w_dg rfl rfl rfl rfl rfl (op_move rfl ?_)
          refine w_dg rfl rfl rfl rfl rfl (op_move rfl ?_)
          refine w_dg rfl rfl rfl rfl rfl (op_indexT (enc := encD) und_24 siz_100 rfl rfl h' (fun _ => rfl) rfl (by omega) fun b36 o36 z36 h36 e36 => ?_)
          refine w_dg rfl rfl rfl rfl rfl (op_fieldAddr fa_100_1 rfl ?_)
          refine w_dg rfl rfl rfl rfl rfl (op_loadF agg_3 rfl el_ rfl ?_)
          refine w_dg rfl rfl rfl rfl rfl (op_ne rfl rfl ?_)
          refine w_d rfl rfl rfl (op_pick rfl rfl rfl ?_)
          refine w_end ?_
          refine seq_normal ?_
          first | refine w_cond rfl (fun hI3 => ?_) (fun hI3 => ?_) | refine w_condB rfl (fun hI3 => ?_) (fun hI3 => ?_)
          · obtain rfl : z19 = z31 := by rw [h19] at h31; exact Option.some.inj h31
            obtain rfl : z24 = z36 := by rw [h24] at h36; exact Option.some.inj h36
            have hs : sameD z19 z24 = false := by simp [sameD, *]
            refine w_seq ?_
            refine w_region ?_
            refine w_o rfl rfl rfl (op_assign rfl ?_)
            refine w_end ?_
            refine seq_normal ?_
            refine w_ret ?_
            refine block_ret ?_
            refine seq_ret ?_
            refine loop_ret ?_
            refine block_ret ?_
            refine seq_ret ?_
            exact ret_bool rfl sel_ (eqF_at h19 h24 hs).symm k
          · refine w_skip ?_
            refine block_normal ?_
            refine seq_normal ?_
            refine w_region ?_
            refine w_o rfl rfl rfl (op_move rfl ?_)
            refine w_o rfl rfl rfl (op_addi rfl rfl (by omega) (by omega) ?_)
            refine w_o rfl rfl rfl (op_assign rfl ?_)
            refine w_end ?_
            refine loop_normal (k' := l.length - (i + 1)) (by omega) ⟨i + 1, by omega, rfl, ?_, rfl, rfl⟩ env_ sel_
            intro j x y hj hx hy
            by_cases e : j = i
            · subst e
              rw [h19] at hx; rw [h24] at hy; cases hx; cases hy
              obtain rfl : z19 = z31 := by rw [h19] at h31; exact Option.some.inj h31
              obtain rfl : z24 = z36 := by rw [h24] at h36; exact Option.some.inj h36
              simp_all [sameD]
            · exact hp j x y (by omega) hx hy
      · refine w_exit ?_
        refine seq_exit ?_
        refine loop_exit ?_
        refine block_hit rfl ?_
        refine seq_normal ?_
        refine w_seq ?_
        refine w_region ?_
        refine w_o rfl rfl rfl (op_assign rfl ?_)
        refine w_end ?_
        refine seq_normal ?_
        refine w_ret ?_
        exact ret_bool rfl sel_ (eqF_all heq (fun j x y hx hy => hp j x y (by have := (List.getElem?_eq_some_iff.1 hx).1; omega) hx hy)).symm k
end Go.Proofs.Ytkmdofkajcehpaa.AM.B
