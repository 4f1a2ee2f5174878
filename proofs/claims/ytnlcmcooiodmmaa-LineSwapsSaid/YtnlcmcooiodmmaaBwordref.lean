/- Words, by the document's answer. -/
import Derived.Test.YtnlcmcooiodmmaaAX
import Derived.Test.YtnlcmcooiodmmaaBword
set_option linter.unusedVariables false
set_option linter.unusedSimpArgs false
set_option maxRecDepth 10000
set_option maxHeartbeats 4000000
namespace Go.Proofs.Ytnlcmcooiodmmaa.AM.B
open Go Go.RowKit
theorem Low_w {H : Hyp} {K : V → Hyp → Prop} {a b : Int} (k : K (vI (min a b)) H) : CallW Try.prog Xs 34 [vI a, vI b] H K := by
  refine call_of (n := 10) (fun _ => rfl) Try.func34 rfl rfl ?_
  refine w_seq ?_
  refine w_region ?_
  refine w_o rfl rfl rfl (op_assign rfl ?_)
  refine w_end ?_
  refine seq_normal ?_
  refine w_seq ?_
  refine w_seq ?_
  refine w_region ?_
  refine w_o rfl rfl rfl (op_move rfl ?_)
  refine w_o rfl rfl rfl (op_move rfl ?_)
  refine w_o rfl rfl rfl (op_lt rfl rfl ?_)
  refine w_end ?_
  refine seq_normal ?_
  first | refine w_cond rfl (fun hI1 => ?_) (fun hI1 => ?_) | refine w_condB rfl (fun hI1 => ?_) (fun hI1 => ?_)
  · refine w_seq ?_
    refine w_region ?_
    refine w_o rfl rfl rfl (op_move rfl ?_)
    refine w_o rfl rfl rfl (op_assign rfl ?_)
    refine w_end ?_
    refine seq_normal ?_
    refine w_ret ?_
    refine seq_ret ?_
    exact ret_int rfl sel_ (by omega) k
  · refine w_skip ?_
    refine seq_normal ?_
    refine w_seq ?_
    refine w_region ?_
    refine w_o rfl rfl rfl (op_move rfl ?_)
    refine w_o rfl rfl rfl (op_assign rfl ?_)
    refine w_end ?_
    refine seq_normal ?_
    refine w_ret ?_
    exact ret_int rfl sel_ (by omega) k
theorem High_w {H : Hyp} {K : V → Hyp → Prop} {a b : Int} (k : K (vI (max a b)) H) : CallW Try.prog Xs 63 [vI a, vI b] H K := by
  refine call_of (n := 10) (fun _ => rfl) Try.func63 rfl rfl ?_
  refine w_seq ?_
  refine w_region ?_
  refine w_o rfl rfl rfl (op_assign rfl ?_)
  refine w_end ?_
  refine seq_normal ?_
  refine w_seq ?_
  refine w_seq ?_
  refine w_region ?_
  refine w_o rfl rfl rfl (op_move rfl ?_)
  refine w_o rfl rfl rfl (op_move rfl ?_)
  refine w_o rfl rfl rfl (op_gt rfl rfl ?_)
  refine w_end ?_
  refine seq_normal ?_
  first | refine w_cond rfl (fun hI1 => ?_) (fun hI1 => ?_) | refine w_condB rfl (fun hI1 => ?_) (fun hI1 => ?_)
  · refine w_seq ?_
    refine w_region ?_
    refine w_o rfl rfl rfl (op_move rfl ?_)
    refine w_o rfl rfl rfl (op_assign rfl ?_)
    refine w_end ?_
    refine seq_normal ?_
    refine w_ret ?_
    refine seq_ret ?_
    exact ret_int rfl sel_ (by omega) k
  · refine w_skip ?_
    refine seq_normal ?_
    refine w_seq ?_
    refine w_region ?_
    refine w_o rfl rfl rfl (op_move rfl ?_)
    refine w_o rfl rfl rfl (op_assign rfl ?_)
    refine w_end ?_
    refine seq_normal ?_
    refine w_ret ?_
    exact ret_int rfl sel_ (by omega) k
theorem R05At_w {H : Hyp} {K : V → Hyp → Prop} {c : Cell} {l : List Sign} {i : Int} (hl : l.length ≤ 1000) (h : Sl H 47 2 c l.length (l.flatMap encS)) (k : K (vI (kindO l 9 i)) H) : CallW Try.prog Xs 61 [.one (.c c), vI i, vB false] H K := by
  refine call_of (n := 28) (fun _ => rfl) Try.func61 rfl rfl ?_
  refine w_seq ?_
  refine w_region ?_
  refine w_o rfl rfl rfl (op_assign rfl ?_)
  refine w_end ?_
  refine seq_normal ?_
  refine w_seq ?_
  refine w_seq ?_
  refine w_region ?_
  refine w_o rfl rfl rfl (op_move rfl ?_)
  refine w_o rfl rfl rfl (op_lt rfl rfl ?_)
  refine w_o rfl rfl rfl (op_move rfl ?_)
  first | refine w_known (t := 10) rfl (fun g10 => ?_) (fun g10 => ?_) | refine w_knownB (t := 10) rfl (fun g10 => ?_) (fun g10 => ?_)
  · refine w_u rfl rfl rfl rfl rfl rfl ?_
    refine w_u rfl rfl rfl rfl rfl rfl ?_
    refine w_u rfl rfl rfl rfl rfl rfl ?_
    refine w_u rfl rfl rfl rfl rfl rfl ?_
    refine w_o rfl rfl rfl (op_pick rfl rfl rfl ?_)
    refine w_end ?_
    refine seq_normal ?_
    refine w_condT rfl ?_
    refine w_seq ?_
    refine w_region ?_
    refine w_o rfl rfl rfl (op_assign rfl ?_)
    refine w_end ?_
    refine seq_normal ?_
    refine w_ret ?_
    refine seq_ret ?_
    exact ret_int rfl sel_ (kindO_no (l := l) (by omega)).symm k
  · refine w_og rfl rfl rfl rfl rfl (op_move rfl ?_)
    refine w_og rfl rfl rfl rfl rfl (op_move rfl ?_)
    refine w_og rfl rfl rfl rfl rfl (op_lenC und_22 rfl h.lenC ?_)
    refine w_og rfl rfl rfl rfl rfl (op_ge rfl rfl ?_)
    refine w_o rfl rfl rfl (op_pick rfl rfl rfl ?_)
    refine w_end ?_
    refine seq_normal ?_
    first | refine w_cond rfl (fun hI1 => ?_) (fun hI1 => ?_) | refine w_condB rfl (fun hI1 => ?_) (fun hI1 => ?_)
    · refine w_seq ?_
      refine w_region ?_
      refine w_o rfl rfl rfl (op_assign rfl ?_)
      refine w_end ?_
      refine seq_normal ?_
      refine w_ret ?_
      refine seq_ret ?_
      exact ret_int rfl sel_ (kindO_no (l := l) (by omega)).symm k
    · obtain ⟨n, rfl⟩ : ∃ n : Nat, i = (n : Int) := ⟨i.toNat, by omega⟩
      refine w_skip ?_
      refine seq_normal ?_
      refine w_seq ?_
      refine w_region ?_
      refine w_o rfl rfl rfl (op_move rfl ?_)
      refine w_o rfl rfl rfl (op_move rfl ?_)
      refine w_o rfl rfl rfl (op_indexT (enc := encS) und_22 siz_47 rfl rfl h (fun _ => rfl) rfl (by omega) fun b18 o18 z18 h18 e18 => ?_)
      refine w_o rfl rfl rfl (op_fieldAddr fa_47_0 rfl ?_)
      refine w_o rfl rfl rfl (op_loadF agg_3 rfl el_ rfl ?_)
      refine w_o rfl rfl rfl (op_call rfl rfl rfl ?_)
      refine dactylref05_Kind_sw (Go.Proofs.Ytnlcmcooiodmmaa.P.kind_both _).2 ?_
      refine w_o rfl rfl rfl (op_assign rfl ?_)
      refine w_end ?_
      refine seq_normal ?_
      refine w_seq ?_
      refine w_seq ?_
      refine w_region ?_
      refine w_o rfl rfl rfl (op_move rfl ?_)
      refine w_o rfl rfl rfl (op_move rfl ?_)
      first | refine w_known (t := 23) rfl (fun g23 => ?_) (fun g23 => ?_) | refine w_knownB (t := 23) rfl (fun g23 => ?_) (fun g23 => ?_)
      · cases g23 --closed
      · refine w_u rfl rfl rfl rfl rfl rfl ?_
        refine w_u rfl rfl rfl rfl rfl rfl ?_
        refine w_o rfl rfl rfl (op_pick rfl rfl rfl ?_)
        refine w_end ?_
        refine seq_normal ?_
        refine w_condF rfl ?_
        refine w_skip ?_
        refine seq_normal ?_
        refine w_seq ?_
        refine w_region ?_
        refine w_o rfl rfl rfl (op_move rfl ?_)
        refine w_o rfl rfl rfl (op_assign rfl ?_)
        refine w_end ?_
        refine seq_normal ?_
        refine w_ret ?_
        exact ret_int rfl sel_ (kindO_at (by omega) (by simpa using h18)).symm k
theorem R05Place_w {H : Hyp} {K : V → Hyp → Prop} {c : Cell} {l : List Sign} {a : Int} (h : Sl H 47 2 c l.length (l.flatMap encS)) (k : K (vI (clampV l a)) H) : CallW Try.prog Xs 84 [.one (.c c), vI a] H K := by
  refine call_of (n := 10) (fun _ => rfl) Try.func84 rfl rfl ?_
  refine w_seq ?_
  refine w_region ?_
  refine w_o rfl rfl rfl (op_assign rfl ?_)
  refine w_end ?_
  refine seq_normal ?_
  refine w_seq ?_
  refine w_region ?_
  refine w_o rfl rfl rfl (op_move rfl ?_)
  refine w_o rfl rfl rfl (op_call rfl rfl rfl ?_)
  refine High_w ?_
  refine w_o rfl rfl rfl (op_move rfl ?_)
  refine w_o rfl rfl rfl (op_lenC und_22 rfl h.lenC ?_)
  refine w_o rfl rfl rfl (op_call rfl rfl rfl ?_)
  refine Low_w ?_
  refine w_o rfl rfl rfl (op_assign rfl ?_)
  refine w_end ?_
  refine seq_normal ?_
  refine w_ret ?_
  exact ret_ret rfl sel_ k
theorem R05Next_w {H : Hyp} {K : V → Hyp → Prop} {c : Cell} {l : List Sign} {a : Int} (h : Sl H 47 2 c l.length (l.flatMap encS)) (hl : l.length ≤ 1000) (k : K (vI (nextV l a)) H) : CallW Try.prog Xs 60 [.one (.c c), vI a] H K := by
  have hc := clampV_in l a
  refine call_of (n := 33) (fun _ => rfl) Try.func60 rfl rfl ?_
  refine w_seq ?_
  refine w_region ?_
  refine w_o rfl rfl rfl (op_assign rfl ?_)
  refine w_end ?_
  refine seq_normal ?_
  refine w_seq ?_
  refine w_seq ?_
  refine w_region ?_
  refine w_o rfl rfl rfl (op_assign rfl ?_)
  refine w_end ?_
  refine seq_normal ?_
  refine w_block ?_
  refine w_loop (fun m e H' => ∃ (i : Int), 0 ≤ i ∧ i ≤ l.length + 1 ∧ m = (l.length + 1 - i).toNat ∧ (∀ j : Int, clampV l a + 1 ≤ j → j < i → endsAt l j = false) ∧ H = H' ∧ e = [(0, .one (.c c)), (1, vI a), (5, vI i)]) ?_ ?_
  · exact ⟨_, _, _, ⟨0, by omega, by omega, rfl, fun j h1 h2 => by omega, rfl, rfl⟩, env_, sel_⟩
  · rintro m e H' ⟨i, hi1, hi2, rfl, hp, rfl, rfl⟩
    have e1 := isW_eq l (i - 1) (show (9 : Int) ≠ 1 by decide)
    have e2 := isW_eq l i (show (9 : Int) ≠ 1 by decide)
    refine w_seq ?_
    refine w_seq ?_
    refine w_region ?_
    refine w_o rfl rfl rfl (op_move rfl ?_)
    refine w_o rfl rfl rfl (op_move rfl ?_)
    refine w_o rfl rfl rfl (op_lenC und_22 rfl h.lenC ?_)
    refine w_o rfl rfl rfl (op_le rfl rfl ?_)
    refine w_end ?_
    refine seq_normal ?_
    first | refine w_cond rfl (fun hI1 => ?_) (fun hI1 => ?_) | refine w_condB rfl (fun hI1 => ?_) (fun hI1 => ?_)
    · refine w_skip ?_
      refine seq_normal ?_
      refine w_seq ?_
      refine w_block ?_
      refine w_seq ?_
      refine w_region ?_
      refine w_o rfl rfl rfl (op_move rfl ?_)
      refine w_o rfl rfl rfl (op_move rfl ?_)
      refine w_o rfl rfl rfl (op_move rfl ?_)
      refine w_o rfl rfl rfl (op_call rfl rfl rfl ?_)
      refine R05Place_w h ?_
      refine w_o rfl rfl rfl (op_gt rfl rfl ?_)
      refine w_o rfl rfl rfl (op_move rfl ?_)
      first | refine w_known (t := 17) rfl (fun g17 => ?_) (fun g17 => ?_) | refine w_knownB (t := 17) rfl (fun g17 => ?_) (fun g17 => ?_)
      · refine w_og rfl rfl rfl rfl rfl (op_move rfl ?_)
        refine w_og rfl rfl rfl rfl rfl (op_move rfl ?_)
        refine w_og rfl rfl rfl rfl rfl (op_subi rfl rfl (by omega) (by omega) ?_)
        refine w_og rfl rfl rfl rfl rfl (op_call rfl rfl rfl ?_)
        refine R05At_w hl h ?_
        refine w_og rfl rfl rfl rfl rfl (op_eq rfl rfl ?_)
        refine w_o rfl rfl rfl (op_pick rfl rfl rfl ?_)
        refine w_o rfl rfl rfl (op_move rfl ?_)
        first | refine w_known (t := 24) rfl (fun g24 => ?_) (fun g24 => ?_) | refine w_knownB (t := 24) rfl (fun g24 => ?_) (fun g24 => ?_)
        · refine w_og rfl rfl rfl rfl rfl (op_move rfl ?_)
          refine w_og rfl rfl rfl rfl rfl (op_move rfl ?_)
          refine w_og rfl rfl rfl rfl rfl (op_call rfl rfl rfl ?_)
          refine R05At_w hl h ?_
          refine w_og rfl rfl rfl rfl rfl (op_ne rfl rfl ?_)
          refine w_o rfl rfl rfl (op_pick rfl rfl rfl ?_)
          refine w_end ?_
          refine seq_normal ?_
          first | refine w_cond rfl (fun hI2 => ?_) (fun hI2 => ?_) | refine w_condB rfl (fun hI2 => ?_) (fun hI2 => ?_)
          · refine w_seq ?_
            refine w_region ?_
            refine w_o rfl rfl rfl (op_move rfl ?_)
            refine w_o rfl rfl rfl (op_assign rfl ?_)
            refine w_end ?_
            refine seq_normal ?_
            refine w_ret ?_
            refine block_ret ?_
            refine seq_ret ?_
            refine loop_ret ?_
            refine block_ret ?_
            refine seq_ret ?_
            have he : endsAt l i = true := by unfold endsAt; rw [← e1, ← e2]; simp [g24, hI2]
            unfold nextV at k
            rw [firstP_at (by omega) (by omega) he hp] at k
            exact ret_ret rfl sel_ k
          · refine w_skip ?_
            refine block_normal ?_
            refine seq_normal ?_
            refine w_region ?_
            refine w_o rfl rfl rfl (op_move rfl ?_)
            refine w_o rfl rfl rfl (op_addi rfl rfl (by omega) (by omega) ?_)
            refine w_o rfl rfl rfl (op_assign rfl ?_)
            refine w_end ?_
            have hn : clampV l a + 1 ≤ i → endsAt l i = false := by
              intro q
              first
                | (exfalso; omega)
                | (unfold endsAt; rw [← e1, ← e2]; simp [g24]; done)
                | (unfold endsAt; rw [← e1, ← e2]; simp at hI2; simp [hI2]; done)
            refine loop_normal (k' := (l.length + 1 - (i + 1) : Int).toNat) (by omega) ⟨i + 1, by omega, by omega, rfl, ?_, rfl, rfl⟩ env_ sel_
            intro j h1 h2
            by_cases e : j = i
            · subst e; exact hn h1
            · exact hp j h1 (by omega)
        · refine w_u rfl rfl rfl rfl rfl rfl ?_
          refine w_u rfl rfl rfl rfl rfl rfl ?_
          refine w_u rfl rfl rfl rfl rfl rfl ?_
          refine w_u rfl rfl rfl rfl rfl rfl ?_
          refine w_o rfl rfl rfl (op_pick rfl rfl rfl ?_)
          refine w_end ?_
          refine seq_normal ?_
          refine w_condF rfl ?_
          refine w_skip ?_
          refine block_normal ?_
          refine seq_normal ?_
          refine w_region ?_
          refine w_o rfl rfl rfl (op_move rfl ?_)
          refine w_o rfl rfl rfl (op_addi rfl rfl (by omega) (by omega) ?_)
          refine w_o rfl rfl rfl (op_assign rfl ?_)
          refine w_end ?_
          have hn : clampV l a + 1 ≤ i → endsAt l i = false := by
            intro q
            first
              | (exfalso; omega)
              | (unfold endsAt; rw [← e1, ← e2]; simp [g24]; done)
              | (unfold endsAt; rw [← e1, ← e2]; simp at hI2; simp [hI2]; done)
          refine loop_normal (k' := (l.length + 1 - (i + 1) : Int).toNat) (by omega) ⟨i + 1, by omega, by omega, rfl, ?_, rfl, rfl⟩ env_ sel_
          intro j h1 h2
          by_cases e : j = i
          · subst e; exact hn h1
          · exact hp j h1 (by omega)
      · refine w_u rfl rfl rfl rfl rfl rfl ?_
        refine w_u rfl rfl rfl rfl rfl rfl ?_
        refine w_u rfl rfl rfl rfl rfl rfl ?_
        refine w_u rfl rfl rfl rfl rfl rfl ?_
        refine w_u rfl rfl rfl rfl rfl rfl ?_
        refine w_o rfl rfl rfl (op_pick rfl rfl rfl ?_)
        refine w_o rfl rfl rfl (op_move rfl ?_)
        refine w_u rfl rfl rfl rfl rfl rfl ?_
        refine w_u rfl rfl rfl rfl rfl rfl ?_
        refine w_u rfl rfl rfl rfl rfl rfl ?_
        refine w_u rfl rfl rfl rfl rfl rfl ?_
        refine w_o rfl rfl rfl (op_pick rfl rfl rfl ?_)
        refine w_end ?_
        refine seq_normal ?_
        refine w_condF rfl ?_
        refine w_skip ?_
        refine block_normal ?_
        refine seq_normal ?_
        refine w_region ?_
        refine w_o rfl rfl rfl (op_move rfl ?_)
        refine w_o rfl rfl rfl (op_addi rfl rfl (by omega) (by omega) ?_)
        refine w_o rfl rfl rfl (op_assign rfl ?_)
        refine w_end ?_
        have hn : clampV l a + 1 ≤ i → endsAt l i = false := by
          intro q
          first
            | (exfalso; omega)
            | (unfold endsAt; rw [← e1, ← e2]; simp [g24]; done)
            | (unfold endsAt; rw [← e1, ← e2]; simp at hI2; simp [hI2]; done)
        refine loop_normal (k' := (l.length + 1 - (i + 1) : Int).toNat) (by omega) ⟨i + 1, by omega, by omega, rfl, ?_, rfl, rfl⟩ env_ sel_
        intro j h1 h2
        by_cases e : j = i
        · subst e; exact hn h1
        · exact hp j h1 (by omega)
    · refine w_exit ?_
      refine seq_exit ?_
      refine loop_exit ?_
      refine block_hit rfl ?_
      refine seq_normal ?_
      refine w_seq ?_
      refine w_region ?_
      refine w_o rfl rfl rfl (op_move rfl ?_)
      refine w_o rfl rfl rfl (op_lenC und_22 rfl h.lenC ?_)
      refine w_o rfl rfl rfl (op_assign rfl ?_)
      refine w_end ?_
      refine seq_normal ?_
      refine w_ret ?_
      unfold nextV at k
      rw [firstP_none (fun j h1 h2 => hp j h1 (by omega))] at k
      exact ret_ret rfl sel_ k
theorem R05Back_w {H : Hyp} {K : V → Hyp → Prop} {c : Cell} {l : List Sign} {a : Int} (h : Sl H 47 2 c l.length (l.flatMap encS)) (hl : l.length ≤ 1000) (k : K (vI (backV l a)) H) : CallW Try.prog Xs 59 [.one (.c c), vI a] H K := by
  have hc := clampV_in l a
  refine call_of (n := 31) (fun _ => rfl) Try.func59 rfl rfl ?_
  refine w_seq ?_
  refine w_region ?_
  refine w_o rfl rfl rfl (op_assign rfl ?_)
  refine w_end ?_
  refine seq_normal ?_
  refine w_seq ?_
  refine w_seq ?_
  refine w_region ?_
  refine w_o rfl rfl rfl (op_move rfl ?_)
  refine w_o rfl rfl rfl (op_lenC und_22 rfl h.lenC ?_)
  refine w_o rfl rfl rfl (op_assign rfl ?_)
  refine w_end ?_
  refine seq_normal ?_
  refine w_block ?_
  refine w_loop (fun m e H' => ∃ (i : Int), -1 ≤ i ∧ i ≤ l.length ∧ m = (i + 1).toNat ∧ (∀ j : Int, i < j → j ≤ clampV l a - 1 → begsAt l j = false) ∧ H = H' ∧ e = [(0, .one (.c c)), (1, vI a), (5, vI i)]) ?_ ?_
  · exact ⟨_, _, _, ⟨(l.length : Nat), by omega, by omega, rfl, fun j h1 h2 => by omega, rfl, rfl⟩, env_, sel_⟩
  · rintro m e H' ⟨i, hi1, hi2, rfl, hp, rfl, rfl⟩
    have e1 := isW_eq l (i - 1) (show (9 : Int) ≠ 1 by decide)
    have e2 := isW_eq l i (show (9 : Int) ≠ 1 by decide)
    refine w_seq ?_
    refine w_seq ?_
    refine w_region ?_
    refine w_o rfl rfl rfl (op_move rfl ?_)
    refine w_o rfl rfl rfl (op_ge rfl rfl ?_)
    refine w_end ?_
    refine seq_normal ?_
    first | refine w_cond rfl (fun hI1 => ?_) (fun hI1 => ?_) | refine w_condB rfl (fun hI1 => ?_) (fun hI1 => ?_)
    · refine w_skip ?_
      refine seq_normal ?_
      refine w_seq ?_
      refine w_block ?_
      refine w_seq ?_
      refine w_region ?_
      refine w_o rfl rfl rfl (op_move rfl ?_)
      refine w_o rfl rfl rfl (op_move rfl ?_)
      refine w_o rfl rfl rfl (op_move rfl ?_)
      refine w_o rfl rfl rfl (op_call rfl rfl rfl ?_)
      refine R05Place_w h ?_
      refine w_o rfl rfl rfl (op_lt rfl rfl ?_)
      refine w_o rfl rfl rfl (op_move rfl ?_)
      first | refine w_known (t := 17) rfl (fun g17 => ?_) (fun g17 => ?_) | refine w_knownB (t := 17) rfl (fun g17 => ?_) (fun g17 => ?_)
      · refine w_og rfl rfl rfl rfl rfl (op_move rfl ?_)
        refine w_og rfl rfl rfl rfl rfl (op_move rfl ?_)
        refine w_og rfl rfl rfl rfl rfl (op_call rfl rfl rfl ?_)
        refine R05At_w hl h ?_
        refine w_og rfl rfl rfl rfl rfl (op_eq rfl rfl ?_)
        refine w_o rfl rfl rfl (op_pick rfl rfl rfl ?_)
        refine w_o rfl rfl rfl (op_move rfl ?_)
        first | refine w_known (t := 23) rfl (fun g23 => ?_) (fun g23 => ?_) | refine w_knownB (t := 23) rfl (fun g23 => ?_) (fun g23 => ?_)
        · refine w_og rfl rfl rfl rfl rfl (op_move rfl ?_)
          refine w_og rfl rfl rfl rfl rfl (op_move rfl ?_)
          refine w_og rfl rfl rfl rfl rfl (op_subi rfl rfl (by omega) (by omega) ?_)
          refine w_og rfl rfl rfl rfl rfl (op_call rfl rfl rfl ?_)
          refine R05At_w hl h ?_
          refine w_og rfl rfl rfl rfl rfl (op_ne rfl rfl ?_)
          refine w_o rfl rfl rfl (op_pick rfl rfl rfl ?_)
          refine w_end ?_
          refine seq_normal ?_
          first | refine w_cond rfl (fun hI2 => ?_) (fun hI2 => ?_) | refine w_condB rfl (fun hI2 => ?_) (fun hI2 => ?_)
          · refine w_seq ?_
            refine w_region ?_
            refine w_o rfl rfl rfl (op_move rfl ?_)
            refine w_o rfl rfl rfl (op_assign rfl ?_)
            refine w_end ?_
            refine seq_normal ?_
            refine w_ret ?_
            refine block_ret ?_
            refine seq_ret ?_
            refine loop_ret ?_
            refine block_ret ?_
            refine seq_ret ?_
            have he : begsAt l i = true := by unfold begsAt; rw [← e1, ← e2]; simp [g23, hI2]
            unfold backV at k
            rw [lastP_at (by omega) (by omega) he hp] at k
            exact ret_ret rfl sel_ k
          · refine w_skip ?_
            refine block_normal ?_
            refine seq_normal ?_
            refine w_region ?_
            refine w_o rfl rfl rfl (op_move rfl ?_)
            refine w_o rfl rfl rfl (op_subi rfl rfl (by omega) (by omega) ?_)
            refine w_o rfl rfl rfl (op_assign rfl ?_)
            refine w_end ?_
            have hn : i ≤ clampV l a - 1 → begsAt l i = false := by
              intro q
              first
                | (exfalso; omega)
                | (unfold begsAt; rw [← e1, ← e2]; simp [g23]; done)
                | (unfold begsAt; rw [← e1, ← e2]; simp at hI2; simp [hI2]; done)
            refine loop_normal (k' := (i - 1 + 1).toNat) (by omega) ⟨i - 1, by omega, by omega, rfl, ?_, rfl, rfl⟩ env_ sel_
            intro j h1 h2
            by_cases e : j = i
            · subst e; exact hn h2
            · exact hp j (by omega) h2
        · refine w_u rfl rfl rfl rfl rfl rfl ?_
          refine w_u rfl rfl rfl rfl rfl rfl ?_
          refine w_u rfl rfl rfl rfl rfl rfl ?_
          refine w_u rfl rfl rfl rfl rfl rfl ?_
          refine w_u rfl rfl rfl rfl rfl rfl ?_
          refine w_o rfl rfl rfl (op_pick rfl rfl rfl ?_)
          refine w_end ?_
          refine seq_normal ?_
          refine w_condF rfl ?_
          refine w_skip ?_
          refine block_normal ?_
          refine seq_normal ?_
          refine w_region ?_
          refine w_o rfl rfl rfl (op_move rfl ?_)
          refine w_o rfl rfl rfl (op_subi rfl rfl (by omega) (by omega) ?_)
          refine w_o rfl rfl rfl (op_assign rfl ?_)
          refine w_end ?_
          have hn : i ≤ clampV l a - 1 → begsAt l i = false := by
            intro q
            first
              | (exfalso; omega)
              | (unfold begsAt; rw [← e1, ← e2]; simp [g23]; done)
              | (unfold begsAt; rw [← e1, ← e2]; simp at hI2; simp [hI2]; done)
          refine loop_normal (k' := (i - 1 + 1).toNat) (by omega) ⟨i - 1, by omega, by omega, rfl, ?_, rfl, rfl⟩ env_ sel_
          intro j h1 h2
          by_cases e : j = i
          · subst e; exact hn h2
          · exact hp j (by omega) h2
      · refine w_u rfl rfl rfl rfl rfl rfl ?_
        refine w_u rfl rfl rfl rfl rfl rfl ?_
        refine w_u rfl rfl rfl rfl rfl rfl ?_
        refine w_u rfl rfl rfl rfl rfl rfl ?_
        refine w_o rfl rfl rfl (op_pick rfl rfl rfl ?_)
        refine w_o rfl rfl rfl (op_move rfl ?_)
        refine w_u rfl rfl rfl rfl rfl rfl ?_
        refine w_u rfl rfl rfl rfl rfl rfl ?_
        refine w_u rfl rfl rfl rfl rfl rfl ?_
        refine w_u rfl rfl rfl rfl rfl rfl ?_
        refine w_u rfl rfl rfl rfl rfl rfl ?_
        refine w_o rfl rfl rfl (op_pick rfl rfl rfl ?_)
        refine w_end ?_
        refine seq_normal ?_
        refine w_condF rfl ?_
        refine w_skip ?_
        refine block_normal ?_
        refine seq_normal ?_
        refine w_region ?_
        refine w_o rfl rfl rfl (op_move rfl ?_)
        refine w_o rfl rfl rfl (op_subi rfl rfl (by omega) (by omega) ?_)
        refine w_o rfl rfl rfl (op_assign rfl ?_)
        refine w_end ?_
        have hn : i ≤ clampV l a - 1 → begsAt l i = false := by
          intro q
          first
            | (exfalso; omega)
            | (unfold begsAt; rw [← e1, ← e2]; simp [g23]; done)
            | (unfold begsAt; rw [← e1, ← e2]; simp at hI2; simp [hI2]; done)
        refine loop_normal (k' := (i - 1 + 1).toNat) (by omega) ⟨i - 1, by omega, by omega, rfl, ?_, rfl, rfl⟩ env_ sel_
        intro j h1 h2
        by_cases e : j = i
        · subst e; exact hn h2
        · exact hp j (by omega) h2
    · refine w_exit ?_
      refine seq_exit ?_
      refine loop_exit ?_
      refine block_hit rfl ?_
      refine seq_normal ?_
      refine w_seq ?_
      refine w_region ?_
      refine w_o rfl rfl rfl (op_assign rfl ?_)
      refine w_end ?_
      refine seq_normal ?_
      refine w_ret ?_
      unfold backV at k
      rw [lastP_none (fun j h1 h2 => hp j (by omega) h2)] at k
      exact ret_ret rfl sel_ k
end Go.Proofs.Ytnlcmcooiodmmaa.AM.B
