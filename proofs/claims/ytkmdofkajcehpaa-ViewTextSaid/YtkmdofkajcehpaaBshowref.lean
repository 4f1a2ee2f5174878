/- What show.Same and the reference's cells answer. -/
import Derived.Test.YtkmdofkajcehpaaAX
import Derived.Test.YtkmdofkajcehpaaBshow
import Derived.Test.YtkmdofkajcehpaaQRefText
set_option linter.unusedVariables false
set_option linter.unusedSimpArgs false
set_option maxRecDepth 10000
set_option maxHeartbeats 4000000
namespace Go.Proofs.Ytkmdofkajcehpaa.AM.B
open Go Go.RowKit
abbrev colsV (v : Int) : Int := Go.Proofs.Ytkmdofkajcehpaa.P.colsV v
theorem cellsV_cols (x : Sign) (own : Int) : ((cellsV x own).length : Int) = colsV x.f0 := by
  have h0 := clsV_ge x.f0
  unfold colsV Go.Proofs.Ytkmdofkajcehpaa.P.colsV
  by_cases h : 3 < clsV x.f0
  · rw [cellsV_4 h, bytesC_len, if_pos h]
  · rw [if_neg h]
    have : clsV x.f0 = 0 ∨ clsV x.f0 = 1 ∨ clsV x.f0 = 3 ∨ clsV x.f0 = 2 := by omega
    rcases this with h | h | h | h
    · rw [cellsV_0 h, show Go.Proofs.Ytkmdofkajcehpaa.P.class_Of.v x.f0 = 0 from h]; rfl
    · rw [cellsV_1 (.inl h), show Go.Proofs.Ytkmdofkajcehpaa.P.class_Of.v x.f0 = 1 from h]; rfl
    · rw [cellsV_1 (.inr h), show Go.Proofs.Ytkmdofkajcehpaa.P.class_Of.v x.f0 = 3 from h]; rfl
    · rw [cellsV_2 h, show Go.Proofs.Ytkmdofkajcehpaa.P.class_Of.v x.f0 = 2 from h]; rfl
theorem refCells_w {x : Sign} {own : Int} {H : Hyp} {K : V → Hyp → Prop} (k : ∀ c N, Own 100 5 c ((cellsV x own).flatMap encD) N → K (.one (.c c)) (N ++ H)) : CallW Try.prog Xs 16 [.one (.agg (encS x)), vI own] H K := by
  have hc0 : 0 ≤ Go.Proofs.Ytkmdofkajcehpaa.P.class_Of.v x.f0 := clsV_ge x.f0
  refine call_of (n := 62) (fun _ => rfl) Try.func16 rfl rfl ?_
  refine w_seq ?_
  refine w_region ?_
  refine w_o rfl rfl rfl (op_box rfl fun b2 => ?_)
  refine w_o rfl rfl rfl (op_assign rfl ?_)
  refine w_end ?_
  refine seq_normal ?_
  refine w_seq ?_
  refine w_region ?_
  refine w_o rfl rfl rfl (op_loadA agg_23 siz_23 rfl rfl el_ ?_)
  refine w_o rfl rfl rfl (op_call rfl rfl rfl ?_)
  refine refLooks_w (x := x) ?_
  refine w_o rfl rfl rfl (op_assign rfl ?_)
  refine w_end ?_
  refine seq_normal ?_
  refine w_seq ?_
  refine w_region ?_
  refine w_o rfl rfl rfl (op_fieldAddr fa_23_0 rfl ?_)
  refine w_o rfl rfl rfl (op_loadF agg_3 rfl el_ rfl ?_)
  refine w_o rfl rfl rfl (op_call rfl rfl rfl ?_)
  refine dactylref03_Of_sw (Go.Proofs.Ytkmdofkajcehpaa.P.ref_Of _ 100 (by decide)) ?_
  refine w_o rfl rfl rfl (op_assign rfl ?_)
  refine w_end ?_
  refine seq_normal ?_
  refine w_seq ?_
  refine w_seq ?_
  refine w_region ?_
  refine w_o rfl rfl rfl (op_move rfl ?_)
  refine w_o rfl rfl rfl (op_eq rfl rfl ?_)
  refine w_end ?_
  refine seq_normal ?_
  first | refine w_cond rfl (fun hI1 => ?_) (fun hI1 => ?_) | refine w_condB rfl (fun hI1 => ?_) (fun hI1 => ?_)
  · have o0 : Own 100 5 .nils ((cellsV x own).flatMap encD) [] := by rw [cellsV_0 hI1]; exact .nil
    refine w_seq ?_
    refine w_region ?_
    refine w_o rfl rfl rfl (op_assign rfl ?_)
    refine w_end ?_
    refine seq_normal ?_
    refine w_ret ?_
    refine seq_ret ?_
    exact ret_ret rfl sel_ (k _ _ o0)
  · refine w_skip ?_
    refine seq_normal ?_
    refine w_seq ?_
    refine w_seq ?_
    refine w_region ?_
    refine w_o rfl rfl rfl (op_move rfl ?_)
    refine w_o rfl rfl rfl (op_le rfl rfl ?_)
    refine w_end ?_
    refine seq_normal ?_
    first | refine w_cond rfl (fun hI2 => ?_) (fun hI2 => ?_) | refine w_condB rfl (fun hI2 => ?_) (fun hI2 => ?_)
    · refine w_seq ?_
      refine w_region ?_
      refine w_o rfl rfl rfl (op_fieldAddr fa_23_0 rfl ?_)
      refine w_o rfl rfl rfl (op_loadF agg_3 rfl el_ rfl ?_)
      refine w_o rfl rfl rfl (op_move rfl ?_)
      refine w_o rfl rfl rfl (op_move rfl ?_)
      refine w_o rfl rfl rfl (op_fieldAddr fa_23_0 rfl ?_)
      refine w_o rfl rfl rfl (op_loadF agg_3 rfl el_ rfl ?_)
      refine w_o rfl rfl rfl (op_build rfl ((bld_100 _).trans (rfl : _ = some [_, _, _, _, _])) ?_)
      refine w_o rfl rfl rfl (op_buildSlice rfl (bsl_24 _ _ _ (rfl : _ = some [_, _, _, _, _]) rfl (by decide)) fun b27 => ?_)
      have o27 : Own 100 5 (.sl b27 0 1 (.lim 0)) ([cellAt x own x.f0 0].flatMap encD) [(b27, .row true 100 5 (encD (cellAt x own x.f0 0)))] := Own.row _ 1 _ rfl
      refine w_o rfl rfl rfl (op_assign rfl ?_)
      refine w_end ?_
      refine seq_normal ?_
      refine w_seq ?_
      refine w_seq ?_
      refine w_region ?_
      refine w_o rfl rfl rfl (op_move rfl ?_)
      refine w_o rfl rfl rfl (op_eq rfl rfl ?_)
      refine w_end ?_
      refine seq_normal ?_
      first | refine w_cond rfl (fun hI3 => ?_) (fun hI3 => ?_) | refine w_condB rfl (fun hI3 => ?_) (fun hI3 => ?_)
      · refine w_region ?_
        refine w_o rfl rfl rfl (op_move rfl ?_)
        refine w_o rfl rfl rfl (op_move rfl ?_)
        refine w_o rfl rfl rfl (op_move rfl ?_)
        refine w_o rfl rfl rfl (op_fieldAddr fa_23_0 rfl ?_)
        refine w_o rfl rfl rfl (op_loadF agg_3 rfl el_ rfl ?_)
        refine w_o rfl rfl rfl (op_build rfl ((bld_100 _).trans (rfl : _ = some [_, _, _, _, _])) ?_)
        refine w_o rfl rfl rfl (op_buildSlice rfl (bsl_24 _ _ _ (rfl : _ = some [_, _, _, _, _]) rfl (by decide)) fun b36 => ?_)
        refine w_o rfl rfl rfl (op_append1 (xs := [cellAt x own x.f0 0]) (enc := encD) (z0 := cellAt x own (-1) 1) elm_24 inf_100 zer_100 (by decide) und_24 rfl rfl o27 (fun _ => rfl) (by (repeat (first | exact PickL.front _ _ | exact PickL.nil _ | apply PickL.skip | apply PickL.skipL)); first | done | fail) rfl (by simp) fun c37 N37 h37 => ?_)
        refine w_o rfl rfl rfl (op_assign rfl ?_)
        refine w_end ?_
        refine seq_normal ?_
        refine w_seq ?_
        refine w_region ?_
        refine w_o rfl rfl rfl (op_move rfl ?_)
        refine w_o rfl rfl rfl (op_assign rfl ?_)
        refine w_end ?_
        refine seq_normal ?_
        refine w_ret ?_
        refine seq_ret ?_
        first
          | exact ret_ret rfl sel_ (k _ _ (by rw [cellsV_2 hI3]; exact h37))
          | exact ret_ret rfl sel_ (k _ [(b27, .row true 100 5 (encD (cellAt x own x.f0 0)))] (by rw [cellsV_1 (by show Go.Proofs.Ytkmdofkajcehpaa.P.class_Of.v x.f0 = 1 ∨ Go.Proofs.Ytkmdofkajcehpaa.P.class_Of.v x.f0 = 3; omega)]; exact o27))
      · refine w_skip ?_
        refine seq_normal ?_
        refine w_seq ?_
        refine w_region ?_
        refine w_o rfl rfl rfl (op_move rfl ?_)
        refine w_o rfl rfl rfl (op_assign rfl ?_)
        refine w_end ?_
        refine seq_normal ?_
        refine w_ret ?_
        refine seq_ret ?_
        first
          | exact ret_ret rfl sel_ (k _ _ (by rw [cellsV_2 hI3]; exact h37))
          | exact ret_ret rfl sel_ (k _ [(b27, .row true 100 5 (encD (cellAt x own x.f0 0)))] (by rw [cellsV_1 (by show Go.Proofs.Ytkmdofkajcehpaa.P.class_Of.v x.f0 = 1 ∨ Go.Proofs.Ytkmdofkajcehpaa.P.class_Of.v x.f0 = 3; omega)]; exact o27))
    · have h4 : 3 < clsV x.f0 := by show 3 < Go.Proofs.Ytkmdofkajcehpaa.P.class_Of.v x.f0; omega
      have hsz := txtV_size h4
      refine w_skip ?_
      refine seq_normal ?_
      refine w_seq ?_
      refine w_region ?_
      refine w_o rfl rfl rfl (op_fieldAddr fa_23_0 rfl ?_)
      refine w_o rfl rfl rfl (op_loadF agg_3 rfl el_ rfl ?_)
      refine w_o rfl rfl rfl (op_call rfl rfl rfl ?_)
      refine dactylref06_Text_sw (Go.Proofs.Ytkmdofkajcehpaa.P.ref_Text _ 100 (by decide)) ?_
      refine w_o rfl rfl rfl (op_assign rfl ?_)
      refine w_end ?_
      refine seq_normal ?_
      refine w_seq ?_
      refine w_region ?_
      refine w_o rfl rfl rfl (op_assign rfl ?_)
      refine w_end ?_
      refine seq_normal ?_
      refine w_seq ?_
      refine w_seq ?_
      refine w_region ?_
      refine w_o rfl rfl rfl (op_assign rfl ?_)
      refine w_end ?_
      refine seq_normal ?_
      refine w_block ?_
      refine w_loop (fun m e H' => ∃ (i : Nat) (c : Cell) (N : Hyp), i ≤ (txtV x.f0).size ∧ m = (txtV x.f0).size - i ∧ Own 100 5 c ((bytesC x own (txtV x.f0) i).flatMap encD) N ∧ H' = N ++ ((b2, .row true 23 1 (encS x)) :: H) ∧ e = [(1, vI own), (2, ptrV b2 0), (5, vI (looksV x)), (8, vS (txtV x.f0)), (9, .one (.c c)), (10, vI (i : Nat))]) ?_ ?_
      · exact ⟨_, _, _, ⟨0, .nils, [], Nat.zero_le _, rfl, .nil, rfl, rfl⟩, env_, sel_⟩
      · rintro m e H' ⟨i, c, N, hi, rfl, hO, rfl, rfl⟩
        have hlen := bytesC_len x own (txtV x.f0) i
        refine w_seq ?_
        refine w_seq ?_
        refine w_region ?_
        refine w_o rfl rfl rfl (op_move rfl ?_)
        refine w_o rfl rfl rfl (op_move rfl ?_)
        refine w_o rfl rfl rfl (op_lenS und_9 rfl ?_)
        refine w_o rfl rfl rfl (op_lt rfl rfl ?_)
        refine w_end ?_
        refine seq_normal ?_
        first | refine w_cond rfl (fun hI4 => ?_) (fun hI4 => ?_) | refine w_condB rfl (fun hI4 => ?_) (fun hI4 => ?_)
        · refine w_skip ?_
          refine seq_normal ?_
          refine w_seq ?_
          refine w_block ?_
          refine w_draw (by decide +kernel) (by decide +kernel) ?_
          refine w_d rfl rfl rfl (op_move rfl ?_)
          refine w_d rfl rfl rfl (op_move rfl ?_)
          refine w_d rfl rfl rfl (op_move rfl ?_)
          refine w_d rfl rfl rfl (op_indexS und_9 rfl rfl (by omega) (by omega) ?_)
          refine w_d rfl rfl rfl (op_convi und_5 und_3 rfl (wrap_i64 (by have := byteAt_in (txtV x.f0) i; omega) (by have := byteAt_in (txtV x.f0) i; omega)) ?_)
          refine w_d rfl rfl rfl (op_move rfl ?_)
          refine w_d rfl rfl rfl (op_move rfl ?_)
          refine w_d rfl rfl rfl (op_fieldAddr fa_23_0 rfl ?_)
          refine w_d rfl rfl rfl (op_loadF agg_3 rfl el_ rfl ?_)
          refine w_d rfl rfl rfl (op_move rfl ?_)
          refine w_d rfl rfl rfl (op_build rfl ((bld_100 _).trans (rfl : _ = some [_, _, _, _, _])) ?_)
          refine w_d rfl rfl rfl (op_buildSlice rfl (bsl_24 _ _ _ (rfl : _ = some [_, _, _, _, _]) rfl (by decide)) fun b59 => ?_)
          refine w_d rfl rfl rfl (op_append1 (enc := encD) (z0 := cellAt x own (byteAt (txtV x.f0) i) i) elm_24 inf_100 zer_100 (by decide) und_24 rfl rfl (by assumption) (fun _ => rfl) (by (repeat (first | exact PickL.front _ _ | exact PickL.nil _ | apply PickL.skip | apply PickL.skipL)); first | done | fail) rfl (by omega) fun c60 N60 h60 => ?_)
          refine w_d rfl rfl rfl (op_assign rfl ?_)
          refine w_end ?_
          refine block_normal ?_
          refine seq_normal ?_
          refine w_region ?_
          refine w_o rfl rfl rfl (op_move rfl ?_)
          refine w_o rfl rfl rfl (op_addi rfl rfl (by omega) (by omega) ?_)
          refine w_o rfl rfl rfl (op_assign rfl ?_)
          refine w_end ?_
          rw [← bytesC_succ] at h60
          exact loop_normal (k' := (txtV x.f0).size - (i + 1)) (by omega) ⟨i + 1, c60, N60, by omega, rfl, h60, rfl, rfl⟩ env_ sel_
        · refine w_exit ?_
          refine seq_exit ?_
          refine loop_exit ?_
          refine block_hit rfl ?_
          refine seq_normal ?_
          refine w_seq ?_
          refine w_region ?_
          refine w_o rfl rfl rfl (op_move rfl ?_)
          refine w_o rfl rfl rfl (op_assign rfl ?_)
          refine w_end ?_
          refine seq_normal ?_
          refine w_ret ?_
          have hi' : i = (txtV x.f0).size := by omega
          subst hi'
          rw [← cellsV_4 h4] at hO
          exact ret_ret rfl sel_ (k _ _ hO)
theorem All_w {H : Hyp} {K : V → Hyp → Prop} {c c' : Cell} {l l' : List DC} (h : Sl H 100 5 c l.length (l.flatMap encD)) (h' : Sl H 100 5 c' l'.length (l'.flatMap encD)) (hl : l.length ≤ 1000000) (k : K (vB (decide (l = l'))) H) : CallW Try.prog Xs 20 [.one (.c c), .one (.c c')] H K := by
  refine call_of (n := 26) (fun _ => rfl) Try.func20 rfl rfl ?_
  refine w_seq ?_
  refine w_region ?_
  refine w_o rfl rfl rfl (op_assign rfl ?_)
  refine w_end ?_
  refine seq_normal ?_
  refine w_seq ?_
  refine w_seq ?_
  refine w_region ?_
  refine w_o rfl rfl rfl (op_move rfl ?_)
  refine w_o rfl rfl rfl (op_lenC und_24 rfl h.lenC ?_)
  refine w_o rfl rfl rfl (op_move rfl ?_)
  refine w_o rfl rfl rfl (op_lenC und_24 rfl h'.lenC ?_)
  refine w_o rfl rfl rfl (op_ne rfl rfl ?_)
  refine w_end ?_
  refine seq_normal ?_
  first | refine w_cond rfl (fun hI1 => ?_) (fun hI1 => ?_) | refine w_condB rfl (fun hI1 => ?_) (fun hI1 => ?_)
  · have hne : ¬ (l = l') := fun q => hI1 (by rw [q])
    refine w_seq ?_
    refine w_region ?_
    refine w_o rfl rfl rfl (op_assign rfl ?_)
    refine w_end ?_
    refine seq_normal ?_
    refine w_ret ?_
    refine seq_ret ?_
    exact ret_bool rfl sel_ (decide_eq_false hne).symm k
  · have heq : l.length = l'.length := by omega
    refine w_skip ?_
    refine seq_normal ?_
    refine w_seq ?_
    refine w_seq ?_
    refine w_region ?_
    refine w_o rfl rfl rfl (op_assign rfl ?_)
    refine w_end ?_
    refine seq_normal ?_
    refine w_block ?_
    refine w_loop (fun m e H' => ∃ (i : Nat), i ≤ l.length ∧ m = l.length - i ∧ (∀ (j : Nat), j < i → l[j]? = l'[j]?) ∧ H = H' ∧ e = [(0, .one (.c c)), (1, .one (.c c')), (5, vI (i : Nat))]) ?_ ?_
    · exact ⟨_, _, _, ⟨0, Nat.zero_le _, rfl, fun j hj => absurd hj (Nat.not_lt_zero _), rfl, rfl⟩, env_, sel_⟩
    · rintro m e H' ⟨i, hi, rfl, hp, rfl, rfl⟩
      refine w_seq ?_
      refine w_seq ?_
      refine w_region ?_
      refine w_o rfl rfl rfl (op_move rfl ?_)
      refine w_o rfl rfl rfl (op_move rfl ?_)
      refine w_o rfl rfl rfl (op_lenC und_24 rfl h.lenC ?_)
      refine w_o rfl rfl rfl (op_lt rfl rfl ?_)
      refine w_end ?_
      refine seq_normal ?_
      first | refine w_cond rfl (fun hI2 => ?_) (fun hI2 => ?_) | refine w_condB rfl (fun hI2 => ?_) (fun hI2 => ?_)
      · refine w_skip ?_
        refine seq_normal ?_
        refine w_seq ?_
        refine w_block ?_
        refine w_seq ?_
        refine w_draw (by decide +kernel) (by decide +kernel) ?_
        refine w_d rfl rfl rfl (op_move rfl ?_)
        refine w_d rfl rfl rfl (op_move rfl ?_)
        refine w_d rfl rfl rfl (op_indexT (enc := encD) und_24 siz_100 rfl rfl h (fun _ => rfl) rfl (by omega) fun b19 o19 z19 h19 e19 => ?_)
        refine w_d rfl rfl rfl (op_loadA agg_100 siz_100 rfl rfl el_ ?_)
        refine w_d rfl rfl rfl (op_move rfl ?_)
        refine w_d rfl rfl rfl (op_move rfl ?_)
        refine w_d rfl rfl rfl (op_indexT (enc := encD) und_24 siz_100 rfl rfl h' (fun _ => rfl) rfl (by omega) fun b23 o23 z23 h23 e23 => ?_)
        refine w_d rfl rfl rfl (op_loadA agg_100 siz_100 rfl rfl el_ ?_)
        refine w_d rfl rfl rfl (op_nes_100 rfl rfl ?_)
        refine w_end ?_
        refine seq_normal ?_
        first | refine w_cond rfl (fun hI3 => ?_) (fun hI3 => ?_) | refine w_condB rfl (fun hI3 => ?_) (fun hI3 => ?_)
        · refine w_seq ?_
          refine w_region ?_
          refine w_o rfl rfl rfl (op_assign rfl ?_)
          refine w_end ?_
          refine seq_normal ?_
          refine w_ret ?_
          refine block_ret ?_
          refine seq_ret ?_
          refine loop_ret ?_
          refine block_ret ?_
          refine seq_ret ?_
          have hne : ¬ (l = l') := by
            intro q
            subst q
            rw [h19] at h23; cases h23
            simp at hI3
          exact ret_bool rfl sel_ (decide_eq_false hne).symm k
        · refine w_skip ?_
          refine block_normal ?_
          refine seq_normal ?_
          refine w_region ?_
          refine w_o rfl rfl rfl (op_move rfl ?_)
          refine w_o rfl rfl rfl (op_addi rfl rfl (by omega) (by omega) ?_)
          refine w_o rfl rfl rfl (op_assign rfl ?_)
          refine w_end ?_
          refine loop_normal (k' := l.length - (i + 1)) (by omega) ⟨i + 1, by omega, rfl, ?_, rfl, rfl⟩ env_ sel_
          intro j hj
          by_cases e : j = i
          · subst e
            rw [h19, h23]
            have : z19 = z23 := by
              simp only [Bool.not_eq_false', Bool.and_eq_true, beq_iff_eq] at hI3
              cases z19; cases z23; simp at hI3; simp [hI3]
            rw [this]
          · exact hp j (by omega)
      · refine w_exit ?_
        refine seq_exit ?_
        refine loop_exit ?_
        refine block_hit rfl ?_
        refine seq_normal ?_
        refine w_seq ?_
        refine w_region ?_
        refine w_o rfl rfl rfl (op_assign rfl ?_)
        refine w_end ?_
        refine seq_normal ?_
        refine w_ret ?_
        have he : l = l' := by
          apply List.ext_getElem?
          intro j
          by_cases e : j < i
          · exact hp j e
          · rw [List.getElem?_eq_none (by omega), List.getElem?_eq_none (by omega)]
        exact ret_bool rfl sel_ (decide_eq_true he).symm k
end Go.Proofs.Ytkmdofkajcehpaa.AM.B
