/- The law ViewApart: it answers true, whatever comes in. -/
import Derived.Test.YtkmdofkajcehpaaAX
import Derived.Test.YtkmdofkajcehpaaBapart
set_option linter.unusedVariables false
set_option linter.unusedSimpArgs false
set_option maxRecDepth 10000
set_option maxHeartbeats 4000000
namespace Go.Proofs.Ytkmdofkajcehpaa.AM.B
open Go Go.RowKit
theorem R04Values_w {H : Hyp} {K : V → Hyp → Prop} {c : Cell} {l : List Sign} (h : Sl H 23 2 c l.length (l.flatMap encS)) (hl : l.length ≤ 1000) (k : ∀ c' N, Own 3 1 c' ((l.map (·.f0)).flatMap encI) N → K (.one (.c c')) (N ++ H)) : CallW Try.prog Xs 31 [.one (.c c)] H K := by
  refine call_of (n := 20) (fun _ => rfl) Try.func31 rfl rfl ?_
  refine w_seq ?_
  refine w_region ?_
  refine w_o rfl rfl rfl (op_assign rfl ?_)
  refine w_end ?_
  refine seq_normal ?_
  refine w_seq ?_
  refine w_region ?_
  refine w_o rfl rfl rfl (op_assign rfl ?_)
  refine w_end ?_
  refine seq_normal ?_
  refine w_seq ?_
  refine w_seq ?_
  refine w_region ?_
  refine w_o rfl rfl rfl (op_assign rfl ?_)
  refine w_end ?_
  refine seq_normal ?_
  refine w_block ?_
  refine w_loop (fun m e H' => ∃ (i : Nat) (c' : Cell) (N : Hyp), i ≤ l.length ∧ m = l.length - i ∧ Own 3 1 c' (((l.take i).map (·.f0)).flatMap encI) N ∧ H' = N ++ H ∧ e = [(0, .one (.c c)), (3, .one (.c c')), (4, vI (i : Nat))]) ?_ ?_
  · exact ⟨_, _, _, ⟨0, .nils, [], Nat.zero_le _, rfl, .nil, rfl, rfl⟩, env_, sel_⟩
  · rintro m e H' ⟨i, c', N, hi, rfl, hO, rfl, rfl⟩
    have hle : ((l.take i).map (·.f0)).length ≤ l.length := by rw [List.length_map, List.length_take]; omega
    refine w_seq ?_
    refine w_seq ?_
    refine w_region ?_
    refine w_o rfl rfl rfl (op_move rfl ?_)
    refine w_o rfl rfl rfl (op_move rfl ?_)
    refine w_o rfl rfl rfl (op_lenC und_36 rfl h.lenC ?_)
    refine w_o rfl rfl rfl (op_lt rfl rfl ?_)
    refine w_end ?_
    refine seq_normal ?_
    first | refine w_cond rfl (fun hI1 => ?_) (fun hI1 => ?_) | refine w_condB rfl (fun hI1 => ?_) (fun hI1 => ?_)
    · refine w_skip ?_
      refine seq_normal ?_
      refine w_seq ?_
      refine w_block ?_
      refine w_region ?_
      refine w_o rfl rfl rfl (op_move rfl ?_)
      refine w_o rfl rfl rfl (op_move rfl ?_)
      refine w_o rfl rfl rfl (op_move rfl ?_)
      refine w_o rfl rfl rfl (op_indexT (enc := encS) und_36 siz_23 rfl rfl h.app (fun _ => rfl) rfl (by omega) fun b14 o14 z14 h14 e14 => ?_)
      refine w_o rfl rfl rfl (op_fieldAddr fa_23_0 rfl ?_)
      refine w_o rfl rfl rfl (op_loadF agg_3 rfl el_ rfl ?_)
      refine w_o rfl rfl rfl (op_buildSlice rfl (bsl_42 _ _ _ (rfl : _ = some [_]) rfl (by decide)) fun b17 => ?_)
      refine w_o rfl rfl rfl (op_append1 (xs := (l.take i).map (·.f0)) (enc := encI) (z0 := z14.f0) elm_42 inf_3 zer_3 (by decide) und_42 rfl rfl hO (fun _ => rfl) (by (repeat (first | exact PickL.front _ _ | exact PickL.nil _ | apply PickL.skip | apply PickL.skipL)); first | done | fail) rfl (by omega) fun c18 N18 h18 => ?_)
      refine w_o rfl rfl rfl (op_assign rfl ?_)
      refine w_end ?_
      refine block_normal ?_
      refine seq_normal ?_
      refine w_region ?_
      refine w_o rfl rfl rfl (op_move rfl ?_)
      refine w_o rfl rfl rfl (op_addi rfl rfl (by omega) (by omega) ?_)
      refine w_o rfl rfl rfl (op_assign rfl ?_)
      refine w_end ?_
      have e1 : (l.take i).map (·.f0) ++ [z14.f0] = (l.take (i + 1)).map (·.f0) := by rw [List.take_add_one, h14, List.map_append]; rfl
      rw [e1] at h18
      exact loop_normal (k' := l.length - (i + 1)) (by omega) ⟨i + 1, c18, N18, by omega, rfl, h18, rfl, rfl⟩ env_ sel_
    · refine w_exit ?_
      refine seq_exit ?_
      refine loop_exit ?_
      refine block_hit rfl ?_
      refine seq_normal ?_
      refine w_seq ?_
      refine w_region ?_
      refine w_o rfl rfl rfl (op_move rfl ?_)
      refine w_o rfl rfl rfl (op_assign rfl ?_)
      refine w_end ?_
      refine seq_normal ?_
      refine w_ret ?_
      have hi' : i = l.length := by omega
      subst hi'
      rw [List.take_length] at hO
      exact ret_ret rfl sel_ (k _ _ hO)
theorem R01Ints_w {H : Hyp} {K : V → Hyp → Prop} {c c' : Cell} {l l' : List Int} (h : Sl H 3 1 c l.length (l.flatMap encI)) (h' : Sl H 3 1 c' l'.length (l'.flatMap encI)) (hl : l.length ≤ 1000000) (k : K (vB (decide (l = l'))) H) : CallW Try.prog Xs 30 [.one (.c c), .one (.c c')] H K := by
  refine call_of (n := 26) (fun _ => rfl) Try.func30 rfl rfl ?_
  refine w_seq ?_
  refine w_region ?_
  refine w_o rfl rfl rfl (op_assign rfl ?_)
  refine w_end ?_
  refine seq_normal ?_
  refine w_seq ?_
  refine w_seq ?_
  refine w_region ?_
  refine w_o rfl rfl rfl (op_move rfl ?_)
  refine w_o rfl rfl rfl (op_lenC und_42 rfl h.lenC ?_)
  refine w_o rfl rfl rfl (op_move rfl ?_)
  refine w_o rfl rfl rfl (op_lenC und_42 rfl h'.lenC ?_)
  refine w_o rfl rfl rfl (op_ne rfl rfl ?_)
  refine w_end ?_
  refine seq_normal ?_
  first | refine w_cond rfl (fun hI1 => ?_) (fun hI1 => ?_) | refine w_condB rfl (fun hI1 => ?_) (fun hI1 => ?_)
  · have hne : ¬ (l = l') := fun q => hI1 (by rw [q])
    refine w_seq ?_
    refine w_region ?_
    refine w_o rfl rfl rfl (op_assign rfl ?_)
    refine w_end ?_
    refine seq_normal ?_
    refine w_ret ?_
    refine seq_ret ?_
    exact ret_bool rfl sel_ (decide_eq_false hne).symm k
  · have heq : l.length = l'.length := by omega
    refine w_skip ?_
    refine seq_normal ?_
    refine w_seq ?_
    refine w_seq ?_
    refine w_region ?_
    refine w_o rfl rfl rfl (op_assign rfl ?_)
    refine w_end ?_
    refine seq_normal ?_
    refine w_block ?_
    refine w_loop (fun m e H' => ∃ (i : Nat), i ≤ l.length ∧ m = l.length - i ∧ (∀ (j : Nat), j < i → l[j]? = l'[j]?) ∧ H = H' ∧ e = [(0, .one (.c c)), (1, .one (.c c')), (5, vI (i : Nat))]) ?_ ?_
    · exact ⟨_, _, _, ⟨0, Nat.zero_le _, rfl, fun j hj => absurd hj (Nat.not_lt_zero _), rfl, rfl⟩, env_, sel_⟩
    · rintro m e H' ⟨i, hi, rfl, hp, rfl, rfl⟩
      refine w_seq ?_
      refine w_seq ?_
      refine w_region ?_
      refine w_o rfl rfl rfl (op_move rfl ?_)
      refine w_o rfl rfl rfl (op_move rfl ?_)
      refine w_o rfl rfl rfl (op_lenC und_42 rfl h.lenC ?_)
      refine w_o rfl rfl rfl (op_lt rfl rfl ?_)
      refine w_end ?_
      refine seq_normal ?_
      first | refine w_cond rfl (fun hI2 => ?_) (fun hI2 => ?_) | refine w_condB rfl (fun hI2 => ?_) (fun hI2 => ?_)
      · refine w_skip ?_
        refine seq_normal ?_
        refine w_seq ?_
        refine w_block ?_
        refine w_seq ?_
        refine w_draw (by decide +kernel) (by decide +kernel) ?_
        refine w_d rfl rfl rfl (op_move rfl ?_)
        refine w_d rfl rfl rfl (op_move rfl ?_)
        refine w_d rfl rfl rfl (op_indexT (enc := encI) und_42 siz_3 rfl rfl h (fun _ => rfl) rfl (by omega) fun b19 o19 z19 h19 e19 => ?_)
        refine w_d rfl rfl rfl (op_load1 agg_3 rfl el_ ?_)
        refine w_d rfl rfl rfl (op_move rfl ?_)
        refine w_d rfl rfl rfl (op_move rfl ?_)
        refine w_d rfl rfl rfl (op_indexT (enc := encI) und_42 siz_3 rfl rfl h' (fun _ => rfl) rfl (by omega) fun b23 o23 z23 h23 e23 => ?_)
        refine w_d rfl rfl rfl (op_load1 agg_3 rfl el_ ?_)
        refine w_d rfl rfl rfl (op_ne rfl rfl ?_)
        refine w_end ?_
        refine seq_normal ?_
        first | refine w_cond rfl (fun hI3 => ?_) (fun hI3 => ?_) | refine w_condB rfl (fun hI3 => ?_) (fun hI3 => ?_)
        · refine w_seq ?_
          refine w_region ?_
          refine w_o rfl rfl rfl (op_assign rfl ?_)
          refine w_end ?_
          refine seq_normal ?_
          refine w_ret ?_
          refine block_ret ?_
          refine seq_ret ?_
          refine loop_ret ?_
          refine block_ret ?_
          refine seq_ret ?_
          have hne : ¬ (l = l') := by
            intro q
            subst q
            rw [h19] at h23; cases h23
            exact hI3 rfl
          exact ret_bool rfl sel_ (decide_eq_false hne).symm k
        · refine w_skip ?_
          refine block_normal ?_
          refine seq_normal ?_
          refine w_region ?_
          refine w_o rfl rfl rfl (op_move rfl ?_)
          refine w_o rfl rfl rfl (op_addi rfl rfl (by omega) (by omega) ?_)
          refine w_o rfl rfl rfl (op_assign rfl ?_)
          refine w_end ?_
          refine loop_normal (k' := l.length - (i + 1)) (by omega) ⟨i + 1, by omega, rfl, ?_, rfl, rfl⟩ env_ sel_
          intro j hj
          by_cases e : j = i
          · subst e
            have : z19 = z23 := by omega
            rw [h19, h23, this]
          · exact hp j (by omega)
      · refine w_exit ?_
        refine seq_exit ?_
        refine loop_exit ?_
        refine block_hit rfl ?_
        refine seq_normal ?_
        refine w_seq ?_
        refine w_region ?_
        refine w_o rfl rfl rfl (op_assign rfl ?_)
        refine w_end ?_
        refine seq_normal ?_
        refine w_ret ?_
        have he : l = l' := by
          apply List.ext_getElem?
          intro j
          by_cases e : j < i
          · exact hp j e
          · rw [List.getElem?_eq_none (by omega), List.getElem?_eq_none (by omega)]
        exact ret_bool rfl sel_ (decide_eq_true he).symm k
theorem ViewApart_law {H : Hyp} {c c' c2 : Cell} {p a b : List Sign} (h : Sl H 23 2 c p.length (p.flatMap encS)) (h' : Sl H 23 2 c' a.length (a.flatMap encS)) (h2 : Sl H 23 2 c2 b.length (b.flatMap encS)) : CallW Try.prog Xs 7 [.one (.c c), .one (.c c'), .one (.c c2)] H (fun v _ => v = vB true) := by
  refine call_of (n := 74) (fun _ => rfl) Try.func7 rfl rfl ?_
  refine w_seq ?_
  refine w_region ?_
  refine w_o rfl rfl rfl (op_assign rfl ?_)
  refine w_end ?_
  refine seq_normal ?_
  refine w_seq ?_
  refine w_seq ?_
  refine w_region ?_
  refine w_o rfl rfl rfl (op_move rfl ?_)
  refine w_o rfl rfl rfl (op_lenC und_36 rfl h.lenC ?_)
  refine w_o rfl rfl rfl (op_gt rfl rfl ?_)
  refine w_o rfl rfl rfl (op_move rfl ?_)
  first | refine w_known (t := 14) rfl (fun g14 => ?_) (fun g14 => ?_) | refine w_knownB (t := 14) rfl (fun g14 => ?_) (fun g14 => ?_)
  · refine w_u rfl rfl rfl rfl rfl rfl ?_
    refine w_u rfl rfl rfl rfl rfl rfl ?_
    refine w_u rfl rfl rfl rfl rfl rfl ?_
    refine w_o rfl rfl rfl (op_pick rfl rfl rfl ?_)
    refine w_o rfl rfl rfl (op_move rfl ?_)
    refine w_u rfl rfl rfl rfl rfl rfl ?_
    refine w_u rfl rfl rfl rfl rfl rfl ?_
    refine w_u rfl rfl rfl rfl rfl rfl ?_
    refine w_o rfl rfl rfl (op_pick rfl rfl rfl ?_)
    refine w_o rfl rfl rfl (op_move rfl ?_)
    refine w_u rfl rfl rfl rfl rfl rfl ?_
    refine w_u rfl rfl rfl rfl rfl rfl ?_
    refine w_u rfl rfl rfl rfl rfl rfl ?_
    refine w_o rfl rfl rfl (op_pick rfl rfl rfl ?_)
    refine w_o rfl rfl rfl (op_move rfl ?_)
    refine w_u rfl rfl rfl rfl rfl rfl ?_
    refine w_u rfl rfl rfl rfl rfl rfl ?_
    refine w_u rfl rfl rfl rfl rfl rfl ?_
    refine w_o rfl rfl rfl (op_pick rfl rfl rfl ?_)
    refine w_o rfl rfl rfl (op_move rfl ?_)
    refine w_u rfl rfl rfl rfl rfl rfl ?_
    refine w_u rfl rfl rfl rfl rfl rfl ?_
    refine w_u rfl rfl rfl rfl rfl rfl ?_
    refine w_o rfl rfl rfl (op_pick rfl rfl rfl ?_)
    refine w_end ?_
    refine seq_normal ?_
    refine w_condT rfl ?_
    refine w_seq ?_
    refine w_region ?_
    refine w_o rfl rfl rfl (op_call rfl rfl rfl ?_)
    refine awake_w ?_
    refine w_o rfl rfl rfl (op_assign rfl ?_)
    refine w_end ?_
    refine seq_normal ?_
    refine w_ret ?_
    refine seq_ret ?_
    exact ret_ret rfl sel_ rfl
  · refine w_og rfl rfl rfl rfl rfl (op_move rfl ?_)
    refine w_og rfl rfl rfl rfl rfl (op_lenC und_36 rfl h'.lenC ?_)
    refine w_og rfl rfl rfl rfl rfl (op_gt rfl rfl ?_)
    refine w_o rfl rfl rfl (op_pick rfl rfl rfl ?_)
    refine w_o rfl rfl rfl (op_move rfl ?_)
    first | refine w_known (t := 19) rfl (fun g19 => ?_) (fun g19 => ?_) | refine w_knownB (t := 19) rfl (fun g19 => ?_) (fun g19 => ?_)
    · refine w_u rfl rfl rfl rfl rfl rfl ?_
      refine w_u rfl rfl rfl rfl rfl rfl ?_
      refine w_u rfl rfl rfl rfl rfl rfl ?_
      refine w_o rfl rfl rfl (op_pick rfl rfl rfl ?_)
      refine w_o rfl rfl rfl (op_move rfl ?_)
      refine w_u rfl rfl rfl rfl rfl rfl ?_
      refine w_u rfl rfl rfl rfl rfl rfl ?_
      refine w_u rfl rfl rfl rfl rfl rfl ?_
      refine w_o rfl rfl rfl (op_pick rfl rfl rfl ?_)
      refine w_o rfl rfl rfl (op_move rfl ?_)
      refine w_u rfl rfl rfl rfl rfl rfl ?_
      refine w_u rfl rfl rfl rfl rfl rfl ?_
      refine w_u rfl rfl rfl rfl rfl rfl ?_
      refine w_o rfl rfl rfl (op_pick rfl rfl rfl ?_)
      refine w_o rfl rfl rfl (op_move rfl ?_)
      refine w_u rfl rfl rfl rfl rfl rfl ?_
      refine w_u rfl rfl rfl rfl rfl rfl ?_
      refine w_u rfl rfl rfl rfl rfl rfl ?_
      refine w_o rfl rfl rfl (op_pick rfl rfl rfl ?_)
      refine w_end ?_
      refine seq_normal ?_
      refine w_condT rfl ?_
      refine w_seq ?_
      refine w_region ?_
      refine w_o rfl rfl rfl (op_call rfl rfl rfl ?_)
      refine awake_w ?_
      refine w_o rfl rfl rfl (op_assign rfl ?_)
      refine w_end ?_
      refine seq_normal ?_
      refine w_ret ?_
      refine seq_ret ?_
      exact ret_ret rfl sel_ rfl
    · refine w_og rfl rfl rfl rfl rfl (op_move rfl ?_)
      refine w_og rfl rfl rfl rfl rfl (op_lenC und_36 rfl h2.lenC ?_)
      refine w_og rfl rfl rfl rfl rfl (op_gt rfl rfl ?_)
      refine w_o rfl rfl rfl (op_pick rfl rfl rfl ?_)
      refine w_o rfl rfl rfl (op_move rfl ?_)
      first | refine w_known (t := 24) rfl (fun g24 => ?_) (fun g24 => ?_) | refine w_knownB (t := 24) rfl (fun g24 => ?_) (fun g24 => ?_)
      · refine w_u rfl rfl rfl rfl rfl rfl ?_
        refine w_u rfl rfl rfl rfl rfl rfl ?_
        refine w_u rfl rfl rfl rfl rfl rfl ?_
        refine w_o rfl rfl rfl (op_pick rfl rfl rfl ?_)
        refine w_o rfl rfl rfl (op_move rfl ?_)
        refine w_u rfl rfl rfl rfl rfl rfl ?_
        refine w_u rfl rfl rfl rfl rfl rfl ?_
        refine w_u rfl rfl rfl rfl rfl rfl ?_
        refine w_o rfl rfl rfl (op_pick rfl rfl rfl ?_)
        refine w_o rfl rfl rfl (op_move rfl ?_)
        refine w_u rfl rfl rfl rfl rfl rfl ?_
        refine w_u rfl rfl rfl rfl rfl rfl ?_
        refine w_u rfl rfl rfl rfl rfl rfl ?_
        refine w_o rfl rfl rfl (op_pick rfl rfl rfl ?_)
        refine w_end ?_
        refine seq_normal ?_
        refine w_condT rfl ?_
        refine w_seq ?_
        refine w_region ?_
        refine w_o rfl rfl rfl (op_call rfl rfl rfl ?_)
        refine awake_w ?_
        refine w_o rfl rfl rfl (op_assign rfl ?_)
        refine w_end ?_
        refine seq_normal ?_
        refine w_ret ?_
        refine seq_ret ?_
        exact ret_ret rfl sel_ rfl
      · have hpl : p.length ≤ 20 := by omega
        have hal : a.length ≤ 30 := by omega
        have hbl : b.length ≤ 30 := by omega
        refine w_og rfl rfl rfl rfl rfl (op_move rfl ?_)
        refine w_og rfl rfl rfl rfl rfl (op_call rfl rfl rfl ?_)
        refine R04All_w h (by omega) ?_
        refine w_og rfl rfl rfl rfl rfl (op_not rfl ?_)
        refine w_o rfl rfl rfl (op_pick rfl rfl rfl ?_)
        refine w_o rfl rfl rfl (op_move rfl ?_)
        first | refine w_known (t := 29) rfl (fun g29 => ?_) (fun g29 => ?_) | refine w_knownB (t := 29) rfl (fun g29 => ?_) (fun g29 => ?_)
        · refine w_u rfl rfl rfl rfl rfl rfl ?_
          refine w_u rfl rfl rfl rfl rfl rfl ?_
          refine w_u rfl rfl rfl rfl rfl rfl ?_
          refine w_o rfl rfl rfl (op_pick rfl rfl rfl ?_)
          refine w_o rfl rfl rfl (op_move rfl ?_)
          refine w_u rfl rfl rfl rfl rfl rfl ?_
          refine w_u rfl rfl rfl rfl rfl rfl ?_
          refine w_u rfl rfl rfl rfl rfl rfl ?_
          refine w_o rfl rfl rfl (op_pick rfl rfl rfl ?_)
          refine w_end ?_
          refine seq_normal ?_
          refine w_condT rfl ?_
          refine w_seq ?_
          refine w_region ?_
          refine w_o rfl rfl rfl (op_call rfl rfl rfl ?_)
          refine awake_w ?_
          refine w_o rfl rfl rfl (op_assign rfl ?_)
          refine w_end ?_
          refine seq_normal ?_
          refine w_ret ?_
          refine seq_ret ?_
          exact ret_ret rfl sel_ rfl
        · refine w_og rfl rfl rfl rfl rfl (op_move rfl ?_)
          refine w_og rfl rfl rfl rfl rfl (op_call rfl rfl rfl ?_)
          refine R04All_w h' (by omega) ?_
          refine w_og rfl rfl rfl rfl rfl (op_not rfl ?_)
          refine w_o rfl rfl rfl (op_pick rfl rfl rfl ?_)
          refine w_o rfl rfl rfl (op_move rfl ?_)
          first | refine w_known (t := 34) rfl (fun g34 => ?_) (fun g34 => ?_) | refine w_knownB (t := 34) rfl (fun g34 => ?_) (fun g34 => ?_)
          · refine w_u rfl rfl rfl rfl rfl rfl ?_
            refine w_u rfl rfl rfl rfl rfl rfl ?_
            refine w_u rfl rfl rfl rfl rfl rfl ?_
            refine w_o rfl rfl rfl (op_pick rfl rfl rfl ?_)
            refine w_end ?_
            refine seq_normal ?_
            refine w_condT rfl ?_
            refine w_seq ?_
            refine w_region ?_
            refine w_o rfl rfl rfl (op_call rfl rfl rfl ?_)
            refine awake_w ?_
            refine w_o rfl rfl rfl (op_assign rfl ?_)
            refine w_end ?_
            refine seq_normal ?_
            refine w_ret ?_
            refine seq_ret ?_
            exact ret_ret rfl sel_ rfl
          · refine w_og rfl rfl rfl rfl rfl (op_move rfl ?_)
            refine w_og rfl rfl rfl rfl rfl (op_call rfl rfl rfl ?_)
            refine R04All_w h2 (by omega) ?_
            refine w_og rfl rfl rfl rfl rfl (op_not rfl ?_)
            refine w_o rfl rfl rfl (op_pick rfl rfl rfl ?_)
            refine w_end ?_
            refine seq_normal ?_
            first | refine w_cond rfl (fun hI1 => ?_) (fun hI1 => ?_) | refine w_condB rfl (fun hI1 => ?_) (fun hI1 => ?_)
            · refine w_seq ?_
              refine w_region ?_
              refine w_o rfl rfl rfl (op_call rfl rfl rfl ?_)
              refine awake_w ?_
              refine w_o rfl rfl rfl (op_assign rfl ?_)
              refine w_end ?_
              refine seq_normal ?_
              refine w_ret ?_
              refine seq_ret ?_
              exact ret_ret rfl sel_ rfl
            · have hp1 : p.all rightS = true := by simpa using g29
              have ha1 : a.all rightS = true := by simpa using g34
              have hb1 : b.all rightS = true := by simpa using hI1
              have hq1 := promptC_len p
              have hq2 := lineC_len 0 a
              have hq4 : (viewC p a).length = (promptC p).length + (lineC 0 a).length := List.length_append
              refine w_skip ?_
              refine seq_normal ?_
              refine w_seq ?_
              refine w_region ?_
              refine w_o rfl rfl rfl (op_move rfl ?_)
              refine w_o rfl rfl rfl (op_move rfl ?_)
              refine w_o rfl rfl rfl (op_call rfl rfl rfl ?_)
              refine viewOf_w h h' (by omega) (by omega) (fun hr => absurd hr (by rw [hp1, ha1]; decide)) fun _ c43 N43 o43 => ?_
              refine w_o rfl rfl rfl (op_move rfl ?_)
              refine w_o rfl rfl rfl (op_extract rfl rfl ?_)
              refine w_o rfl rfl rfl (op_extract rfl rfl ?_)
              refine w_o rfl rfl rfl (op_assign rfl ?_)
              refine w_o rfl rfl rfl (op_assign rfl ?_)
              refine w_end ?_
              refine seq_normal ?_
              refine w_seq ?_
              refine w_region ?_
              refine w_o rfl rfl rfl (op_move rfl ?_)
              refine w_o rfl rfl rfl (op_move rfl ?_)
              refine w_o rfl rfl rfl (op_call rfl rfl rfl ?_)
              refine viewOf_w h.app h2.app (by omega) (by omega) (fun hr => absurd hr (by rw [hp1, hb1]; decide)) fun _ c49 N49 o49 => ?_
              refine w_o rfl rfl rfl (op_move rfl ?_)
              refine w_o rfl rfl rfl (op_extract rfl rfl ?_)
              refine w_o rfl rfl rfl (op_extract rfl rfl ?_)
              refine w_o rfl rfl rfl (op_assign rfl ?_)
              refine w_o rfl rfl rfl (op_assign rfl ?_)
              refine w_end ?_
              refine seq_normal ?_
              refine w_seq ?_
              refine w_region ?_
              refine w_o rfl rfl rfl (op_call rfl rfl rfl ?_)
              refine awake_w ?_
              refine w_o rfl rfl rfl (op_move rfl ?_)
              refine w_og rfl rfl rfl rfl rfl (op_move rfl ?_)
              refine w_og rfl rfl rfl rfl rfl (op_eq rfl rfl ?_)
              refine w_o rfl rfl rfl (op_pick rfl rfl rfl ?_)
              refine w_o rfl rfl rfl (op_move rfl ?_)
              first | refine w_known (t := 57) rfl (fun g57 => ?_) (fun g57 => ?_) | refine w_knownB (t := 57) rfl (fun g57 => ?_) (fun g57 => ?_)
              · refine w_og rfl rfl rfl rfl rfl (op_move rfl ?_)
                refine w_og rfl rfl rfl rfl rfl (op_eq rfl rfl ?_)
                refine w_o rfl rfl rfl (op_pick rfl rfl rfl ?_)
                refine w_o rfl rfl rfl (op_move rfl ?_)
                first | refine w_known (t := 61) rfl (fun g61 => ?_) (fun g61 => ?_) | refine w_knownB (t := 61) rfl (fun g61 => ?_) (fun g61 => ?_)
                · refine w_og rfl rfl rfl rfl rfl (op_move rfl ?_)
                  refine w_og rfl rfl rfl rfl rfl (op_move rfl ?_)
                  refine w_og rfl rfl rfl rfl rfl (op_call rfl rfl rfl ?_)
                  refine refSame_w (l := viewC p a) (l' := viewC p b) (Own.slT o43 (fun _ => rfl) (by decide) subs_) (Own.slT o49 (fun _ => rfl) (by decide) subs_) (by omega) ?_
                  refine w_og rfl rfl rfl rfl rfl (op_not rfl ?_)
                  refine w_og rfl rfl rfl rfl rfl (op_move rfl ?_)
                  first | refine w_known (t := 66) rfl (fun g66 => ?_) (fun g66 => ?_) | refine w_knownB (t := 66) rfl (fun g66 => ?_) (fun g66 => ?_)
                  · have e : (1 : Nat) = 1 := rfl
                    refine w_u rfl rfl rfl rfl rfl rfl ?_
                    refine w_u rfl rfl rfl rfl rfl rfl ?_
                    refine w_u rfl rfl rfl rfl rfl rfl ?_
                    refine w_u rfl rfl rfl rfl rfl rfl ?_
                    refine w_u rfl rfl rfl rfl rfl rfl ?_
                    refine w_og rfl rfl rfl rfl rfl (op_pick rfl rfl rfl ?_)
                    refine w_o rfl rfl rfl (op_pick rfl rfl rfl ?_)
                    refine w_o rfl rfl rfl (op_assign rfl ?_)
                    refine w_end ?_
                    refine seq_normal ?_
                    refine w_ret ?_
                    exact ret_bool (b' := true) rfl sel_ (by simp [e]) rfl
                  · have e := view_apart (p := p) ha1 hb1 (by simpa using g66)
                    refine w_og rfl rfl rfl rfl rfl (op_move rfl ?_)
                    refine w_og rfl rfl rfl rfl rfl (op_call rfl rfl rfl ?_)
                    refine R04Values_w h'.app.app (by omega) fun c68 N68 o68 => ?_
                    refine w_og rfl rfl rfl rfl rfl (op_move rfl ?_)
                    refine w_og rfl rfl rfl rfl rfl (op_call rfl rfl rfl ?_)
                    refine R04Values_w h2.app.app.app (by omega) fun c70 N70 o70 => ?_
                    refine w_og rfl rfl rfl rfl rfl (op_call rfl rfl rfl ?_)
                    refine R01Ints_w (l := a.map (·.f0)) (l' := b.map (·.f0)) (Own.slT o68 (fun _ => rfl) (by decide) subs_) (Own.slT o70 (fun _ => rfl) (by decide) subs_) (by rw [List.length_map]; omega) ?_
                    refine w_og rfl rfl rfl rfl rfl (op_pick rfl rfl rfl ?_)
                    refine w_o rfl rfl rfl (op_pick rfl rfl rfl ?_)
                    refine w_o rfl rfl rfl (op_assign rfl ?_)
                    refine w_end ?_
                    refine seq_normal ?_
                    refine w_ret ?_
                    exact ret_bool (b' := true) rfl sel_ (by simp [e]) rfl
                · exact absurd rfl g61 --closed
              · exact absurd rfl g57 --closed
end Go.Proofs.Ytkmdofkajcehpaa.AM.B
