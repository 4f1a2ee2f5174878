/- What an offer rests on: values, labels, beginnings, lines that grow, where a word begins. -/
import Derived.Test.YtlbbnimobbheiaaAX
import Derived.Test.YtlbbnimobbheiaaBline2
set_option linter.unusedVariables false
set_option linter.unusedSimpArgs false
set_option maxRecDepth 10000
set_option maxHeartbeats 4000000
namespace Go.Proofs.Ytlbbnimobbheiaa.AM.B
open Go Go.RowKit
def valsS (l : List Sign) : List Int := l.map (·.f0)
def withS (l : List Sign) (b : Int) : List Sign := l.map fun x => (⟨x.f0, b⟩ : Sign)
theorem valsS_len (l : List Sign) : (valsS l).length = l.length := by unfold valsS; rw [List.length_map]
theorem withS_len (l : List Sign) (b : Int) : (withS l b).length = l.length := by unfold withS; rw [List.length_map]
theorem Values_w {H H1 : Hyp} {K : V → Hyp → Prop} {c : Cell} {l : List Sign} (h : Sl H1 47 2 c l.length (l.flatMap encS)) (hs : ∀ y ∈ H1, y ∈ H) (hl : l.length ≤ 100000) (k : ∀ c' N, Own 3 1 c' ((valsS l).flatMap encI) N → K (.one (.c c')) (N ++ H)) : CallW Try.prog Xs 41 [.one (.c c)] H K := by
  have hH := h.sub hs
  refine call_of (n := 19) (fun _ => rfl) Try.func41 rfl rfl ?_
  refine w_seq ?_
  refine w_region ?_
  refine w_o rfl rfl rfl (op_assign rfl ?_)
  refine w_end ?_
  refine seq_normal ?_
  refine w_seq ?_
  refine w_region ?_
  refine w_o rfl rfl rfl (op_assign rfl ?_)
  refine w_end ?_
  refine seq_normal ?_
  refine w_seq ?_
  refine w_seq ?_
  refine w_region ?_
  refine w_o rfl rfl rfl (op_move rfl ?_)
  refine w_o rfl rfl rfl (op_lenC und_22 rfl h.lenC ?_)
  refine w_o rfl rfl rfl (op_move rfl ?_)
  refine w_end ?_
  refine seq_normal ?_
  refine w_block ?_
  refine w_loop (fun m e H' => ∃ (i : Nat) (c' : Cell) (N : Hyp), i ≤ l.length ∧ m = l.length - i ∧ Own 3 1 c' ((valsS (l.take i)).flatMap encI) N ∧ H' = N ++ H ∧ e = [(3, .one (.c c')), (6, .one (.c c)), (7, vI (l.length : Nat)), (8, vI (i : Nat))]) ?_ ?_
  · exact ⟨_, _, _, ⟨0, .nils, [], Nat.zero_le _, rfl, .nil, rfl, rfl⟩, env_, sel_⟩
  · rintro m e H' ⟨i, c', N, hi, rfl, hO, rfl, rfl⟩
    have hle : (valsS (l.take i)).length ≤ l.length := by rw [valsS_len, List.length_take]; omega
    refine w_seq ?_
    refine w_region ?_
    refine w_o rfl rfl rfl (op_lt rfl rfl ?_)
    refine w_end ?_
    refine seq_normal ?_
    refine w_seq ?_
    first | refine w_cond rfl (fun hI1 => ?_) (fun hI1 => ?_) | refine w_condB rfl (fun hI1 => ?_) (fun hI1 => ?_)
    · refine w_skip ?_
      refine seq_normal ?_
      refine w_seq ?_
      refine w_block ?_
      refine w_seq ?_
      refine w_region ?_
      refine w_o rfl rfl rfl (op_indexT (enc := encS) (xs := l) und_22 siz_47 rfl rfl hH.app (fun _ => rfl) rfl (by omega) fun b10 o10 z10 h10 e10 => ?_)
      refine w_o rfl rfl rfl (op_loadA agg_47 siz_47 rfl rfl el_ ?_)
      refine w_o rfl rfl rfl (op_alloc zer_47 fun b5 => ?_)
      refine w_on rfl rfl (op_store siz_47 rfl rfl rfl (by (repeat (first | exact Pick.head _ _ _ | apply Pick.tail | apply Pick.app)); first | done | fail) (Nat.le_of_ble_eq_true rfl) rfl ?_)
      refine w_end ?_
      refine seq_normal ?_
      refine w_region ?_
      refine w_o rfl rfl rfl (op_move rfl ?_)
      refine w_o rfl rfl rfl (op_fieldAddr fa_47_0 rfl ?_)
      refine w_o rfl rfl rfl (op_loadF agg_3 rfl el_ rfl ?_)
      refine w_o rfl rfl rfl (op_buildSlice rfl (bsl_64 _ _ _ (rfl : _ = some [_]) rfl (by decide)) fun b15 => ?_)
      refine w_o rfl rfl rfl (op_append1 (xs := valsS (l.take i)) (enc := encI) (z0 := z10.f0) elm_64 inf_3 zer_3 (by decide) und_64 rfl rfl hO (fun _ => rfl) (by (repeat (first | exact PickL.front _ _ | exact PickL.nil _ | apply PickL.skip | apply PickL.skipL)); first | done | fail) rfl (by omega) fun c16 N16 h16 => ?_)
      refine w_o rfl rfl rfl (op_assign rfl ?_)
      refine w_end ?_
      refine block_normal ?_
      refine seq_normal ?_
      refine w_region ?_
      refine w_o rfl rfl rfl (op_addi rfl rfl (by omega) (by omega) ?_)
      refine w_o rfl rfl rfl (op_move rfl ?_)
      refine w_end ?_
      have e1 : valsS (l.take i) ++ [z10.f0] = valsS (l.take (i + 1)) := by unfold valsS; rw [List.take_add_one, h10, List.map_append]; rfl
      rw [e1] at h16
      exact loop_normal (k' := l.length - (i + 1)) (by omega) ⟨i + 1, c16, N16, by omega, rfl, h16, rfl, rfl⟩ env_ sel_
    · refine w_exit ?_
      refine seq_exit ?_
      refine loop_exit ?_
      refine block_hit rfl ?_
      refine seq_normal ?_
      refine w_seq ?_
      refine w_region ?_
      refine w_o rfl rfl rfl (op_move rfl ?_)
      refine w_o rfl rfl rfl (op_assign rfl ?_)
      refine w_end ?_
      refine seq_normal ?_
      refine w_ret ?_
      have hi' : i = l.length := by omega
      subst hi'
      rw [List.take_length] at hO
      exact ret_ret rfl sel_ (k _ _ hO)
theorem With_w {H H1 : Hyp} {K : V → Hyp → Prop} {c : Cell} {l : List Sign} {b : Int} (h : Sl H1 47 2 c l.length (l.flatMap encS)) (hs : ∀ y ∈ H1, y ∈ H) (hl : l.length ≤ 100000) (k : ∀ c' N, Own 47 2 c' ((withS l b).flatMap encS) N → K (.one (.c c')) (N ++ H)) : CallW Try.prog Xs 29 [.one (.c c), vI b] H K := by
  have hH := h.sub hs
  refine call_of (n := 23) (fun _ => rfl) Try.func29 rfl rfl ?_
  refine w_seq ?_
  refine w_region ?_
  refine w_o rfl rfl rfl (op_assign rfl ?_)
  refine w_end ?_
  refine seq_normal ?_
  refine w_seq ?_
  refine w_region ?_
  refine w_o rfl rfl rfl (op_assign rfl ?_)
  refine w_end ?_
  refine seq_normal ?_
  refine w_seq ?_
  refine w_seq ?_
  refine w_region ?_
  refine w_o rfl rfl rfl (op_move rfl ?_)
  refine w_o rfl rfl rfl (op_lenC und_22 rfl h.lenC ?_)
  refine w_o rfl rfl rfl (op_move rfl ?_)
  refine w_end ?_
  refine seq_normal ?_
  refine w_block ?_
  refine w_loop (fun m e H' => ∃ (i : Nat) (c' : Cell) (N : Hyp), i ≤ l.length ∧ m = l.length - i ∧ Own 47 2 c' ((withS (l.take i) b).flatMap encS) N ∧ H' = N ++ H ∧ e = [(1, vI b), (5, .one (.c c')), (8, .one (.c c)), (9, vI (l.length : Nat)), (10, vI (i : Nat))]) ?_ ?_
  · exact ⟨_, _, _, ⟨0, .nils, [], Nat.zero_le _, rfl, .nil, rfl, rfl⟩, env_, sel_⟩
  · rintro m e H' ⟨i, c', N, hi, rfl, hO, rfl, rfl⟩
    have hle : (withS (l.take i) b).length ≤ l.length := by rw [withS_len, List.length_take]; omega
    refine w_seq ?_
    refine w_region ?_
    refine w_o rfl rfl rfl (op_lt rfl rfl ?_)
    refine w_end ?_
    refine seq_normal ?_
    refine w_seq ?_
    first | refine w_cond rfl (fun hI1 => ?_) (fun hI1 => ?_) | refine w_condB rfl (fun hI1 => ?_) (fun hI1 => ?_)
    · refine w_skip ?_
      refine seq_normal ?_
      refine w_seq ?_
      refine w_block ?_
      refine w_seq ?_
      refine w_region ?_
      refine w_o rfl rfl rfl (op_indexT (enc := encS) (xs := l) und_22 siz_47 rfl rfl hH.app (fun _ => rfl) rfl (by omega) fun b12 o12 z12 h12 e12 => ?_)
      refine w_o rfl rfl rfl (op_loadA agg_47 siz_47 rfl rfl el_ ?_)
      refine w_o rfl rfl rfl (op_alloc zer_47 fun b7 => ?_)
      refine w_on rfl rfl (op_store siz_47 rfl rfl rfl (by (repeat (first | exact Pick.head _ _ _ | apply Pick.tail | apply Pick.app)); first | done | fail) (Nat.le_of_ble_eq_true rfl) rfl ?_)
      refine w_end ?_
      refine seq_normal ?_
      refine w_region ?_
      refine w_o rfl rfl rfl (op_move rfl ?_)
      refine w_o rfl rfl rfl (op_fieldAddr fa_47_0 rfl ?_)
      refine w_o rfl rfl rfl (op_loadF agg_3 rfl el_ rfl ?_)
      refine w_o rfl rfl rfl (op_move rfl ?_)
      refine w_o rfl rfl rfl (op_build rfl ((bld_47 _).trans (rfl : _ = some [_, _])) ?_)
      refine w_o rfl rfl rfl (op_buildSlice rfl (bsl_22 _ _ _ (rfl : _ = some [_, _]) rfl (by decide)) fun b19 => ?_)
      refine w_o rfl rfl rfl (op_append1 (xs := withS (l.take i) b) (enc := encS) (z0 := (⟨z12.f0, b⟩ : Sign)) elm_22 inf_47 zer_47 (by decide) und_22 rfl rfl hO (fun _ => rfl) (by (repeat (first | exact PickL.front _ _ | exact PickL.nil _ | apply PickL.skip | apply PickL.skipL)); first | done | fail) rfl (by omega) fun c20 N20 h20 => ?_)
      refine w_o rfl rfl rfl (op_assign rfl ?_)
      refine w_end ?_
      refine block_normal ?_
      refine seq_normal ?_
      refine w_region ?_
      refine w_o rfl rfl rfl (op_addi rfl rfl (by omega) (by omega) ?_)
      refine w_o rfl rfl rfl (op_move rfl ?_)
      refine w_end ?_
      have e1 : withS (l.take i) b ++ [(⟨z12.f0, b⟩ : Sign)] = withS (l.take (i + 1)) b := by unfold withS; rw [List.take_add_one, h12, List.map_append]; rfl
      rw [e1] at h20
      exact loop_normal (k' := l.length - (i + 1)) (by omega) ⟨i + 1, c20, N20, by omega, rfl, h20, rfl, rfl⟩ env_ sel_
    · refine w_exit ?_
      refine seq_exit ?_
      refine loop_exit ?_
      refine block_hit rfl ?_
      refine seq_normal ?_
      refine w_seq ?_
      refine w_region ?_
      refine w_o rfl rfl rfl (op_move rfl ?_)
      refine w_o rfl rfl rfl (op_assign rfl ?_)
      refine w_end ?_
      refine seq_normal ?_
      refine w_ret ?_
      have hi' : i = l.length := by omega
      subst hi'
      rw [List.take_length] at hO
      exact ret_ret rfl sel_ (k _ _ hO)
theorem R04With_w {H H1 : Hyp} {K : V → Hyp → Prop} {c : Cell} {l : List Sign} {b : Int} (h : Sl H1 47 2 c l.length (l.flatMap encS)) (hs : ∀ y ∈ H1, y ∈ H) (hl : l.length ≤ 100000) (k : ∀ c' N, Own 47 2 c' ((withS l b).flatMap encS) N → K (.one (.c c')) (N ++ H)) : CallW Try.prog Xs 32 [.one (.c c), vI b] H K := by
  have hH := h.sub hs
  refine call_of (n := 24) (fun _ => rfl) Try.func32 rfl rfl ?_
  refine w_seq ?_
  refine w_region ?_
  refine w_o rfl rfl rfl (op_assign rfl ?_)
  refine w_end ?_
  refine seq_normal ?_
  refine w_seq ?_
  refine w_region ?_
  refine w_o rfl rfl rfl (op_assign rfl ?_)
  refine w_end ?_
  refine seq_normal ?_
  refine w_seq ?_
  refine w_seq ?_
  refine w_region ?_
  refine w_o rfl rfl rfl (op_assign rfl ?_)
  refine w_end ?_
  refine seq_normal ?_
  refine w_block ?_
  refine w_loop (fun m e H' => ∃ (i : Nat) (c' : Cell) (N : Hyp), i ≤ l.length ∧ m = l.length - i ∧ Own 47 2 c' ((withS (l.take i) b).flatMap encS) N ∧ H' = N ++ H ∧ e = [(0, .one (.c c)), (1, vI b), (5, .one (.c c')), (6, vI (i : Nat))]) ?_ ?_
  · exact ⟨_, _, _, ⟨0, .nils, [], Nat.zero_le _, rfl, .nil, rfl, rfl⟩, env_, sel_⟩
  · rintro m e H' ⟨i, c', N, hi, rfl, hO, rfl, rfl⟩
    have hle : (withS (l.take i) b).length ≤ l.length := by rw [withS_len, List.length_take]; omega
    refine w_seq ?_
    refine w_seq ?_
    refine w_region ?_
    refine w_o rfl rfl rfl (op_move rfl ?_)
    refine w_o rfl rfl rfl (op_move rfl ?_)
    refine w_o rfl rfl rfl (op_lenC und_22 rfl h.lenC ?_)
    refine w_o rfl rfl rfl (op_lt rfl rfl ?_)
    refine w_end ?_
    refine seq_normal ?_
    first | refine w_cond rfl (fun hI1 => ?_) (fun hI1 => ?_) | refine w_condB rfl (fun hI1 => ?_) (fun hI1 => ?_)
    · refine w_skip ?_
      refine seq_normal ?_
      refine w_seq ?_
      refine w_block ?_
      refine w_region ?_
      refine w_o rfl rfl rfl (op_move rfl ?_)
      refine w_o rfl rfl rfl (op_move rfl ?_)
      refine w_o rfl rfl rfl (op_move rfl ?_)
      refine w_o rfl rfl rfl (op_indexT (enc := encS) (xs := l) und_22 siz_47 rfl rfl hH.app (fun _ => rfl) rfl (by omega) fun b16 o16 z16 h16 e16 => ?_)
      refine w_o rfl rfl rfl (op_fieldAddr fa_47_0 rfl ?_)
      refine w_o rfl rfl rfl (op_loadF agg_3 rfl el_ rfl ?_)
      refine w_o rfl rfl rfl (op_move rfl ?_)
      refine w_o rfl rfl rfl (op_build rfl ((bld_47 _).trans (rfl : _ = some [_, _])) ?_)
      refine w_o rfl rfl rfl (op_buildSlice rfl (bsl_22 _ _ _ (rfl : _ = some [_, _]) rfl (by decide)) fun b21 => ?_)
      refine w_o rfl rfl rfl (op_append1 (xs := withS (l.take i) b) (enc := encS) (z0 := (⟨z16.f0, b⟩ : Sign)) elm_22 inf_47 zer_47 (by decide) und_22 rfl rfl hO (fun _ => rfl) (by (repeat (first | exact PickL.front _ _ | exact PickL.nil _ | apply PickL.skip | apply PickL.skipL)); first | done | fail) rfl (by omega) fun c22 N22 h22 => ?_)
      refine w_o rfl rfl rfl (op_assign rfl ?_)
      refine w_end ?_
      refine block_normal ?_
      refine seq_normal ?_
      refine w_region ?_
      refine w_o rfl rfl rfl (op_move rfl ?_)
      refine w_o rfl rfl rfl (op_addi rfl rfl (by omega) (by omega) ?_)
      refine w_o rfl rfl rfl (op_assign rfl ?_)
      refine w_end ?_
      have e1 : withS (l.take i) b ++ [(⟨z16.f0, b⟩ : Sign)] = withS (l.take (i + 1)) b := by unfold withS; rw [List.take_add_one, h16, List.map_append]; rfl
      rw [e1] at h22
      exact loop_normal (k' := l.length - (i + 1)) (by omega) ⟨i + 1, c22, N22, by omega, rfl, h22, rfl, rfl⟩ env_ sel_
    · refine w_exit ?_
      refine seq_exit ?_
      refine loop_exit ?_
      refine block_hit rfl ?_
      refine seq_normal ?_
      refine w_seq ?_
      refine w_region ?_
      refine w_o rfl rfl rfl (op_move rfl ?_)
      refine w_o rfl rfl rfl (op_assign rfl ?_)
      refine w_end ?_
      refine seq_normal ?_
      refine w_ret ?_
      have hi' : i = l.length := by omega
      subst hi'
      rw [List.take_length] at hO
      exact ret_ret rfl sel_ (k _ _ hO)
theorem EqualI_w {H H1 H2 : Hyp} {K : V → Hyp → Prop} {c c' : Cell} {l l' : List Int} (h : Sl H1 3 1 c l.length (l.flatMap encI)) (hs : ∀ y ∈ H1, y ∈ H) (h' : Sl H2 3 1 c' l'.length (l'.flatMap encI)) (hs' : ∀ y ∈ H2, y ∈ H) (hl : l.length ≤ 1000000) (k : K (vB (decide (l = l'))) H) : CallW Try.prog Xs 45 [.one (.c c), .one (.c c')] H K := by
  have hH := h.sub hs
  have hH' := h'.sub hs'
  refine call_of (n := 26) (fun _ => rfl) Try.func45 rfl rfl ?_
  refine w_seq ?_
  refine w_region ?_
  refine w_o rfl rfl rfl (op_assign rfl ?_)
  refine w_end ?_
  refine seq_normal ?_
  refine w_seq ?_
  refine w_seq ?_
  refine w_region ?_
  refine w_o rfl rfl rfl (op_move rfl ?_)
  refine w_o rfl rfl rfl (op_lenC und_64 rfl h.lenC ?_)
  refine w_o rfl rfl rfl (op_move rfl ?_)
  refine w_o rfl rfl rfl (op_lenC und_64 rfl h'.lenC ?_)
  refine w_o rfl rfl rfl (op_ne rfl rfl ?_)
  refine w_end ?_
  refine seq_normal ?_
  first | refine w_cond rfl (fun hI1 => ?_) (fun hI1 => ?_) | refine w_condB rfl (fun hI1 => ?_) (fun hI1 => ?_)
  · have hne : ¬ (l = l') := fun q => hI1 (by rw [q])
    refine w_seq ?_
    refine w_region ?_
    refine w_o rfl rfl rfl (op_assign rfl ?_)
    refine w_end ?_
    refine seq_normal ?_
    refine w_ret ?_
    refine seq_ret ?_
    exact ret_bool rfl sel_ (decide_eq_false hne).symm k
  · have heq : l.length = l'.length := by omega
    refine w_skip ?_
    refine seq_normal ?_
    refine w_seq ?_
    refine w_seq ?_
    refine w_region ?_
    refine w_o rfl rfl rfl (op_move rfl ?_)
    refine w_o rfl rfl rfl (op_lenC und_64 rfl h.lenC ?_)
    refine w_o rfl rfl rfl (op_move rfl ?_)
    refine w_end ?_
    refine seq_normal ?_
    refine w_block ?_
    refine w_loop (fun m e H' => ∃ (i : Nat), i ≤ l.length ∧ m = l.length - i ∧ (∀ (j : Nat), j < i → l[j]? = l'[j]?) ∧ H = H' ∧ e = [(0, .one (.c c)), (1, .one (.c c')), (12, vI (l.length : Nat)), (13, vI (i : Nat))]) ?_ ?_
    · exact ⟨_, _, _, ⟨0, Nat.zero_le _, rfl, fun j hj => absurd hj (Nat.not_lt_zero _), rfl, rfl⟩, env_, sel_⟩
    · rintro m e H' ⟨i, hi, rfl, hp, rfl, rfl⟩
      refine w_seq ?_
      refine w_region ?_
      refine w_o rfl rfl rfl (op_lt rfl rfl ?_)
      refine w_end ?_
      refine seq_normal ?_
      refine w_seq ?_
      first | refine w_cond rfl (fun hI2 => ?_) (fun hI2 => ?_) | refine w_condB rfl (fun hI2 => ?_) (fun hI2 => ?_)
      · refine w_skip ?_
        refine seq_normal ?_
        refine w_seq ?_
        refine w_block ?_
        refine w_seq ?_
        refine w_region ?_
        refine w_o rfl rfl rfl (op_move rfl ?_)
        refine w_o rfl rfl rfl (op_assign rfl ?_)
        refine w_end ?_
        refine seq_normal ?_
        refine w_seq ?_
        refine w_draw (by decide +kernel) (by decide +kernel) ?_
        refine w_d rfl rfl rfl (op_move rfl ?_)
        refine w_d rfl rfl rfl (op_move rfl ?_)
        refine w_d rfl rfl rfl (op_indexT (enc := encI) (xs := l) und_64 siz_3 rfl rfl hH (fun _ => rfl) rfl (by omega) fun b18 o18 z18 h18 e18 => ?_)
        refine w_d rfl rfl rfl (op_load1 agg_3 rfl el_ ?_)
        refine w_d rfl rfl rfl (op_move rfl ?_)
        refine w_d rfl rfl rfl (op_move rfl ?_)
        refine w_d rfl rfl rfl (op_indexT (enc := encI) (xs := l') und_64 siz_3 rfl rfl hH' (fun _ => rfl) rfl (by omega) fun b22 o22 z22 h22 e22 => ?_)
        refine w_d rfl rfl rfl (op_load1 agg_3 rfl el_ ?_)
        refine w_d rfl rfl rfl (op_ne rfl rfl ?_)
        refine w_end ?_
        refine seq_normal ?_
        first | refine w_cond rfl (fun hI3 => ?_) (fun hI3 => ?_) | refine w_condB rfl (fun hI3 => ?_) (fun hI3 => ?_)
        · refine w_seq ?_
          refine w_region ?_
          refine w_o rfl rfl rfl (op_assign rfl ?_)
          refine w_end ?_
          refine seq_normal ?_
          refine w_ret ?_
          refine block_ret ?_
          refine seq_ret ?_
          refine loop_ret ?_
          refine block_ret ?_
          refine seq_ret ?_
          have hne : ¬ (l = l') := by
            intro q
            subst q
            rw [h18] at h22; cases h22
            exact hI3 rfl
          exact ret_bool rfl sel_ (decide_eq_false hne).symm k
        · refine w_skip ?_
          refine block_normal ?_
          refine seq_normal ?_
          refine w_region ?_
          refine w_o rfl rfl rfl (op_addi rfl rfl (by omega) (by omega) ?_)
          refine w_o rfl rfl rfl (op_move rfl ?_)
          refine w_end ?_
          refine loop_normal (k' := l.length - (i + 1)) (by omega) ⟨i + 1, by omega, rfl, ?_, rfl, rfl⟩ env_ sel_
          intro j hj
          by_cases e : j = i
          · subst e
            have : z18 = z22 := by omega
            rw [h18, h22, this]
          · exact hp j (by omega)
      · refine w_exit ?_
        refine seq_exit ?_
        refine loop_exit ?_
        refine block_hit rfl ?_
        refine seq_normal ?_
        refine w_seq ?_
        refine w_region ?_
        refine w_o rfl rfl rfl (op_assign rfl ?_)
        refine w_end ?_
        refine seq_normal ?_
        refine w_ret ?_
        have he : l = l' := by
          apply List.ext_getElem?
          intro j
          by_cases e : j < i
          · exact hp j e
          · rw [List.getElem?_eq_none (by omega), List.getElem?_eq_none (by omega)]
        exact ret_bool rfl sel_ (decide_eq_true he).symm k
def beginsI (l w : List Int) : Bool := decide (w.length ≤ l.length ∧ l.take w.length = w)
theorem begins_w {H H1 H2 : Hyp} {K : V → Hyp → Prop} {c c' : Cell} {l w : List Int} (h : Sl H1 3 1 c l.length (l.flatMap encI)) (hs : ∀ y ∈ H1, y ∈ H) (h' : Sl H2 3 1 c' w.length (w.flatMap encI)) (hs' : ∀ y ∈ H2, y ∈ H) (hl : l.length ≤ 1000000) (k : K (vB (beginsI l w)) H) : CallW Try.prog Xs 46 [.one (.c c), .one (.c c')] H K := by
  have hH := h.sub hs
  have hH' := h'.sub hs'
  refine call_of (n := 18) (fun _ => rfl) Try.func46 rfl rfl ?_
  refine w_seq ?_
  refine w_region ?_
  refine w_o rfl rfl rfl (op_assign rfl ?_)
  refine w_end ?_
  refine seq_normal ?_
  refine w_seq ?_
  refine w_region ?_
  refine w_o rfl rfl rfl (op_move rfl ?_)
  refine w_o rfl rfl rfl (op_lenC und_64 rfl h.lenC ?_)
  refine w_o rfl rfl rfl (op_move rfl ?_)
  refine w_o rfl rfl rfl (op_lenC und_64 rfl h'.lenC ?_)
  refine w_o rfl rfl rfl (op_ge rfl rfl ?_)
  refine w_o rfl rfl rfl (op_move rfl ?_)
  first | refine w_known (t := 10) rfl (fun g10 => ?_) (fun g10 => ?_) | refine w_knownB (t := 10) rfl (fun g10 => ?_) (fun g10 => ?_)
  · refine w_og rfl rfl rfl rfl rfl (op_move rfl ?_)
    refine w_og rfl rfl rfl rfl rfl (op_move rfl ?_)
    refine w_og rfl rfl rfl rfl rfl (op_lenC und_64 rfl h'.lenC ?_)
    refine w_og rfl rfl rfl rfl rfl (op_sliceU (enc := encI) (xs := l) elm_64 siz_3 (by decide) rfl hH subs_ (fun _ => rfl) rfl rfl (by omega) (by omega) (by omega) fun c14 h14 => ?_)
    have e14 : (l.drop ((0 : Nat) : Int).toNat).take (((w.length : Nat) : Int).toNat - ((0 : Nat) : Int).toNat) = l.take w.length := rfl
    rw [e14] at h14
    refine w_og rfl rfl rfl rfl rfl (op_move rfl ?_)
    refine w_og rfl rfl rfl rfl rfl (op_call rfl rfl rfl ?_)
    have hv : decide (l.take w.length = w) = beginsI l w := decide_eq_decide.2 ⟨fun q => ⟨by omega, q⟩, fun q => q.2⟩
    refine EqualI_w h14 subs_ hH' subs_ (by rw [List.length_take]; omega) ?_
    refine w_o rfl rfl rfl (op_pick rfl rfl rfl ?_)
    refine w_o rfl rfl rfl (op_assign rfl ?_)
    refine w_end ?_
    refine seq_normal ?_
    refine w_ret ?_
    exact ret_bool rfl sel_ hv k
  · have hv : false = beginsI l w := (decide_eq_false (fun q => by have := q.1; omega)).symm
    refine w_u rfl rfl rfl rfl rfl rfl ?_
    refine w_u rfl rfl rfl rfl rfl rfl ?_
    refine w_u rfl rfl rfl rfl rfl rfl ?_
    refine w_u rfl rfl rfl rfl rfl rfl ?_
    refine w_u rfl rfl rfl rfl rfl rfl ?_
    refine w_u rfl rfl rfl rfl rfl rfl ?_
    refine w_o rfl rfl rfl (op_pick rfl rfl rfl ?_)
    refine w_o rfl rfl rfl (op_assign rfl ?_)
    refine w_end ?_
    refine seq_normal ?_
    refine w_ret ?_
    exact ret_bool rfl sel_ hv k
/-- With how many signs both lists begin. -/
def comN : List Sign → List Sign → Nat
  | x :: xs, y :: ys => if x = y then comN xs ys + 1 else 0
  | _, _ => 0
theorem comN_at : ∀ {l l' : List Sign} {n : Nat}, n ≤ l.length → n ≤ l'.length → (∀ j, j < n → l[j]? = l'[j]?) → (n = l.length ∨ n = l'.length ∨ ¬ l[n]? = l'[n]?) → comN l l' = n
  | [], l', n, h1, _, _, _ => by simp at h1; subst h1; simp [comN]
  | x :: xs, [], n, _, h2, _, _ => by simp at h2; subst h2; simp [comN]
  | x :: xs, y :: ys, 0, _, _, _, hn => by
    rcases hn with h | h | h
    · simp at h
    · simp at h
    · unfold comN
      rw [if_neg (fun e => h (by rw [e]; rfl))]
  | x :: xs, y :: ys, n + 1, h1, h2, hp, hn => by
    have h0 := hp 0 (by omega)
    simp at h0
    unfold comN
    rw [if_pos h0]
    rw [comN_at (by simpa using h1) (by simpa using h2) (fun j hj => by simpa using hp (j + 1) (by omega)) (by
      rcases hn with h | h | h
      · left; simpa using h
      · right; left; simpa using h
      · right; right; simpa using h)]
theorem comN_le : ∀ (l l' : List Sign), comN l l' ≤ l.length ∧ comN l l' ≤ l'.length ∧ ∀ j, j < comN l l' → l[j]? = l'[j]?
  | [], l' => ⟨by simp [comN], by simp [comN], fun j h => by simp [comN] at h⟩
  | x :: xs, [] => ⟨by simp [comN], by simp [comN], fun j h => by simp [comN] at h⟩
  | x :: xs, y :: ys => by
    unfold comN
    split
    · rename_i e
      obtain ⟨a, b, c⟩ := comN_le xs ys
      refine ⟨by simpa using a, by simpa using b, fun j hj => ?_⟩
      cases j with
      | zero => simp [e]
      | succ j => simpa using c j (by omega)
    · exact ⟨by simp, by simp, fun j h => by omega⟩
theorem common_w {H H1 H2 : Hyp} {K : V → Hyp → Prop} {c c' : Cell} {l l' : List Sign} (h : Sl H1 47 2 c l.length (l.flatMap encS)) (hs : ∀ y ∈ H1, y ∈ H) (h' : Sl H2 47 2 c' l'.length (l'.flatMap encS)) (hs' : ∀ y ∈ H2, y ∈ H) (hl : l.length ≤ 1000000) (hl' : l'.length ≤ 1000000)
    (k : ∀ d, Sl H1 47 2 d (l.take (comN l l')).length ((l.take (comN l l')).flatMap encS) → K (.one (.c d)) H) : CallW Try.prog Xs 34 [.one (.c c), .one (.c c')] H K := by
  have hH := h.sub hs
  have hH' := h'.sub hs'
  refine call_of (n := 29) (fun _ => rfl) Try.func34 rfl rfl ?_
  refine w_seq ?_
  refine w_region ?_
  refine w_o rfl rfl rfl (op_assign rfl ?_)
  refine w_end ?_
  refine seq_normal ?_
  refine w_seq ?_
  refine w_region ?_
  refine w_o rfl rfl rfl (op_assign rfl ?_)
  refine w_end ?_
  refine seq_normal ?_
  refine w_seq ?_
  refine w_block ?_
  refine w_loop (fun m e H' => ∃ (i : Nat), i ≤ l.length ∧ i ≤ l'.length ∧ m = l.length - i ∧ (∀ (j : Nat), j < i → l[j]? = l'[j]?) ∧ H = H' ∧ e = [(0, .one (.c c)), (1, .one (.c c')), (5, vI (i : Nat))]) ?_ ?_
  · exact ⟨_, _, _, ⟨0, Nat.zero_le _, Nat.zero_le _, rfl, fun j hj => absurd hj (Nat.not_lt_zero _), rfl, rfl⟩, env_, sel_⟩
  · rintro m e H' ⟨i, hi, hi2, rfl, hp, rfl, rfl⟩
    refine w_seq ?_
    refine w_seq ?_
    refine w_draw (by decide +kernel) (by decide +kernel) ?_
    refine w_d rfl rfl rfl (op_move rfl ?_)
    refine w_d rfl rfl rfl (op_move rfl ?_)
    refine w_d rfl rfl rfl (op_lenC und_22 rfl h.lenC ?_)
    refine w_d rfl rfl rfl (op_move rfl ?_)
    refine w_d rfl rfl rfl (op_lenC und_22 rfl h'.lenC ?_)
    refine w_d rfl rfl rfl (op_min rfl rfl ?_)
    refine w_d rfl rfl rfl (op_lt rfl rfl ?_)
    refine w_d rfl rfl rfl (op_move rfl ?_)
    first | refine w_known (t := 13) rfl (fun g13 => ?_) (fun g13 => ?_) | refine w_knownB (t := 13) rfl (fun g13 => ?_) (fun g13 => ?_)
    · refine w_dg rfl rfl rfl rfl rfl (op_move rfl ?_)
      refine w_dg rfl rfl rfl rfl rfl (op_move rfl ?_)
      refine w_dg rfl rfl rfl rfl rfl (op_indexT (enc := encS) (xs := l) und_22 siz_47 rfl rfl hH (fun _ => rfl) rfl (by omega) fun b16 o16 z16 h16 e16 => ?_)
      refine w_dg rfl rfl rfl rfl rfl (op_loadA agg_47 siz_47 rfl rfl el_ ?_)
      refine w_dg rfl rfl rfl rfl rfl (op_move rfl ?_)
      refine w_dg rfl rfl rfl rfl rfl (op_move rfl ?_)
      refine w_dg rfl rfl rfl rfl rfl (op_indexT (enc := encS) (xs := l') und_22 siz_47 rfl rfl hH' (fun _ => rfl) rfl (by omega) fun b20 o20 z20 h20 e20 => ?_)
      refine w_dg rfl rfl rfl rfl rfl (op_loadA agg_47 siz_47 rfl rfl el_ ?_)
      refine w_dg rfl rfl rfl rfl rfl (op_eqs_47 rfl rfl ?_)
      refine w_d rfl rfl rfl (op_pick rfl rfl rfl ?_)
      refine w_end ?_
      refine seq_normal ?_
      first | refine w_cond rfl (fun hI1 => ?_) (fun hI1 => ?_) | refine w_condB rfl (fun hI1 => ?_) (fun hI1 => ?_)
      · refine w_skip ?_
        refine seq_normal ?_
        refine w_block ?_
        refine w_region ?_
        refine w_o rfl rfl rfl (op_move rfl ?_)
        refine w_o rfl rfl rfl (op_addi rfl rfl (by omega) (by omega) ?_)
        refine w_o rfl rfl rfl (op_assign rfl ?_)
        refine w_end ?_
        refine block_normal ?_
        refine loop_normal (k' := l.length - (i + 1)) (by omega) ⟨i + 1, by omega, by omega, rfl, ?_, rfl, rfl⟩ env_ sel_
        intro j hj
        by_cases e : j = i
        · subst e
          have : z16 = z20 := by
            simp only [Bool.and_eq_true, beq_iff_eq] at hI1
            cases z16; cases z20; simp at hI1; simp [hI1.1, hI1.2]
          rw [h16, h20, this]
        · exact hp j (by omega)
      · have hn : comN l l' = i := comN_at hi hi2 hp (.inr (.inr (by
          rw [h16, h20]
          intro q
          cases q
          simp at hI1)))
        refine w_exit ?_
        refine seq_exit ?_
        refine loop_exit ?_
        refine block_hit rfl ?_
        refine seq_normal ?_
        refine w_seq ?_
        refine w_region ?_
        refine w_o rfl rfl rfl (op_move rfl ?_)
        refine w_o rfl rfl rfl (op_move rfl ?_)
        refine w_o rfl rfl rfl (op_sliceU (enc := encS) (xs := l) elm_22 siz_47 (by decide) rfl h hs (fun _ => rfl) rfl rfl (by omega) (by omega) (by omega) fun c28 h28 => ?_)
        have e28 : (l.drop ((0 : Nat) : Int).toNat).take (((i : Nat) : Int).toNat - ((0 : Nat) : Int).toNat) = l.take (comN l l') := by rw [hn]; rfl
        rw [e28] at h28
        refine w_o rfl rfl rfl (op_assign rfl ?_)
        refine w_end ?_
        refine seq_normal ?_
        refine w_ret ?_
        exact ret_ret rfl sel_ (k _ h28)
    · have hn : comN l l' = i := comN_at hi hi2 hp (by omega)
      refine w_u rfl rfl rfl rfl rfl rfl ?_
      refine w_u rfl rfl rfl rfl rfl rfl ?_
      refine w_u rfl rfl rfl rfl rfl rfl ?_
      refine w_u rfl rfl rfl rfl rfl rfl ?_
      refine w_u rfl rfl rfl rfl rfl rfl ?_
      refine w_u rfl rfl rfl rfl rfl rfl ?_
      refine w_u rfl rfl rfl rfl rfl rfl ?_
      refine w_u rfl rfl rfl rfl rfl rfl ?_
      refine w_u rfl rfl rfl rfl rfl rfl ?_
      refine w_d rfl rfl rfl (op_pick rfl rfl rfl ?_)
      refine w_end ?_
      refine seq_normal ?_
      refine w_condF rfl ?_
      refine w_exit ?_
      refine seq_exit ?_
      refine loop_exit ?_
      refine block_hit rfl ?_
      refine seq_normal ?_
      refine w_seq ?_
      refine w_region ?_
      refine w_o rfl rfl rfl (op_move rfl ?_)
      refine w_o rfl rfl rfl (op_move rfl ?_)
      refine w_o rfl rfl rfl (op_sliceU (enc := encS) (xs := l) elm_22 siz_47 (by decide) rfl h hs (fun _ => rfl) rfl rfl (by omega) (by omega) (by omega) fun c28 h28 => ?_)
      have e28 : (l.drop ((0 : Nat) : Int).toNat).take (((i : Nat) : Int).toNat - ((0 : Nat) : Int).toNat) = l.take (comN l l') := by rw [hn]; rfl
      rw [e28] at h28
      refine w_o rfl rfl rfl (op_assign rfl ?_)
      refine w_end ?_
      refine seq_normal ?_
      refine w_ret ?_
      exact ret_ret rfl sel_ (k _ h28)
/-! ### Lines that grow -/
theorem places_w {H H1 : Hyp} {K : V → Hyp → Prop} {c : Cell} {l : List Sign} {a p q : Int} (h : Sl H1 47 2 c l.length (l.flatMap encS)) (hs : ∀ y ∈ H1, y ∈ H)
    (k : K (.tup [.c (.int .i64 (min (min (max p 0) (l.length : Nat)) (min (max q 0) (l.length : Nat)))), .c (.int .i64 (max (min (max p 0) (l.length : Nat)) (min (max q 0) (l.length : Nat))))]) H) : CallW Try.prog Xs 51 [lineV c a, vI p, vI q] H K := by
  refine call_of (n := 26) (fun _ => rfl) Try.func51 rfl rfl ?_
  refine w_seq ?_
  refine w_region ?_
  refine w_o rfl rfl rfl (op_box rfl fun b3 => ?_)
  refine w_o rfl rfl rfl (op_assign rfl ?_)
  refine w_o rfl rfl rfl (op_assign rfl ?_)
  refine w_end ?_
  refine seq_normal ?_
  refine w_seq ?_
  refine w_draw (by decide +kernel) (by decide +kernel) ?_
  refine w_d rfl rfl rfl (op_move rfl ?_)
  refine w_d rfl rfl rfl (op_max rfl rfl ?_)
  refine w_d rfl rfl rfl (op_fieldAddr fa_24_0 rfl ?_)
  refine w_d rfl rfl rfl (op_loadF agg_22 rfl el_ rfl ?_)
  refine w_d rfl rfl rfl (op_lenC und_22 rfl h.lenC ?_)
  refine w_d rfl rfl rfl (op_min rfl rfl ?_)
  refine w_d rfl rfl rfl (op_move rfl ?_)
  refine w_d rfl rfl rfl (op_max rfl rfl ?_)
  refine w_d rfl rfl rfl (op_fieldAddr fa_24_0 rfl ?_)
  refine w_d rfl rfl rfl (op_loadF agg_22 rfl el_ rfl ?_)
  refine w_d rfl rfl rfl (op_lenC und_22 rfl h.lenC ?_)
  refine w_d rfl rfl rfl (op_min rfl rfl ?_)
  refine w_d rfl rfl rfl (op_assign rfl ?_)
  refine w_d rfl rfl rfl (op_assign rfl ?_)
  refine w_end ?_
  refine seq_normal ?_
  refine w_seq ?_
  refine w_region ?_
  refine w_o rfl rfl rfl (op_move rfl ?_)
  refine w_o rfl rfl rfl (op_move rfl ?_)
  refine w_o rfl rfl rfl (op_min rfl rfl ?_)
  refine w_o rfl rfl rfl (op_move rfl ?_)
  refine w_o rfl rfl rfl (op_move rfl ?_)
  refine w_o rfl rfl rfl (op_max rfl rfl ?_)
  refine w_o rfl rfl rfl (op_assign rfl ?_)
  refine w_o rfl rfl rfl (op_assign rfl ?_)
  refine w_end ?_
  refine seq_normal ?_
  refine w_ret ?_
  exact ret_ret rfl sel_ k
def insV (l : List Sign) (a : Int) (w : List Sign) : List Sign := seg l ((0 : Nat) : Int) a ++ w ++ seg l a ((l.length : Nat) : Int)
theorem Insert_w {H H1 H2 : Hyp} {K : V → Hyp → Prop} {c cw : Cell} {l w : List Sign} {a : Int} (h : Sl H1 47 2 c l.length (l.flatMap encS)) (hs : ∀ y ∈ H1, y ∈ H) (hw : Sl H2 47 2 cw w.length (w.flatMap encS)) (hs2 : ∀ y ∈ H2, y ∈ H) (hl : l.length ≤ 1000) (hwl : w.length ≤ 100000) (ha : 0 ≤ a ∧ a ≤ l.length)
    (k : ∀ c' N, Own 47 2 c' ((insV l a w).flatMap encS) N → K (lineV c' (a + (w.length : Nat))) (N ++ H)) : CallW Try.prog Xs 35 [lineV c a, .one (.c cw)] H K := by
  have hH := h.sub hs
  have hW := hw.sub hs2
  have hpl : min (min (max a 0) ((l.length : Nat) : Int)) (min (max ((l.length : Nat) : Int) 0) ((l.length : Nat) : Int)) = a := by omega
  have m1 := seg_len l ((0 : Nat) : Int) a
  have m2 := seg_len l a ((l.length : Nat) : Int)
  refine call_of (n := 33) (fun _ => rfl) Try.func35 rfl rfl ?_
  refine w_seq ?_
  refine w_region ?_
  refine w_o rfl rfl rfl (op_box rfl fun b2 => ?_)
  refine w_o rfl rfl rfl (op_alloc zer_24 fun b4 => ?_)
  refine w_end ?_
  refine seq_normal ?_
  refine w_seq ?_
  refine w_region ?_
  refine w_o rfl rfl rfl (op_loadA agg_24 siz_24 rfl rfl el_ ?_)
  refine w_o rfl rfl rfl (op_fieldAddr fa_24_1 rfl ?_)
  refine w_o rfl rfl rfl (op_loadF agg_3 rfl el_ rfl ?_)
  refine w_o rfl rfl rfl (op_fieldAddr fa_24_0 rfl ?_)
  refine w_o rfl rfl rfl (op_loadF agg_22 rfl el_ rfl ?_)
  refine w_o rfl rfl rfl (op_lenC und_22 rfl h.lenC ?_)
  refine w_o rfl rfl rfl (op_call rfl rfl rfl ?_)
  refine places_w hH subs_ ?_
  rw [hpl]
  refine w_o rfl rfl rfl (op_move rfl ?_)
  refine w_o rfl rfl rfl (op_extract rfl rfl ?_)
  refine w_o rfl rfl rfl (op_extract rfl rfl ?_)
  refine w_o rfl rfl rfl (op_assign rfl ?_)
  refine w_o rfl rfl rfl (op_assign rfl ?_)
  refine w_end ?_
  refine seq_normal ?_
  refine w_seq ?_
  refine w_draw (by decide +kernel) (by decide +kernel) ?_
  refine w_d rfl rfl rfl (op_fieldAddr fa_24_0 rfl ?_)
  refine w_d rfl rfl rfl (op_loadF agg_22 rfl el_ rfl ?_)
  refine w_d rfl rfl rfl (op_move rfl ?_)
  refine w_d rfl rfl rfl (op_sliceU (enc := encS) (xs := l) elm_22 siz_47 (by decide) rfl hH subs_ (fun _ => rfl) rfl rfl (by omega) (by omega) (by omega) fun c20 h20 => ?_)
  refine w_d rfl rfl rfl (op_move rfl ?_)
  refine w_d rfl rfl rfl (op_fieldAddr fa_24_0 rfl ?_)
  refine w_d rfl rfl rfl (op_loadF agg_22 rfl el_ rfl ?_)
  refine w_d rfl rfl rfl (op_move rfl ?_)
  refine w_d rfl rfl rfl (op_sliceU (enc := encS) (xs := l) elm_22 siz_47 (by decide) rfl hH subs_ (fun _ => rfl) rfl rfl (by omega) (by omega) (by omega) fun c25 h25 => ?_)
  refine w_d rfl rfl rfl (op_buildSlice rfl (bsl_25 _ _ _ (rfl : _ = some [_, _, _]) rfl (by decide)) fun b26 => ?_)
  refine w_d rfl rfl rfl (op_call rfl rfl rfl ?_)
  refine ConcatS_w (cs := [c20, cw, c25]) (ll := [seg l ((0 : Nat) : Int) a, w, seg l a ((l.length : Nat) : Int)]) (Sl.of_row (own := true) mem_ rfl) (fun i c' l' x y => ?_) rfl (by simp) ?_ fun c27 N27 h27 => ?_
  · match i with
    | 0 => simp at x y; subst x; subst y; exact h20.cons.cons.cons
    | 1 => simp at x y; subst x; subst y; exact hW.cons.cons.cons
    | 2 => simp at x y; subst x; subst y; exact h25.cons.cons.cons
    | i + 3 => simp at x
  · simp only [List.flatten_cons, List.flatten_nil, List.length_append, List.length_nil]
    omega
  have e27 : [seg l ((0 : Nat) : Int) a, w, seg l a ((l.length : Nat) : Int)].flatten = insV l a w := by
    simp only [List.flatten_cons, List.flatten_nil, List.append_nil, insV, List.append_assoc]
  rw [e27] at h27
  refine w_d rfl rfl rfl (op_move rfl ?_)
  refine w_d rfl rfl rfl (op_move rfl ?_)
  refine w_d rfl rfl rfl (op_lenC und_22 rfl hw.lenC ?_)
  refine w_d rfl rfl rfl (op_addi rfl rfl (by omega) (by omega) ?_)
  refine w_d rfl rfl rfl (op_build rfl ((bld_24 _).trans (rfl : _ = some [_, _])) ?_)
  refine w_dn rfl rfl (op_store siz_24 rfl rfl rfl (by (repeat (first | exact Pick.head _ _ _ | apply Pick.tail | apply Pick.app)); first | done | fail) (Nat.le_of_ble_eq_true rfl) rfl ?_)
  refine w_end ?_
  refine seq_normal ?_
  refine w_ret ?_
  exact ret_cellA rfl agg_24 siz_24 (El.row mem_) rfl sel_ (k _ _ h27)
theorem R16Insert_w {H H1 H2 : Hyp} {K : V → Hyp → Prop} {c cw : Cell} {l w : List Sign} {a : Int} (h : Sl H1 47 2 c l.length (l.flatMap encS)) (hs : ∀ y ∈ H1, y ∈ H) (hw : Sl H2 47 2 cw w.length (w.flatMap encS)) (hs2 : ∀ y ∈ H2, y ∈ H) (hl : l.length ≤ 1000) (hwl : w.length ≤ 100000) (ha : 0 ≤ a ∧ a ≤ l.length)
    (k : ∀ c' N, Own 47 2 c' ((insV l a w).flatMap encS) N → K (lineV c' (a + (w.length : Nat))) (N ++ H)) : CallW Try.prog Xs 36 [lineV c a, .one (.c cw)] H K := by
  have hH := h.sub hs
  have hW := hw.sub hs2
  have m1 := seg_len l ((0 : Nat) : Int) a
  have m2 := seg_len l a ((l.length : Nat) : Int)
  refine call_of (n := 26) (fun _ => rfl) Try.func36 rfl rfl ?_
  refine w_seq ?_
  refine w_region ?_
  refine w_o rfl rfl rfl (op_box rfl fun b2 => ?_)
  refine w_o rfl rfl rfl (op_alloc zer_24 fun b4 => ?_)
  refine w_end ?_
  refine seq_normal ?_
  refine w_seq ?_
  refine w_region ?_
  refine w_o rfl rfl rfl (op_fieldAddr fa_24_0 rfl ?_)
  refine w_o rfl rfl rfl (op_loadF agg_22 rfl el_ rfl ?_)
  refine w_o rfl rfl rfl (op_fieldAddr fa_24_1 rfl ?_)
  refine w_o rfl rfl rfl (op_loadF agg_3 rfl el_ rfl ?_)
  refine w_o rfl rfl rfl (op_sliceU (enc := encS) (xs := l) elm_22 siz_47 (by decide) rfl hH subs_ (fun _ => rfl) rfl rfl (by omega) (by omega) (by omega) fun c10 h10 => ?_)
  refine w_o rfl rfl rfl (op_move rfl ?_)
  refine w_o rfl rfl rfl (op_call rfl rfl rfl ?_)
  refine R04Join_w (l := seg l ((0 : Nat) : Int) a) (l' := w) h10.cons.cons hW.cons.cons (by omega) fun c12 N12 h12 => ?_
  refine w_o rfl rfl rfl (op_assign rfl ?_)
  refine w_end ?_
  refine seq_normal ?_
  refine w_seq ?_
  refine w_drawF ((b2, .row true 24 1 [c, .int .i64 a]) :: H) sel_ (by decide +kernel) (by decide +kernel) ?_
  refine f_b (guard_none rfl) rfl rfl rfl rfl (op_move rfl ?_)
  refine f_b (guard_none rfl) rfl rfl rfl rfl (op_fieldAddr fa_24_0 rfl ?_)
  refine f_a (guard_none rfl) rfl rfl rfl (by decide +kernel) (op_loadF agg_22 rfl el_ rfl ?_)
  refine f_b (guard_none rfl) rfl rfl rfl rfl (op_fieldAddr fa_24_1 rfl ?_)
  refine f_a (guard_none rfl) rfl rfl rfl (by decide +kernel) (op_loadF agg_3 rfl el_ rfl ?_)
  refine f_a (guard_none rfl) rfl rfl rfl (by decide +kernel) (op_sliceU (enc := encS) (xs := l) elm_22 siz_47 (by decide) rfl hH subs_ (fun _ => rfl) rfl rfl (by omega) (by omega) (by omega) fun c18 h18 => ?_)
  refine f_m (guard_none rfl) rfl rfl rfl (op_appendT (enc := encS) (ys := seg l a ((l.length : Nat) : Int)) elm_22 inf_47 zer_47 (by decide) und_22 rfl rfl h12 (fun _ => rfl) (PickL.front _ _) (h18.cons.cons.app) (by simp only [List.length_append]; omega) fun c19 N19 h19 => ?_)
  refine ⟨sel_, ?_⟩
  refine f_b (guard_none rfl) rfl rfl rfl rfl (op_fieldAddr fa_24_1 rfl ?_)
  refine f_l (guard_none rfl) rfl rfl rfl sel_ (op_loadF agg_3 rfl el_ rfl rfl) ?_
  refine f_b (guard_none rfl) rfl rfl rfl rfl (op_move rfl ?_)
  refine f_b (guard_none rfl) rfl rfl rfl rfl (op_lenC und_22 rfl hw.lenC ?_)
  refine f_b (guard_none rfl) rfl rfl rfl rfl (op_addi rfl rfl (by omega) (by omega) ?_)
  refine f_b (guard_none rfl) rfl rfl rfl rfl (op_build rfl ((bld_24 _).trans (rfl : _ = some [_, _])) ?_)
  refine f_wn (guard_none rfl) rfl rfl rfl (op_store siz_24 rfl rfl rfl (by (repeat (first | exact Pick.head _ _ _ | apply Pick.tail | apply Pick.app)); first | done | fail) (Nat.le_of_ble_eq_true rfl) rfl ?_)
  refine f_end ?_
  refine seq_normal ?_
  refine w_ret ?_
  exact ret_cellA rfl agg_24 siz_24 (El.row mem_) rfl sel_ (k _ _ h19)
/-! ### Where a word begins -/
def fromF (l : List Sign) : Nat → Nat
  | 0 => 0
  | m + 1 => if kindO l 0 (m : Int) = 0 then m + 1 else fromF l m
theorem fromF_le (l : List Sign) : ∀ m, fromF l m ≤ m
  | 0 => Nat.le_refl _
  | m + 1 => by
    unfold fromF
    split
    · omega
    · have := fromF_le l m; omega
theorem Word_w {H H1 : Hyp} {K : V → Hyp → Prop} {c : Cell} {l : List Sign} {a : Int} (h : Sl H1 47 2 c l.length (l.flatMap encS)) (hs : ∀ y ∈ H1, y ∈ H) (hl : l.length ≤ 1000)
    (k1 : rightL l a = true → K (.tup [.c (.int .i64 (fromF l a.toNat : Nat)), .c (.int .i64 a)]) H) (k2 : rightL l a = false → K (.tup [.c (.int .i64 0), .c (.int .i64 0)]) H) : CallW Try.prog Xs 9 [lineV c a] H K := by
  have hH := h.sub hs
  refine call_of (n := 28) (fun _ => rfl) Try.func9 rfl rfl ?_
  refine w_seq ?_
  refine w_region ?_
  refine w_o rfl rfl rfl (op_box rfl fun b1 => ?_)
  refine w_o rfl rfl rfl (op_assign rfl ?_)
  refine w_o rfl rfl rfl (op_assign rfl ?_)
  refine w_end ?_
  refine seq_normal ?_
  refine w_seq ?_
  refine w_seq ?_
  refine w_region ?_
  refine w_o rfl rfl rfl (op_loadA agg_24 siz_24 rfl rfl el_ ?_)
  refine w_o rfl rfl rfl (op_call rfl rfl rfl ?_)
  refine Right_line_w hH subs_ hl ?_
  refine w_o rfl rfl rfl (op_not rfl ?_)
  refine w_end ?_
  refine seq_normal ?_
  first | refine w_cond rfl (fun hI1 => ?_) (fun hI1 => ?_) | refine w_condB rfl (fun hI1 => ?_) (fun hI1 => ?_)
  · refine w_seq ?_
    refine w_region ?_
    refine w_o rfl rfl rfl (op_assign rfl ?_)
    refine w_o rfl rfl rfl (op_assign rfl ?_)
    refine w_end ?_
    refine seq_normal ?_
    refine w_ret ?_
    refine seq_ret ?_
    exact ret_ret rfl sel_ (k2 (by simpa using hI1))
  · have hr : rightL l a = true := by simpa using hI1
    have hra : 0 ≤ a ∧ a ≤ l.length := by
      have := of_decide_eq_true hr; exact ⟨this.1, this.2.1⟩
    obtain ⟨n, rfl⟩ : ∃ n : Nat, a = (n : Int) := ⟨a.toNat, by omega⟩
    have hk := k1 hr
    rw [Int.toNat_natCast] at hk
    refine w_skip ?_
    refine seq_normal ?_
    refine w_seq ?_
    refine w_region ?_
    refine w_o rfl rfl rfl (op_fieldAddr fa_24_1 rfl ?_)
    refine w_o rfl rfl rfl (op_loadF agg_3 rfl el_ rfl ?_)
    refine w_o rfl rfl rfl (op_assign rfl ?_)
    refine w_end ?_
    refine seq_normal ?_
    refine w_seq ?_
    refine w_block ?_
    refine w_loop (fun m e H' => ∃ (i : Nat), i ≤ n ∧ m = i ∧ fromF l n = fromF l i ∧ H' = (b1, .row true 24 1 [c, .int .i64 (n : Int)]) :: H ∧ e = [(1, ptrV b1 0), (4, vI (i : Nat))]) ?_ ?_
    · exact ⟨_, _, _, ⟨n, Nat.le_refl _, rfl, rfl, rfl, rfl⟩, env_, sel_⟩
    · rintro i e H' ⟨_, hi, rfl, hf, rfl, rfl⟩
      refine w_seq ?_
      refine w_seq ?_
      refine w_region ?_
      refine w_o rfl rfl rfl (op_move rfl ?_)
      refine w_o rfl rfl rfl (op_gt rfl rfl ?_)
      refine w_o rfl rfl rfl (op_move rfl ?_)
      first | refine w_known (t := 12) rfl (fun g12 => ?_) (fun g12 => ?_) | refine w_knownB (t := 12) rfl (fun g12 => ?_) (fun g12 => ?_)
      · refine w_og rfl rfl rfl rfl rfl (op_fieldAddr fa_24_0 rfl ?_)
        refine w_og rfl rfl rfl rfl rfl (op_loadF agg_22 rfl el_ rfl ?_)
        refine w_og rfl rfl rfl rfl rfl (op_move rfl ?_)
        refine w_og rfl rfl rfl rfl rfl (op_subi rfl rfl (by omega) (by omega) ?_)
        refine w_og rfl rfl rfl rfl rfl (op_indexT (enc := encS) (xs := l) (j := i - 1) und_22 siz_47 rfl rfl hH.cons (fun _ => rfl) (by omega) (by omega) fun b17 o17 z17 h17 e17 => ?_)
        refine w_og rfl rfl rfl rfl rfl (op_fieldAddr fa_47_0 rfl ?_)
        refine w_og rfl rfl rfl rfl rfl (op_loadF agg_3 rfl el_ rfl ?_)
        refine w_og rfl rfl rfl rfl rfl (op_call rfl rfl rfl ?_)
        refine word_Kind_sw (Go.Proofs.Ytlbbnimobbheiaa.P.kind_both _).1 ?_
        refine w_og rfl rfl rfl rfl rfl (op_ne rfl rfl ?_)
        refine w_o rfl rfl rfl (op_pick rfl rfl rfl ?_)
        refine w_end ?_
        refine seq_normal ?_
        first | refine w_cond rfl (fun hI2 => ?_) (fun hI2 => ?_) | refine w_condB rfl (fun hI2 => ?_) (fun hI2 => ?_)
        · have hkd : ¬ kindV z17.f0 = 0 := hI2
          refine w_skip ?_
          refine seq_normal ?_
          refine w_block ?_
          refine w_region ?_
          refine w_o rfl rfl rfl (op_move rfl ?_)
          refine w_o rfl rfl rfl (op_subi rfl rfl (by omega) (by omega) ?_)
          refine w_o rfl rfl rfl (op_assign rfl ?_)
          refine w_end ?_
          refine block_normal ?_
          have hstep : fromF l i = fromF l (i - 1) := by
            obtain ⟨j, rfl⟩ : ∃ j, i = j + 1 := ⟨i - 1, by omega⟩
            rw [Nat.add_sub_cancel]
            show (if kindO l 0 (j : Int) = 0 then j + 1 else fromF l j) = fromF l j
            rw [if_neg (by rw [kindO_at (by omega) (by simpa using h17)]; exact hkd)]
          exact loop_normal (k' := i - 1) (by omega) ⟨i - 1, by omega, rfl, hf.trans hstep, rfl, by rw [show ((i - 1 : Nat) : Int) = (i : Int) - 1 by omega]⟩ env_ sel_
        · have hkd : kindV z17.f0 = 0 := Classical.byContradiction fun q => hI2 q
          have hfi : fromF l n = i := by
            rw [hf]
            obtain ⟨j, rfl⟩ : ∃ j, i = j + 1 := ⟨i - 1, by omega⟩
            unfold fromF
            rw [if_pos (by rw [kindO_at (by omega) (by simpa using h17)]; exact hkd)]
          rw [hfi] at hk
          refine w_exit ?_
          refine seq_exit ?_
          refine loop_exit ?_
          refine block_hit rfl ?_
          refine seq_normal ?_
          refine w_seq ?_
          refine w_draw (by decide +kernel) (by decide +kernel) ?_
          refine w_d rfl rfl rfl (op_move rfl ?_)
          refine w_d rfl rfl rfl (op_fieldAddr fa_24_1 rfl ?_)
          refine w_d rfl rfl rfl (op_loadF agg_3 rfl el_ rfl ?_)
          refine w_d rfl rfl rfl (op_assign rfl ?_)
          refine w_d rfl rfl rfl (op_assign rfl ?_)
          refine w_end ?_
          refine seq_normal ?_
          refine w_ret ?_
          exact ret_ret rfl sel_ hk
      · have hi0 : i = 0 := by omega
        subst hi0
        have hfi : fromF l n = 0 := hf
        rw [hfi] at hk
        refine w_u rfl rfl rfl rfl rfl rfl ?_
        refine w_u rfl rfl rfl rfl rfl rfl ?_
        refine w_u rfl rfl rfl rfl rfl rfl ?_
        refine w_u rfl rfl rfl rfl rfl rfl ?_
        refine w_u rfl rfl rfl rfl rfl rfl ?_
        refine w_u rfl rfl rfl rfl rfl rfl ?_
        refine w_u rfl rfl rfl rfl rfl rfl ?_
        refine w_u rfl rfl rfl rfl rfl rfl ?_
        refine w_u rfl rfl rfl rfl rfl rfl ?_
        refine w_o rfl rfl rfl (op_pick rfl rfl rfl ?_)
        refine w_end ?_
        refine seq_normal ?_
        refine w_condF rfl ?_
        refine w_exit ?_
        refine seq_exit ?_
        refine loop_exit ?_
        refine block_hit rfl ?_
        refine seq_normal ?_
        refine w_seq ?_
        refine w_draw (by decide +kernel) (by decide +kernel) ?_
        refine w_d rfl rfl rfl (op_move rfl ?_)
        refine w_d rfl rfl rfl (op_fieldAddr fa_24_1 rfl ?_)
        refine w_d rfl rfl rfl (op_loadF agg_3 rfl el_ rfl ?_)
        refine w_d rfl rfl rfl (op_assign rfl ?_)
        refine w_d rfl rfl rfl (op_assign rfl ?_)
        refine w_end ?_
        refine seq_normal ?_
        refine w_ret ?_
        exact ret_ret rfl sel_ hk
theorem R26From_w {H H1 : Hyp} {K : V → Hyp → Prop} {c : Cell} {l : List Sign} {a : Int} (h : Sl H1 47 2 c l.length (l.flatMap encS)) (hs : ∀ y ∈ H1, y ∈ H) (hl : l.length ≤ 1000) (ha : 0 ≤ a ∧ a ≤ l.length) (k : K (vI (fromF l a.toNat : Nat)) H) : CallW Try.prog Xs 12 [lineV c a] H K := by
  have hH := h.sub hs
  obtain ⟨n, rfl⟩ : ∃ n : Nat, a = (n : Int) := ⟨a.toNat, by omega⟩
  rw [Int.toNat_natCast] at k
  refine call_of (n := 22) (fun _ => rfl) Try.func12 rfl rfl ?_
  refine w_seq ?_
  refine w_region ?_
  refine w_o rfl rfl rfl (op_box rfl fun b1 => ?_)
  refine w_o rfl rfl rfl (op_assign rfl ?_)
  refine w_end ?_
  refine seq_normal ?_
  refine w_seq ?_
  refine w_region ?_
  refine w_o rfl rfl rfl (op_assign rfl ?_)
  refine w_end ?_
  refine seq_normal ?_
  refine w_seq ?_
  refine w_seq ?_
  refine w_region ?_
  refine w_o rfl rfl rfl (op_assign rfl ?_)
  refine w_end ?_
  refine seq_normal ?_
  refine w_block ?_
  refine w_loop (fun m e H' => ∃ (i : Nat), i ≤ n ∧ m = n - i ∧ H' = (b1, .row true 24 1 [c, .int .i64 (n : Int)]) :: H ∧ e = [(1, ptrV b1 0), (3, vI (fromF l i : Nat)), (4, vI (i : Nat))]) ?_ ?_
  · exact ⟨_, _, _, ⟨0, Nat.zero_le _, rfl, rfl, rfl⟩, env_, sel_⟩
  · rintro m e H' ⟨i, hi, rfl, rfl, rfl⟩
    refine w_seq ?_
    refine w_seq ?_
    refine w_region ?_
    refine w_o rfl rfl rfl (op_move rfl ?_)
    refine w_o rfl rfl rfl (op_fieldAddr fa_24_1 rfl ?_)
    refine w_o rfl rfl rfl (op_loadF agg_3 rfl el_ rfl ?_)
    refine w_o rfl rfl rfl (op_lt rfl rfl ?_)
    refine w_end ?_
    refine seq_normal ?_
    first | refine w_cond rfl (fun hI1 => ?_) (fun hI1 => ?_) | refine w_condB rfl (fun hI1 => ?_) (fun hI1 => ?_)
    · refine w_skip ?_
      refine seq_normal ?_
      refine w_seq ?_
      refine w_block ?_
      refine w_seq ?_
      refine w_region ?_
      refine w_o rfl rfl rfl (op_fieldAddr fa_24_0 rfl ?_)
      refine w_o rfl rfl rfl (op_loadF agg_22 rfl el_ rfl ?_)
      refine w_o rfl rfl rfl (op_move rfl ?_)
      refine w_o rfl rfl rfl (op_indexT (enc := encS) (xs := l) (j := i) und_22 siz_47 rfl rfl hH.cons (fun _ => rfl) (by omega) (by omega) fun b14 o14 z14 h14 e14 => ?_)
      refine w_o rfl rfl rfl (op_fieldAddr fa_47_0 rfl ?_)
      refine w_o rfl rfl rfl (op_loadF agg_3 rfl el_ rfl ?_)
      refine w_o rfl rfl rfl (op_call rfl rfl rfl ?_)
      refine dactylref05_Kind_sw (Go.Proofs.Ytlbbnimobbheiaa.P.kind_both _).2 ?_
      refine w_o rfl rfl rfl (op_eq rfl rfl ?_)
      refine w_end ?_
      refine seq_normal ?_
      first | refine w_cond rfl (fun hI2 => ?_) (fun hI2 => ?_) | refine w_condB rfl (fun hI2 => ?_) (fun hI2 => ?_)
      · have hf : fromF l (i + 1) = i + 1 := by
          show (if kindO l 0 (i : Int) = 0 then i + 1 else fromF l i) = i + 1
          rw [if_pos (by rw [kindO_at (by omega) (by simpa using h14)]; exact hI2)]
        refine w_region ?_
        refine w_o rfl rfl rfl (op_move rfl ?_)
        refine w_o rfl rfl rfl (op_addi rfl rfl (by omega) (by omega) ?_)
        refine w_o rfl rfl rfl (op_assign rfl ?_)
        refine w_end ?_
        refine block_normal ?_
        refine seq_normal ?_
        refine w_region ?_
        refine w_o rfl rfl rfl (op_move rfl ?_)
        refine w_o rfl rfl rfl (op_addi rfl rfl (by omega) (by omega) ?_)
        refine w_o rfl rfl rfl (op_assign rfl ?_)
        refine w_end ?_
        exact loop_normal (k' := n - (i + 1)) (by omega) ⟨i + 1, by omega, rfl, rfl, by rw [hf]⟩ env_ sel_
      · have hf : fromF l (i + 1) = fromF l i := by
          show (if kindO l 0 (i : Int) = 0 then i + 1 else fromF l i) = fromF l i
          rw [if_neg (by rw [kindO_at (by omega) (by simpa using h14)]; exact hI2)]
        refine w_skip ?_
        refine block_normal ?_
        refine seq_normal ?_
        refine w_region ?_
        refine w_o rfl rfl rfl (op_move rfl ?_)
        refine w_o rfl rfl rfl (op_addi rfl rfl (by omega) (by omega) ?_)
        refine w_o rfl rfl rfl (op_assign rfl ?_)
        refine w_end ?_
        exact loop_normal (k' := n - (i + 1)) (by omega) ⟨i + 1, by omega, rfl, rfl, by rw [hf]⟩ env_ sel_
    · refine w_exit ?_
      refine seq_exit ?_
      refine loop_exit ?_
      refine block_hit rfl ?_
      refine seq_normal ?_
      refine w_seq ?_
      refine w_region ?_
      refine w_o rfl rfl rfl (op_move rfl ?_)
      refine w_o rfl rfl rfl (op_assign rfl ?_)
      refine w_end ?_
      refine seq_normal ?_
      refine w_ret ?_
      have hi' : i = n := by omega
      subst hi'
      exact ret_ret rfl sel_ k
end Go.Proofs.Ytlbbnimobbheiaa.AM.B
