/- What a history rests on: the same signs, labels, values; deleting in place. -/
import Derived.Test.YtajhjfgoefhdnaaAX
import Derived.Test.YtajhjfgoefhdnaaBsigns
import Derived.Test.YtajhjfgoefhdnaaBmore
import Derived.Test.YtajhjfgoefhdnaaBhl
import Derived.Test.YtajhjfgoefhdnaaBints
set_option linter.unusedVariables false
set_option linter.unusedSimpArgs false
set_option maxRecDepth 10000
set_option maxHeartbeats 4000000
namespace Go.Proofs.Ytajhjfgoefhdnaa.AM.B
open Go Go.RowKit
theorem IndexFuncL_w {H : Hyp} {K : V → Hyp → Prop} {c : Cell} {l : List (Cell)} {p : Cell → Bool} {g : Nat} {caps : List (Nat × Nat)} (h : Sl H 28 1 c l.length (l.flatMap encC)) (hl : l.length ≤ 1000000000)
    (hg : ∀ x ∈ l, ∀ (H0 : Hyp) (K' : V → Hyp → Prop), Sel H0 H → K' (vB (p x)) H0 → CallW Try.prog Xs g ([.one (.c x)] ++ caps.map fun p => ptrV p.1 p.2) H0 K')
    (k : K (vI (idxF p l)) H) : CallW Try.prog Xs 35 [.one (.c c), .one (.c (.fn g caps))] H K := by
  refine call_of (n := 19) (fun _ => rfl) Try.func35 rfl rfl ?_
  refine w_seq ?_
  refine w_region ?_
  refine w_o rfl rfl rfl (op_assign rfl ?_)
  refine w_end ?_
  refine seq_normal ?_
  refine w_seq ?_
  refine w_seq ?_
  refine w_region ?_
  refine w_o rfl rfl rfl (op_move rfl ?_)
  refine w_o rfl rfl rfl (op_lenC und_22 rfl (by first | exact ⟨rfl, fun s e => by cases e⟩ | exact Sl.lenC (by assumption) | (refine Own.lenT (by assumption) ?_ ?_ <;> first | exact fun _ => rfl | decide)) ?_)
  refine w_o rfl rfl rfl (op_move rfl ?_)
  refine w_end ?_
  refine seq_normal ?_
  refine w_block ?_
  refine w_loop (fun m e H' => ∃ (i : Nat), i ≤ l.length ∧ m = l.length - i ∧ (∀ j x, j < i → l[j]? = some x → p x = false) ∧ H = H' ∧ e = [(0, .one (.c c)), (1, .one (.c (.fn g caps))), (7, vI (l.length : Nat)), (8, vI (i : Nat))]) ?_ ?_
  · exact ⟨_, _, _, ⟨0, Nat.zero_le _, rfl, fun j x hj => absurd hj (Nat.not_lt_zero _), rfl, rfl⟩, env_, sel_⟩
  · rintro m e H' ⟨i, hi, rfl, hp, rfl, rfl⟩
    refine w_seq ?_
    refine w_region ?_
    refine w_o rfl rfl rfl (op_lt rfl rfl ?_)
    refine w_end ?_
    refine seq_normal ?_
    refine w_seq ?_
    first | refine w_cond rfl (fun hI1 => ?_) (fun hI1 => ?_) | refine w_condB rfl (fun hI1 => ?_) (fun hI1 => ?_)
    · refine w_skip ?_
      refine seq_normal ?_
      refine w_seq ?_
      refine w_block ?_
      refine w_seq ?_
      refine w_region ?_
      refine w_o rfl rfl rfl (op_move rfl ?_)
      refine w_o rfl rfl rfl (op_assign rfl ?_)
      refine w_end ?_
      refine seq_normal ?_
      refine w_seq ?_
      refine w_region ?_
      refine w_o rfl rfl rfl (op_move rfl ?_)
      refine w_o rfl rfl rfl (op_move rfl ?_)
      refine w_o rfl rfl rfl (op_move rfl ?_)
      refine w_o rfl rfl rfl (op_indexT (enc := encC) und_22 siz_28 rfl rfl (by first | assumption | (repeat (first | assumption | apply Sl.cons | apply Sl.app))) (fun _ => rfl) rfl (by omega) fun b14 o14 z14 h14 e14 => ?_)
      refine w_o rfl rfl rfl (op_load1 agg_28 rfl el_ ?_)
      refine w_o rfl rfl rfl (op_call rfl rfl rfl ?_)
      refine hg z14 (List.mem_of_getElem? h14) _ _ (.refl _) ?_
      refine w_end ?_
      refine seq_normal ?_
      first | refine w_cond rfl (fun hI2 => ?_) (fun hI2 => ?_) | refine w_condB rfl (fun hI2 => ?_) (fun hI2 => ?_)
      · refine w_seq ?_
        refine w_region ?_
        refine w_o rfl rfl rfl (op_move rfl ?_)
        refine w_o rfl rfl rfl (op_assign rfl ?_)
        refine w_end ?_
        refine seq_normal ?_
        refine w_ret ?_
        refine block_ret ?_
        refine seq_ret ?_
        refine loop_ret ?_
        refine block_ret ?_
        refine seq_ret ?_
        rw [idxF_at h14 hI2 hp] at k
        exact ret_ret rfl (.refl _) k
      · refine w_skip ?_
        refine block_normal ?_
        refine seq_normal ?_
        refine w_region ?_
        refine w_o rfl rfl rfl (op_addi rfl rfl (by omega) (by omega) ?_)
        refine w_o rfl rfl rfl (op_move rfl ?_)
        refine w_end ?_
        refine loop_normal (k' := l.length - (i + 1)) (by omega) ⟨i + 1, by omega, rfl, ?_, rfl, rfl⟩ env_ sel_
        intro j x hj hx
        by_cases e : j = i
        · subst e; rw [h14] at hx; cases hx; exact hI2
        · exact hp j x (by omega) hx
    · refine w_exit ?_
      refine seq_exit ?_
      refine loop_exit ?_
      refine block_hit rfl ?_
      refine seq_normal ?_
      refine w_seq ?_
      refine w_region ?_
      refine w_o rfl rfl rfl (op_assign rfl ?_)
      refine w_end ?_
      refine seq_normal ?_
      refine w_ret ?_
      rw [idxF_no (fun x hx => by
        obtain ⟨j, hj⟩ := List.getElem?_of_mem hx
        exact hp j x (by have := (List.getElem?_eq_some_iff.1 hj).1; omega) hj)] at k
      exact ret_ret rfl (.refl _) k
def valsS (l : List Sign) : List Int := l.map (·.f0)
def withS (l : List Sign) (b : Int) : List Sign := l.map fun x => (⟨x.f0, b⟩ : Sign)
theorem valsS_len (l : List Sign) : (valsS l).length = l.length := by unfold valsS; rw [List.length_map]
theorem withS_len (l : List Sign) (b : Int) : (withS l b).length = l.length := by unfold withS; rw [List.length_map]
theorem valsS_withS (x : List Sign) (b : Int) : valsS (withS x b) = valsS x := by
  unfold valsS withS; rw [List.map_map]; rfl
theorem withS_eq {y x : List Sign} {b : Int} (h : ∀ s ∈ y, s.f1 = b) : y = withS x b ↔ valsS y = valsS x := by
  constructor
  · rintro rfl; exact valsS_withS x b
  · intro e
    induction y generalizing x with
    | nil =>
      cases x with
      | nil => rfl
      | cons b bs => simp [valsS] at e
    | cons s ss ih =>
      cases x with
      | nil => simp [valsS] at e
      | cons c cs =>
        unfold valsS at e
        simp only [List.map_cons, List.cons.injEq] at e
        have h1 := h s (List.mem_cons_self ..)
        have h2 := ih (x := cs) (fun z hz => h z (List.mem_cons_of_mem _ hz)) e.2
        unfold withS
        rw [List.map_cons]
        rw [h2]
        unfold withS
        cases s
        simp only at h1 e
        rw [h1, e.1]
theorem withS_lab (x : List Sign) (b : Int) : ∀ s ∈ withS x b, s.f1 = b := by
  intro s hs
  unfold withS at hs
  rw [List.mem_map] at hs
  obtain ⟨z, _, rfl⟩ := hs
  rfl
theorem R04Same_w {H : Hyp} {K : V → Hyp → Prop} {c c' : Cell} {l l' : List Sign} (h : Sl H 46 2 c l.length (l.flatMap encS)) (h' : Sl H 46 2 c' l'.length (l'.flatMap encS)) (hl : l.length ≤ 1000000) (k : K (vB (decide (l = l'))) H) : CallW Try.prog Xs 8 [.one (.c c), .one (.c c')] H K := by
  refine call_of (n := 26) (fun _ => rfl) Try.func8 rfl rfl ?_
  refine w_seq ?_
  refine w_region ?_
  refine w_o rfl rfl rfl (op_assign rfl ?_)
  refine w_end ?_
  refine seq_normal ?_
  refine w_seq ?_
  refine w_seq ?_
  refine w_region ?_
  refine w_o rfl rfl rfl (op_move rfl ?_)
  refine w_o rfl rfl rfl (op_lenC und_28 rfl h.lenC ?_)
  refine w_o rfl rfl rfl (op_move rfl ?_)
  refine w_o rfl rfl rfl (op_lenC und_28 rfl h'.lenC ?_)
  refine w_o rfl rfl rfl (op_ne rfl rfl ?_)
  refine w_end ?_
  refine seq_normal ?_
  first | refine w_cond rfl (fun hI1 => ?_) (fun hI1 => ?_) | refine w_condB rfl (fun hI1 => ?_) (fun hI1 => ?_)
  · have hne : ¬ (l = l') := fun q => hI1 (by rw [q])
    refine w_seq ?_
    refine w_region ?_
    refine w_o rfl rfl rfl (op_assign rfl ?_)
    refine w_end ?_
    refine seq_normal ?_
    refine w_ret ?_
    refine seq_ret ?_
    exact ret_bool rfl sel_ (decide_eq_false hne).symm k
  · have heq : l.length = l'.length := by omega
    refine w_skip ?_
    refine seq_normal ?_
    refine w_seq ?_
    refine w_seq ?_
    refine w_region ?_
    refine w_o rfl rfl rfl (op_assign rfl ?_)
    refine w_end ?_
    refine seq_normal ?_
    refine w_block ?_
    refine w_loop (fun m e H' => ∃ (i : Nat), i ≤ l.length ∧ m = l.length - i ∧ (∀ (j : Nat), j < i → l[j]? = l'[j]?) ∧ H = H' ∧ e = [(0, .one (.c c)), (1, .one (.c c')), (5, vI (i : Nat))]) ?_ ?_
    · exact ⟨_, _, _, ⟨0, Nat.zero_le _, rfl, fun j hj => absurd hj (Nat.not_lt_zero _), rfl, rfl⟩, env_, sel_⟩
    · rintro m e H' ⟨i, hi, rfl, hp, rfl, rfl⟩
      refine w_seq ?_
      refine w_seq ?_
      refine w_region ?_
      refine w_o rfl rfl rfl (op_move rfl ?_)
      refine w_o rfl rfl rfl (op_move rfl ?_)
      refine w_o rfl rfl rfl (op_lenC und_28 rfl h.lenC ?_)
      refine w_o rfl rfl rfl (op_lt rfl rfl ?_)
      refine w_end ?_
      refine seq_normal ?_
      first | refine w_cond rfl (fun hI2 => ?_) (fun hI2 => ?_) | refine w_condB rfl (fun hI2 => ?_) (fun hI2 => ?_)
      · refine w_skip ?_
        refine seq_normal ?_
        refine w_seq ?_
        refine w_block ?_
        refine w_seq ?_
        refine w_draw (by decide +kernel) (by decide +kernel) ?_
        refine w_d rfl rfl rfl (op_move rfl ?_)
        refine w_d rfl rfl rfl (op_move rfl ?_)
        refine w_d rfl rfl rfl (op_indexT und_28 siz_46 rfl rfl h (fun _ => rfl) rfl (by omega) fun b19 o19 z19 h19 e19 => ?_)
        refine w_d rfl rfl rfl (op_loadA agg_46 siz_46 rfl rfl el_ ?_)
        refine w_d rfl rfl rfl (op_move rfl ?_)
        refine w_d rfl rfl rfl (op_move rfl ?_)
        refine w_d rfl rfl rfl (op_indexT und_28 siz_46 rfl rfl h' (fun _ => rfl) rfl (by omega) fun b23 o23 z23 h23 e23 => ?_)
        refine w_d rfl rfl rfl (op_loadA agg_46 siz_46 rfl rfl el_ ?_)
        refine w_d rfl rfl rfl (op_nes_46 rfl rfl ?_)
        refine w_end ?_
        refine seq_normal ?_
        first | refine w_cond rfl (fun hI3 => ?_) (fun hI3 => ?_) | refine w_condB rfl (fun hI3 => ?_) (fun hI3 => ?_)
        · refine w_seq ?_
          refine w_region ?_
          refine w_o rfl rfl rfl (op_assign rfl ?_)
          refine w_end ?_
          refine seq_normal ?_
          refine w_ret ?_
          refine block_ret ?_
          refine seq_ret ?_
          refine loop_ret ?_
          refine block_ret ?_
          refine seq_ret ?_
          have hne : ¬ (l = l') := by
            intro q
            subst q
            rw [h19] at h23; cases h23
            simp at hI3
          exact ret_bool rfl sel_ (decide_eq_false hne).symm k
        · refine w_skip ?_
          refine block_normal ?_
          refine seq_normal ?_
          refine w_region ?_
          refine w_o rfl rfl rfl (op_move rfl ?_)
          refine w_o rfl rfl rfl (op_addi rfl rfl (by omega) (by omega) ?_)
          refine w_o rfl rfl rfl (op_assign rfl ?_)
          refine w_end ?_
          refine loop_normal (k' := l.length - (i + 1)) (by omega) ⟨i + 1, by omega, rfl, ?_, rfl, rfl⟩ env_ sel_
          intro j hj
          by_cases e : j = i
          · subst e
            rw [h19, h23]
            have : z19 = z23 := by
              simp only [Bool.not_eq_false', Bool.and_eq_true, beq_iff_eq] at hI3
              cases z19; cases z23; simp at hI3; simp [hI3.1, hI3.2]
            rw [this]
          · exact hp j (by omega)
      · refine w_exit ?_
        refine seq_exit ?_
        refine loop_exit ?_
        refine block_hit rfl ?_
        refine seq_normal ?_
        refine w_seq ?_
        refine w_region ?_
        refine w_o rfl rfl rfl (op_assign rfl ?_)
        refine w_end ?_
        refine seq_normal ?_
        refine w_ret ?_
        have he : l = l' := by
          apply List.ext_getElem?
          intro j
          by_cases e : j < i
          · exact hp j e
          · rw [List.getElem?_eq_none (by omega), List.getElem?_eq_none (by omega)]
        exact ret_bool rfl sel_ (decide_eq_true he).symm k
theorem With_w {H H1 : Hyp} {K : V → Hyp → Prop} {c : Cell} {l : List Sign} {b : Int} (h : Sl H1 46 2 c l.length (l.flatMap encS)) (hs : ∀ y ∈ H1, y ∈ H) (hl : l.length ≤ 100000) (k : ∀ c' N, Own 46 2 c' ((withS l b).flatMap encS) N → K (.one (.c c')) (N ++ H)) : CallW Try.prog Xs 21 [.one (.c c), vI b] H K := by
  have hH := h.sub hs
  refine call_of (n := 23) (fun _ => rfl) Try.func21 rfl rfl ?_
  refine w_seq ?_
  refine w_region ?_
  refine w_o rfl rfl rfl (op_assign rfl ?_)
  refine w_end ?_
  refine seq_normal ?_
  refine w_seq ?_
  refine w_region ?_
  refine w_o rfl rfl rfl (op_assign rfl ?_)
  refine w_end ?_
  refine seq_normal ?_
  refine w_seq ?_
  refine w_seq ?_
  refine w_region ?_
  refine w_o rfl rfl rfl (op_move rfl ?_)
  refine w_o rfl rfl rfl (op_lenC und_28 rfl h.lenC ?_)
  refine w_o rfl rfl rfl (op_move rfl ?_)
  refine w_end ?_
  refine seq_normal ?_
  refine w_block ?_
  refine w_loop (fun m e H' => ∃ (i : Nat) (c' : Cell) (N : Hyp), i ≤ l.length ∧ m = l.length - i ∧ Own 46 2 c' ((withS (l.take i) b).flatMap encS) N ∧ H' = N ++ H ∧ e = [(1, vI b), (5, .one (.c c')), (8, .one (.c c)), (9, vI (l.length : Nat)), (10, vI (i : Nat))]) ?_ ?_
  · exact ⟨_, _, _, ⟨0, .nils, [], Nat.zero_le _, rfl, .nil, rfl, rfl⟩, env_, sel_⟩
  · rintro m e H' ⟨i, c', N, hi, rfl, hO, rfl, rfl⟩
    have hle : (withS (l.take i) b).length ≤ l.length := by rw [withS_len, List.length_take]; omega
    refine w_seq ?_
    refine w_region ?_
    refine w_o rfl rfl rfl (op_lt rfl rfl ?_)
    refine w_end ?_
    refine seq_normal ?_
    refine w_seq ?_
    first | refine w_cond rfl (fun hI1 => ?_) (fun hI1 => ?_) | refine w_condB rfl (fun hI1 => ?_) (fun hI1 => ?_)
    · refine w_skip ?_
      refine seq_normal ?_
      refine w_seq ?_
      refine w_block ?_
      refine w_seq ?_
      refine w_region ?_
      refine w_o rfl rfl rfl (op_indexT (enc := encS) (xs := l) und_28 siz_46 rfl rfl hH.app (fun _ => rfl) rfl (by omega) fun b12 o12 z12 h12 e12 => ?_)
      refine w_o rfl rfl rfl (op_loadA agg_46 siz_46 rfl rfl el_ ?_)
      refine w_o rfl rfl rfl (op_alloc zer_46 fun b7 => ?_)
      refine w_on rfl rfl (op_store siz_46 rfl rfl rfl (by (repeat (first | exact Pick.head _ _ _ | apply Pick.tail | apply Pick.app)); first | done | fail) (Nat.le_of_ble_eq_true rfl) rfl ?_)
      refine w_end ?_
      refine seq_normal ?_
      refine w_region ?_
      refine w_o rfl rfl rfl (op_move rfl ?_)
      refine w_o rfl rfl rfl (op_fieldAddr fa_46_0 rfl ?_)
      refine w_o rfl rfl rfl (op_loadF agg_3 rfl el_ rfl ?_)
      refine w_o rfl rfl rfl (op_move rfl ?_)
      refine w_o rfl rfl rfl (op_build rfl ((bld_46 _).trans (rfl : _ = some [_, _])) ?_)
      refine w_o rfl rfl rfl (op_buildSlice rfl (bsl_28 _ _ _ (rfl : _ = some [_, _]) rfl (by decide)) fun b19 => ?_)
      refine w_o rfl rfl rfl (op_append1 (xs := withS (l.take i) b) (enc := encS) (z0 := (⟨z12.f0, b⟩ : Sign)) elm_28 inf_46 zer_46 (by decide) und_28 rfl rfl hO (fun _ => rfl) (by (repeat (first | exact PickL.front _ _ | exact PickL.nil _ | apply PickL.skip | apply PickL.skipL)); first | done | fail) rfl (by omega) fun c20 N20 h20 => ?_)
      refine w_o rfl rfl rfl (op_assign rfl ?_)
      refine w_end ?_
      refine block_normal ?_
      refine seq_normal ?_
      refine w_region ?_
      refine w_o rfl rfl rfl (op_addi rfl rfl (by omega) (by omega) ?_)
      refine w_o rfl rfl rfl (op_move rfl ?_)
      refine w_end ?_
      have e1 : withS (l.take i) b ++ [(⟨z12.f0, b⟩ : Sign)] = withS (l.take (i + 1)) b := by unfold withS; rw [List.take_add_one, h12, List.map_append]; rfl
      rw [e1] at h20
      exact loop_normal (k' := l.length - (i + 1)) (by omega) ⟨i + 1, c20, N20, by omega, rfl, h20, rfl, rfl⟩ env_ sel_
    · refine w_exit ?_
      refine seq_exit ?_
      refine loop_exit ?_
      refine block_hit rfl ?_
      refine seq_normal ?_
      refine w_seq ?_
      refine w_region ?_
      refine w_o rfl rfl rfl (op_move rfl ?_)
      refine w_o rfl rfl rfl (op_assign rfl ?_)
      refine w_end ?_
      refine seq_normal ?_
      refine w_ret ?_
      have hi' : i = l.length := by omega
      subst hi'
      rw [List.take_length] at hO
      exact ret_ret rfl sel_ (k _ _ hO)
theorem R04With_w {H H1 : Hyp} {K : V → Hyp → Prop} {c : Cell} {l : List Sign} {b : Int} (h : Sl H1 46 2 c l.length (l.flatMap encS)) (hs : ∀ y ∈ H1, y ∈ H) (hl : l.length ≤ 100000) (k : ∀ c' N, Own 46 2 c' ((withS l b).flatMap encS) N → K (.one (.c c')) (N ++ H)) : CallW Try.prog Xs 9 [.one (.c c), vI b] H K := by
  have hH := h.sub hs
  refine call_of (n := 24) (fun _ => rfl) Try.func9 rfl rfl ?_
  refine w_seq ?_
  refine w_region ?_
  refine w_o rfl rfl rfl (op_assign rfl ?_)
  refine w_end ?_
  refine seq_normal ?_
  refine w_seq ?_
  refine w_region ?_
  refine w_o rfl rfl rfl (op_assign rfl ?_)
  refine w_end ?_
  refine seq_normal ?_
  refine w_seq ?_
  refine w_seq ?_
  refine w_region ?_
  refine w_o rfl rfl rfl (op_assign rfl ?_)
  refine w_end ?_
  refine seq_normal ?_
  refine w_block ?_
  refine w_loop (fun m e H' => ∃ (i : Nat) (c' : Cell) (N : Hyp), i ≤ l.length ∧ m = l.length - i ∧ Own 46 2 c' ((withS (l.take i) b).flatMap encS) N ∧ H' = N ++ H ∧ e = [(0, .one (.c c)), (1, vI b), (5, .one (.c c')), (6, vI (i : Nat))]) ?_ ?_
  · exact ⟨_, _, _, ⟨0, .nils, [], Nat.zero_le _, rfl, .nil, rfl, rfl⟩, env_, sel_⟩
  · rintro m e H' ⟨i, c', N, hi, rfl, hO, rfl, rfl⟩
    have hle : (withS (l.take i) b).length ≤ l.length := by rw [withS_len, List.length_take]; omega
    refine w_seq ?_
    refine w_seq ?_
    refine w_region ?_
    refine w_o rfl rfl rfl (op_move rfl ?_)
    refine w_o rfl rfl rfl (op_move rfl ?_)
    refine w_o rfl rfl rfl (op_lenC und_28 rfl h.lenC ?_)
    refine w_o rfl rfl rfl (op_lt rfl rfl ?_)
    refine w_end ?_
    refine seq_normal ?_
    first | refine w_cond rfl (fun hI1 => ?_) (fun hI1 => ?_) | refine w_condB rfl (fun hI1 => ?_) (fun hI1 => ?_)
    · refine w_skip ?_
      refine seq_normal ?_
      refine w_seq ?_
      refine w_block ?_
      refine w_region ?_
      refine w_o rfl rfl rfl (op_move rfl ?_)
      refine w_o rfl rfl rfl (op_move rfl ?_)
      refine w_o rfl rfl rfl (op_move rfl ?_)
      refine w_o rfl rfl rfl (op_indexT (enc := encS) (xs := l) und_28 siz_46 rfl rfl hH.app (fun _ => rfl) rfl (by omega) fun b16 o16 z16 h16 e16 => ?_)
      refine w_o rfl rfl rfl (op_fieldAddr fa_46_0 rfl ?_)
      refine w_o rfl rfl rfl (op_loadF agg_3 rfl el_ rfl ?_)
      refine w_o rfl rfl rfl (op_move rfl ?_)
      refine w_o rfl rfl rfl (op_build rfl ((bld_46 _).trans (rfl : _ = some [_, _])) ?_)
      refine w_o rfl rfl rfl (op_buildSlice rfl (bsl_28 _ _ _ (rfl : _ = some [_, _]) rfl (by decide)) fun b21 => ?_)
      refine w_o rfl rfl rfl (op_append1 (xs := withS (l.take i) b) (enc := encS) (z0 := (⟨z16.f0, b⟩ : Sign)) elm_28 inf_46 zer_46 (by decide) und_28 rfl rfl hO (fun _ => rfl) (by (repeat (first | exact PickL.front _ _ | exact PickL.nil _ | apply PickL.skip | apply PickL.skipL)); first | done | fail) rfl (by omega) fun c22 N22 h22 => ?_)
      refine w_o rfl rfl rfl (op_assign rfl ?_)
      refine w_end ?_
      refine block_normal ?_
      refine seq_normal ?_
      refine w_region ?_
      refine w_o rfl rfl rfl (op_move rfl ?_)
      refine w_o rfl rfl rfl (op_addi rfl rfl (by omega) (by omega) ?_)
      refine w_o rfl rfl rfl (op_assign rfl ?_)
      refine w_end ?_
      have e1 : withS (l.take i) b ++ [(⟨z16.f0, b⟩ : Sign)] = withS (l.take (i + 1)) b := by unfold withS; rw [List.take_add_one, h16, List.map_append]; rfl
      rw [e1] at h22
      exact loop_normal (k' := l.length - (i + 1)) (by omega) ⟨i + 1, c22, N22, by omega, rfl, h22, rfl, rfl⟩ env_ sel_
    · refine w_exit ?_
      refine seq_exit ?_
      refine loop_exit ?_
      refine block_hit rfl ?_
      refine seq_normal ?_
      refine w_seq ?_
      refine w_region ?_
      refine w_o rfl rfl rfl (op_move rfl ?_)
      refine w_o rfl rfl rfl (op_assign rfl ?_)
      refine w_end ?_
      refine seq_normal ?_
      refine w_ret ?_
      have hi' : i = l.length := by omega
      subst hi'
      rw [List.take_length] at hO
      exact ret_ret rfl sel_ (k _ _ hO)
theorem R04Values_w {H H1 : Hyp} {K : V → Hyp → Prop} {c : Cell} {l : List Sign} (h : Sl H1 46 2 c l.length (l.flatMap encS)) (hs : ∀ y ∈ H1, y ∈ H) (hl : l.length ≤ 100000) (k : ∀ c' N, Own 3 1 c' ((valsS l).flatMap encI) N → K (.one (.c c')) (N ++ H)) : CallW Try.prog Xs 11 [.one (.c c)] H K := by
  have hH := h.sub hs
  refine call_of (n := 20) (fun _ => rfl) Try.func11 rfl rfl ?_
  refine w_seq ?_
  refine w_region ?_
  refine w_o rfl rfl rfl (op_assign rfl ?_)
  refine w_end ?_
  refine seq_normal ?_
  refine w_seq ?_
  refine w_region ?_
  refine w_o rfl rfl rfl (op_assign rfl ?_)
  refine w_end ?_
  refine seq_normal ?_
  refine w_seq ?_
  refine w_seq ?_
  refine w_region ?_
  refine w_o rfl rfl rfl (op_assign rfl ?_)
  refine w_end ?_
  refine seq_normal ?_
  refine w_block ?_
  refine w_loop (fun m e H' => ∃ (i : Nat) (c' : Cell) (N : Hyp), i ≤ l.length ∧ m = l.length - i ∧ Own 3 1 c' ((valsS (l.take i)).flatMap encI) N ∧ H' = N ++ H ∧ e = [(0, .one (.c c)), (3, .one (.c c')), (4, vI (i : Nat))]) ?_ ?_
  · exact ⟨_, _, _, ⟨0, .nils, [], Nat.zero_le _, rfl, .nil, rfl, rfl⟩, env_, sel_⟩
  · rintro m e H' ⟨i, c', N, hi, rfl, hO, rfl, rfl⟩
    have hle : (valsS (l.take i)).length ≤ l.length := by rw [valsS_len, List.length_take]; omega
    refine w_seq ?_
    refine w_seq ?_
    refine w_region ?_
    refine w_o rfl rfl rfl (op_move rfl ?_)
    refine w_o rfl rfl rfl (op_move rfl ?_)
    refine w_o rfl rfl rfl (op_lenC und_28 rfl h.lenC ?_)
    refine w_o rfl rfl rfl (op_lt rfl rfl ?_)
    refine w_end ?_
    refine seq_normal ?_
    first | refine w_cond rfl (fun hI1 => ?_) (fun hI1 => ?_) | refine w_condB rfl (fun hI1 => ?_) (fun hI1 => ?_)
    · refine w_skip ?_
      refine seq_normal ?_
      refine w_seq ?_
      refine w_block ?_
      refine w_region ?_
      refine w_o rfl rfl rfl (op_move rfl ?_)
      refine w_o rfl rfl rfl (op_move rfl ?_)
      refine w_o rfl rfl rfl (op_move rfl ?_)
      refine w_o rfl rfl rfl (op_indexT (enc := encS) (xs := l) und_28 siz_46 rfl rfl hH.app (fun _ => rfl) rfl (by omega) fun b14 o14 z14 h14 e14 => ?_)
      refine w_o rfl rfl rfl (op_fieldAddr fa_46_0 rfl ?_)
      refine w_o rfl rfl rfl (op_loadF agg_3 rfl el_ rfl ?_)
      refine w_o rfl rfl rfl (op_buildSlice rfl (bsl_34 _ _ _ (rfl : _ = some [_]) rfl (by decide)) fun b17 => ?_)
      refine w_o rfl rfl rfl (op_append1 (xs := valsS (l.take i)) (enc := encI) (z0 := z14.f0) elm_34 inf_3 zer_3 (by decide) und_34 rfl rfl hO (fun _ => rfl) (by (repeat (first | exact PickL.front _ _ | exact PickL.nil _ | apply PickL.skip | apply PickL.skipL)); first | done | fail) rfl (by omega) fun c18 N18 h18 => ?_)
      refine w_o rfl rfl rfl (op_assign rfl ?_)
      refine w_end ?_
      refine block_normal ?_
      refine seq_normal ?_
      refine w_region ?_
      refine w_o rfl rfl rfl (op_move rfl ?_)
      refine w_o rfl rfl rfl (op_addi rfl rfl (by omega) (by omega) ?_)
      refine w_o rfl rfl rfl (op_assign rfl ?_)
      refine w_end ?_
      have e1 : valsS (l.take i) ++ [z14.f0] = valsS (l.take (i + 1)) := by unfold valsS; rw [List.take_add_one, h14, List.map_append]; rfl
      rw [e1] at h18
      exact loop_normal (k' := l.length - (i + 1)) (by omega) ⟨i + 1, c18, N18, by omega, rfl, h18, rfl, rfl⟩ env_ sel_
    · refine w_exit ?_
      refine seq_exit ?_
      refine loop_exit ?_
      refine block_hit rfl ?_
      refine seq_normal ?_
      refine w_seq ?_
      refine w_region ?_
      refine w_o rfl rfl rfl (op_move rfl ?_)
      refine w_o rfl rfl rfl (op_assign rfl ?_)
      refine w_end ?_
      refine seq_normal ?_
      refine w_ret ?_
      have hi' : i = l.length := by omega
      subst hi'
      rw [List.take_length] at hO
      exact ret_ret rfl sel_ (k _ _ hO)
theorem EqualS_w {H : Hyp} {K : V → Hyp → Prop} {c c' : Cell} {l l' : List Sign} (h : Sl H 46 2 c l.length (l.flatMap encS)) (h' : Sl H 46 2 c' l'.length (l'.flatMap encS)) (hl : l.length ≤ 1000000) (k : K (vB (decide (l = l'))) H) : CallW Try.prog Xs 36 [.one (.c c), .one (.c c')] H K := by
  refine call_of (n := 26) (fun _ => rfl) Try.func36 rfl rfl ?_
  refine w_seq ?_
  refine w_region ?_
  refine w_o rfl rfl rfl (op_assign rfl ?_)
  refine w_end ?_
  refine seq_normal ?_
  refine w_seq ?_
  refine w_seq ?_
  refine w_region ?_
  refine w_o rfl rfl rfl (op_move rfl ?_)
  refine w_o rfl rfl rfl (op_lenC und_28 rfl h.lenC ?_)
  refine w_o rfl rfl rfl (op_move rfl ?_)
  refine w_o rfl rfl rfl (op_lenC und_28 rfl h'.lenC ?_)
  refine w_o rfl rfl rfl (op_ne rfl rfl ?_)
  refine w_end ?_
  refine seq_normal ?_
  first | refine w_cond rfl (fun hI1 => ?_) (fun hI1 => ?_) | refine w_condB rfl (fun hI1 => ?_) (fun hI1 => ?_)
  · have hne : ¬ (l = l') := fun q => hI1 (by rw [q])
    refine w_seq ?_
    refine w_region ?_
    refine w_o rfl rfl rfl (op_assign rfl ?_)
    refine w_end ?_
    refine seq_normal ?_
    refine w_ret ?_
    refine seq_ret ?_
    exact ret_bool rfl sel_ (decide_eq_false hne).symm k
  · have heq : l.length = l'.length := by omega
    refine w_skip ?_
    refine seq_normal ?_
    refine w_seq ?_
    refine w_seq ?_
    refine w_region ?_
    refine w_o rfl rfl rfl (op_move rfl ?_)
    refine w_o rfl rfl rfl (op_lenC und_28 rfl h.lenC ?_)
    refine w_o rfl rfl rfl (op_move rfl ?_)
    refine w_end ?_
    refine seq_normal ?_
    refine w_block ?_
    refine w_loop (fun m e H' => ∃ (i : Nat), i ≤ l.length ∧ m = l.length - i ∧ (∀ (j : Nat), j < i → l[j]? = l'[j]?) ∧ H = H' ∧ e = [(0, .one (.c c)), (1, .one (.c c')), (12, vI (l.length : Nat)), (13, vI (i : Nat))]) ?_ ?_
    · exact ⟨_, _, _, ⟨0, Nat.zero_le _, rfl, fun j hj => absurd hj (Nat.not_lt_zero _), rfl, rfl⟩, env_, sel_⟩
    · rintro m e H' ⟨i, hi, rfl, hp, rfl, rfl⟩
      refine w_seq ?_
      refine w_region ?_
      refine w_o rfl rfl rfl (op_lt rfl rfl ?_)
      refine w_end ?_
      refine seq_normal ?_
      refine w_seq ?_
      first | refine w_cond rfl (fun hI2 => ?_) (fun hI2 => ?_) | refine w_condB rfl (fun hI2 => ?_) (fun hI2 => ?_)
      · refine w_skip ?_
        refine seq_normal ?_
        refine w_seq ?_
        refine w_block ?_
        refine w_seq ?_
        refine w_region ?_
        refine w_o rfl rfl rfl (op_move rfl ?_)
        refine w_o rfl rfl rfl (op_assign rfl ?_)
        refine w_end ?_
        refine seq_normal ?_
        refine w_seq ?_
        refine w_draw (by decide +kernel) (by decide +kernel) ?_
        refine w_d rfl rfl rfl (op_move rfl ?_)
        refine w_d rfl rfl rfl (op_move rfl ?_)
        refine w_d rfl rfl rfl (op_indexT (enc := encS) (xs := l) und_28 siz_46 rfl rfl h (fun _ => rfl) rfl (by omega) fun b18 o18 z18 h18 e18 => ?_)
        refine w_d rfl rfl rfl (op_loadA agg_46 siz_46 rfl rfl el_ ?_)
        refine w_d rfl rfl rfl (op_move rfl ?_)
        refine w_d rfl rfl rfl (op_move rfl ?_)
        refine w_d rfl rfl rfl (op_indexT (enc := encS) (xs := l') und_28 siz_46 rfl rfl h' (fun _ => rfl) rfl (by omega) fun b22 o22 z22 h22 e22 => ?_)
        refine w_d rfl rfl rfl (op_loadA agg_46 siz_46 rfl rfl el_ ?_)
        refine w_d rfl rfl rfl (op_nes_46 rfl rfl ?_)
        refine w_end ?_
        refine seq_normal ?_
        first | refine w_cond rfl (fun hI3 => ?_) (fun hI3 => ?_) | refine w_condB rfl (fun hI3 => ?_) (fun hI3 => ?_)
        · refine w_seq ?_
          refine w_region ?_
          refine w_o rfl rfl rfl (op_assign rfl ?_)
          refine w_end ?_
          refine seq_normal ?_
          refine w_ret ?_
          refine block_ret ?_
          refine seq_ret ?_
          refine loop_ret ?_
          refine block_ret ?_
          refine seq_ret ?_
          have hne : ¬ (l = l') := by
            intro q
            subst q
            rw [h18] at h22; cases h22
            simp at hI3
          exact ret_bool rfl sel_ (decide_eq_false hne).symm k
        · refine w_skip ?_
          refine block_normal ?_
          refine seq_normal ?_
          refine w_region ?_
          refine w_o rfl rfl rfl (op_addi rfl rfl (by omega) (by omega) ?_)
          refine w_o rfl rfl rfl (op_move rfl ?_)
          refine w_end ?_
          refine loop_normal (k' := l.length - (i + 1)) (by omega) ⟨i + 1, by omega, rfl, ?_, rfl, rfl⟩ env_ sel_
          intro j hj
          by_cases e : j = i
          · subst e
            rw [h18, h22]
            have : z18 = z22 := by
              simp only [Bool.not_eq_false', Bool.and_eq_true, beq_iff_eq] at hI3
              cases z18; cases z22; simp at hI3; simp [hI3.1, hI3.2]
            rw [this]
          · exact hp j (by omega)
      · refine w_exit ?_
        refine seq_exit ?_
        refine loop_exit ?_
        refine block_hit rfl ?_
        refine seq_normal ?_
        refine w_seq ?_
        refine w_region ?_
        refine w_o rfl rfl rfl (op_assign rfl ?_)
        refine w_end ?_
        refine seq_normal ?_
        refine w_ret ?_
        have he : l = l' := by
          apply List.ext_getElem?
          intro j
          by_cases e : j < i
          · exact hp j e
          · rw [List.getElem?_eq_none (by omega), List.getElem?_eq_none (by omega)]
        exact ret_bool rfl sel_ (decide_eq_true he).symm k
theorem SignSame_w {H : Hyp} {K : V → Hyp → Prop} {c c' : Cell} {l l' : List Sign} (h : Sl H 46 2 c l.length (l.flatMap encS)) (h' : Sl H 46 2 c' l'.length (l'.flatMap encS)) (hl : l.length ≤ 1000000) (k : K (vB (decide (l = l'))) H) : CallW Try.prog Xs 24 [.one (.c c), .one (.c c')] H K := by
  refine call_of (n := 8) (fun _ => rfl) Try.func24 rfl rfl ?_
  refine w_seq ?_
  refine w_region ?_
  refine w_o rfl rfl rfl (op_assign rfl ?_)
  refine w_end ?_
  refine seq_normal ?_
  refine w_seq ?_
  refine w_region ?_
  refine w_o rfl rfl rfl (op_move rfl ?_)
  refine w_o rfl rfl rfl (op_move rfl ?_)
  refine w_o rfl rfl rfl (op_call rfl rfl rfl ?_)
  refine EqualS_w h h' hl ?_
  refine w_o rfl rfl rfl (op_assign rfl ?_)
  refine w_end ?_
  refine seq_normal ?_
  refine w_ret ?_
  exact ret_ret rfl sel_ k
/-! ### Deleting in place -/
theorem idx_cases {α : Type} (p : α → Bool) (l : List α) : (∃ (i : Nat) (x : α), l[i]? = some x ∧ p x = true ∧ idxF p l = (i : Int) ∧ ∀ (j : Nat) (y : α), j < i → l[j]? = some y → p y = false) ∨ (idxF p l = -1 ∧ ∀ x ∈ l, p x = false) := by
  by_cases h : ∀ x ∈ l, p x = false
  · exact .inr ⟨idxF_no h, h⟩
  · left
    have hex : ∃ n : Nat, ∃ x, l[n]? = some x ∧ p x = true := by
      apply Classical.byContradiction
      intro hn
      exact h fun x hx => by
        obtain ⟨i, hi⟩ := List.getElem?_of_mem hx
        cases hq : p x with
        | false => rfl
        | true => exact absurd ⟨i, x, hi, hq⟩ hn
    have key : ∀ n : Nat, (∃ x, l[n]? = some x ∧ p x = true) → ∃ (i : Nat) (x : α), l[i]? = some x ∧ p x = true ∧ ∀ (j : Nat) (y : α), j < i → l[j]? = some y → p y = false := by
      intro n
      induction n using Nat.strongRecOn with
      | _ n ih =>
        rintro ⟨x, h1, h2⟩
        by_cases hb : ∃ j : Nat, j < n ∧ ∃ y, l[j]? = some y ∧ p y = true
        · obtain ⟨j, hj, hy⟩ := hb
          exact ih j hj hy
        · refine ⟨n, x, h1, h2, fun j y hj hy => ?_⟩
          cases hq : p y with
          | false => rfl
          | true => exact absurd ⟨j, hj, y, hy, hq⟩ hb
    obtain ⟨n, hn⟩ := hex
    obtain ⟨i, x, h1, h2, h3⟩ := key n hn
    exact ⟨i, x, h1, h2, idxF_at h1 h2 h3, h3⟩
theorem filter_all {α : Type} {f : α → Bool} {l : List α} (h : ∀ x ∈ l, f x = true) : l.filter f = l := List.filter_eq_self.2 h
theorem HL.row_of {te : Nat} {c : Cell} {cs : List Cell} {N : Hyp} (h : HL te c cs N) (hne : cs.length ≠ 0) : ∃ b pre room, c = .sl b pre.length cs.length (.lim pre.length) ∧ N = [(b, .row true te 1 (pre ++ cs ++ room))] := by
  cases h with
  | nil => exact absurd rfl hne
  | row b pre cs room => exact ⟨b, pre, room, rfl, rfl⟩
theorem HL.to {te b n : Nat} {pre cs room : List Cell} (h : cs.length = n) : HL te (.sl b pre.length n (.lim pre.length)) cs [(b, .row true te 1 (pre ++ cs ++ room))] := by
  subst h; exact .row b pre cs room
theorem take_set_end {cur : List Cell} {i : Nat} {z : Cell} (h : i < cur.length) : (cur.set i z).take (i + 1) = cur.take i ++ [z] := by
  rw [List.take_add_one, List.take_set_of_le (by omega), List.getElem?_set_self (by omega)]; rfl
theorem DeleteFunc_w {Hc : Hyp} {K : V → Hyp → Prop} {c : Cell} {cs : List Cell} {N : Hyp} {p : Cell → Bool} {g : Nat} {caps : List (Nat × Nat)} (h : HL 28 c cs N) (hl : cs.length ≤ 1000000)
    (hg : ∀ x ∈ cs, ∀ (H0 : Hyp) (K' : V → Hyp → Prop), Sel H0 Hc → K' (vB (p x)) H0 → CallW Try.prog Xs g ([.one (.c x)] ++ caps.map fun p => ptrV p.1 p.2) H0 K')
    (k : ∀ c' N', HL 28 c' (cs.filter fun x => !p x) N' → K (.one (.c c')) (N' ++ Hc)) : CallW Try.prog Xs 22 [.one (.c c), .one (.c (.fn g caps))] (N ++ Hc) K := by
  have hix := idx_cases p cs
  refine call_of (n := 42) (fun _ => rfl) Try.func22 rfl rfl ?_
  refine w_seq ?_
  refine w_region ?_
  refine w_o rfl rfl rfl (op_assign rfl ?_)
  refine w_end ?_
  refine seq_normal ?_
  refine w_seq ?_
  refine w_region ?_
  refine w_o rfl rfl rfl (op_move rfl ?_)
  refine w_o rfl rfl rfl (op_move rfl ?_)
  refine w_o rfl rfl rfl (op_call rfl rfl rfl ?_)
  refine IndexFuncL_w (p := p) (h.sl.sub (fun y hy => List.mem_append_left _ hy)) (by omega) (fun x hx H0 K' hs k' => hg x hx H0 K' (hs.trans (Sel.dropL _ (.refl _))) k') ?_
  refine w_o rfl rfl rfl (op_assign rfl ?_)
  refine w_end ?_
  refine seq_normal ?_
  refine w_seq ?_
  refine w_seq ?_
  refine w_region ?_
  refine w_o rfl rfl rfl (op_move rfl ?_)
  refine w_o rfl rfl rfl (op_eq rfl rfl ?_)
  refine w_end ?_
  refine seq_normal ?_
  first | refine w_cond rfl (fun hI1 => ?_) (fun hI1 => ?_) | refine w_condB rfl (fun hI1 => ?_) (fun hI1 => ?_)
  · have hno : ∀ x ∈ cs, p x = false := by
      rcases hix with ⟨i, _, _, _, q, _⟩ | ⟨_, q⟩
      · omega
      · exact q
    have hfa : (cs.filter fun x => !p x) = cs := filter_all fun x hx => by rw [hno x hx]; rfl
    rw [hfa] at k
    refine w_seq ?_
    refine w_region ?_
    refine w_o rfl rfl rfl (op_move rfl ?_)
    refine w_o rfl rfl rfl (op_assign rfl ?_)
    refine w_end ?_
    refine seq_normal ?_
    refine w_ret ?_
    refine seq_ret ?_
    exact ret_ret rfl sel_ (k c N h)
  · obtain ⟨i0, x0, hx0, hp0, hi0, hb0⟩ : ∃ (i : Nat) (x : Cell), cs[i]? = some x ∧ p x = true ∧ idxF p cs = (i : Int) ∧ ∀ (j : Nat) (y : Cell), j < i → cs[j]? = some y → p y = false := by
      rcases hix with q | ⟨q, _⟩
      · exact q
      · exact absurd q hI1
    have hlt0 := (List.getElem?_eq_some_iff.1 hx0).1
    obtain ⟨b, pre, room, rfl, rfl⟩ := h.row_of (by omega)
    have hf0 : (cs.take (i0 + 1)).filter (fun x => !p x) = cs.take i0 := by
      rw [List.take_add_one, hx0, List.filter_append, filter_all (fun x hx => by
        obtain ⟨j, hj⟩ := List.getElem?_of_mem hx
        rw [List.getElem?_take] at hj
        split at hj
        · rename_i hji
          rw [hb0 j x hji hj]; rfl
        · cases hj)]
      simp [hp0]
    rw [hi0]
    refine w_skip ?_
    refine seq_normal ?_
    refine w_seq ?_
    refine w_seq ?_
    refine w_region ?_
    refine w_o rfl rfl rfl (op_move rfl ?_)
    refine w_o rfl rfl rfl (op_addi rfl rfl (by omega) (by omega) ?_)
    refine w_o rfl rfl rfl (op_assign rfl ?_)
    refine w_end ?_
    refine seq_normal ?_
    refine w_block ?_
    refine w_loop (fun q e H' => ∃ (j i : Nat) (cur : List Cell), j ≤ cs.length ∧ q = cs.length - j ∧ i < j ∧ cur.length = cs.length ∧ cur.take i = (cs.take j).filter (fun x => !p x) ∧ cur.drop j = cs.drop j ∧ H' = (b, .row true 28 1 (pre ++ cur ++ room)) :: Hc ∧ e = [(0, .one (.c (.sl b pre.length cs.length (.lim pre.length)))), (1, .one (.c (.fn g caps))), (5, vI (i : Nat)), (6, vI (j : Nat))]) ?_ ?_
    · exact ⟨_, _, _, ⟨i0 + 1, i0, cs, by omega, rfl, by omega, rfl, hf0.symm, rfl, rfl, rfl⟩, env_, sel_⟩
    · rintro q e H' ⟨j, i, cur, hj, rfl, hij, hcl, hct, hcd, rfl, rfl⟩
      have hS : Sl ((b, .row true 28 1 (pre ++ cur ++ room)) :: Hc) 28 1 (.sl b pre.length cs.length (.lim pre.length)) cur.length (cur.flatMap encC) := by
        have := (HL.to (te := 28) (b := b) (pre := pre) (room := room) hcl).sl
        exact this.sub fun y hy => by rw [List.mem_singleton] at hy; subst hy; exact List.Mem.head _
      refine w_seq ?_
      refine w_seq ?_
      refine w_region ?_
      refine w_o rfl rfl rfl (op_move rfl ?_)
      refine w_o rfl rfl rfl (op_move rfl ?_)
      refine w_o rfl rfl rfl (op_lenC und_22 rfl (by first | exact ⟨rfl, fun s e => by cases e⟩ | exact Sl.lenC (by assumption) | (refine Own.lenT (by assumption) ?_ ?_ <;> first | exact fun _ => rfl | decide)) ?_)
      refine w_o rfl rfl rfl (op_lt rfl rfl ?_)
      refine w_end ?_
      refine seq_normal ?_
      first | refine w_cond rfl (fun hI2 => ?_) (fun hI2 => ?_) | refine w_condB rfl (fun hI2 => ?_) (fun hI2 => ?_)
      · refine w_skip ?_
        refine seq_normal ?_
        refine w_seq ?_
        refine w_block ?_
        refine w_seq ?_
        refine w_region ?_
        refine w_o rfl rfl rfl (op_move rfl ?_)
        refine w_o rfl rfl rfl (op_move rfl ?_)
        refine w_o rfl rfl rfl (op_indexT (enc := encC) (xs := cur) (j := j) und_22 siz_28 rfl rfl hS (fun _ => rfl) rfl (by omega) fun b24 o24 z24 h24 e24 => ?_)
        have hcj : cs[j]? = some z24 := by
          have := congrArg (·[0]?) hcd
          simp only [List.getElem?_drop, Nat.add_zero] at this
          rw [← this]; exact h24
        have hfs : (cs.take (j + 1)).filter (fun x => !p x) = (cs.take j).filter (fun x => !p x) ++ (if p z24 then [] else [z24]) := by
          rw [List.take_add_one, hcj, List.filter_append]
          cases hq : p z24 <;> simp [hq]
        have hcd1 : cur.drop (j + 1) = cs.drop (j + 1) := by rw [← List.drop_drop, hcd, List.drop_drop]
        refine w_o rfl rfl rfl (op_load1 agg_28 rfl el_ ?_)
        refine w_o rfl rfl rfl (op_assign rfl ?_)
        refine w_end ?_
        refine seq_normal ?_
        refine w_seq ?_
        refine w_region ?_
        refine w_o rfl rfl rfl (op_move rfl ?_)
        refine w_o rfl rfl rfl (op_move rfl ?_)
        refine w_o rfl rfl rfl (op_call rfl rfl rfl ?_)
        refine hg z24 (List.mem_of_getElem? hcj) _ _ (Sel.drop _ (.refl _)) ?_
        refine w_o rfl rfl rfl (op_not rfl ?_)
        refine w_end ?_
        refine seq_normal ?_
        first | refine w_cond rfl (fun hI3 => ?_) (fun hI3 => ?_) | refine w_condB rfl (fun hI3 => ?_) (fun hI3 => ?_)
        · have hpz : p z24 = false := by simpa using hI3
          rw [hpz, if_neg (by decide)] at hfs
          refine w_seq ?_
          refine w_region ?_
          refine w_o rfl rfl rfl (op_move rfl ?_)
          refine w_o rfl rfl rfl (op_move rfl ?_)
          refine w_o rfl rfl rfl (op_move rfl ?_)
          refine w_o rfl rfl rfl (op_indexE und_22 siz_28 rfl rfl (by omega) (by omega) ?_)
          refine w_on rfl rfl (op_store siz_28 rfl rfl rfl (Pick.head _ _ _) (by show pre.length + ((i : Nat) : Int).toNat * 1 + 1 ≤ _; simp only [List.length_append]; omega) (splice_mid (by omega)) ?_)
          refine w_end ?_
          refine seq_normal ?_
          refine w_region ?_
          refine w_o rfl rfl rfl (op_move rfl ?_)
          refine w_o rfl rfl rfl (op_addi rfl rfl (by omega) (by omega) ?_)
          refine w_o rfl rfl rfl (op_assign rfl ?_)
          refine w_end ?_
          refine block_normal ?_
          refine seq_normal ?_
          refine w_region ?_
          refine w_o rfl rfl rfl (op_move rfl ?_)
          refine w_o rfl rfl rfl (op_addi rfl rfl (by omega) (by omega) ?_)
          refine w_o rfl rfl rfl (op_assign rfl ?_)
          refine w_end ?_
          first
            | exact loop_normal (k' := cs.length - (j + 1)) (by omega) ⟨j + 1, i + 1, cur.set i z24, by omega, rfl, by omega, by rw [List.length_set]; exact hcl, (by rw [take_set_end (by omega), hct, hfs]), (by rw [List.drop_set_of_lt (by omega)]; exact hcd1), rfl, rfl⟩ env_ sel_
            | exact loop_normal (k' := cs.length - (j + 1)) (by omega) ⟨j + 1, i, cur, by omega, rfl, by omega, hcl, (by rw [hct, hfs]), hcd1, rfl, rfl⟩ env_ sel_
        · have hpz : p z24 = true := by simpa using hI3
          rw [hpz, if_pos rfl, List.append_nil] at hfs
          refine w_skip ?_
          refine block_normal ?_
          refine seq_normal ?_
          refine w_region ?_
          refine w_o rfl rfl rfl (op_move rfl ?_)
          refine w_o rfl rfl rfl (op_addi rfl rfl (by omega) (by omega) ?_)
          refine w_o rfl rfl rfl (op_assign rfl ?_)
          refine w_end ?_
          first
            | exact loop_normal (k' := cs.length - (j + 1)) (by omega) ⟨j + 1, i + 1, cur.set i z24, by omega, rfl, by omega, by rw [List.length_set]; exact hcl, (by rw [take_set_end (by omega), hct, hfs]), (by rw [List.drop_set_of_lt (by omega)]; exact hcd1), rfl, rfl⟩ env_ sel_
            | exact loop_normal (k' := cs.length - (j + 1)) (by omega) ⟨j + 1, i, cur, by omega, rfl, by omega, hcl, (by rw [hct, hfs]), hcd1, rfl, rfl⟩ env_ sel_
      · refine w_exit ?_
        refine seq_exit ?_
        refine loop_exit ?_
        refine block_hit rfl ?_
        refine seq_normal ?_
        refine w_seq ?_
        refine w_region ?_
        refine w_o rfl rfl rfl (op_move rfl ?_)
        refine w_o rfl rfl rfl (op_move rfl ?_)
        refine w_o rfl rfl rfl (op_sliceE elm_22 siz_28 (by decide) rfl (List.Mem.head _) (by omega) (by simp only [List.length_append]; omega) rfl rfl (by omega) (by omega) (by omega) (by omega) ?_)
        refine w_on rfl rfl (op_clearHL (cells' := pre ++ cur.take i ++ (repeatC [.nils] (cur.length - i) ++ room)) elm_22 siz_28 zer_28 rfl (Pick.head _ _ _) (by simp only [List.length_append]; omega) (by rw [show ((cs.length : Nat) : Int).toNat - ((i : Nat) : Int).toNat = cur.length - i by omega]; exact splice_zero (by omega)) ?_)
        refine w_end ?_
        refine seq_normal ?_
        refine w_seq ?_
        refine w_region ?_
        refine w_o rfl rfl rfl (op_move rfl ?_)
        refine w_o rfl rfl rfl (op_move rfl ?_)
        refine w_o rfl rfl rfl (op_sliceE elm_22 siz_28 (by decide) rfl (List.Mem.head _) (by omega) (by simp only [List.length_append, List.length_take, repeatC_len1]; omega) rfl rfl (by omega) (by omega) (by omega) (by omega) ?_)
        refine w_o rfl rfl rfl (op_assign rfl ?_)
        refine w_end ?_
        refine seq_normal ?_
        refine w_ret ?_
        have hj1 : j = cs.length := by omega
        rw [hj1, List.take_length] at hct
        have hti : (cur.take i).length = i := by rw [List.length_take]; omega
        have hq := HL.to (te := 28) (b := b) (pre := pre) (room := repeatC [.nils] (cur.length - i) ++ room) hti
        rw [hct] at hq
        have k' := k _ _ hq
        rw [← hct] at k'
        exact ret_ret rfl (.refl _) k'
end Go.Proofs.Ytajhjfgoefhdnaa.AM.B
