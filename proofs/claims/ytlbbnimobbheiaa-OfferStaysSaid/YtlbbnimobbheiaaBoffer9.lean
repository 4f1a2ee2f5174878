/- What the document offers. -/
import Derived.Test.YtlbbnimobbheiaaAX
import Derived.Test.YtlbbnimobbheiaaBoffer8
set_option linter.unusedVariables false
set_option linter.unusedSimpArgs false
set_option maxRecDepth 10000
set_option maxHeartbeats 4000000
namespace Go.Proofs.Ytlbbnimobbheiaa.AM.B
open Go Go.RowKit
theorem beg_yes {l w : List Sign} (h1 : w.length ≤ l.length) (h2 : ∀ j, j < w.length → (l[j]?).map (·.f0) = (w[j]?).map (·.f0)) : beginsI (valsS l) (valsS w) = true := by
  refine decide_eq_true ⟨by rw [valsS_len, valsS_len]; exact h1, ?_⟩
  apply List.ext_getElem?
  intro j
  rw [valsS_len, List.getElem?_take]
  unfold valsS
  rw [List.getElem?_map, List.getElem?_map]
  split
  · rename_i q; exact h2 j q
  · rw [List.getElem?_eq_none (by omega)]; rfl
theorem beg_at {l w : List Sign} (h : beginsI (valsS l) (valsS w) = true) : w.length ≤ l.length ∧ ∀ j, j < w.length → (l[j]?).map (·.f0) = (w[j]?).map (·.f0) := by
  have h := of_decide_eq_true h
  rw [valsS_len, valsS_len] at h
  refine ⟨h.1, fun j hj => ?_⟩
  have h2 : ((valsS l).take w.length)[j]? = (valsS w)[j]? := by rw [h.2]
  rw [List.getElem?_take, if_pos hj] at h2
  unfold valsS at h2
  rw [List.getElem?_map, List.getElem?_map] at h2
  exact h2
theorem R04At_w {H H1 H2 : Hyp} {K : V → Hyp → Prop} {c c' : Cell} {l w : List Sign} (h : Sl H1 47 2 c l.length (l.flatMap encS)) (hs : ∀ y ∈ H1, y ∈ H) (h' : Sl H2 47 2 c' w.length (w.flatMap encS)) (hs' : ∀ y ∈ H2, y ∈ H) (hl : l.length ≤ 1000000) (k : K (vB (beginsI (valsS l) (valsS w))) H) : CallW Try.prog Xs 23 [.one (.c c), .one (.c c'), vI 0] H K := by
  have hH := h.sub hs
  have hH' := h'.sub hs'
  refine call_of (n := 38) (fun _ => rfl) Try.func23 rfl rfl ?_
  refine w_seq ?_
  refine w_region ?_
  refine w_o rfl rfl rfl (op_assign rfl ?_)
  refine w_end ?_
  refine seq_normal ?_
  refine w_seq ?_
  refine w_seq ?_
  refine w_region ?_
  refine w_o rfl rfl rfl (op_move rfl ?_)
  refine w_o rfl rfl rfl (op_lt rfl rfl ?_)
  refine w_o rfl rfl rfl (op_move rfl ?_)
  first | refine w_known (t := 10) rfl (fun g10 => ?_) (fun g10 => ?_) | refine w_knownB (t := 10) rfl (fun g10 => ?_) (fun g10 => ?_)
  · exact absurd g10 (by omega) --closed
  · refine w_og rfl rfl rfl rfl rfl (op_move rfl ?_)
    refine w_og rfl rfl rfl rfl rfl (op_lenC und_22 rfl h'.lenC ?_)
    refine w_og rfl rfl rfl rfl rfl (op_move rfl ?_)
    refine w_og rfl rfl rfl rfl rfl (op_lenC und_22 rfl h.lenC ?_)
    refine w_og rfl rfl rfl rfl rfl (op_move rfl ?_)
    refine w_og rfl rfl rfl rfl rfl (op_subi rfl rfl (by omega) (by omega) ?_)
    refine w_og rfl rfl rfl rfl rfl (op_gt rfl rfl ?_)
    refine w_o rfl rfl rfl (op_pick rfl rfl rfl ?_)
    refine w_end ?_
    refine seq_normal ?_
    first | refine w_cond rfl (fun hI1 => ?_) (fun hI1 => ?_) | refine w_condB rfl (fun hI1 => ?_) (fun hI1 => ?_)
    · have hv : false = beginsI (valsS l) (valsS w) := by
        cases hq : beginsI (valsS l) (valsS w) with
        | false => rfl
        | true => have := (beg_at hq).1; omega
      refine w_seq ?_
      refine w_region ?_
      refine w_o rfl rfl rfl (op_assign rfl ?_)
      refine w_end ?_
      refine seq_normal ?_
      refine w_ret ?_
      refine seq_ret ?_
      exact ret_bool rfl sel_ hv k
    · refine w_skip ?_
      refine seq_normal ?_
      refine w_seq ?_
      refine w_seq ?_
      refine w_region ?_
      refine w_o rfl rfl rfl (op_assign rfl ?_)
      refine w_end ?_
      refine seq_normal ?_
      refine w_block ?_
      refine w_loop (fun m e H' => ∃ (i : Nat), i ≤ w.length ∧ m = w.length - i ∧ (∀ (j : Nat), j < i → (l[j]?).map (·.f0) = (w[j]?).map (·.f0)) ∧ H = H' ∧ e = [(0, .one (.c c)), (1, .one (.c c')), (2, vI 0), (7, vI (i : Nat))]) ?_ ?_
      · exact ⟨_, _, _, ⟨0, Nat.zero_le _, rfl, fun j hj => absurd hj (Nat.not_lt_zero _), rfl, rfl⟩, env_, sel_⟩
      · rintro m e H' ⟨i, hi, rfl, hp, rfl, rfl⟩
        refine w_seq ?_
        refine w_seq ?_
        refine w_region ?_
        refine w_o rfl rfl rfl (op_move rfl ?_)
        refine w_o rfl rfl rfl (op_move rfl ?_)
        refine w_o rfl rfl rfl (op_lenC und_22 rfl h'.lenC ?_)
        refine w_o rfl rfl rfl (op_lt rfl rfl ?_)
        refine w_end ?_
        refine seq_normal ?_
        first | refine w_cond rfl (fun hI2 => ?_) (fun hI2 => ?_) | refine w_condB rfl (fun hI2 => ?_) (fun hI2 => ?_)
        · refine w_skip ?_
          refine seq_normal ?_
          refine w_seq ?_
          refine w_block ?_
          refine w_seq ?_
          refine w_draw (by decide +kernel) (by decide +kernel) ?_
          refine w_d rfl rfl rfl (op_move rfl ?_)
          refine w_d rfl rfl rfl (op_move rfl ?_)
          refine w_d rfl rfl rfl (op_move rfl ?_)
          refine w_d rfl rfl rfl (op_addi rfl rfl (by omega) (by omega) ?_)
          refine w_d rfl rfl rfl (op_indexT (enc := encS) (xs := l) (j := i) und_22 siz_47 rfl rfl hH (fun _ => rfl) (by omega) (by omega) fun b29 o29 z29 h29 e29 => ?_)
          refine w_d rfl rfl rfl (op_fieldAddr fa_47_0 rfl ?_)
          refine w_d rfl rfl rfl (op_loadF agg_3 rfl el_ rfl ?_)
          refine w_d rfl rfl rfl (op_move rfl ?_)
          refine w_d rfl rfl rfl (op_move rfl ?_)
          refine w_d rfl rfl rfl (op_indexT (enc := encS) (xs := w) (j := i) und_22 siz_47 rfl rfl hH' (fun _ => rfl) rfl (by omega) fun b34 o34 z34 h34 e34 => ?_)
          refine w_d rfl rfl rfl (op_fieldAddr fa_47_0 rfl ?_)
          refine w_d rfl rfl rfl (op_loadF agg_3 rfl el_ rfl ?_)
          refine w_d rfl rfl rfl (op_ne rfl rfl ?_)
          refine w_end ?_
          refine seq_normal ?_
          first | refine w_cond rfl (fun hI3 => ?_) (fun hI3 => ?_) | refine w_condB rfl (fun hI3 => ?_) (fun hI3 => ?_)
          · refine w_seq ?_
            refine w_region ?_
            refine w_o rfl rfl rfl (op_assign rfl ?_)
            refine w_end ?_
            refine seq_normal ?_
            refine w_ret ?_
            refine block_ret ?_
            refine seq_ret ?_
            refine loop_ret ?_
            refine block_ret ?_
            refine seq_ret ?_
            have hv : false = beginsI (valsS l) (valsS w) := by
              cases hq : beginsI (valsS l) (valsS w) with
              | false => rfl
              | true =>
                have := (beg_at hq).2 i (by omega)
                rw [h29, h34] at this
                simp only [Option.map_some, Option.some.injEq] at this
                exact absurd this hI3
            exact ret_bool rfl sel_ hv k
          · refine w_skip ?_
            refine block_normal ?_
            refine seq_normal ?_
            refine w_region ?_
            refine w_o rfl rfl rfl (op_move rfl ?_)
            refine w_o rfl rfl rfl (op_addi rfl rfl (by omega) (by omega) ?_)
            refine w_o rfl rfl rfl (op_assign rfl ?_)
            refine w_end ?_
            refine loop_normal (k' := w.length - (i + 1)) (by omega) ⟨i + 1, by omega, rfl, ?_, rfl, rfl⟩ env_ sel_
            intro j hj
            by_cases e : j = i
            · subst e
              have : z29.f0 = z34.f0 := by omega
              rw [h29, h34]; simp only [Option.map_some, this]
            · exact hp j (by omega)
        · refine w_exit ?_
          refine seq_exit ?_
          refine loop_exit ?_
          refine block_hit rfl ?_
          refine seq_normal ?_
          refine w_seq ?_
          refine w_region ?_
          refine w_o rfl rfl rfl (op_assign rfl ?_)
          refine w_end ?_
          refine seq_normal ?_
          refine w_ret ?_
          exact ret_bool rfl sel_ (beg_yes (by omega) (fun j hj => hp j (by omega))).symm k
theorem withS_eq {y x : List Sign} (h : ∀ s ∈ y, s.f1 = 4) : y = withS x 4 ↔ valsS y = valsS x := by
  constructor
  · rintro rfl; exact valsS_withS x 4
  · intro e
    induction y generalizing x with
    | nil =>
      cases x with
      | nil => rfl
      | cons b bs => simp [valsS] at e
    | cons s ss ih =>
      cases x with
      | nil => simp [valsS] at e
      | cons b bs =>
        unfold valsS at e
        simp only [List.map_cons, List.cons.injEq] at e
        have h1 := h s (List.mem_cons_self ..)
        have h2 := ih (x := bs) (fun z hz => h z (List.mem_cons_of_mem _ hz)) e.2
        unfold withS
        rw [List.map_cons]
        rw [h2]
        unfold withS
        cases s
        simp only at h1 e
        rw [h1, e.1]
theorem again_eq {L : List (List Sign)} {x : List Sign} (h : ∀ y ∈ L, ∀ s ∈ y, s.f1 = 4) : (L.any fun y => decide (y = withS x 4)) = L.any fun y => decide (valsS y = valsS x) := by
  rw [Bool.eq_iff_iff, List.any_eq_true, List.any_eq_true]
  constructor
  · rintro ⟨y, hy, e⟩
    exact ⟨y, hy, decide_eq_true ((withS_eq (h y hy)).1 (of_decide_eq_true e))⟩
  · rintro ⟨y, hy, e⟩
    exact ⟨y, hy, decide_eq_true ((withS_eq (h y hy)).2 (of_decide_eq_true e))⟩
theorem R26Offered_w {H H1 : Hyp} {K : V → Hyp → Prop} {cw cc : Cell} {w : List Sign} {C : List (List Sign)} (hw : Sl H1 47 2 cw w.length (w.flatMap encS)) (hs : ∀ y ∈ H1, y ∈ H) (hC : KVo H C cc) (hwl : w.length ≤ 1000) (hCl : C.length ≤ 1000) (hCe : ∀ x ∈ C, x.length ≤ 40) (k : ∀ c' N, KVo N (offL w C) c' → K (.one (.c c')) (N ++ H)) : CallW Try.prog Xs 11 [.one (.c cw), .one (.c cc)] H K := by
  have hW := hw.sub hs
  obtain ⟨cs, g1, g2, g3⟩ := hC
  refine call_of (n := 62) (fun _ => rfl) Try.func11 rfl rfl ?_
  refine w_seq ?_
  refine w_region ?_
  refine w_o rfl rfl rfl (op_assign rfl ?_)
  refine w_end ?_
  refine seq_normal ?_
  refine w_seq ?_
  refine w_region ?_
  refine w_o rfl rfl rfl (op_assign rfl ?_)
  refine w_end ?_
  refine seq_normal ?_
  refine w_seq ?_
  refine w_seq ?_
  refine w_region ?_
  refine w_o rfl rfl rfl (op_assign rfl ?_)
  refine w_end ?_
  refine seq_normal ?_
  refine w_block ?_
  refine w_loop (fun q e H' => ∃ (i : Nat) (co : Cell) (ds : List Cell) (No Ni : Hyp), i ≤ C.length ∧ q = C.length - i ∧ Own 22 1 co (ds.flatMap encC) No ∧ ds.length = (offP w C i).length ∧ (∀ (j : Nat) (c : Cell) (x : List Sign), ds[j]? = some c → (offP w C i)[j]? = some x → Sl Ni 47 2 c x.length (x.flatMap encS)) ∧ H' = No ++ (Ni ++ H) ∧ e = [(0, .one (.c cw)), (1, .one (.c cc)), (5, .one (.c co)), (6, vI (i : Nat))]) ?_ ?_
  · exact ⟨_, _, _, ⟨0, .nils, [], [], [], Nat.zero_le _, rfl, .nil, by rw [offP_zero]; rfl, (fun j c x h => by simp at h), rfl, rfl⟩, env_, sel_⟩
  · rintro q e H' ⟨i, co, ds, No, Ni, hi, rfl, hO, hcl, hin, rfl, rfl⟩
    have hpl := offP_len w C i hi
    have hok := offP_ok w C hCe i hi
    have hD : Sl No 22 1 co ds.length (ds.flatMap encC) := hO.slT (fun _ => rfl) (by decide) (fun _ q => q)
    refine w_seq ?_
    refine w_seq ?_
    refine w_region ?_
    refine w_o rfl rfl rfl (op_move rfl ?_)
    refine w_o rfl rfl rfl (op_move rfl ?_)
    refine w_o rfl rfl rfl (op_lenC und_25 rfl g1.lenC ?_)
    refine w_o rfl rfl rfl (op_lt rfl rfl ?_)
    refine w_end ?_
    refine seq_normal ?_
    first | refine w_cond rfl (fun hI1 => ?_) (fun hI1 => ?_) | refine w_condB rfl (fun hI1 => ?_) (fun hI1 => ?_)
    · obtain ⟨x, hx⟩ : ∃ x, C[i]? = some x := ⟨_, List.getElem?_eq_getElem (by omega)⟩
      have hxl := hCe x (List.mem_of_getElem? hx)
      refine w_skip ?_
      refine seq_normal ?_
      refine w_seq ?_
      refine w_block ?_
      refine w_seq ?_
      refine w_region ?_
      refine w_o rfl rfl rfl (op_move rfl ?_)
      refine w_o rfl rfl rfl (op_move rfl ?_)
      refine w_o rfl rfl rfl (op_indexT (enc := encC) (xs := cs) (j := i) und_25 siz_22 rfl rfl (g1.sub subs_) (fun _ => rfl) rfl (by omega) fun b18 o18 z18 h18 e18 => ?_)
      have hx18 := g3 i z18 x h18 hx
      refine w_o rfl rfl rfl (op_load1 agg_22 rfl el_ ?_)
      refine w_o rfl rfl rfl (op_assign rfl ?_)
      refine w_end ?_
      refine seq_normal ?_
      refine w_seq ?_
      refine w_seq ?_
      refine w_region ?_
      refine w_o rfl rfl rfl (op_move rfl ?_)
      refine w_o rfl rfl rfl (op_call rfl rfl rfl ?_)
      refine R04All_w (hx18.sub subs_) (by omega) ?_
      refine w_o rfl rfl rfl (op_not rfl ?_)
      refine w_o rfl rfl rfl (op_move rfl ?_)
      first | refine w_known (t := 23) rfl (fun g23 => ?_) (fun g23 => ?_) | refine w_knownB (t := 23) rfl (fun g23 => ?_) (fun g23 => ?_)
      · have hst : offV w (offP w C i) x = false := by
          unfold offV
          rw [decide_eq_false (fun q => by rw [q.1] at g23; cases g23)]; rfl
        refine w_u rfl rfl rfl rfl rfl rfl ?_
        refine w_u rfl rfl rfl rfl rfl rfl ?_
        refine w_u rfl rfl rfl rfl rfl rfl ?_
        refine w_u rfl rfl rfl rfl rfl rfl ?_
        refine w_u rfl rfl rfl rfl rfl rfl ?_
        refine w_o rfl rfl rfl (op_pick rfl rfl rfl ?_)
        refine w_o rfl rfl rfl (op_move rfl ?_)
        refine w_u rfl rfl rfl rfl rfl rfl ?_
        refine w_u rfl rfl rfl rfl rfl rfl ?_
        refine w_u rfl rfl rfl rfl rfl rfl ?_
        refine w_o rfl rfl rfl (op_pick rfl rfl rfl ?_)
        refine w_o rfl rfl rfl (op_move rfl ?_)
        refine w_u rfl rfl rfl rfl rfl rfl ?_
        refine w_u rfl rfl rfl rfl rfl rfl ?_
        refine w_u rfl rfl rfl rfl rfl rfl ?_
        refine w_u rfl rfl rfl rfl rfl rfl ?_
        refine w_o rfl rfl rfl (op_pick rfl rfl rfl ?_)
        refine w_end ?_
        refine seq_normal ?_
        refine w_condT rfl ?_
        refine w_exit ?_
        refine seq_exit ?_
        refine block_hit rfl ?_
        refine seq_normal ?_
        refine w_region ?_
        refine w_o rfl rfl rfl (op_move rfl ?_)
        refine w_o rfl rfl rfl (op_addi rfl rfl (by omega) (by omega) ?_)
        refine w_o rfl rfl rfl (op_assign rfl ?_)
        refine w_end ?_
        first
          | exact loop_normal (k' := C.length - (i + 1)) (by omega) ⟨i + 1, c60, ds ++ [c58], N60, N58 ++ Ni, by omega, rfl, h60, by rw [offP_yes hx hst, List.length_append, List.length_append, hcl]; rfl, (by rw [offP_yes hx hst]; exact in_snocM hcl hin (h58.slT (fun _ => rfl) (by decide) (fun _ q => q))), rfl, rfl⟩ env_ sel_
          | exact loop_normal (k' := C.length - (i + 1)) (by omega) ⟨i + 1, co, ds, No, Ni, by omega, rfl, hO, by rw [offP_no hx hst]; exact hcl, (by rw [offP_no hx hst]; exact hin), rfl, rfl⟩ env_ sel_
      · have hall : x.all rightS = true := by simpa using g23
        refine w_og rfl rfl rfl rfl rfl (op_move rfl ?_)
        refine w_og rfl rfl rfl rfl rfl (op_lenC und_22 rfl hx18.lenC ?_)
        refine w_og rfl rfl rfl rfl rfl (op_move rfl ?_)
        refine w_og rfl rfl rfl rfl rfl (op_lenC und_22 rfl hw.lenC ?_)
        refine w_og rfl rfl rfl rfl rfl (op_le rfl rfl ?_)
        refine w_o rfl rfl rfl (op_pick rfl rfl rfl ?_)
        refine w_o rfl rfl rfl (op_move rfl ?_)
        first | refine w_known (t := 30) rfl (fun g30 => ?_) (fun g30 => ?_) | refine w_knownB (t := 30) rfl (fun g30 => ?_) (fun g30 => ?_)
        · have hst : offV w (offP w C i) x = false := by
            unfold offV
            rw [decide_eq_false (fun q => by have := q.2.1; omega)]; rfl
          refine w_u rfl rfl rfl rfl rfl rfl ?_
          refine w_u rfl rfl rfl rfl rfl rfl ?_
          refine w_u rfl rfl rfl rfl rfl rfl ?_
          refine w_o rfl rfl rfl (op_pick rfl rfl rfl ?_)
          refine w_o rfl rfl rfl (op_move rfl ?_)
          refine w_u rfl rfl rfl rfl rfl rfl ?_
          refine w_u rfl rfl rfl rfl rfl rfl ?_
          refine w_u rfl rfl rfl rfl rfl rfl ?_
          refine w_u rfl rfl rfl rfl rfl rfl ?_
          refine w_o rfl rfl rfl (op_pick rfl rfl rfl ?_)
          refine w_end ?_
          refine seq_normal ?_
          refine w_condT rfl ?_
          refine w_exit ?_
          refine seq_exit ?_
          refine block_hit rfl ?_
          refine seq_normal ?_
          refine w_region ?_
          refine w_o rfl rfl rfl (op_move rfl ?_)
          refine w_o rfl rfl rfl (op_addi rfl rfl (by omega) (by omega) ?_)
          refine w_o rfl rfl rfl (op_assign rfl ?_)
          refine w_end ?_
          first
            | exact loop_normal (k' := C.length - (i + 1)) (by omega) ⟨i + 1, c60, ds ++ [c58], N60, N58 ++ Ni, by omega, rfl, h60, by rw [offP_yes hx hst, List.length_append, List.length_append, hcl]; rfl, (by rw [offP_yes hx hst]; exact in_snocM hcl hin (h58.slT (fun _ => rfl) (by decide) (fun _ q => q))), rfl, rfl⟩ env_ sel_
            | exact loop_normal (k' := C.length - (i + 1)) (by omega) ⟨i + 1, co, ds, No, Ni, by omega, rfl, hO, by rw [offP_no hx hst]; exact hcl, (by rw [offP_no hx hst]; exact hin), rfl, rfl⟩ env_ sel_
        · refine w_og rfl rfl rfl rfl rfl (op_move rfl ?_)
          refine w_og rfl rfl rfl rfl rfl (op_lenC und_22 rfl hx18.lenC ?_)
          refine w_og rfl rfl rfl rfl rfl (op_gt rfl rfl ?_)
          refine w_o rfl rfl rfl (op_pick rfl rfl rfl ?_)
          refine w_o rfl rfl rfl (op_move rfl ?_)
          first | refine w_known (t := 35) rfl (fun g35 => ?_) (fun g35 => ?_) | refine w_knownB (t := 35) rfl (fun g35 => ?_) (fun g35 => ?_)
          · have hst : offV w (offP w C i) x = false := by
              unfold offV
              rw [decide_eq_false (fun q => by have := q.2.2; omega)]; rfl
            refine w_u rfl rfl rfl rfl rfl rfl ?_
            refine w_u rfl rfl rfl rfl rfl rfl ?_
            refine w_u rfl rfl rfl rfl rfl rfl ?_
            refine w_u rfl rfl rfl rfl rfl rfl ?_
            refine w_o rfl rfl rfl (op_pick rfl rfl rfl ?_)
            refine w_end ?_
            refine seq_normal ?_
            refine w_condT rfl ?_
            refine w_exit ?_
            refine seq_exit ?_
            refine block_hit rfl ?_
            refine seq_normal ?_
            refine w_region ?_
            refine w_o rfl rfl rfl (op_move rfl ?_)
            refine w_o rfl rfl rfl (op_addi rfl rfl (by omega) (by omega) ?_)
            refine w_o rfl rfl rfl (op_assign rfl ?_)
            refine w_end ?_
            first
              | exact loop_normal (k' := C.length - (i + 1)) (by omega) ⟨i + 1, c60, ds ++ [c58], N60, N58 ++ Ni, by omega, rfl, h60, by rw [offP_yes hx hst, List.length_append, List.length_append, hcl]; rfl, (by rw [offP_yes hx hst]; exact in_snocM hcl hin (h58.slT (fun _ => rfl) (by decide) (fun _ q => q))), rfl, rfl⟩ env_ sel_
              | exact loop_normal (k' := C.length - (i + 1)) (by omega) ⟨i + 1, co, ds, No, Ni, by omega, rfl, hO, by rw [offP_no hx hst]; exact hcl, (by rw [offP_no hx hst]; exact hin), rfl, rfl⟩ env_ sel_
          · refine w_og rfl rfl rfl rfl rfl (op_move rfl ?_)
            refine w_og rfl rfl rfl rfl rfl (op_move rfl ?_)
            refine w_og rfl rfl rfl rfl rfl (op_call rfl rfl rfl ?_)
            refine R04At_w hx18 subs_ hW subs_ (by omega) ?_
            refine w_og rfl rfl rfl rfl rfl (op_not rfl ?_)
            refine w_o rfl rfl rfl (op_pick rfl rfl rfl ?_)
            refine w_end ?_
            refine seq_normal ?_
            first | refine w_cond rfl (fun hI2 => ?_) (fun hI2 => ?_) | refine w_condB rfl (fun hI2 => ?_) (fun hI2 => ?_)
            · have hst : offV w (offP w C i) x = false := by
                unfold offV
                rw [show beginsI (valsS x) (valsS w) = false by simpa using hI2, Bool.and_false]; rfl
              refine w_exit ?_
              refine seq_exit ?_
              refine block_hit rfl ?_
              refine seq_normal ?_
              refine w_region ?_
              refine w_o rfl rfl rfl (op_move rfl ?_)
              refine w_o rfl rfl rfl (op_addi rfl rfl (by omega) (by omega) ?_)
              refine w_o rfl rfl rfl (op_assign rfl ?_)
              refine w_end ?_
              first
                | exact loop_normal (k' := C.length - (i + 1)) (by omega) ⟨i + 1, c60, ds ++ [c58], N60, N58 ++ Ni, by omega, rfl, h60, by rw [offP_yes hx hst, List.length_append, List.length_append, hcl]; rfl, (by rw [offP_yes hx hst]; exact in_snocM hcl hin (h58.slT (fun _ => rfl) (by decide) (fun _ q => q))), rfl, rfl⟩ env_ sel_
                | exact loop_normal (k' := C.length - (i + 1)) (by omega) ⟨i + 1, co, ds, No, Ni, by omega, rfl, hO, by rw [offP_no hx hst]; exact hcl, (by rw [offP_no hx hst]; exact hin), rfl, rfl⟩ env_ sel_
            · have hbg : beginsI (valsS x) (valsS w) = true := by simpa using hI2
              refine w_skip ?_
              refine seq_normal ?_
              refine w_seq ?_
              refine w_region ?_
              refine w_o rfl rfl rfl (op_assign rfl ?_)
              refine w_end ?_
              refine seq_normal ?_
              refine w_seq ?_
              refine w_seq ?_
              refine w_region ?_
              refine w_o rfl rfl rfl (op_assign rfl ?_)
              refine w_end ?_
              refine seq_normal ?_
              refine w_block ?_
              refine w_loop (fun q e H' => ∃ (j : Nat), j ≤ ds.length ∧ q = ds.length - j ∧ No ++ (Ni ++ H) = H' ∧ e = [(0, .one (.c cw)), (1, .one (.c cc)), (5, .one (.c co)), (6, vI (i : Nat)), (7, .one (.c z18)), (8, vB (((offP w C i).take j).any fun y => decide (y = withS x 4))), (9, vI (j : Nat))]) ?_ ?_
              · exact ⟨_, _, _, ⟨0, Nat.zero_le _, rfl, rfl, rfl⟩, by rw [List.take_zero, List.any_nil]; exact env_, sel_⟩
              · rintro q e H' ⟨j, hj, rfl, rfl, rfl⟩
                refine w_seq ?_
                refine w_seq ?_
                refine w_region ?_
                refine w_o rfl rfl rfl (op_move rfl ?_)
                refine w_o rfl rfl rfl (op_move rfl ?_)
                refine w_o rfl rfl rfl (op_lenC und_25 rfl (by first | exact ⟨rfl, fun s e => by cases e⟩ | exact Sl.lenC (by assumption) | (refine Own.lenT (by assumption) ?_ ?_ <;> first | exact fun _ => rfl | decide)) ?_)
                refine w_o rfl rfl rfl (op_lt rfl rfl ?_)
                refine w_end ?_
                refine seq_normal ?_
                first | refine w_cond rfl (fun hI3 => ?_) (fun hI3 => ?_) | refine w_condB rfl (fun hI3 => ?_) (fun hI3 => ?_)
                · obtain ⟨y, hy⟩ : ∃ y, (offP w C i)[j]? = some y := ⟨_, List.getElem?_eq_getElem (by omega)⟩
                  have hyl := (hok.1 y (List.mem_of_getElem? hy)).1
                  refine w_skip ?_
                  refine seq_normal ?_
                  refine w_seq ?_
                  refine w_block ?_
                  refine w_seq ?_
                  refine w_drawF (No ++ (Ni ++ H)) sel_ (by decide +kernel) (by decide +kernel) ?_
                  refine f_b (guard_none rfl) rfl rfl rfl rfl (op_move rfl ?_)
                  refine f_b (guard_none rfl) rfl rfl rfl rfl (op_move rfl ?_)
                  refine f_b (guard_none rfl) rfl rfl rfl rfl (op_indexT (enc := encC) (xs := ds) (j := j) und_25 siz_22 rfl rfl (hD.sub subs_) (fun _ => rfl) rfl (by omega) fun b49 o49 z49 h49 e49 => ?_)
                  refine f_l (guard_none rfl) rfl rfl rfl sel_ (op_load1 agg_22 rfl el_ rfl) ?_
                  refine f_b (guard_none rfl) rfl rfl rfl rfl (op_move rfl ?_)
                  refine f_m (guard_none rfl) rfl rfl rfl (op_call rfl rfl rfl ?_)
                  refine R04With_w hx18 subs_ (by omega) fun c52 N52 h52 => ?_
                  refine ⟨sel_, ?_⟩
                  refine f_m (guard_none rfl) rfl rfl rfl (op_call rfl rfl rfl ?_)
                  refine R04Same_w (l := y) (l' := withS x 4) ((hin j z49 y h49 hy).sub subs_) (h52.slT (fun _ => rfl) (by decide) (fun y hy => List.mem_append_left _ hy)) (by omega) ?_
                  refine ⟨sel_, ?_⟩
                  refine f_end ?_
                  refine seq_normal ?_
                  first | refine w_cond rfl (fun hI4 => ?_) (fun hI4 => ?_) | refine w_condB rfl (fun hI4 => ?_) (fun hI4 => ?_)
                  · have hs4 : true = ((offP w C i).take (j + 1)).any fun y => decide (y = withS x 4) := by
                      rw [List.take_add_one, hy, List.any_append]
                      simp only [Option.toList_some, List.any_cons, List.any_nil, Bool.or_false, decide_eq_true hI4, Bool.or_true]
                    refine w_region ?_
                    refine w_o rfl rfl rfl (op_assign rfl ?_)
                    refine w_end ?_
                    refine block_normal ?_
                    refine seq_normal ?_
                    refine w_region ?_
                    refine w_o rfl rfl rfl (op_move rfl ?_)
                    refine w_o rfl rfl rfl (op_addi rfl rfl (by omega) (by omega) ?_)
                    refine w_o rfl rfl rfl (op_assign rfl ?_)
                    refine w_end ?_
                    exact loop_normal (k' := ds.length - (j + 1)) (by omega) ⟨j + 1, by omega, rfl, rfl, rfl⟩ (by rw [← hs4]; exact env_) sel_
                  · have hs4 : (((offP w C i).take j).any fun y => decide (y = withS x 4)) = ((offP w C i).take (j + 1)).any fun y => decide (y = withS x 4) := by
                      rw [List.take_add_one, hy, List.any_append]
                      simp only [Option.toList_some, List.any_cons, List.any_nil, Bool.or_false, decide_eq_false hI4, Bool.or_false]
                    refine w_skip ?_
                    refine block_normal ?_
                    refine seq_normal ?_
                    refine w_region ?_
                    refine w_o rfl rfl rfl (op_move rfl ?_)
                    refine w_o rfl rfl rfl (op_addi rfl rfl (by omega) (by omega) ?_)
                    refine w_o rfl rfl rfl (op_assign rfl ?_)
                    refine w_end ?_
                    exact loop_normal (k' := ds.length - (j + 1)) (by omega) ⟨j + 1, by omega, rfl, rfl, rfl⟩ (by rw [← hs4]; exact env_) sel_
                · refine w_exit ?_
                  refine seq_exit ?_
                  refine loop_exit ?_
                  refine block_hit rfl ?_
                  refine seq_normal ?_
                  refine w_seq ?_
                  refine w_region ?_
                  refine w_o rfl rfl rfl (op_move rfl ?_)
                  refine w_o rfl rfl rfl (op_not rfl ?_)
                  refine w_end ?_
                  refine seq_normal ?_
                  first | refine w_cond rfl (fun hI5 => ?_) (fun hI5 => ?_) | refine w_condB rfl (fun hI5 => ?_) (fun hI5 => ?_)
                  · have hst : offV w (offP w C i) x = true := by
                      rw [List.take_of_length_le (by omega), again_eq (fun y hy => (hok.1 y hy).2.2.2)] at hI5
                      unfold offV
                      rw [decide_eq_true ⟨hall, by omega, by omega⟩, hbg, hI5]; rfl
                    refine w_region ?_
                    refine w_o rfl rfl rfl (op_move rfl ?_)
                    refine w_o rfl rfl rfl (op_move rfl ?_)
                    refine w_o rfl rfl rfl (op_call rfl rfl rfl ?_)
                    refine R04With_w hx18 subs_ (by omega) fun c58 N58 h58 => ?_
                    refine w_o rfl rfl rfl (op_buildSlice rfl (bsl_25 _ _ _ (rfl : _ = some [_]) rfl (by decide)) fun b59 => ?_)
                    refine w_o rfl rfl rfl (op_append1 (xs := ds) (enc := encC) (z0 := c58) elm_25 inf_22 zer_22 (by decide) und_25 rfl rfl hO (fun _ => rfl) (by (repeat (first | exact PickL.front _ _ | exact PickL.nil _ | apply PickL.skip | apply PickL.skipL)); first | done | fail) rfl (by omega) fun c60 N60 h60 => ?_)
                    refine w_o rfl rfl rfl (op_assign rfl ?_)
                    refine w_end ?_
                    refine block_normal ?_
                    refine seq_normal ?_
                    refine w_region ?_
                    refine w_o rfl rfl rfl (op_move rfl ?_)
                    refine w_o rfl rfl rfl (op_addi rfl rfl (by omega) (by omega) ?_)
                    refine w_o rfl rfl rfl (op_assign rfl ?_)
                    refine w_end ?_
                    first
                      | exact loop_normal (k' := C.length - (i + 1)) (by omega) ⟨i + 1, c60, ds ++ [c58], N60, N58 ++ Ni, by omega, rfl, h60, by rw [offP_yes hx hst, List.length_append, List.length_append, hcl]; rfl, (by rw [offP_yes hx hst]; exact in_snocM hcl hin (h58.slT (fun _ => rfl) (by decide) (fun _ q => q))), rfl, rfl⟩ env_ sel_
                      | exact loop_normal (k' := C.length - (i + 1)) (by omega) ⟨i + 1, co, ds, No, Ni, by omega, rfl, hO, by rw [offP_no hx hst]; exact hcl, (by rw [offP_no hx hst]; exact hin), rfl, rfl⟩ env_ sel_
                  · have hst : offV w (offP w C i) x = false := by
                      rw [List.take_of_length_le (by omega), again_eq (fun y hy => (hok.1 y hy).2.2.2)] at hI5
                      unfold offV
                      rw [hI5, Bool.and_false]
                    refine w_skip ?_
                    refine block_normal ?_
                    refine seq_normal ?_
                    refine w_region ?_
                    refine w_o rfl rfl rfl (op_move rfl ?_)
                    refine w_o rfl rfl rfl (op_addi rfl rfl (by omega) (by omega) ?_)
                    refine w_o rfl rfl rfl (op_assign rfl ?_)
                    refine w_end ?_
                    first
                      | exact loop_normal (k' := C.length - (i + 1)) (by omega) ⟨i + 1, c60, ds ++ [c58], N60, N58 ++ Ni, by omega, rfl, h60, by rw [offP_yes hx hst, List.length_append, List.length_append, hcl]; rfl, (by rw [offP_yes hx hst]; exact in_snocM hcl hin (h58.slT (fun _ => rfl) (by decide) (fun _ q => q))), rfl, rfl⟩ env_ sel_
                      | exact loop_normal (k' := C.length - (i + 1)) (by omega) ⟨i + 1, co, ds, No, Ni, by omega, rfl, hO, by rw [offP_no hx hst]; exact hcl, (by rw [offP_no hx hst]; exact hin), rfl, rfl⟩ env_ sel_
    · refine w_exit ?_
      refine seq_exit ?_
      refine loop_exit ?_
      refine block_hit rfl ?_
      refine seq_normal ?_
      refine w_seq ?_
      refine w_region ?_
      refine w_o rfl rfl rfl (op_move rfl ?_)
      refine w_o rfl rfl rfl (op_assign rfl ?_)
      refine w_end ?_
      refine seq_normal ?_
      refine w_ret ?_
      have hi' : i = C.length := by omega
      subst hi'
      exact ret_ret rfl sel_ (k co (No ++ Ni) ⟨ds, hD.sub subs_, hcl, fun j d z p q => (hin j d z p q).sub subs_⟩)
end Go.Proofs.Ytlbbnimobbheiaa.AM.B
