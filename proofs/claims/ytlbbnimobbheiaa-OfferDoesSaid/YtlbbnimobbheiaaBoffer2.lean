/- What is offered: the candidates that serve. -/
import Derived.Test.YtlbbnimobbheiaaAX
import Derived.Test.YtlbbnimobbheiaaBoffer1
set_option linter.unusedVariables false
set_option linter.unusedSimpArgs false
set_option maxRecDepth 10000
set_option maxHeartbeats 4000000
namespace Go.Proofs.Ytlbbnimobbheiaa.AM.B
open Go Go.RowKit
theorem IndexFuncL_w {H : Hyp} {K : V → Hyp → Prop} {c : Cell} {l : List (Cell)} {p : Cell → Bool} {g : Nat} {caps : List (Nat × Nat)} (h : Sl H 22 1 c l.length (l.flatMap encC)) (hl : l.length ≤ 1000000000)
    (hg : ∀ x ∈ l, ∀ (H0 : Hyp) (K' : V → Hyp → Prop), Sel H0 H → K' (vB (p x)) H0 → CallW Try.prog Xs g ([.one (.c x)] ++ caps.map fun p => ptrV p.1 p.2) H0 K')
    (k : K (vI (idxF p l)) H) : CallW Try.prog Xs 61 [.one (.c c), .one (.c (.fn g caps))] H K := by
  refine call_of (n := 19) (fun _ => rfl) Try.func61 rfl rfl ?_
  refine w_seq ?_
  refine w_region ?_
  refine w_o rfl rfl rfl (op_assign rfl ?_)
  refine w_end ?_
  refine seq_normal ?_
  refine w_seq ?_
  refine w_seq ?_
  refine w_region ?_
  refine w_o rfl rfl rfl (op_move rfl ?_)
  refine w_o rfl rfl rfl (op_lenC und_25 rfl (by first | exact ⟨rfl, fun s e => by cases e⟩ | exact Sl.lenC (by assumption) | (refine Own.lenT (by assumption) ?_ ?_ <;> first | exact fun _ => rfl | decide)) ?_)
  refine w_o rfl rfl rfl (op_move rfl ?_)
  refine w_end ?_
  refine seq_normal ?_
  refine w_block ?_
  refine w_loop (fun m e H' => ∃ (i : Nat), i ≤ l.length ∧ m = l.length - i ∧ (∀ j x, j < i → l[j]? = some x → p x = false) ∧ H = H' ∧ e = [(0, .one (.c c)), (1, .one (.c (.fn g caps))), (7, vI (l.length : Nat)), (8, vI (i : Nat))]) ?_ ?_
  · exact ⟨_, _, _, ⟨0, Nat.zero_le _, rfl, fun j x hj => absurd hj (Nat.not_lt_zero _), rfl, rfl⟩, env_, sel_⟩
  · rintro m e H' ⟨i, hi, rfl, hp, rfl, rfl⟩
    refine w_seq ?_
    refine w_region ?_
    refine w_o rfl rfl rfl (op_lt rfl rfl ?_)
    refine w_end ?_
    refine seq_normal ?_
    refine w_seq ?_
    first | refine w_cond rfl (fun hI1 => ?_) (fun hI1 => ?_) | refine w_condB rfl (fun hI1 => ?_) (fun hI1 => ?_)
    · refine w_skip ?_
      refine seq_normal ?_
      refine w_seq ?_
      refine w_block ?_
      refine w_seq ?_
      refine w_region ?_
      refine w_o rfl rfl rfl (op_move rfl ?_)
      refine w_o rfl rfl rfl (op_assign rfl ?_)
      refine w_end ?_
      refine seq_normal ?_
      refine w_seq ?_
      refine w_region ?_
      refine w_o rfl rfl rfl (op_move rfl ?_)
      refine w_o rfl rfl rfl (op_move rfl ?_)
      refine w_o rfl rfl rfl (op_move rfl ?_)
      refine w_o rfl rfl rfl (op_indexT (enc := encC) und_25 siz_22 rfl rfl (by first | assumption | (repeat (first | assumption | apply Sl.cons | apply Sl.app))) (fun _ => rfl) rfl (by omega) fun b14 o14 z14 h14 e14 => ?_)
      refine w_o rfl rfl rfl (op_load1 agg_22 rfl el_ ?_)
      refine w_o rfl rfl rfl (op_call rfl rfl rfl ?_)
      refine hg z14 (List.mem_of_getElem? h14) _ _ (.refl _) ?_
      refine w_end ?_
      refine seq_normal ?_
      first | refine w_cond rfl (fun hI2 => ?_) (fun hI2 => ?_) | refine w_condB rfl (fun hI2 => ?_) (fun hI2 => ?_)
      · refine w_seq ?_
        refine w_region ?_
        refine w_o rfl rfl rfl (op_move rfl ?_)
        refine w_o rfl rfl rfl (op_assign rfl ?_)
        refine w_end ?_
        refine seq_normal ?_
        refine w_ret ?_
        refine block_ret ?_
        refine seq_ret ?_
        refine loop_ret ?_
        refine block_ret ?_
        refine seq_ret ?_
        rw [idxF_at h14 hI2 hp] at k
        exact ret_ret rfl (.refl _) k
      · refine w_skip ?_
        refine block_normal ?_
        refine seq_normal ?_
        refine w_region ?_
        refine w_o rfl rfl rfl (op_addi rfl rfl (by omega) (by omega) ?_)
        refine w_o rfl rfl rfl (op_move rfl ?_)
        refine w_end ?_
        refine loop_normal (k' := l.length - (i + 1)) (by omega) ⟨i + 1, by omega, rfl, ?_, rfl, rfl⟩ env_ sel_
        intro j x hj hx
        by_cases e : j = i
        · subst e; rw [h14] at hx; cases hx; exact hI2
        · exact hp j x (by omega) hx
    · refine w_exit ?_
      refine seq_exit ?_
      refine loop_exit ?_
      refine block_hit rfl ?_
      refine seq_normal ?_
      refine w_seq ?_
      refine w_region ?_
      refine w_o rfl rfl rfl (op_assign rfl ?_)
      refine w_end ?_
      refine seq_normal ?_
      refine w_ret ?_
      rw [idxF_no (fun x hx => by
        obtain ⟨j, hj⟩ := List.getElem?_of_mem hx
        exact hp j x (by have := (List.getElem?_eq_some_iff.1 hj).1; omega) hj)] at k
      exact ret_ret rfl (.refl _) k
theorem ContainsFuncL_w {H : Hyp} {K : V → Hyp → Prop} {c : Cell} {l : List (Cell)} {p : Cell → Bool} {g : Nat} {caps : List (Nat × Nat)} (h : Sl H 22 1 c l.length (l.flatMap encC)) (hl : l.length ≤ 1000000000)
    (hg : ∀ x ∈ l, ∀ (H0 : Hyp) (K' : V → Hyp → Prop), Sel H0 H → K' (vB (p x)) H0 → CallW Try.prog Xs g ([.one (.c x)] ++ caps.map fun p => ptrV p.1 p.2) H0 K')
    (k : K (vB (l.any p)) H) : CallW Try.prog Xs 47 [.one (.c c), .one (.c (.fn g caps))] H K := by
  refine call_of (n := 9) (fun _ => rfl) Try.func47 rfl rfl ?_
  refine w_seq ?_
  refine w_region ?_
  refine w_o rfl rfl rfl (op_assign rfl ?_)
  refine w_end ?_
  refine seq_normal ?_
  refine w_seq ?_
  refine w_region ?_
  refine w_o rfl rfl rfl (op_move rfl ?_)
  refine w_o rfl rfl rfl (op_move rfl ?_)
  refine w_o rfl rfl rfl (op_call rfl rfl rfl ?_)
  refine IndexFuncL_w h hl hg ?_
  refine w_o rfl rfl rfl (op_ge rfl rfl ?_)
  refine w_o rfl rfl rfl (op_assign rfl ?_)
  refine w_end ?_
  refine seq_normal ?_
  refine w_ret ?_
  rw [← idxF_ge0] at k
  exact ret_ret rfl (.refl _) k
theorem encS_inj {l l' : List Sign} (h : l.flatMap encS = l'.flatMap encS) : l = l' := by
  induction l generalizing l' with
  | nil =>
    cases l' with
    | nil => rfl
    | cons y ys => simp [List.flatMap_cons, encS] at h
  | cons x xs ih =>
    cases l' with
    | nil => simp [List.flatMap_cons, encS] at h
    | cons y ys =>
      simp only [List.flatMap_cons, encS, List.cons_append, List.nil_append, List.cons.injEq, Cell.int.injEq, true_and] at h
      obtain ⟨h1, h2, h3⟩ := h
      have := ih h3
      subst this
      cases x; cases y
      simp only at h1 h2
      subst h1; subst h2; rfl
/-- One cell is one list. -/
theorem Sl.uniq {s : St} {H : Hyp} {c : Cell} {l l' : List Sign} (hs : Hp s H) (h : Sl H 47 2 c l.length (l.flatMap encS)) (h' : Sl H 47 2 c l'.length (l'.flatMap encS)) : l = l' := by
  have e1 := h.len
  have e2 := h'.len
  rw [e1] at e2
  have hl : l.length = l'.length := Option.some.inj e2
  have q1 := h.elems hs l.length (Nat.le_refl _)
  have q2 := h'.elems hs l'.length (Nat.le_refl _)
  rw [← hl, q1] at q2
  have q3 := Option.some.inj q2
  rw [List.take_of_length_le (by rw [h.size]; exact Nat.le_refl _), List.take_of_length_le (by rw [h'.size, hl]; exact Nat.le_refl _)] at q3
  exact encS_inj q3
theorem CallW.hp {P : Program} {X : Spec} {f : Nat} {args : List V} {H : Hyp} {K : V → Hyp → Prop} (h : (∃ s, Hp s H) → CallW P X f args H K) : CallW P X f args H K :=
  fun s hs => h ⟨s, hs⟩ s hs
/-- A list of lists that can be read. -/
def KVo (H : Hyp) (L : List (List Sign)) (c : Cell) : Prop := ∃ cs : List Cell, Sl H 22 1 c cs.length (cs.flatMap encC) ∧ cs.length = L.length ∧ ∀ (i : Nat) (d : Cell) (x : List Sign), cs[i]? = some d → L[i]? = some x → Sl H 47 2 d x.length (x.flatMap encS)
theorem KVo.sub {H H' : Hyp} {L : List (List Sign)} {c : Cell} (h : KVo H L c) (hs : ∀ y ∈ H, y ∈ H') : KVo H' L c := by
  obtain ⟨cs, h1, h2, h3⟩ := h
  exact ⟨cs, h1.sub hs, h2, fun i d x a b => (h3 i d x a b).sub hs⟩
theorem same_w {H : Hyp} {K : V → Hyp → Prop} {cx cc : Cell} {x c : List Sign} {b : Nat} (hx : Sl H 47 2 cx x.length (x.flatMap encS)) (hc : Sl H 47 2 cc c.length (c.flatMap encS)) (hb : El H b 0 [cc]) (hxl : x.length ≤ 10000) (hcl : c.length ≤ 10000) (k : K (vB (decide (valsS x = valsS c))) H) : CallW Try.prog Xs 44 [.one (.c cx), ptrV b 0] H K := by
  refine call_of (n := 9) (fun _ => rfl) Try.func44 rfl rfl ?_
  refine w_seq ?_
  refine w_region ?_
  refine w_o rfl rfl rfl (op_assign rfl ?_)
  refine w_end ?_
  refine seq_normal ?_
  refine w_seq ?_
  refine w_drawF (H) sel_ (by decide +kernel) (by decide +kernel) ?_
  refine f_b (guard_none rfl) rfl rfl rfl rfl (op_move rfl ?_)
  refine f_m (guard_none rfl) rfl rfl rfl (op_call rfl rfl rfl ?_)
  refine Values_w hx (fun y hy => hy) (by omega) fun c5 N5 h5 => ?_
  refine ⟨sel_, ?_⟩
  refine f_l (guard_none rfl) rfl rfl rfl sel_ (op_load1 agg_22 rfl el_ rfl) ?_
  refine f_m (guard_none rfl) rfl rfl rfl (op_call rfl rfl rfl ?_)
  refine Values_w hc (fun y hy => List.mem_append_right _ hy) (by omega) fun c7 N7 h7 => ?_
  refine ⟨sel_, ?_⟩
  refine f_m (guard_none rfl) rfl rfl rfl (op_call rfl rfl rfl ?_)
  refine EqualI_w (h5.slT (H := N5) (fun _ => rfl) (by decide) (fun _ hx => hx)) (fun y hy => List.mem_append_right _ (List.mem_append_left _ hy)) (h7.slT (H := N7) (fun _ => rfl) (by decide) (fun _ hx => hx)) (fun y hy => List.mem_append_left _ hy) (by rw [valsS_len]; omega) ?_
  refine ⟨sel_, ?_⟩
  refine f_b (guard_none rfl) rfl rfl rfl rfl (op_assign rfl ?_)
  refine f_end ?_
  refine seq_normal ?_
  refine w_ret ?_
  exact ret_ret rfl sel_ k
/-- Is a candidate offered, behind others? -/
def offV (w : List Sign) (L : List (List Sign)) (c : List Sign) : Bool :=
  decide (c.all rightS = true ∧ w.length < c.length ∧ c.length ≤ 4096) && beginsI (valsS c) (valsS w) && !(L.any fun x => decide (valsS x = valsS c))
theorem anyL {H : Hyp} {L : List (List Sign)} {c : Cell} {cs : List Cell} {v : List Sign} (hH : ∃ s, Hp s H) (h2 : cs.length = L.length) (h3 : ∀ (i : Nat) (d : Cell) (x : List Sign), cs[i]? = some d → L[i]? = some x → Sl H 47 2 d x.length (x.flatMap encS)) :
    ∃ p : Cell → Bool, (∀ d ∈ cs, ∃ x, x ∈ L ∧ Sl H 47 2 d x.length (x.flatMap encS) ∧ p d = decide (valsS x = valsS v)) ∧ cs.any p = L.any fun x => decide (valsS x = valsS v) := by
  obtain ⟨s, hs⟩ := hH
  have cl : ∀ d, Decidable (∃ x, Sl H 47 2 d x.length (x.flatMap encS) ∧ valsS x = valsS v) := fun d => Classical.propDecidable _
  let p : Cell → Bool := fun d => @decide _ (cl d)
  have hp : ∀ d x, Sl H 47 2 d x.length (x.flatMap encS) → p d = decide (valsS x = valsS v) := by
    intro d x hx
    show @decide _ (cl d) = _
    rw [Bool.eq_iff_iff]
    simp only [decide_eq_true_eq]
    constructor
    · rintro ⟨y, hy, e⟩
      rw [Sl.uniq hs hx hy]; exact e
    · exact fun e => ⟨x, hx, e⟩
  refine ⟨p, fun d hd => ?_, ?_⟩
  · obtain ⟨i, hi⟩ := List.getElem?_of_mem hd
    have hil := (List.getElem?_eq_some_iff.1 hi).1
    have hx : L[i]? = some L[i] := List.getElem?_eq_getElem (by omega)
    exact ⟨_, List.mem_of_getElem? hx, h3 i d _ hi hx, hp d _ (h3 i d _ hi hx)⟩
  · rw [Bool.eq_iff_iff, List.any_eq_true, List.any_eq_true]
    constructor
    · rintro ⟨d, hd, e⟩
      obtain ⟨i, hi⟩ := List.getElem?_of_mem hd
      have hil := (List.getElem?_eq_some_iff.1 hi).1
      have hx : L[i]? = some L[i] := List.getElem?_eq_getElem (by omega)
      exact ⟨_, List.mem_of_getElem? hx, by rw [← hp d _ (h3 i d _ hi hx)]; exact e⟩
    · rintro ⟨x, hx, e⟩
      obtain ⟨i, hi⟩ := List.getElem?_of_mem hx
      have hil := (List.getElem?_eq_some_iff.1 hi).1
      have hd : cs[i]? = some cs[i] := List.getElem?_eq_getElem (by omega)
      exact ⟨_, List.mem_of_getElem? hd, by rw [hp _ _ (h3 i _ x hd hi)]; exact e⟩
theorem offered1_w {H : Hyp} {K : V → Hyp → Prop} {cL cc cw cv : Cell} {L : List (List Sign)} {c w : List Sign} {b1 b3 : Nat} (hL : KVo H L cL) (hc : Sl H 47 2 cc c.length (c.flatMap encS)) (hb1 : El H b1 0 [cw]) (hw : Sl H 47 2 cw w.length (w.flatMap encS)) (hb3 : El H b3 0 [cv]) (hv : Sl H 3 1 cv (valsS w).length ((valsS w).flatMap encI)) (hcl : c.length ≤ 10000) (hwl : w.length ≤ 10000) (hLl : L.length ≤ 1000) (hLe : ∀ x ∈ L, x.length ≤ 10000)
    (k : K (vB (offV w L c)) H) : CallW Try.prog Xs 43 [.one (.c cL), .one (.c cc), ptrV b1 0, ptrV b3 0] H K := by
  obtain ⟨cs, g1, g2, g3⟩ := hL
  refine CallW.hp fun hH => ?_
  obtain ⟨p, p1, p2⟩ := anyL (v := c) (c := cL) hH g2 g3
  refine call_of (n := 38) (fun _ => rfl) Try.func43 rfl rfl ?_
  refine w_seq ?_
  refine w_region ?_
  refine w_o rfl rfl rfl (op_box rfl fun b5 => ?_)
  refine w_o rfl rfl rfl (op_assign rfl ?_)
  refine w_end ?_
  refine seq_normal ?_
  refine w_seq ?_
  refine w_region ?_
  refine w_o rfl rfl rfl (op_makeFunc rfl ?_)
  refine w_o rfl rfl rfl (op_assign rfl ?_)
  refine w_end ?_
  refine seq_normal ?_
  refine w_seq ?_
  refine w_region ?_
  refine w_o rfl rfl rfl (op_load1 agg_22 rfl el_ ?_)
  refine w_o rfl rfl rfl (op_call rfl rfl rfl ?_)
  refine signCheck_w hc.cons (by omega) ?_
  refine w_o rfl rfl rfl (op_eq rfl rfl ?_)
  refine w_o rfl rfl rfl (op_move rfl ?_)
  first | refine w_known (t := 13) rfl (fun g13 => ?_) (fun g13 => ?_) | refine w_knownB (t := 13) rfl (fun g13 => ?_) (fun g13 => ?_)
  · refine w_og rfl rfl rfl rfl rfl (op_load1 agg_22 rfl el_ ?_)
    refine w_og rfl rfl rfl rfl rfl (op_lenC und_22 rfl hc.lenC ?_)
    refine w_og rfl rfl rfl rfl rfl (op_load1 agg_22 rfl el_ ?_)
    refine w_og rfl rfl rfl rfl rfl (op_lenC und_22 rfl hw.lenC ?_)
    refine w_og rfl rfl rfl rfl rfl (op_gt rfl rfl ?_)
    refine w_o rfl rfl rfl (op_pick rfl rfl rfl ?_)
    refine w_o rfl rfl rfl (op_move rfl ?_)
    first | refine w_known (t := 20) rfl (fun g20 => ?_) (fun g20 => ?_) | refine w_knownB (t := 20) rfl (fun g20 => ?_) (fun g20 => ?_)
    · refine w_og rfl rfl rfl rfl rfl (op_load1 agg_22 rfl el_ ?_)
      refine w_og rfl rfl rfl rfl rfl (op_lenC und_22 rfl hc.lenC ?_)
      refine w_og rfl rfl rfl rfl rfl (op_le rfl rfl ?_)
      refine w_o rfl rfl rfl (op_pick rfl rfl rfl ?_)
      refine w_o rfl rfl rfl (op_assign rfl ?_)
      refine w_end ?_
      refine seq_normal ?_
      refine w_seq ?_
      refine w_drawF ((b5, .row true 22 1 [cc]) :: H) sel_ (by decide +kernel) (by decide +kernel) ?_
      refine f_b (guard_none rfl) rfl rfl rfl rfl (op_move rfl ?_)
      refine f_b (guard_none rfl) rfl rfl rfl rfl (op_move rfl ?_)
      first | refine f_known (t := 26) rfl (fun g26 => ?_) (fun g26 => ?_) | refine f_knownB (t := 26) rfl (fun g26 => ?_) (fun g26 => ?_)
      · refine f_a (guard_some rfl rfl rfl rfl) rfl rfl rfl (by decide +kernel) (op_load1 agg_22 rfl el_ ?_)
        refine f_m (guard_some rfl rfl rfl rfl) rfl rfl rfl (op_call rfl rfl rfl ?_)
        refine Values_w hc.cons (fun y hy => hy) (by omega) fun c28 N28 h28 => ?_
        refine ⟨sel_, ?_⟩
        refine f_l (guard_some rfl rfl rfl rfl) rfl rfl rfl sel_ (op_load1 agg_64 rfl el_ rfl) ?_
        refine f_m (guard_some rfl rfl rfl rfl) rfl rfl rfl (op_call rfl rfl rfl ?_)
        refine begins_w (h28.slT (H := N28) (fun _ => rfl) (by decide) (fun _ hx => hx)) (fun y hy => List.mem_append_left _ hy) hv (fun y hy => List.mem_append_right _ (List.Mem.tail _ hy)) (by rw [valsS_len]; omega) ?_
        refine ⟨sel_, ?_⟩
        refine f_b (guard_none rfl) rfl rfl rfl rfl (op_pick rfl rfl rfl ?_)
        refine f_b (guard_none rfl) rfl rfl rfl rfl (op_move rfl ?_)
        first | refine f_known (t := 32) rfl (fun g32 => ?_) (fun g32 => ?_) | refine f_knownB (t := 32) rfl (fun g32 => ?_) (fun g32 => ?_)
        · refine f_b (guard_some rfl rfl rfl rfl) rfl rfl rfl rfl (op_move rfl ?_)
          refine f_b (guard_some rfl rfl rfl rfl) rfl rfl rfl rfl (op_move rfl ?_)
          refine f_m (guard_some rfl rfl rfl rfl) rfl rfl rfl (op_call rfl rfl rfl ?_)
          refine ContainsFuncL_w (p := p) (caps := [(b5, 0)]) (g1.cons.app) (by omega) (fun d hd H0 K' hs k' => ?_) ?_
          · obtain ⟨x, x1, x2, x3⟩ := p1 d hd
            rw [x3] at k'
            exact same_w ((x2.cons.app).sub hs.mem) ((hc.cons.app).sub hs.mem) (El.sel (El.row (List.mem_append_right _ (List.Mem.head _))) hs) (hLe x x1) hcl k'
          refine ⟨sel_, ?_⟩
          refine f_b (guard_some rfl rfl rfl rfl) rfl rfl rfl rfl (op_not rfl ?_)
          have hall : c.all rightS = true := Classical.byContradiction fun q => by rw [if_neg q] at g13; exact absurd g13 (by decide)
          have hv9 : (!(cs.any p)) = offV w L c := by unfold offV; rw [decide_eq_true ⟨hall, by omega, by omega⟩, show beginsI (valsS c) (valsS w) = true from decide_eq_true g32, p2]; rfl
          refine f_b (guard_none rfl) rfl rfl rfl rfl (op_pick rfl rfl rfl ?_)
          refine f_b (guard_none rfl) rfl rfl rfl rfl (op_assign rfl ?_)
          refine f_end ?_
          refine seq_normal ?_
          refine w_ret ?_
          exact ret_bool rfl sel_ hv9 k
        · have hv9 : false = offV w L c := by unfold offV; rw [show beginsI (valsS c) (valsS w) = false from decide_eq_false g32, Bool.and_false]; rfl
          refine f_u (guard_some rfl rfl rfl rfl) rfl rfl sel_ ?_
          refine f_u (guard_some rfl rfl rfl rfl) rfl rfl sel_ ?_
          refine f_u (guard_some rfl rfl rfl rfl) rfl rfl sel_ ?_
          refine f_u (guard_some rfl rfl rfl rfl) rfl rfl sel_ ?_
          refine f_b (guard_none rfl) rfl rfl rfl rfl (op_pick rfl rfl rfl ?_)
          refine f_b (guard_none rfl) rfl rfl rfl rfl (op_assign rfl ?_)
          refine f_end ?_
          refine seq_normal ?_
          refine w_ret ?_
          exact ret_bool rfl sel_ hv9 k
      · have hv9 : false = offV w L c := by unfold offV; rw [decide_eq_false (fun q => by have := q.2.2; omega)]; rfl
        refine f_u (guard_some rfl rfl rfl rfl) rfl rfl sel_ ?_
        refine f_u (guard_some rfl rfl rfl rfl) rfl rfl sel_ ?_
        refine f_u (guard_some rfl rfl rfl rfl) rfl rfl sel_ ?_
        refine f_u (guard_some rfl rfl rfl rfl) rfl rfl sel_ ?_
        refine f_b (guard_none rfl) rfl rfl rfl rfl (op_pick rfl rfl rfl ?_)
        refine f_b (guard_none rfl) rfl rfl rfl rfl (op_move rfl ?_)
        refine f_u (guard_some rfl rfl rfl rfl) rfl rfl sel_ ?_
        refine f_u (guard_some rfl rfl rfl rfl) rfl rfl sel_ ?_
        refine f_u (guard_some rfl rfl rfl rfl) rfl rfl sel_ ?_
        refine f_u (guard_some rfl rfl rfl rfl) rfl rfl sel_ ?_
        refine f_b (guard_none rfl) rfl rfl rfl rfl (op_pick rfl rfl rfl ?_)
        refine f_b (guard_none rfl) rfl rfl rfl rfl (op_assign rfl ?_)
        refine f_end ?_
        refine seq_normal ?_
        refine w_ret ?_
        exact ret_bool rfl sel_ hv9 k
    · have hv9 : false = offV w L c := by unfold offV; rw [decide_eq_false (fun q => by have := q.2.1; omega)]; rfl
      refine w_u rfl rfl rfl rfl rfl rfl ?_
      refine w_u rfl rfl rfl rfl rfl rfl ?_
      refine w_u rfl rfl rfl rfl rfl rfl ?_
      refine w_o rfl rfl rfl (op_pick rfl rfl rfl ?_)
      refine w_o rfl rfl rfl (op_assign rfl ?_)
      refine w_end ?_
      refine seq_normal ?_
      refine w_seq ?_
      refine w_drawF ((b5, .row true 22 1 [cc]) :: H) sel_ (by decide +kernel) (by decide +kernel) ?_
      refine f_b (guard_none rfl) rfl rfl rfl rfl (op_move rfl ?_)
      refine f_b (guard_none rfl) rfl rfl rfl rfl (op_move rfl ?_)
      refine f_u (guard_some rfl rfl rfl rfl) rfl rfl sel_ ?_
      refine f_u (guard_some rfl rfl rfl rfl) rfl rfl sel_ ?_
      refine f_u (guard_some rfl rfl rfl rfl) rfl rfl sel_ ?_
      refine f_u (guard_some rfl rfl rfl rfl) rfl rfl sel_ ?_
      refine f_b (guard_none rfl) rfl rfl rfl rfl (op_pick rfl rfl rfl ?_)
      refine f_b (guard_none rfl) rfl rfl rfl rfl (op_move rfl ?_)
      refine f_u (guard_some rfl rfl rfl rfl) rfl rfl sel_ ?_
      refine f_u (guard_some rfl rfl rfl rfl) rfl rfl sel_ ?_
      refine f_u (guard_some rfl rfl rfl rfl) rfl rfl sel_ ?_
      refine f_u (guard_some rfl rfl rfl rfl) rfl rfl sel_ ?_
      refine f_b (guard_none rfl) rfl rfl rfl rfl (op_pick rfl rfl rfl ?_)
      refine f_b (guard_none rfl) rfl rfl rfl rfl (op_assign rfl ?_)
      refine f_end ?_
      refine seq_normal ?_
      refine w_ret ?_
      exact ret_bool rfl sel_ hv9 k
  · have hv9 : false = offV w L c := by unfold offV; rw [decide_eq_false (fun q => g13 (by rw [if_pos q.1]))]; rfl
    refine w_u rfl rfl rfl rfl rfl rfl ?_
    refine w_u rfl rfl rfl rfl rfl rfl ?_
    refine w_u rfl rfl rfl rfl rfl rfl ?_
    refine w_u rfl rfl rfl rfl rfl rfl ?_
    refine w_u rfl rfl rfl rfl rfl rfl ?_
    refine w_o rfl rfl rfl (op_pick rfl rfl rfl ?_)
    refine w_o rfl rfl rfl (op_move rfl ?_)
    refine w_u rfl rfl rfl rfl rfl rfl ?_
    refine w_u rfl rfl rfl rfl rfl rfl ?_
    refine w_u rfl rfl rfl rfl rfl rfl ?_
    refine w_o rfl rfl rfl (op_pick rfl rfl rfl ?_)
    refine w_o rfl rfl rfl (op_assign rfl ?_)
    refine w_end ?_
    refine seq_normal ?_
    refine w_seq ?_
    refine w_drawF ((b5, .row true 22 1 [cc]) :: H) sel_ (by decide +kernel) (by decide +kernel) ?_
    refine f_b (guard_none rfl) rfl rfl rfl rfl (op_move rfl ?_)
    refine f_b (guard_none rfl) rfl rfl rfl rfl (op_move rfl ?_)
    refine f_u (guard_some rfl rfl rfl rfl) rfl rfl sel_ ?_
    refine f_u (guard_some rfl rfl rfl rfl) rfl rfl sel_ ?_
    refine f_u (guard_some rfl rfl rfl rfl) rfl rfl sel_ ?_
    refine f_u (guard_some rfl rfl rfl rfl) rfl rfl sel_ ?_
    refine f_b (guard_none rfl) rfl rfl rfl rfl (op_pick rfl rfl rfl ?_)
    refine f_b (guard_none rfl) rfl rfl rfl rfl (op_move rfl ?_)
    refine f_u (guard_some rfl rfl rfl rfl) rfl rfl sel_ ?_
    refine f_u (guard_some rfl rfl rfl rfl) rfl rfl sel_ ?_
    refine f_u (guard_some rfl rfl rfl rfl) rfl rfl sel_ ?_
    refine f_u (guard_some rfl rfl rfl rfl) rfl rfl sel_ ?_
    refine f_b (guard_none rfl) rfl rfl rfl rfl (op_pick rfl rfl rfl ?_)
    refine f_b (guard_none rfl) rfl rfl rfl rfl (op_assign rfl ?_)
    refine f_end ?_
    refine seq_normal ?_
    refine w_ret ?_
    exact ret_bool rfl sel_ hv9 k
theorem offered_w {H : Hyp} {K : V → Hyp → Prop} {cw : Cell} {w : List Sign} (hw : Sl H 47 2 cw w.length (w.flatMap encS)) (hwl : w.length ≤ 10000)
    (k : ∀ b1 b3 cv N, Own 3 1 cv ((valsS w).flatMap encI) N → K (.one (.c (.fn 43 [(b1, 0), (b3, 0)]))) ((b3, .row true 64 1 [cv]) :: (N ++ ((b1, .row true 22 1 [cw]) :: H)))) : CallW Try.prog Xs 28 [.one (.c cw)] H K := by
  refine call_of (n := 7) (fun _ => rfl) Try.func28 rfl rfl ?_
  refine w_seq ?_
  refine w_region ?_
  refine w_o rfl rfl rfl (op_box rfl fun b1 => ?_)
  refine w_o rfl rfl rfl (op_assign rfl ?_)
  refine w_end ?_
  refine seq_normal ?_
  refine w_seq ?_
  refine w_region ?_
  refine w_o rfl rfl rfl (op_load1 agg_22 rfl el_ ?_)
  refine w_o rfl rfl rfl (op_call rfl rfl rfl ?_)
  refine Values_w hw.cons (fun y hy => hy) (by omega) fun c5 N5 h5 => ?_
  refine w_o rfl rfl rfl (op_alloc zer_64 fun b3 => ?_)
  refine w_on rfl rfl (op_store siz_64 rfl rfl rfl (by (repeat (first | exact Pick.head _ _ _ | apply Pick.tail | apply Pick.app)); first | done | fail) (Nat.le_of_ble_eq_true rfl) rfl ?_)
  refine w_end ?_
  refine seq_normal ?_
  refine w_seq ?_
  refine w_region ?_
  refine w_o rfl rfl rfl (op_makeFunc rfl ?_)
  refine w_o rfl rfl rfl (op_assign rfl ?_)
  refine w_end ?_
  refine seq_normal ?_
  refine w_ret ?_
  exact ret_ret rfl sel_ (k _ _ _ _ h5)
end Go.Proofs.Ytlbbnimobbheiaa.AM.B
