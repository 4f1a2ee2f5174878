/- A history: what is added, what it tells. -/
import Derived.Test.YtajhjfgoefhdnaaAX
import Derived.Test.YtajhjfgoefhdnaaBhist1
set_option linter.unusedVariables false
set_option linter.unusedSimpArgs false
set_option maxRecDepth 10000
set_option maxHeartbeats 4000000
namespace Go.Proofs.Ytajhjfgoefhdnaa.AM.B
open Go Go.RowKit
theorem CloneS_w {H : Hyp} {K : V → Hyp → Prop} {c : Cell} {l : List (Sign)} (h : Sl H 46 2 c l.length (l.flatMap encS)) (hl : l.length * 16 ≤ 16777216)
    (k : ∀ c' N, Own 46 2 c' (l.flatMap encS) N → K (.one (.c c')) (N ++ H)) : CallW Try.prog Xs 26 [.one (.c c)] H K := by
  refine call_of (n := 8) (fun _ => rfl) Try.func26 rfl rfl ?_
  refine w_seq ?_
  refine w_region ?_
  refine w_o rfl rfl rfl (op_assign rfl ?_)
  refine w_end ?_
  refine seq_normal ?_
  refine w_seq ?_
  refine w_seq ?_
  refine w_region ?_
  refine w_o rfl rfl rfl (op_move rfl ?_)
  refine w_o rfl rfl rfl (op_eqNil und_28 rfl rfl (by first | exact ⟨rfl, fun s e => by cases e⟩ | exact Sl.lenC (by assumption) | (refine Own.lenT (by assumption) ?_ ?_ <;> first | exact fun _ => rfl | decide)) ?_)
  refine w_end ?_
  refine seq_normal ?_
  first | refine w_cond rfl (fun hI1 => ?_) (fun hI1 => ?_) | refine w_condB rfl (fun hI1 => ?_) (fun hI1 => ?_)
  · obtain ⟨rfl, h0⟩ := h.isNil hI1
    have h1 : l = [] := List.length_eq_zero_iff.1 h0
    subst h1
    refine w_seq ?_
    refine w_region ?_
    refine w_o rfl rfl rfl (op_assign rfl ?_)
    refine w_end ?_
    refine seq_normal ?_
    refine w_ret ?_
    refine seq_ret ?_
    exact ret_ret rfl (.refl _) (k _ _ .nil)
  · refine w_skip ?_
    refine seq_normal ?_
    refine w_seq ?_
    refine w_region ?_
    refine w_o rfl rfl rfl (op_buildSlice rfl (bsl_28 _ _ _ (rfl : _ = some []) rfl (by decide)) fun b5 => ?_)
    refine w_o rfl rfl rfl (op_move rfl ?_)
    refine w_o rfl rfl rfl (op_appendT (xs := []) (enc := encS) elm_28 inf_46 zer_46 (by decide) und_28 rfl rfl (.row _ 0 [] rfl) (fun _ => rfl) (PickL.front [_] _) (by first | assumption | (repeat (first | assumption | apply Sl.cons | apply Sl.app))) (by simpa using hl) fun c' N' hO => ?_)
    refine w_o rfl rfl rfl (op_assign rfl ?_)
    refine w_end ?_
    refine seq_normal ?_
    refine w_ret ?_
    exact ret_ret rfl (.refl _) (k _ _ hO)
theorem encS_inj {l l' : List Sign} (h : l.flatMap encS = l'.flatMap encS) : l = l' := by
  induction l generalizing l' with
  | nil =>
    cases l' with
    | nil => rfl
    | cons y ys => simp [List.flatMap_cons, encS] at h
  | cons x xs ih =>
    cases l' with
    | nil => simp [List.flatMap_cons, encS] at h
    | cons y ys =>
      simp only [List.flatMap_cons, encS, List.cons_append, List.nil_append, List.cons.injEq, Cell.int.injEq, true_and] at h
      obtain ⟨h1, h2, h3⟩ := h
      have := ih h3
      subst this
      cases x; cases y
      simp only at h1 h2
      subst h1; subst h2; rfl
theorem Sl.uniq {s : St} {H : Hyp} {c : Cell} {l l' : List Sign} (hs : Hp s H) (h : Sl H 46 2 c l.length (l.flatMap encS)) (h' : Sl H 46 2 c l'.length (l'.flatMap encS)) : l = l' := by
  have e1 := h.len
  have e2 := h'.len
  rw [e1] at e2
  have hl : l.length = l'.length := Option.some.inj e2
  have q1 := h.elems hs l.length (Nat.le_refl _)
  have q2 := h'.elems hs l'.length (Nat.le_refl _)
  rw [← hl, q1] at q2
  have q3 := Option.some.inj q2
  rw [List.take_of_length_le (by rw [h.size]; exact Nat.le_refl _), List.take_of_length_le (by rw [h'.size, hl]; exact Nat.le_refl _)] at q3
  exact encS_inj q3
theorem CallW.hp {P : Program} {X : Spec} {f : Nat} {args : List V} {H : Hyp} {K : V → Hyp → Prop} (h : (∃ s, Hp s H) → CallW P X f args H K) : CallW P X f args H K :=
  fun s hs => h ⟨s, hs⟩ s hs
/-- Cells that are entries. -/
def Ents (N : Hyp) (cs : List Cell) (E : List (List Sign)) : Prop := cs.length = E.length ∧ ∀ (i : Nat) (d : Cell) (x : List Sign), cs[i]? = some d → E[i]? = some x → Sl N 46 2 d x.length (x.flatMap encS)
theorem Ents.sub {N N' : Hyp} {cs : List Cell} {E : List (List Sign)} (h : Ents N cs E) (hs : ∀ y ∈ N, y ∈ N') : Ents N' cs E := ⟨h.1, fun i d x a b => (h.2 i d x a b).sub hs⟩
/-- Which cells are a list: by what they are. -/
theorem isX {H : Hyp} {cs : List Cell} {E : List (List Sign)} {v : List Sign} (hH : ∃ s, Hp s H) (h : Ents H cs E) :
    ∃ p : Cell → Bool, ∀ (i : Nat) (d : Cell) (x : List Sign), cs[i]? = some d → E[i]? = some x → p d = decide (v = x) := by
  obtain ⟨s, hs⟩ := hH
  have cl : ∀ d, Decidable (∃ x, Sl H 46 2 d x.length (x.flatMap encS) ∧ v = x) := fun d => Classical.propDecidable _
  refine ⟨fun d => @decide _ (cl d), fun i d x hd hx => ?_⟩
  have hS := h.2 i d x hd hx
  rw [Bool.eq_iff_iff]
  simp only [decide_eq_true_eq]
  constructor
  · rintro ⟨y, hy, e⟩
    rw [Sl.uniq hs hS hy]; exact e
  · exact fun e => ⟨x, hS, e⟩
def hRow (c : Cell) (hand : Int) (ct : Cell) (most long : Int) : Fact := .row true 48 1 [c, .int .i64 hand, ct, .int .i64 most, .int .i64 long]
theorem New_w {H : Hyp} {K : V → Hyp → Prop} {most long : Int} (hm : 1 ≤ most ∧ most ≤ 1000) (hl : 1 ≤ long ∧ long ≤ 4096) (k : ∀ p, K (.tup [.c (.ptr p 0), .c (.int .i64 0)]) ((p, hRow .nils 0 .nils most long) :: H)) : CallW Try.prog Xs 5 [vI most, vI long] H K := by
  unfold hRow at k
  refine call_of (n := 24) (fun _ => rfl) Try.func5 rfl rfl ?_
  refine w_seq ?_
  refine w_region ?_
  refine w_o rfl rfl rfl (op_assign rfl ?_)
  refine w_o rfl rfl rfl (op_assign rfl ?_)
  refine w_end ?_
  refine seq_normal ?_
  refine w_seq ?_
  refine w_seq ?_
  refine w_region ?_
  refine w_o rfl rfl rfl (op_move rfl ?_)
  refine w_o rfl rfl rfl (op_lt rfl rfl ?_)
  refine w_o rfl rfl rfl (op_move rfl ?_)
  first | refine w_known (t := 8) rfl (fun g8 => ?_) (fun g8 => ?_) | refine w_knownB (t := 8) rfl (fun g8 => ?_) (fun g8 => ?_)
  · exact absurd g8 (by omega) --closed
  · refine w_og rfl rfl rfl rfl rfl (op_move rfl ?_)
    refine w_og rfl rfl rfl rfl rfl (op_gt rfl rfl ?_)
    refine w_o rfl rfl rfl (op_pick rfl rfl rfl ?_)
    refine w_o rfl rfl rfl (op_move rfl ?_)
    first | refine w_known (t := 12) rfl (fun g12 => ?_) (fun g12 => ?_) | refine w_knownB (t := 12) rfl (fun g12 => ?_) (fun g12 => ?_)
    · exact absurd g12 (by omega) --closed
    · refine w_og rfl rfl rfl rfl rfl (op_move rfl ?_)
      refine w_og rfl rfl rfl rfl rfl (op_lt rfl rfl ?_)
      refine w_o rfl rfl rfl (op_pick rfl rfl rfl ?_)
      refine w_o rfl rfl rfl (op_move rfl ?_)
      first | refine w_known (t := 16) rfl (fun g16 => ?_) (fun g16 => ?_) | refine w_knownB (t := 16) rfl (fun g16 => ?_) (fun g16 => ?_)
      · exact absurd g16 (by omega) --closed
      · refine w_og rfl rfl rfl rfl rfl (op_move rfl ?_)
        refine w_og rfl rfl rfl rfl rfl (op_gt rfl rfl ?_)
        refine w_o rfl rfl rfl (op_pick rfl rfl rfl ?_)
        refine w_end ?_
        refine seq_normal ?_
        refine w_condN rfl (by omega) ?_
        refine w_skip ?_
        refine seq_normal ?_
        refine w_seq ?_
        refine w_region ?_
        refine w_o rfl rfl rfl (op_move rfl ?_)
        refine w_o rfl rfl rfl (op_move rfl ?_)
        refine w_o rfl rfl rfl (op_build rfl ((bld_48 _).trans (rfl : _ = some [_, _, _, _, _])) ?_)
        refine w_o rfl rfl rfl (op_box rfl fun b23 => ?_)
        refine w_o rfl rfl rfl (op_assign rfl ?_)
        refine w_o rfl rfl rfl (op_assign rfl ?_)
        refine w_end ?_
        refine seq_normal ?_
        refine w_ret ?_
        exact ret_ret rfl (.refl _) (k _)
theorem same1_w {H : Hyp} {K : V → Hyp → Prop} {b : Nat} {cx cd : Cell} {x y : List Sign} (hb : El H b 0 [cx]) (hx : Sl H 46 2 cx x.length (x.flatMap encS)) (hd : Sl H 46 2 cd y.length (y.flatMap encS)) (hl : x.length ≤ 1000000) (k : K (vB (decide (x = y))) H) : CallW Try.prog Xs 23 [.one (.c cd), ptrV b 0] H K := by
  refine call_of (n := 7) (fun _ => rfl) Try.func23 rfl rfl ?_
  refine w_seq ?_
  refine w_region ?_
  refine w_o rfl rfl rfl (op_assign rfl ?_)
  refine w_end ?_
  refine seq_normal ?_
  refine w_seq ?_
  refine w_region ?_
  refine w_o rfl rfl rfl (op_load1 agg_28 rfl el_ ?_)
  refine w_o rfl rfl rfl (op_move rfl ?_)
  refine w_o rfl rfl rfl (op_call rfl rfl rfl ?_)
  refine SignSame_w hx hd hl ?_
  refine w_o rfl rfl rfl (op_assign rfl ?_)
  refine w_end ?_
  refine seq_normal ?_
  refine w_ret ?_
  exact ret_ret rfl sel_ k
theorem Rest_w {H : Hyp} {K : V → Hyp → Prop} {p n : Nat} {c ct : Cell} {hand most long : Int} (hc : LenC c n) (k : K (.tup []) ((p, hRow c n .nils most long) :: H)) : CallW Try.prog Xs 25 [ptrV p 0] ((p, hRow c hand ct most long) :: H) K := by
  unfold hRow at *
  refine call_of (n := 15) (fun _ => rfl) Try.func25 rfl rfl ?_
  refine w_seq ?_
  refine w_region ?_
  refine w_o rfl rfl rfl (op_move rfl ?_)
  refine w_o rfl rfl rfl (op_nilNe rfl rfl rfl (by simp only [nilKind, und_24]) ?_)
  refine w_end ?_
  refine seq_normal ?_
  refine w_condT rfl ?_
  refine w_region ?_
  refine w_o rfl rfl rfl (op_move rfl ?_)
  refine w_o rfl rfl rfl (op_move rfl ?_)
  refine w_o rfl rfl rfl (op_move rfl ?_)
  refine w_o rfl rfl rfl (op_nilCheck rfl ?_)
  refine w_o rfl rfl rfl (op_fieldAddr fa_48_0 rfl ?_)
  refine w_o rfl rfl rfl (op_loadF agg_22 rfl el_ rfl ?_)
  refine w_o rfl rfl rfl (op_lenC und_22 rfl hc ?_)
  refine w_o rfl rfl rfl (op_nilCheck rfl ?_)
  refine w_o rfl rfl rfl (op_fieldAddr fa_48_1 rfl ?_)
  refine w_on rfl rfl (op_store siz_3 rfl rfl rfl (by (repeat (first | exact Pick.head _ _ _ | apply Pick.tail | apply Pick.app)); first | done | fail) (Nat.le_of_ble_eq_true rfl) rfl ?_)
  refine w_o rfl rfl rfl (op_nilCheck rfl ?_)
  refine w_o rfl rfl rfl (op_fieldAddr fa_48_2 rfl ?_)
  refine w_on rfl rfl (op_store siz_28 rfl rfl rfl (by (repeat (first | exact Pick.head _ _ _ | apply Pick.tail | apply Pick.app)); first | done | fail) (Nat.le_of_ble_eq_true rfl) rfl ?_)
  refine w_end ?_
  exact ret_normal rfl sel_ k
/-- What is there once a list was added. -/
def addH (E : List (List Sign)) (x : List Sign) (most : Int) : List (List Sign) :=
  (E.filter (fun y => !decide (x = y)) ++ [x]).drop (max (((E.filter (fun y => !decide (x = y)) ++ [x]).length : Nat) - most) 0).toNat
theorem ents_add {Ne Nx : Hyp} {cs : List Cell} {E : List (List Sign)} {x : List Sign} {cx : Cell} {p : Cell → Bool} (h : Ents Ne cs E) (hp : ∀ (i : Nat) (d : Cell) (y : List Sign), cs[i]? = some d → E[i]? = some y → p d = decide (x = y)) (hx : Sl Nx 46 2 cx x.length (x.flatMap encS)) (lo : Nat) :
    Ents (Nx ++ Ne) ((cs.filter (fun d => !p d) ++ [cx]).drop lo) ((E.filter (fun y => !decide (x = y)) ++ [x]).drop lo) ∧ (cs.filter fun d => !p d).length = (E.filter fun y => !decide (x = y)).length := by
  have hf := filt2 (R := fun d y => Sl Ne 46 2 d y.length (y.flatMap encS)) (p := fun d => !p d) (q := fun y => !decide (x = y)) cs E h.1 fun i d y hd hy => ⟨h.2 i d y hd hy, by rw [hp i d y hd hy]⟩
  refine ⟨⟨by rw [List.length_drop, List.length_drop, List.length_append, List.length_append, hf.1]; rfl, fun i d y hd hy => ?_⟩, hf.1⟩
  rw [List.getElem?_drop, List.getElem?_append] at hd hy
  rw [hf.1] at hd
  by_cases q : lo + i < (E.filter fun y => !decide (x = y)).length
  · rw [if_pos q] at hd hy
    exact (hf.2 _ d y hd hy).app
  · rw [if_neg q] at hd hy
    have e1 : lo + i - (E.filter fun y => !decide (x = y)).length = 0 := by
      rcases Nat.lt_or_ge (lo + i - (E.filter fun y => !decide (x = y)).length) 1 with q2 | q2
      · omega
      · rw [List.getElem?_eq_none (by simpa using q2)] at hd; cases hd
    rw [e1] at hd hy
    simp only [List.getElem?_cons_zero, Option.some.injEq] at hd hy
    subst hd; subst hy
    exact hx.sub fun y hy => List.mem_append_left _ hy
/-- What adding comes to. -/
def AddR (E : List (List Sign)) (l : List Sign) (most long f : Int) (E' : List (List Sign)) : Prop :=
  (f ≠ 0 ∧ E' = E) ∨ (f = 0 ∧ l.length = 0 ∧ E' = E) ∨ (f = 0 ∧ (l.length : Int) ≤ long ∧ l.length ≠ 0 ∧ E' = addH E (withS l 3) most)
theorem Add_w {R Ne N : Hyp} {K : V → Hyp → Prop} {p : Nat} {c cl ct : Cell} {cs : List Cell} {E : List (List Sign)} {l : List Sign} {hand most long : Int} (hh : HL 28 c cs N) (he : Ents Ne cs E) (hl : Sl R 46 2 cl l.length (l.flatMap encS)) (hE : E.length ≤ 1000) (hlb : l.length ≤ 10000) (hm : 1 ≤ most ∧ most ≤ 1000)
    (k : ∀ f c' cs' N' Nx hand' ct' E', HL 28 c' cs' N' → Ents (Nx ++ Ne) cs' E' → AddR E l most long f E' → K (vI f) ((p, hRow c' hand' ct' most long) :: (N' ++ (Nx ++ (Ne ++ R))))) : CallW Try.prog Xs 6 [ptrV p 0, .one (.c cl)] ((p, hRow c hand ct most long) :: (N ++ (Ne ++ R))) K := by
  unfold hRow at k ⊢
  have hcs := he.1
  refine call_of (n := 67) (fun _ => rfl) Try.func6 rfl rfl ?_
  refine w_seq ?_
  refine w_region ?_
  refine w_o rfl rfl rfl (op_assign rfl ?_)
  refine w_end ?_
  refine seq_normal ?_
  refine w_seq ?_
  refine w_block ?_
  refine w_seq ?_
  refine w_region ?_
  refine w_o rfl rfl rfl (op_move rfl ?_)
  refine w_o rfl rfl rfl (op_nilEq rfl rfl rfl (by simp only [nilKind, und_24]) ?_)
  refine w_o rfl rfl rfl (op_assign rfl ?_)
  refine w_end ?_
  refine seq_normal ?_
  refine w_condF rfl ?_
  refine w_seq ?_
  refine w_region ?_
  refine w_o rfl rfl rfl (op_move rfl ?_)
  refine w_o rfl rfl rfl (op_call rfl rfl rfl ?_)
  refine signCheck_w (hl.sub subs_) (by omega) ?_
  refine w_o rfl rfl rfl (op_ne rfl rfl ?_)
  refine w_o rfl rfl rfl (op_assign rfl ?_)
  refine w_end ?_
  refine seq_normal ?_
  first | refine w_cond rfl (fun hI2 => ?_) (fun hI2 => ?_) | refine w_condB rfl (fun hI2 => ?_) (fun hI2 => ?_)
  · refine w_seq ?_
    refine w_region ?_
    refine w_o rfl rfl rfl (op_assign rfl ?_)
    refine w_end ?_
    refine seq_normal ?_
    refine w_ret ?_
    refine block_ret ?_
    refine seq_ret ?_
    exact ret_ret rfl sel_ (k 2 c cs N [] hand ct E hh he (.inl ⟨by decide, rfl⟩))
  · refine w_seq ?_
    refine w_region ?_
    refine w_o rfl rfl rfl (op_move rfl ?_)
    refine w_o rfl rfl rfl (op_lenC und_28 rfl hl.lenC ?_)
    refine w_o rfl rfl rfl (op_move rfl ?_)
    refine w_o rfl rfl rfl (op_nilCheck rfl ?_)
    refine w_o rfl rfl rfl (op_fieldAddr fa_48_4 rfl ?_)
    refine w_o rfl rfl rfl (op_loadF agg_3 rfl el_ rfl ?_)
    refine w_o rfl rfl rfl (op_gt rfl rfl ?_)
    refine w_o rfl rfl rfl (op_assign rfl ?_)
    refine w_end ?_
    refine seq_normal ?_
    first | refine w_cond rfl (fun hI3 => ?_) (fun hI3 => ?_) | refine w_condB rfl (fun hI3 => ?_) (fun hI3 => ?_)
    · refine w_seq ?_
      refine w_region ?_
      refine w_o rfl rfl rfl (op_assign rfl ?_)
      refine w_end ?_
      refine seq_normal ?_
      refine w_ret ?_
      refine block_ret ?_
      refine seq_ret ?_
      exact ret_ret rfl sel_ (k 4 c cs N [] hand ct E hh he (.inl ⟨by decide, rfl⟩))
    · refine w_seq ?_
      refine w_region ?_
      refine w_o rfl rfl rfl (op_move rfl ?_)
      refine w_o rfl rfl rfl (op_lenC und_28 rfl hl.lenC ?_)
      refine w_o rfl rfl rfl (op_eq rfl rfl ?_)
      refine w_o rfl rfl rfl (op_assign rfl ?_)
      refine w_end ?_
      refine seq_normal ?_
      first | refine w_cond rfl (fun hI4 => ?_) (fun hI4 => ?_) | refine w_condB rfl (fun hI4 => ?_) (fun hI4 => ?_)
      · refine w_seq ?_
        refine w_region ?_
        refine w_o rfl rfl rfl (op_assign rfl ?_)
        refine w_end ?_
        refine seq_normal ?_
        refine w_ret ?_
        refine block_ret ?_
        refine seq_ret ?_
        exact ret_ret rfl sel_ (k 0 c cs N [] hand ct E hh he (.inr (.inl ⟨rfl, by omega, rfl⟩)))
      · refine w_skip ?_
        refine block_normal ?_
        refine seq_normal ?_
        refine w_seq ?_
        refine w_region ?_
        refine w_o rfl rfl rfl (op_move rfl ?_)
        refine w_o rfl rfl rfl (op_call rfl rfl rfl ?_)
        refine With_w (b := 3) (hl.sub (H' := (p, .row true 48 1 [c, .int .i64 hand, ct, .int .i64 most, .int .i64 long]) :: (N ++ (Ne ++ R))) subs_) (fun y hy => hy) (by omega) fun c26 N26 h26 => ?_
        have hX : Sl N26 46 2 c26 (withS l 3).length ((withS l 3).flatMap encS) := h26.slT (fun _ => rfl) (by decide) (fun _ q => q)
        refine w_o rfl rfl rfl (op_alloc zer_28 fun b5 => ?_)
        refine w_on rfl rfl (op_store siz_28 rfl rfl rfl (by (repeat (first | exact Pick.head _ _ _ | apply Pick.tail | apply Pick.app)); first | done | fail) (Nat.le_of_ble_eq_true rfl) rfl ?_)
        refine w_end ?_
        refine seq_normal ?_
        refine w_seq ?_
        refine w_region ?_
        refine w_o rfl rfl rfl (op_move rfl ?_)
        refine w_o rfl rfl rfl (op_move rfl ?_)
        refine w_o rfl rfl rfl (op_nilCheck rfl ?_)
        refine w_o rfl rfl rfl (op_fieldAddr fa_48_0 rfl ?_)
        refine w_o rfl rfl rfl (op_loadF agg_22 rfl el_ rfl ?_)
        refine w_o rfl rfl rfl (op_makeFunc rfl ?_)
        refine w_o rfl rfl rfl (op_call rfl rfl rfl ?_)
        refine CallW.weak (H' := N ++ ((b5, .row true 28 1 [c26]) :: (N26 ++ ((p, .row true 48 1 [c, .int .i64 hand, ct, .int .i64 most, .int .i64 long]) :: (Ne ++ R))))) sel_ (CallW.hp fun hH => ?_)
        obtain ⟨pp, hpp⟩ := isX (v := withS l 3) hH (he.sub (N' := N ++ ((b5, .row true 28 1 [c26]) :: (N26 ++ ((p, .row true 48 1 [c, .int .i64 hand, ct, .int .i64 most, .int .i64 long]) :: (Ne ++ R))))) subs_)
        have hea := ents_add he hpp hX
        have hfl : (cs.filter fun d => !pp d).length ≤ cs.length := List.length_filter_le _ _
        refine DeleteFunc_w (p := pp) (caps := [(b5, 0)]) hh (by omega) (fun d hd H0 K' hs k' => ?_) fun c33 N33 h33 => ?_
        · obtain ⟨i, hi⟩ := List.getElem?_of_mem hd
          have hil := (List.getElem?_eq_some_iff.1 hi).1
          have hx : E[i]? = some E[i] := List.getElem?_eq_getElem (by omega)
          rw [hpp i d _ hi hx] at k'
          refine same1_w (x := withS l 3) (El.sel (El.row (List.Mem.head _)) hs) ((hX.sub subs_).sub hs.mem) (((he.2 i d _ hi hx).sub subs_).sub hs.mem) (by rw [withS_len]; omega) k'
        refine w_o rfl rfl rfl (op_nilCheck rfl ?_)
        refine w_o rfl rfl rfl (op_fieldAddr fa_48_0 rfl ?_)
        refine w_on rfl rfl (op_store siz_22 rfl rfl rfl (by (repeat (first | exact Pick.head _ _ _ | apply Pick.tail | apply Pick.app)); first | done | fail) (Nat.le_of_ble_eq_true rfl) rfl ?_)
        refine w_end ?_
        refine seq_normal ?_
        refine w_seq ?_
        refine w_drawF ((p, .row true 48 1 [c33, .int .i64 hand, ct, .int .i64 most, .int .i64 long]) :: (b5, .row true 28 1 [c26]) :: (N26 ++ (Ne ++ R))) sel_ (by decide +kernel) (by decide +kernel) ?_
        refine f_b (guard_none rfl) rfl rfl rfl rfl (op_move rfl ?_)
        refine f_b (guard_none rfl) rfl rfl rfl rfl (op_move rfl ?_)
        refine f_b (guard_none rfl) rfl rfl rfl rfl (op_nilCheck rfl ?_)
        refine f_b (guard_none rfl) rfl rfl rfl rfl (op_fieldAddr fa_48_0 rfl ?_)
        refine f_l (guard_none rfl) rfl rfl rfl sel_ (op_loadF agg_22 rfl el_ rfl rfl) ?_
        refine f_a (guard_none rfl) rfl rfl rfl (by decide +kernel) (op_load1 agg_28 rfl el_ ?_)
        refine f_m (guard_none rfl) rfl rfl rfl (op_buildSlice rfl (bsl_22 _ _ _ (rfl : _ = some [_]) rfl (by decide)) fun b42 => ?_)
        refine ⟨sel_, ?_⟩
        refine f_m (guard_none rfl) rfl rfl rfl (op_appendHL elm_22 inf_28 zer_28 (by decide) und_22 rfl rfl h33 (by (repeat (first | exact PickL.front _ _ | exact PickL.nil _ | apply PickL.skip | apply PickL.skipL)); first | done | fail) (by omega) fun c43 N43 h43 => ?_)
        refine ⟨sel_, ?_⟩
        refine f_b (guard_none rfl) rfl rfl rfl rfl (op_nilCheck rfl ?_)
        refine f_b (guard_none rfl) rfl rfl rfl rfl (op_fieldAddr fa_48_0 rfl ?_)
        refine f_wn (guard_none rfl) rfl rfl rfl (op_store siz_22 rfl rfl rfl (by (repeat (first | exact Pick.head _ _ _ | apply Pick.tail | apply Pick.app)); first | done | fail) (Nat.le_of_ble_eq_true rfl) rfl ?_)
        refine f_end ?_
        refine seq_normal ?_
        refine w_seq ?_
        refine w_draw (by decide +kernel) (by decide +kernel) ?_
        refine w_d rfl rfl rfl (op_move rfl ?_)
        refine w_d rfl rfl rfl (op_move rfl ?_)
        refine w_d rfl rfl rfl (op_nilCheck rfl ?_)
        refine w_d rfl rfl rfl (op_fieldAddr fa_48_0 rfl ?_)
        refine w_d rfl rfl rfl (op_loadF agg_22 rfl el_ rfl ?_)
        refine w_d rfl rfl rfl (op_move rfl ?_)
        refine w_d rfl rfl rfl (op_nilCheck rfl ?_)
        refine w_d rfl rfl rfl (op_fieldAddr fa_48_0 rfl ?_)
        refine w_d rfl rfl rfl (op_loadF agg_22 rfl el_ rfl ?_)
        refine w_d rfl rfl rfl (op_lenC und_22 rfl h43.sl.lenC ?_)
        refine w_d rfl rfl rfl (op_move rfl ?_)
        refine w_d rfl rfl rfl (op_nilCheck rfl ?_)
        refine w_d rfl rfl rfl (op_fieldAddr fa_48_3 rfl ?_)
        refine w_d rfl rfl rfl (op_loadF agg_3 rfl el_ rfl ?_)
        refine w_d rfl rfl rfl (op_subi rfl rfl (by rw [List.length_append, List.length_singleton]; omega) (by rw [List.length_append, List.length_singleton]; omega) ?_)
        refine w_d rfl rfl rfl (op_max rfl rfl ?_)
        refine w_d rfl rfl rfl (op_sliceHL elm_22 siz_28 rfl h43 subs_ rfl (by omega) (by rw [List.length_append, List.length_singleton]; omega) fun c62 h62 => ?_)
        refine w_d rfl rfl rfl (op_nilCheck rfl ?_)
        refine w_d rfl rfl rfl (op_fieldAddr fa_48_0 rfl ?_)
        refine w_dn rfl rfl (op_store siz_22 rfl rfl rfl (by (repeat (first | exact Pick.head _ _ _ | apply Pick.tail | apply Pick.app)); first | done | fail) (Nat.le_of_ble_eq_true rfl) rfl ?_)
        refine w_end ?_
        refine seq_normal ?_
        refine w_seq ?_
        refine w_region ?_
        refine w_o rfl rfl rfl (op_move rfl ?_)
        refine w_o rfl rfl rfl (op_call rfl rfl rfl ?_)
        refine CallW.weak (H' := (p, hRow c62 hand ct most long) :: (N43 ++ (N26 ++ (Ne ++ R)))) sel_ (Rest_w h62.sl.lenC ?_)
        unfold hRow
        refine w_end ?_
        refine seq_normal ?_
        refine w_seq ?_
        refine w_region ?_
        refine w_o rfl rfl rfl (op_assign rfl ?_)
        refine w_end ?_
        refine seq_normal ?_
        refine w_ret ?_
        have hlen : (cs.filter (fun d => !pp d) ++ [c26]).length = (E.filter (fun y => !decide (withS l 3 = y)) ++ [withS l 3]).length := by
          rw [List.length_append, List.length_append, (hea 0).2]; rfl
        rw [hlen] at h62
        exact ret_ret rfl sel_ (k 0 c62 _ N43 N26 _ .nils _ h62 (hea _).1 (.inr (.inr ⟨rfl, by omega, by omega, rfl⟩)))
def KVh (H : Hyp) (L : List (List Sign)) (c : Cell) : Prop := ∃ cs : List Cell, Sl H 28 1 c cs.length (cs.flatMap encC) ∧ cs.length = L.length ∧ ∀ (i : Nat) (d : Cell) (x : List Sign), cs[i]? = some d → L[i]? = some x → Sl H 46 2 d x.length (x.flatMap encS)
theorem in_snocM {Ni Nc : Hyp} {cs : List Cell} {cc : Cell} {L : List (List Sign)} {x : List Sign} {i : Nat} (hcl : cs.length = i) (hx : L[i]? = some x) (hin : ∀ (j : Nat) (c : Cell) (l : List Sign), cs[j]? = some c → L[j]? = some l → Sl Ni 46 2 c l.length (l.flatMap encS)) (hC : Sl Nc 46 2 cc x.length (x.flatMap encS)) :
    ∀ (j : Nat) (c : Cell) (l : List Sign), (cs ++ [cc])[j]? = some c → L[j]? = some l → Sl (Nc ++ Ni) 46 2 c l.length (l.flatMap encS) := by
  intro j c2 l2 h h'
  rw [List.getElem?_append] at h
  split at h
  · exact (hin j c2 l2 h h').app
  · have e1 : j = i := by
      rcases Nat.lt_or_ge (j - cs.length) 1 with q | q
      · omega
      · rw [List.getElem?_eq_none (by simpa using q)] at h; cases h
    subst e1
    rw [hcl, Nat.sub_self] at h
    simp at h
    subst h
    rw [hx] at h'
    cases h'
    exact hC.sub fun y hy => List.mem_append_left _ hy
theorem histAll_w {H : Hyp} {K : V → Hyp → Prop} {p : Nat} {c ct : Cell} {hand most long : Int} {L : List (List Sign)} (hb : (p, hRow c hand ct most long) ∈ H) (hL : KVh H L c) (hl : L.length ≤ 1000) (hLe : ∀ x ∈ L, x.length ≤ 10000) (k : ∀ c' N, KVh (N ++ H) L c' → K (.one (.c c')) (N ++ H)) : CallW Try.prog Xs 7 [ptrV p 0] H K := by
  obtain ⟨cs, g1, g2, g3⟩ := hL
  unfold hRow at hb
  refine call_of (n := 25) (fun _ => rfl) Try.func7 rfl rfl ?_
  refine w_seq ?_
  refine w_region ?_
  refine w_o rfl rfl rfl (op_assign rfl ?_)
  refine w_end ?_
  refine seq_normal ?_
  refine w_seq ?_
  refine w_region ?_
  refine w_o rfl rfl rfl (op_assign rfl ?_)
  refine w_end ?_
  refine seq_normal ?_
  refine w_seq ?_
  refine w_seq ?_
  refine w_region ?_
  refine w_o rfl rfl rfl (op_move rfl ?_)
  refine w_o rfl rfl rfl (op_nilEq rfl rfl rfl (by simp only [nilKind, und_24]) ?_)
  refine w_end ?_
  refine seq_normal ?_
  refine w_condF rfl ?_
  refine w_skip ?_
  refine seq_normal ?_
  refine w_seq ?_
  refine w_seq ?_
  refine w_region ?_
  refine w_o rfl rfl rfl (op_move rfl ?_)
  refine w_o rfl rfl rfl (op_nilCheck rfl ?_)
  refine w_o rfl rfl rfl (op_fieldAddr fa_48_0 rfl ?_)
  refine w_o rfl rfl rfl (op_loadF agg_22 rfl el_ rfl ?_)
  refine w_o rfl rfl rfl (op_lenC und_22 rfl g1.lenC ?_)
  refine w_o rfl rfl rfl (op_move rfl ?_)
  refine w_end ?_
  refine seq_normal ?_
  refine w_block ?_
  refine w_loop (fun q e H' => ∃ (i : Nat) (co : Cell) (ds : List Cell) (No Ni : Hyp), i ≤ L.length ∧ q = L.length - i ∧ Own 28 1 co (ds.flatMap encC) No ∧ ds.length = i ∧ (∀ (j : Nat) (c : Cell) (l : List Sign), ds[j]? = some c → L[j]? = some l → Sl Ni 46 2 c l.length (l.flatMap encS)) ∧ H' = No ++ (Ni ++ H) ∧ e = [(3, .one (.c co)), (12, .one (.c c)), (13, vI (cs.length : Nat)), (14, vI (i : Nat))]) ?_ ?_
  · exact ⟨_, _, _, ⟨0, .nils, [], [], [], Nat.zero_le _, rfl, .nil, rfl, (fun j c l h => by simp at h), rfl, rfl⟩, env_, sel_⟩
  · rintro q e H' ⟨i, co, ds, No, Ni, hi, rfl, hO, hcl, hin, rfl, rfl⟩
    refine w_seq ?_
    refine w_region ?_
    refine w_o rfl rfl rfl (op_lt rfl rfl ?_)
    refine w_end ?_
    refine seq_normal ?_
    refine w_seq ?_
    first | refine w_cond rfl (fun hI2 => ?_) (fun hI2 => ?_) | refine w_condB rfl (fun hI2 => ?_) (fun hI2 => ?_)
    · obtain ⟨x, hx⟩ : ∃ x, L[i]? = some x := ⟨_, List.getElem?_eq_getElem (by omega)⟩
      have hxl := hLe x (List.mem_of_getElem? hx)
      refine w_skip ?_
      refine seq_normal ?_
      refine w_seq ?_
      refine w_block ?_
      refine w_seq ?_
      refine w_region ?_
      refine w_o rfl rfl rfl (op_indexT (enc := encC) (xs := cs) (j := i) und_22 siz_28 rfl rfl (g1.app.app) (fun _ => rfl) rfl (by omega) fun b16 o16 z16 h16 e16 => ?_)
      refine w_o rfl rfl rfl (op_load1 agg_28 rfl el_ ?_)
      refine w_o rfl rfl rfl (op_assign rfl ?_)
      refine w_end ?_
      refine seq_normal ?_
      refine w_region ?_
      refine w_o rfl rfl rfl (op_move rfl ?_)
      refine w_o rfl rfl rfl (op_move rfl ?_)
      refine w_o rfl rfl rfl (op_call rfl rfl rfl ?_)
      refine CloneS_w (l := x) ((g3 i z16 x h16 hx).app.app) (by omega) fun cc Nc hC => ?_
      refine w_o rfl rfl rfl (op_buildSlice rfl (bsl_22 _ _ _ (rfl : _ = some [_]) rfl (by decide)) fun b21 => ?_)
      refine w_o rfl rfl rfl (op_append1 (xs := ds) (enc := encC) (z0 := cc) elm_22 inf_28 zer_28 (by decide) und_22 rfl rfl hO (fun _ => rfl) (by (repeat (first | exact PickL.front _ _ | exact PickL.nil _ | apply PickL.skip | apply PickL.skipL)); first | done | fail) rfl (by omega) fun c22 N22 h22 => ?_)
      refine w_o rfl rfl rfl (op_assign rfl ?_)
      refine w_end ?_
      refine block_normal ?_
      refine seq_normal ?_
      refine w_region ?_
      refine w_o rfl rfl rfl (op_addi rfl rfl (by omega) (by omega) ?_)
      refine w_o rfl rfl rfl (op_move rfl ?_)
      refine w_end ?_
      exact loop_normal (k' := L.length - (i + 1)) (by omega) ⟨i + 1, c22, ds ++ [cc], N22, Nc ++ Ni, by omega, rfl, h22, by simp [hcl], in_snocM hcl hx hin (hC.slT (fun _ => rfl) (by decide) (fun _ q => q)), rfl, rfl⟩ env_ sel_
    · refine w_exit ?_
      refine seq_exit ?_
      refine loop_exit ?_
      refine block_hit rfl ?_
      refine seq_normal ?_
      refine w_seq ?_
      refine w_region ?_
      refine w_o rfl rfl rfl (op_move rfl ?_)
      refine w_o rfl rfl rfl (op_assign rfl ?_)
      refine w_end ?_
      refine seq_normal ?_
      refine w_ret ?_
      have hi' : i = L.length := by omega
      have k' := k co (No ++ Ni) ⟨ds, hO.slT (fun _ => rfl) (by decide) (fun y hy => List.mem_append_left _ (List.mem_append_left _ hy)), by omega, fun j d z p q => (hin j d z p q).sub fun y hy => List.mem_append_left _ (List.mem_append_right _ hy)⟩
      exact ret_ret rfl sel_ k'
end Go.Proofs.Ytajhjfgoefhdnaa.AM.B
