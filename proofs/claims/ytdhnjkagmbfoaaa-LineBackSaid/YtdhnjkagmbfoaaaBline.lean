/- Lines: what line's functions answer. -/
import Derived.Test.YtdhnjkagmbfoaaaAX
import Derived.Test.YtdhnjkagmbfoaaaBwordref
set_option linter.unusedVariables false
set_option linter.unusedSimpArgs false
set_option maxRecDepth 10000
set_option maxHeartbeats 4000000
namespace Go.Proofs.Ytdhnjkagmbfoaaa.AM.B
open Go Go.RowKit
section
variable {P : Program} {X : Spec} {e : Env} {H : Hyp} {K : V → Hyp → Prop}
/-- Two results: one of many cells, that lies in memory, and one more. -/
theorem ret_cellL {a t b o n t2 : Nat} {cs : List Cell} {v2 : V1} {H' : Hyp} (ha : Env.get e a = some (ptrV b o)) (ht : aggT P t = some true) (hn : sizeT P t = some n) (hl : cs.length = n) (hE : El H b o cs) (h2 : Env.get e t2 = some (.one v2)) (hs : Sel H H') (hk : K (.tup [.agg cs, v2]) H') : retPost P [.cell a t, .tmp t2] K .ret e H := by
  intro fr s h1 hq
  refine ⟨[.agg cs, v2], ?_, H', hq.sel hs, hk⟩
  have hr := hE.read hq
  rw [hl] at hr
  simp only [resultsA, h1 a _ ha, h1 t2 _ h2, xLoad, ht, hn, ptrV, hr]; rfl
end
/-- A line's cells. -/
abbrev lineV (c : Cell) (a : Int) : V := .one (.agg [c, .int .i64 a])
def rightL (l : List Sign) (a : Int) : Bool := decide (0 ≤ a ∧ a ≤ l.length ∧ l.all rightS = true)
theorem rightL_no {l : List Sign} {a : Int} (h : ¬ (0 ≤ a ∧ a ≤ l.length)) : rightL l a = false := decide_eq_false fun w => h ⟨w.1, w.2.1⟩
theorem rightL_all {l : List Sign} {a : Int} (h : 0 ≤ a ∧ a ≤ l.length) : rightL l a = l.all rightS := by
  unfold rightL
  cases l.all rightS
  · exact decide_eq_false fun w => by cases w.2.2
  · exact decide_eq_true ⟨h.1, h.2, rfl⟩
theorem Right_line_w {H H1 : Hyp} {K : V → Hyp → Prop} {c : Cell} {l : List Sign} {a : Int} (h : Sl H1 39 2 c l.length (l.flatMap encS)) (hs : ∀ y ∈ H1, y ∈ H) (hl : l.length ≤ 1000) (k : K (vB (rightL l a)) H) : CallW Try.prog Xs 24 [lineV c a] H K := by
  refine call_of (n := 20) (fun _ => rfl) Try.func24 rfl rfl ?_
  refine w_seq ?_
  refine w_region ?_
  refine w_o rfl rfl rfl (op_box rfl fun b1 => ?_)
  refine w_o rfl rfl rfl (op_assign rfl ?_)
  refine w_end ?_
  refine seq_normal ?_
  refine w_seq ?_
  refine w_region ?_
  refine w_o rfl rfl rfl (op_fieldAddr fa_24_1 rfl ?_)
  refine w_o rfl rfl rfl (op_loadF agg_3 rfl el_ rfl ?_)
  refine w_o rfl rfl rfl (op_ge rfl rfl ?_)
  refine w_o rfl rfl rfl (op_move rfl ?_)
  first | refine w_known (t := 6) rfl (fun g6 => ?_) (fun g6 => ?_) | refine w_knownB (t := 6) rfl (fun g6 => ?_) (fun g6 => ?_)
  · refine w_og rfl rfl rfl rfl rfl (op_fieldAddr fa_24_1 rfl ?_)
    refine w_og rfl rfl rfl rfl rfl (op_loadF agg_3 rfl el_ rfl ?_)
    refine w_og rfl rfl rfl rfl rfl (op_fieldAddr fa_24_0 rfl ?_)
    refine w_og rfl rfl rfl rfl rfl (op_loadF agg_22 rfl el_ rfl ?_)
    refine w_og rfl rfl rfl rfl rfl (op_lenC und_22 rfl h.lenC ?_)
    refine w_og rfl rfl rfl rfl rfl (op_le rfl rfl ?_)
    refine w_o rfl rfl rfl (op_pick rfl rfl rfl ?_)
    refine w_o rfl rfl rfl (op_move rfl ?_)
    first | refine w_known (t := 14) rfl (fun g14 => ?_) (fun g14 => ?_) | refine w_knownB (t := 14) rfl (fun g14 => ?_) (fun g14 => ?_)
    · refine w_og rfl rfl rfl rfl rfl (op_fieldAddr fa_24_0 rfl ?_)
      refine w_og rfl rfl rfl rfl rfl (op_loadF agg_22 rfl el_ rfl ?_)
      refine w_og rfl rfl rfl rfl rfl (op_call rfl rfl rfl ?_)
      refine signCheck_w ((h.sub hs).cons) (by omega) ?_
      refine w_og rfl rfl rfl rfl rfl (op_eq rfl rfl ?_)
      have hv : decide ((if l.all rightS = true then (0 : Int) else 2) = 0) = rightL l a := by
        rw [rightL_all (by omega)]
        cases l.all rightS <;> rfl
      refine w_o rfl rfl rfl (op_pick rfl rfl rfl ?_)
      refine w_o rfl rfl rfl (op_assign rfl ?_)
      refine w_end ?_
      refine seq_normal ?_
      refine w_ret ?_
      exact ret_bool rfl sel_ hv k
    · have hv : false = rightL l a := (rightL_no (by omega)).symm
      refine w_u rfl rfl rfl rfl rfl rfl ?_
      refine w_u rfl rfl rfl rfl rfl rfl ?_
      refine w_u rfl rfl rfl rfl rfl rfl ?_
      refine w_u rfl rfl rfl rfl rfl rfl ?_
      refine w_o rfl rfl rfl (op_pick rfl rfl rfl ?_)
      refine w_o rfl rfl rfl (op_assign rfl ?_)
      refine w_end ?_
      refine seq_normal ?_
      refine w_ret ?_
      exact ret_bool rfl sel_ hv k
  · have hv : false = rightL l a := (rightL_no (by omega)).symm
    refine w_u rfl rfl rfl rfl rfl rfl ?_
    refine w_u rfl rfl rfl rfl rfl rfl ?_
    refine w_u rfl rfl rfl rfl rfl rfl ?_
    refine w_u rfl rfl rfl rfl rfl rfl ?_
    refine w_u rfl rfl rfl rfl rfl rfl ?_
    refine w_u rfl rfl rfl rfl rfl rfl ?_
    refine w_o rfl rfl rfl (op_pick rfl rfl rfl ?_)
    refine w_o rfl rfl rfl (op_move rfl ?_)
    refine w_u rfl rfl rfl rfl rfl rfl ?_
    refine w_u rfl rfl rfl rfl rfl rfl ?_
    refine w_u rfl rfl rfl rfl rfl rfl ?_
    refine w_u rfl rfl rfl rfl rfl rfl ?_
    refine w_o rfl rfl rfl (op_pick rfl rfl rfl ?_)
    refine w_o rfl rfl rfl (op_assign rfl ?_)
    refine w_end ?_
    refine seq_normal ?_
    refine w_ret ?_
    exact ret_bool rfl sel_ hv k
theorem R17May_w {H H1 : Hyp} {K : V → Hyp → Prop} {c : Cell} {l : List Sign} {a : Int} (h : Sl H1 39 2 c l.length (l.flatMap encS)) (hs : ∀ y ∈ H1, y ∈ H) (hl : l.length ≤ 1000) (k : K (vB (rightL l a)) H) : CallW Try.prog Xs 6 [lineV c a] H K := by
  refine call_of (n := 19) (fun _ => rfl) Try.func6 rfl rfl ?_
  refine w_seq ?_
  refine w_region ?_
  refine w_o rfl rfl rfl (op_box rfl fun b1 => ?_)
  refine w_o rfl rfl rfl (op_assign rfl ?_)
  refine w_end ?_
  refine seq_normal ?_
  refine w_seq ?_
  refine w_region ?_
  refine w_o rfl rfl rfl (op_fieldAddr fa_24_1 rfl ?_)
  refine w_o rfl rfl rfl (op_loadF agg_3 rfl el_ rfl ?_)
  refine w_o rfl rfl rfl (op_ge rfl rfl ?_)
  refine w_o rfl rfl rfl (op_move rfl ?_)
  first | refine w_known (t := 6) rfl (fun g6 => ?_) (fun g6 => ?_) | refine w_knownB (t := 6) rfl (fun g6 => ?_) (fun g6 => ?_)
  · refine w_og rfl rfl rfl rfl rfl (op_fieldAddr fa_24_1 rfl ?_)
    refine w_og rfl rfl rfl rfl rfl (op_loadF agg_3 rfl el_ rfl ?_)
    refine w_og rfl rfl rfl rfl rfl (op_fieldAddr fa_24_0 rfl ?_)
    refine w_og rfl rfl rfl rfl rfl (op_loadF agg_22 rfl el_ rfl ?_)
    refine w_og rfl rfl rfl rfl rfl (op_lenC und_22 rfl h.lenC ?_)
    refine w_og rfl rfl rfl rfl rfl (op_le rfl rfl ?_)
    refine w_o rfl rfl rfl (op_pick rfl rfl rfl ?_)
    refine w_o rfl rfl rfl (op_move rfl ?_)
    first | refine w_known (t := 14) rfl (fun g14 => ?_) (fun g14 => ?_) | refine w_knownB (t := 14) rfl (fun g14 => ?_) (fun g14 => ?_)
    · refine w_og rfl rfl rfl rfl rfl (op_fieldAddr fa_24_0 rfl ?_)
      refine w_og rfl rfl rfl rfl rfl (op_loadF agg_22 rfl el_ rfl ?_)
      refine w_og rfl rfl rfl rfl rfl (op_call rfl rfl rfl ?_)
      have hv : l.all rightS = rightL l a := (rightL_all (by omega)).symm
      refine R04All_w ((h.sub hs).cons) (by omega) ?_
      refine w_o rfl rfl rfl (op_pick rfl rfl rfl ?_)
      refine w_o rfl rfl rfl (op_assign rfl ?_)
      refine w_end ?_
      refine seq_normal ?_
      refine w_ret ?_
      exact ret_bool rfl sel_ hv k
    · have hv : false = rightL l a := (rightL_no (by omega)).symm
      refine w_u rfl rfl rfl rfl rfl rfl ?_
      refine w_u rfl rfl rfl rfl rfl rfl ?_
      refine w_u rfl rfl rfl rfl rfl rfl ?_
      refine w_o rfl rfl rfl (op_pick rfl rfl rfl ?_)
      refine w_o rfl rfl rfl (op_assign rfl ?_)
      refine w_end ?_
      refine seq_normal ?_
      refine w_ret ?_
      exact ret_bool rfl sel_ hv k
  · have hv : false = rightL l a := (rightL_no (by omega)).symm
    refine w_u rfl rfl rfl rfl rfl rfl ?_
    refine w_u rfl rfl rfl rfl rfl rfl ?_
    refine w_u rfl rfl rfl rfl rfl rfl ?_
    refine w_u rfl rfl rfl rfl rfl rfl ?_
    refine w_u rfl rfl rfl rfl rfl rfl ?_
    refine w_u rfl rfl rfl rfl rfl rfl ?_
    refine w_o rfl rfl rfl (op_pick rfl rfl rfl ?_)
    refine w_o rfl rfl rfl (op_move rfl ?_)
    refine w_u rfl rfl rfl rfl rfl rfl ?_
    refine w_u rfl rfl rfl rfl rfl rfl ?_
    refine w_u rfl rfl rfl rfl rfl rfl ?_
    refine w_o rfl rfl rfl (op_pick rfl rfl rfl ?_)
    refine w_o rfl rfl rfl (op_assign rfl ?_)
    refine w_end ?_
    refine seq_normal ?_
    refine w_ret ?_
    exact ret_bool rfl sel_ hv k
theorem R16Same_w {H H1 H2 : Hyp} {K : V → Hyp → Prop} {c c' : Cell} {l l' : List Sign} {a a' : Int} (h : Sl H1 39 2 c l.length (l.flatMap encS)) (hs : ∀ y ∈ H1, y ∈ H) (h' : Sl H2 39 2 c' l'.length (l'.flatMap encS)) (hs' : ∀ y ∈ H2, y ∈ H) (hl : l.length ≤ 1000) (k : K (vB (decide (a = a' ∧ l = l'))) H) : CallW Try.prog Xs 12 [lineV c a, lineV c' a'] H K := by
  refine call_of (n := 17) (fun _ => rfl) Try.func12 rfl rfl ?_
  refine w_seq ?_
  refine w_region ?_
  refine w_o rfl rfl rfl (op_box rfl fun b2 => ?_)
  refine w_o rfl rfl rfl (op_box rfl fun b3 => ?_)
  refine w_o rfl rfl rfl (op_assign rfl ?_)
  refine w_end ?_
  refine seq_normal ?_
  refine w_seq ?_
  refine w_region ?_
  refine w_o rfl rfl rfl (op_fieldAddr fa_24_1 rfl ?_)
  refine w_o rfl rfl rfl (op_loadF agg_3 rfl el_ rfl ?_)
  refine w_o rfl rfl rfl (op_fieldAddr fa_24_1 rfl ?_)
  refine w_o rfl rfl rfl (op_loadF agg_3 rfl el_ rfl ?_)
  refine w_o rfl rfl rfl (op_eq rfl rfl ?_)
  refine w_o rfl rfl rfl (op_move rfl ?_)
  first | refine w_known (t := 10) rfl (fun g10 => ?_) (fun g10 => ?_) | refine w_knownB (t := 10) rfl (fun g10 => ?_) (fun g10 => ?_)
  · refine w_og rfl rfl rfl rfl rfl (op_fieldAddr fa_24_0 rfl ?_)
    refine w_og rfl rfl rfl rfl rfl (op_loadF agg_22 rfl el_ rfl ?_)
    refine w_og rfl rfl rfl rfl rfl (op_fieldAddr fa_24_0 rfl ?_)
    refine w_og rfl rfl rfl rfl rfl (op_loadF agg_22 rfl el_ rfl ?_)
    refine w_og rfl rfl rfl rfl rfl (op_call rfl rfl rfl ?_)
    have hv : decide (l = l') = decide (a = a' ∧ l = l') := decide_eq_decide.2 ⟨fun w => ⟨g10, w⟩, fun w => w.2⟩
    refine R04Same_w ((h.sub hs).cons.cons) ((h'.sub hs').cons.cons) (by omega) ?_
    refine w_o rfl rfl rfl (op_pick rfl rfl rfl ?_)
    refine w_o rfl rfl rfl (op_assign rfl ?_)
    refine w_end ?_
    refine seq_normal ?_
    refine w_ret ?_
    exact ret_bool rfl sel_ hv k
  · have hv : false = decide (a = a' ∧ l = l') := (decide_eq_false fun w => g10 w.1).symm
    refine w_u rfl rfl rfl rfl rfl rfl ?_
    refine w_u rfl rfl rfl rfl rfl rfl ?_
    refine w_u rfl rfl rfl rfl rfl rfl ?_
    refine w_u rfl rfl rfl rfl rfl rfl ?_
    refine w_u rfl rfl rfl rfl rfl rfl ?_
    refine w_o rfl rfl rfl (op_pick rfl rfl rfl ?_)
    refine w_o rfl rfl rfl (op_assign rfl ?_)
    refine w_end ?_
    refine seq_normal ?_
    refine w_ret ?_
    exact ret_bool rfl sel_ hv k
theorem copied_w {H H1 : Hyp} {K : V → Hyp → Prop} {c : Cell} {l : List Sign} {a : Int} (h : Sl H1 39 2 c l.length (l.flatMap encS)) (hs : ∀ y ∈ H1, y ∈ H) (hl : l.length ≤ 1000) (k : ∀ c' N, Own 39 2 c' (l.flatMap encS) N → K (lineV c' a) (N ++ H)) : CallW Try.prog Xs 27 [lineV c a] H K := by
  refine call_of (n := 9) (fun _ => rfl) Try.func27 rfl rfl ?_
  refine w_seq ?_
  refine w_region ?_
  refine w_o rfl rfl rfl (op_box rfl fun b1 => ?_)
  refine w_o rfl rfl rfl (op_alloc zer_24 fun b2 => ?_)
  refine w_end ?_
  refine seq_normal ?_
  refine w_seq ?_
  refine w_drawF ((b1, .row true 24 1 [c, .int .i64 a]) :: H) sel_ (by decide +kernel) (by decide +kernel) ?_
  refine f_b (guard_none rfl) rfl rfl rfl rfl (op_fieldAddr fa_24_0 rfl ?_)
  refine f_a (guard_none rfl) rfl rfl rfl (by decide +kernel) (op_loadF agg_22 rfl el_ rfl ?_)
  refine f_m (guard_none rfl) rfl rfl rfl (op_call rfl rfl rfl ?_)
  refine CloneS_w (l := l) ((h.sub hs).cons.cons) (by omega) fun cc Nc hC => ?_
  refine ⟨sel_, ?_⟩
  refine f_b (guard_none rfl) rfl rfl rfl rfl (op_fieldAddr fa_24_1 rfl ?_)
  refine f_l (guard_none rfl) rfl rfl rfl sel_ (op_loadF agg_3 rfl el_ rfl rfl) ?_
  refine f_b (guard_none rfl) rfl rfl rfl rfl (op_build rfl ((bld_24 _).trans (rfl : _ = some [_, _])) ?_)
  refine f_wn (guard_none rfl) rfl rfl rfl (op_store siz_24 rfl rfl rfl (by (repeat (first | exact Pick.head _ _ _ | apply Pick.tail | apply Pick.app)); first | done | fail) (Nat.le_of_ble_eq_true rfl) rfl ?_)
  refine f_end ?_
  refine seq_normal ?_
  refine w_ret ?_
  exact ret_cellA rfl agg_24 siz_24 (El.row mem_) rfl sel_ (k _ _ hC)
/-! ### Two signs change places -/
def sw1 (l : List Sign) (a : Int) : Bool := decide (¬ a = 0 ∧ 2 ≤ l.length)
def swA (l : List Sign) (a : Int) : Int := if ¬ a = 0 ∧ 2 ≤ l.length then min a ((l.length : Nat) - 1 : Int) + 1 else a
def swR (l : List Sign) (a : Int) : List Sign :=
  if ¬ a = 0 ∧ 2 ≤ l.length then
    match l[(min a ((l.length : Nat) - 1 : Int)).toNat]?, l[(min a ((l.length : Nat) - 1 : Int)).toNat - 1]? with
    | some x, some y => (l.set ((min a ((l.length : Nat) - 1 : Int)).toNat - 1) x).set (min a ((l.length : Nat) - 1 : Int)).toNat y
    | _, _ => l
  else l
theorem swR_no {l : List Sign} {a : Int} (h : ¬ (¬ a = 0 ∧ 2 ≤ l.length)) : swR l a = l ∧ swA l a = a ∧ sw1 l a = false :=
  ⟨if_neg h, if_neg h, decide_eq_false h⟩
theorem swR_yes {l : List Sign} {a : Int} {m : Nat} {x y : Sign} (h : ¬ a = 0 ∧ 2 ≤ l.length) (hm : min a ((l.length : Nat) - 1 : Int) = (m : Int)) (hx : l[m]? = some x) (hy : l[m - 1]? = some y) : swR l a = (l.set (m - 1) x).set m y ∧ swA l a = (m : Int) + 1 ∧ sw1 l a = true := by
  refine ⟨?_, ?_, decide_eq_true h⟩
  · unfold swR
    rw [if_pos h, hm, Int.toNat_natCast, hx, hy]
  · unfold swA
    rw [if_pos h, hm]
theorem Swap_w {H H1 : Hyp} {K : V → Hyp → Prop} {c : Cell} {l : List Sign} {a : Int} (h : Sl H1 39 2 c l.length (l.flatMap encS)) (hs : ∀ y ∈ H1, y ∈ H) (hl : l.length ≤ 1000) (hr : rightL l a = true)
    (k : ∀ c' N, Own 39 2 c' ((swR l a).flatMap encS) N → K (.tup [.agg [c', .int .i64 (swA l a)], .c (.bool (sw1 l a))]) (N ++ H)) : CallW Try.prog Xs 8 [lineV c a] H K := by
  have hra : 0 ≤ a ∧ a ≤ l.length := by
    have := of_decide_eq_true hr; exact ⟨this.1, this.2.1⟩
  have hH := h.sub hs
  refine call_of (n := 54) (fun _ => rfl) Try.func8 rfl rfl ?_
  refine w_seq ?_
  refine w_region ?_
  refine w_o rfl rfl rfl (op_box rfl fun b1 => ?_)
  refine w_o rfl rfl rfl (op_alloc zer_24 fun b2 => ?_)
  refine w_o rfl rfl rfl (op_assign rfl ?_)
  refine w_end ?_
  refine seq_normal ?_
  refine w_seq ?_
  refine w_region ?_
  refine w_o rfl rfl rfl (op_loadA agg_24 siz_24 rfl rfl el_ ?_)
  refine w_o rfl rfl rfl (op_call rfl rfl rfl ?_)
  refine copied_w hH subs_ hl fun cc Nc hC => ?_
  refine w_o rfl rfl rfl (op_alloc zer_24 fun b4 => ?_)
  refine w_on rfl rfl (op_store siz_24 rfl rfl rfl (by (repeat (first | exact Pick.head _ _ _ | apply Pick.tail | apply Pick.app)); first | done | fail) (Nat.le_of_ble_eq_true rfl) rfl ?_)
  refine w_end ?_
  refine seq_normal ?_
  refine w_seq ?_
  refine w_region ?_
  refine w_o rfl rfl rfl (op_fieldAddr fa_24_0 rfl ?_)
  refine w_o rfl rfl rfl (op_loadF agg_22 rfl el_ rfl ?_)
  refine w_o rfl rfl rfl (op_lenC und_22 rfl h.lenC ?_)
  refine w_o rfl rfl rfl (op_assign rfl ?_)
  refine w_end ?_
  refine seq_normal ?_
  refine w_seq ?_
  refine w_seq ?_
  refine w_region ?_
  refine w_o rfl rfl rfl (op_loadA agg_24 siz_24 rfl rfl el_ ?_)
  refine w_o rfl rfl rfl (op_call rfl rfl rfl ?_)
  refine Right_line_w hH subs_ hl ?_
  rw [hr]
  refine w_o rfl rfl rfl (op_not rfl ?_)
  refine w_o rfl rfl rfl (op_move rfl ?_)
  refine w_og rfl rfl rfl rfl rfl (op_fieldAddr fa_24_1 rfl ?_)
  refine w_og rfl rfl rfl rfl rfl (op_loadF agg_3 rfl el_ rfl ?_)
  refine w_og rfl rfl rfl rfl rfl (op_eq rfl rfl ?_)
  refine w_o rfl rfl rfl (op_pick rfl rfl rfl ?_)
  refine w_o rfl rfl rfl (op_move rfl ?_)
  first | refine w_known (t := 20) rfl (fun g20 => ?_) (fun g20 => ?_) | refine w_knownB (t := 20) rfl (fun g20 => ?_) (fun g20 => ?_)
  · refine w_u rfl rfl rfl rfl rfl rfl ?_
    refine w_u rfl rfl rfl rfl rfl rfl ?_
    refine w_o rfl rfl rfl (op_pick rfl rfl rfl ?_)
    refine w_end ?_
    refine seq_normal ?_
    refine w_condT rfl ?_
    refine w_seq ?_
    refine w_region ?_
    refine w_o rfl rfl rfl (op_loadA agg_24 siz_24 rfl rfl el_ ?_)
    refine w_on rfl rfl (op_store siz_24 rfl rfl rfl (by (repeat (first | exact Pick.head _ _ _ | apply Pick.tail | apply Pick.app)); first | done | fail) (Nat.le_of_ble_eq_true rfl) rfl ?_)
    refine w_o rfl rfl rfl (op_assign rfl ?_)
    refine w_end ?_
    refine seq_normal ?_
    refine w_ret ?_
    refine seq_ret ?_
    obtain ⟨q1, q2, q3⟩ := swR_no (l := l) (a := a) (by omega)
    rw [q1, q2, q3] at k
    exact ret_cellL rfl agg_24 siz_24 rfl (El.row mem_) rfl sel_ (k _ _ hC)
  · refine w_og rfl rfl rfl rfl rfl (op_move rfl ?_)
    refine w_og rfl rfl rfl rfl rfl (op_lt rfl rfl ?_)
    refine w_o rfl rfl rfl (op_pick rfl rfl rfl ?_)
    refine w_end ?_
    refine seq_normal ?_
    first | refine w_cond rfl (fun hI1 => ?_) (fun hI1 => ?_) | refine w_condB rfl (fun hI1 => ?_) (fun hI1 => ?_)
    · refine w_seq ?_
      refine w_region ?_
      refine w_o rfl rfl rfl (op_loadA agg_24 siz_24 rfl rfl el_ ?_)
      refine w_on rfl rfl (op_store siz_24 rfl rfl rfl (by (repeat (first | exact Pick.head _ _ _ | apply Pick.tail | apply Pick.app)); first | done | fail) (Nat.le_of_ble_eq_true rfl) rfl ?_)
      refine w_o rfl rfl rfl (op_assign rfl ?_)
      refine w_end ?_
      refine seq_normal ?_
      refine w_ret ?_
      refine seq_ret ?_
      obtain ⟨q1, q2, q3⟩ := swR_no (l := l) (a := a) (by omega)
      rw [q1, q2, q3] at k
      exact ret_cellL rfl agg_24 siz_24 rfl (El.row mem_) rfl sel_ (k _ _ hC)
    · obtain ⟨mi, hmi⟩ : ∃ mi : Nat, min a ((l.length : Nat) - 1 : Int) = (mi : Int) := ⟨(min a ((l.length : Nat) - 1 : Int)).toNat, by omega⟩
      obtain ⟨bo, lo, rfl, rfl, hlo⟩ := hC.row_of (by rw [flatMap_len (enc := encS) (n := 2) (fun _ => rfl)]; omega)
      have hlo2 : lo = l.length := by rw [flatMap_len (enc := encS) (n := 2) (fun _ => rfl)] at hlo; omega
      subst hlo2
      refine w_skip ?_
      refine seq_normal ?_
      refine w_seq ?_
      refine w_region ?_
      refine w_o rfl rfl rfl (op_fieldAddr fa_24_1 rfl ?_)
      refine w_o rfl rfl rfl (op_loadF agg_3 rfl el_ rfl ?_)
      refine w_o rfl rfl rfl (op_move rfl ?_)
      refine w_o rfl rfl rfl (op_subi rfl rfl (by omega) (by omega) ?_)
      refine w_o rfl rfl rfl (op_min rfl rfl ?_)
      rw [hmi]
      refine w_o rfl rfl rfl (op_assign rfl ?_)
      refine w_end ?_
      refine seq_normal ?_
      refine w_seq ?_
      refine w_drawG ((b4, .row true 24 1 [.sl bo 0 l.length (.lim 0), .int .i64 a]) :: H) sel_ (by decide +kernel) (by decide +kernel) ?_
      refine f_b (guard_none rfl) rfl rfl rfl rfl (op_fieldAddr fa_24_0 rfl ?_)
      refine f_a (guard_none rfl) rfl rfl rfl (by decide +kernel) (op_loadF agg_22 rfl el_ rfl ?_)
      refine f_b (guard_none rfl) rfl rfl rfl rfl (op_move rfl ?_)
      refine f_b (guard_none rfl) rfl rfl rfl rfl (op_subi rfl rfl (by omega) (by omega) ?_)
      refine f_b (guard_none rfl) rfl rfl rfl rfl (op_fieldAddr fa_24_0 rfl ?_)
      refine f_l (guard_none rfl) rfl rfl rfl sel_ (op_loadF agg_22 rfl el_ rfl rfl) ?_
      refine f_b (guard_none rfl) rfl rfl rfl rfl (op_move rfl ?_)
      refine f_b (guard_none rfl) rfl rfl rfl rfl (op_fieldAddr fa_24_0 rfl ?_)
      refine f_a (guard_none rfl) rfl rfl rfl (by decide +kernel) (op_loadF agg_22 rfl el_ rfl ?_)
      refine f_b (guard_none rfl) rfl rfl rfl rfl (op_move rfl ?_)
      refine f_b (guard_none rfl) rfl rfl rfl rfl (op_indexT (enc := encS) (xs := l) (j := mi) und_22 siz_39 rfl rfl (Sl.of_row (own := true) mem_ hlo) (fun _ => rfl) rfl (by omega) fun b40 o40 z40 h40 e40 => ?_)
      refine f_a (guard_none rfl) rfl rfl rfl (by decide +kernel) (op_loadA agg_39 siz_39 rfl rfl el_ ?_)
      refine f_b (guard_none rfl) rfl rfl rfl rfl (op_fieldAddr fa_24_0 rfl ?_)
      refine f_a (guard_none rfl) rfl rfl rfl (by decide +kernel) (op_loadF agg_22 rfl el_ rfl ?_)
      refine f_b (guard_none rfl) rfl rfl rfl rfl (op_move rfl ?_)
      refine f_b (guard_none rfl) rfl rfl rfl rfl (op_subi rfl rfl (by omega) (by omega) ?_)
      refine f_b (guard_none rfl) rfl rfl rfl rfl (op_indexT (enc := encS) (xs := l) (j := mi - 1) und_22 siz_39 rfl rfl (Sl.of_row (own := true) mem_ hlo) (fun _ => rfl) (by omega) (by omega) fun b46 o46 z46 h46 e46 => ?_)
      refine f_a (guard_none rfl) rfl rfl rfl (by decide +kernel) (op_loadA agg_39 siz_39 rfl rfl el_ ?_)
      refine f_b (guard_none rfl) rfl rfl rfl rfl (op_indexE und_22 siz_39 rfl rfl (by omega) (by omega) ?_)
      refine f_mn (guard_none rfl) rfl rfl (op_storeT (xs := l) (enc := encS) (z0 := z40) (j := mi - 1) siz_39 rfl rfl rfl (fun _ => rfl) (by (repeat (first | exact Pick.head _ _ _ | apply Pick.tail | apply Pick.app)); first | done | fail) (by omega) (by omega) ?_)
      refine ⟨sel_, ?_⟩
      refine f_b (guard_none rfl) rfl rfl rfl rfl (op_indexE und_22 siz_39 rfl rfl (by omega) (by omega) ?_)
      refine f_mn (guard_none rfl) rfl rfl (op_storeT (xs := l.set (mi - 1) z40) (enc := encS) (z0 := z46) (j := mi) siz_39 rfl rfl rfl (fun _ => rfl) (by (repeat (first | exact Pick.head _ _ _ | apply Pick.tail | apply Pick.app)); first | done | fail) (by omega) (by rw [List.length_set]; omega) ?_)
      refine ⟨sel_, ?_⟩
      refine f_end ?_
      refine seq_normal ?_
      refine w_seq ?_
      refine w_region ?_
      refine w_o rfl rfl rfl (op_move rfl ?_)
      refine w_o rfl rfl rfl (op_addi rfl rfl (by omega) (by omega) ?_)
      refine w_o rfl rfl rfl (op_fieldAddr fa_24_1 rfl ?_)
      refine w_on rfl rfl (op_store siz_3 rfl rfl rfl (by (repeat (first | exact Pick.head _ _ _ | apply Pick.tail | apply Pick.app)); first | done | fail) (Nat.le_of_ble_eq_true rfl) rfl ?_)
      refine w_end ?_
      refine seq_normal ?_
      refine w_seq ?_
      refine w_region ?_
      refine w_o rfl rfl rfl (op_loadA agg_24 siz_24 rfl rfl el_ ?_)
      refine w_on rfl rfl (op_store siz_24 rfl rfl rfl (by (repeat (first | exact Pick.head _ _ _ | apply Pick.tail | apply Pick.app)); first | done | fail) (Nat.le_of_ble_eq_true rfl) rfl ?_)
      refine w_o rfl rfl rfl (op_assign rfl ?_)
      refine w_end ?_
      refine seq_normal ?_
      refine w_ret ?_
      obtain ⟨q1, q2, q3⟩ := swR_yes (l := l) (a := a) (by omega) hmi h40 h46
      rw [q1, q2, q3] at k
      exact ret_cellL rfl agg_24 siz_24 rfl (El.row mem_) rfl sel_ (k _ _ (Own.row bo l.length _ (by rw [flatMap_len (enc := encS) (n := 2) (fun _ => rfl), List.length_set, List.length_set])))
end Go.Proofs.Ytdhnjkagmbfoaaa.AM.B
