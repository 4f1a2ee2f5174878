/- Signs, and words, change places: the program's and the document's. -/
import Derived.Test.YtnlcmcooiodmmaaAX
import Derived.Test.YtnlcmcooiodmmaaBline
set_option linter.unusedVariables false
set_option linter.unusedSimpArgs false
set_option maxRecDepth 10000
set_option maxHeartbeats 4000000
namespace Go.Proofs.Ytnlcmcooiodmmaa.AM.B
open Go Go.RowKit
theorem R17Swap_w {H H1 : Hyp} {K : V → Hyp → Prop} {c : Cell} {l : List Sign} {a : Int} (h : Sl H1 47 2 c l.length (l.flatMap encS)) (hs : ∀ y ∈ H1, y ∈ H) (hl : l.length ≤ 1000) (hr : rightL l a = true)
    (k : ∀ c' N, Sl (N ++ H) 47 2 c' (swR l a).length ((swR l a).flatMap encS) → K (.tup [.agg [c', .int .i64 (swA l a)], .c (.bool (sw1 l a))]) (N ++ H)) : CallW Try.prog Xs 29 [lineV c a] H K := by
  have hra : 0 ≤ a ∧ a ≤ l.length := by
    have := of_decide_eq_true hr; exact ⟨this.1, this.2.1⟩
  have hH := h.sub hs
  refine call_of (n := 51) (fun _ => rfl) Try.func29 rfl rfl ?_
  refine w_seq ?_
  refine w_region ?_
  refine w_o rfl rfl rfl (op_box rfl fun b1 => ?_)
  refine w_o rfl rfl rfl (op_alloc zer_24 fun b2 => ?_)
  refine w_o rfl rfl rfl (op_assign rfl ?_)
  refine w_end ?_
  refine seq_normal ?_
  refine w_seq ?_
  refine w_seq ?_
  refine w_region ?_
  refine w_o rfl rfl rfl (op_fieldAddr fa_24_1 rfl ?_)
  refine w_o rfl rfl rfl (op_loadF agg_3 rfl el_ rfl ?_)
  refine w_o rfl rfl rfl (op_eq rfl rfl ?_)
  refine w_o rfl rfl rfl (op_move rfl ?_)
  first | refine w_known (t := 9) rfl (fun g9 => ?_) (fun g9 => ?_) | refine w_knownB (t := 9) rfl (fun g9 => ?_) (fun g9 => ?_)
  · refine w_u rfl rfl rfl rfl rfl rfl ?_
    refine w_u rfl rfl rfl rfl rfl rfl ?_
    refine w_u rfl rfl rfl rfl rfl rfl ?_
    refine w_u rfl rfl rfl rfl rfl rfl ?_
    refine w_o rfl rfl rfl (op_pick rfl rfl rfl ?_)
    refine w_end ?_
    refine seq_normal ?_
    refine w_condT rfl ?_
    refine w_seq ?_
    refine w_region ?_
    refine w_o rfl rfl rfl (op_loadA agg_24 siz_24 rfl rfl el_ ?_)
    refine w_on rfl rfl (op_store siz_24 rfl rfl rfl (by (repeat (first | exact Pick.head _ _ _ | apply Pick.tail | apply Pick.app)); first | done | fail) (Nat.le_of_ble_eq_true rfl) rfl ?_)
    refine w_o rfl rfl rfl (op_assign rfl ?_)
    refine w_end ?_
    refine seq_normal ?_
    refine w_ret ?_
    refine seq_ret ?_
    obtain ⟨q1, q2, q3⟩ := swR_no (l := l) (a := a) (by omega)
    rw [q1, q2, q3] at k
    exact ret_cellL rfl agg_24 siz_24 rfl (El.row mem_) rfl sel_ (k _ [] hH)
  · refine w_og rfl rfl rfl rfl rfl (op_fieldAddr fa_24_0 rfl ?_)
    refine w_og rfl rfl rfl rfl rfl (op_loadF agg_22 rfl el_ rfl ?_)
    refine w_og rfl rfl rfl rfl rfl (op_lenC und_22 rfl h.lenC ?_)
    refine w_og rfl rfl rfl rfl rfl (op_lt rfl rfl ?_)
    refine w_o rfl rfl rfl (op_pick rfl rfl rfl ?_)
    refine w_end ?_
    refine seq_normal ?_
    first | refine w_cond rfl (fun hI1 => ?_) (fun hI1 => ?_) | refine w_condB rfl (fun hI1 => ?_) (fun hI1 => ?_)
    · refine w_seq ?_
      refine w_region ?_
      refine w_o rfl rfl rfl (op_loadA agg_24 siz_24 rfl rfl el_ ?_)
      refine w_on rfl rfl (op_store siz_24 rfl rfl rfl (by (repeat (first | exact Pick.head _ _ _ | apply Pick.tail | apply Pick.app)); first | done | fail) (Nat.le_of_ble_eq_true rfl) rfl ?_)
      refine w_o rfl rfl rfl (op_assign rfl ?_)
      refine w_end ?_
      refine seq_normal ?_
      refine w_ret ?_
      refine seq_ret ?_
      obtain ⟨q1, q2, q3⟩ := swR_no (l := l) (a := a) (by omega)
      rw [q1, q2, q3] at k
      exact ret_cellL rfl agg_24 siz_24 rfl (El.row mem_) rfl sel_ (k _ [] hH)
    · obtain ⟨mi, hmi⟩ : ∃ mi : Nat, min a ((l.length : Nat) - 1 : Int) = (mi : Int) := ⟨(min a ((l.length : Nat) - 1 : Int)).toNat, by omega⟩
      refine w_skip ?_
      refine seq_normal ?_
      refine w_seq ?_
      refine w_region ?_
      refine w_o rfl rfl rfl (op_fieldAddr fa_24_1 rfl ?_)
      refine w_o rfl rfl rfl (op_loadF agg_3 rfl el_ rfl ?_)
      refine w_o rfl rfl rfl (op_fieldAddr fa_24_0 rfl ?_)
      refine w_o rfl rfl rfl (op_loadF agg_22 rfl el_ rfl ?_)
      refine w_o rfl rfl rfl (op_lenC und_22 rfl h.lenC ?_)
      refine w_o rfl rfl rfl (op_subi rfl rfl (by omega) (by omega) ?_)
      refine w_o rfl rfl rfl (op_call rfl rfl rfl ?_)
      refine Low_w ?_
      rw [hmi]
      refine w_o rfl rfl rfl (op_assign rfl ?_)
      refine w_end ?_
      refine seq_normal ?_
      refine w_seq ?_
      refine w_drawF ((b1, .row true 24 1 [c, .int .i64 a]) :: H) sel_ (by decide +kernel) (by decide +kernel) ?_
      refine f_b (guard_none rfl) rfl rfl rfl rfl (op_fieldAddr fa_24_0 rfl ?_)
      refine f_l (guard_none rfl) rfl rfl rfl sel_ (op_loadF agg_22 rfl el_ rfl rfl) ?_
      refine f_b (guard_none rfl) rfl rfl rfl rfl (op_move rfl ?_)
      refine f_b (guard_none rfl) rfl rfl rfl rfl (op_subi rfl rfl (by omega) (by omega) ?_)
      refine f_sliceT (enc := encS) (xs := l) (guard_none rfl) rfl rfl rfl sel_ elm_22 siz_47 (by decide) rfl hH subs_ (fun _ => rfl) rfl rfl (by omega) (by omega) (by omega) fun c27 h27 => ?_
      refine f_b (guard_none rfl) rfl rfl rfl rfl (op_fieldAddr fa_24_0 rfl ?_)
      refine f_a (guard_none rfl) rfl rfl rfl (by decide +kernel) (op_loadF agg_22 rfl el_ rfl ?_)
      refine f_b (guard_none rfl) rfl rfl rfl rfl (op_move rfl ?_)
      refine f_b (guard_none rfl) rfl rfl rfl rfl (op_indexT (enc := encS) (xs := l) (j := mi) und_22 siz_47 rfl rfl hH.cons.cons (fun _ => rfl) rfl (by omega) fun b31 o31 z31 h31 e31 => ?_)
      refine f_a (guard_none rfl) rfl rfl rfl (by decide +kernel) (op_loadA agg_47 siz_47 rfl rfl el_ ?_)
      refine f_b (guard_none rfl) rfl rfl rfl rfl (op_fieldAddr fa_24_0 rfl ?_)
      refine f_a (guard_none rfl) rfl rfl rfl (by decide +kernel) (op_loadF agg_22 rfl el_ rfl ?_)
      refine f_b (guard_none rfl) rfl rfl rfl rfl (op_move rfl ?_)
      refine f_b (guard_none rfl) rfl rfl rfl rfl (op_subi rfl rfl (by omega) (by omega) ?_)
      refine f_b (guard_none rfl) rfl rfl rfl rfl (op_indexT (enc := encS) (xs := l) (j := mi - 1) und_22 siz_47 rfl rfl hH.cons.cons (fun _ => rfl) (by omega) (by omega) fun b37 o37 z37 h37 e37 => ?_)
      refine f_a (guard_none rfl) rfl rfl rfl (by decide +kernel) (op_loadA agg_47 siz_47 rfl rfl el_ ?_)
      refine f_m (guard_none rfl) rfl rfl rfl (op_buildSlice rfl (bsl_22 _ _ _ (rfl : _ = some [_, _, _, _]) rfl (by decide)) fun b39 => ?_)
      refine ⟨sel_, ?_⟩
      refine f_m (guard_none rfl) rfl rfl rfl (op_call rfl rfl rfl ?_)
      refine R04Join_w (l' := [z31, z37]) h27.cons.cons.cons (Sl.of_row (own := true) mem_ rfl) (by simp [List.length_take]; omega) fun c40 N40 h40 => ?_
      refine ⟨sel_, ?_⟩
      refine f_b (guard_none rfl) rfl rfl rfl rfl (op_assign rfl ?_)
      refine f_end ?_
      refine seq_normal ?_
      refine w_seq ?_
      refine w_region ?_
      refine w_o rfl rfl rfl (op_move rfl ?_)
      refine w_o rfl rfl rfl (op_fieldAddr fa_24_0 rfl ?_)
      refine w_o rfl rfl rfl (op_loadF agg_22 rfl el_ rfl ?_)
      refine w_o rfl rfl rfl (op_move rfl ?_)
      refine w_o rfl rfl rfl (op_addi rfl rfl (by omega) (by omega) ?_)
      refine w_o rfl rfl rfl (op_sliceU (enc := encS) (xs := l) elm_22 siz_47 (by decide) rfl hH subs_ (fun _ => rfl) rfl rfl (by omega) (by omega) (by omega) fun c46 h46 => ?_)
      refine w_o rfl rfl rfl (op_appendT (enc := encS) elm_22 inf_47 zer_47 (by decide) und_22 rfl rfl h40 (fun _ => rfl) (PickL.front _ _) (h46.cons.cons.cons.app) (by simp only [List.length_take, List.length_drop, List.length_append, List.length_cons, List.length_nil]; omega) fun c47 N47 h47 => ?_)
      refine w_o rfl rfl rfl (op_move rfl ?_)
      refine w_o rfl rfl rfl (op_addi rfl rfl (by omega) (by omega) ?_)
      refine w_o rfl rfl rfl (op_build rfl ((bld_24 _).trans (rfl : _ = some [_, _])) ?_)
      refine w_on rfl rfl (op_store siz_24 rfl rfl rfl (by (repeat (first | exact Pick.head _ _ _ | apply Pick.tail | apply Pick.app)); first | done | fail) (Nat.le_of_ble_eq_true rfl) rfl ?_)
      refine w_o rfl rfl rfl (op_assign rfl ?_)
      refine w_end ?_
      refine seq_normal ?_
      refine w_ret ?_
      obtain ⟨q1, q2, q3⟩ := swR_yes (l := l) (a := a) (by omega) hmi h31 h37
      have hj := sw_join (l := l) (m := mi) (by omega) h31 h37
      rw [q1, q2, q3] at k
      have e1 : (l.drop ((0 : Nat) : Int).toNat).take (((mi : Int) - 1).toNat - ((0 : Nat) : Int).toNat) = l.take (mi - 1) := by
        rw [show ((0 : Nat) : Int).toNat = 0 from rfl, List.drop_zero, show ((mi : Int) - 1).toNat - 0 = mi - 1 by omega]
      have e2 : (l.drop ((mi : Int) + 1).toNat).take (((l.length : Nat) : Int).toNat - ((mi : Int) + 1).toNat) = l.drop (mi + 1) := by
        rw [show ((mi : Int) + 1).toNat = mi + 1 by omega]
        exact List.take_of_length_le (by rw [List.length_drop]; omega)
      rw [e1, e2, hj] at h47
      exact ret_cellL rfl agg_24 siz_24 rfl (El.row mem_) rfl sel_ (k _ _ (h47.slT (fun _ => rfl) (by decide) (fun x hx => List.mem_append_left _ hx)))
/-! ### Two words -/
def seg (l : List Sign) (i j : Int) : List Sign := (l.drop i.toNat).take (j.toNat - i.toNat)
theorem seg_len (l : List Sign) (i j : Int) : (seg l i j).length ≤ l.length := by
  unfold seg; rw [List.length_take, List.length_drop]; omega
def wordsOK (l : List Sign) (s1 e1 s2 : Int) : Prop := s1 < s2 ∧ e1 ≤ s2 ∧ isW l s1 = true ∧ isW l s2 = true
instance (l : List Sign) (s1 e1 s2 : Int) : Decidable (wordsOK l s1 e1 s2) := by unfold wordsOK; infer_instance
def wordsL (l : List Sign) (s1 e1 s2 e2 : Int) : List Sign := seg l ((0 : Nat) : Int) s1 ++ seg l s2 e2 ++ (seg l e1 s2 ++ seg l s1 e1) ++ seg l e2 ((l.length : Nat) : Int)
def sS2 (l : List Sign) (a : Int) : Int := backV l (nextV l a)
def sE2 (l : List Sign) (a : Int) : Int := nextV l (sS2 l a)
def sS1 (l : List Sign) (a : Int) : Int := backV l (sS2 l a)
def sE1 (l : List Sign) (a : Int) : Int := nextV l (sS1 l a)
def swwB (l : List Sign) (a : Int) : Bool := decide (wordsOK l (sS1 l a) (sE1 l a) (sS2 l a))
def swwR (l : List Sign) (a : Int) : List Sign := if wordsOK l (sS1 l a) (sE1 l a) (sS2 l a) then wordsL l (sS1 l a) (sE1 l a) (sS2 l a) (sE2 l a) else l
def swwA (l : List Sign) (a : Int) : Int := if wordsOK l (sS1 l a) (sE1 l a) (sS2 l a) then sE2 l a else a
theorem sww_no {l : List Sign} {a s1 e1 s2 : Int} (h2 : backV l (nextV l a) = s2) (h1 : backV l s2 = s1) (g1 : nextV l s1 = e1) (h : ¬ wordsOK l s1 e1 s2) : swwR l a = l ∧ swwA l a = a ∧ swwB l a = false := by
  subst g1; subst h1; subst h2
  exact ⟨if_neg h, if_neg h, decide_eq_false h⟩
theorem sww_yes {l : List Sign} {a s1 e1 s2 e2 : Int} (h2 : backV l (nextV l a) = s2) (g2 : nextV l s2 = e2) (h1 : backV l s2 = s1) (g1 : nextV l s1 = e1) (h : wordsOK l s1 e1 s2) : swwR l a = wordsL l s1 e1 s2 e2 ∧ swwA l a = e2 ∧ swwB l a = true := by
  subst g1; subst h1; subst g2; subst h2
  exact ⟨if_pos h, if_pos h, decide_eq_true h⟩
theorem isW_at {l : List Sign} {i : Int} {x : Sign} (h0 : 0 ≤ i) (h : l[i.toNat]? = some x) : isW l i = decide (kindV x.f0 = 1) := by
  unfold isW; rw [kindO_at h0 h]
theorem SwapWords_w {H H1 : Hyp} {K : V → Hyp → Prop} {c : Cell} {l : List Sign} {a : Int} (h : Sl H1 47 2 c l.length (l.flatMap encS)) (hs : ∀ y ∈ H1, y ∈ H) (hl : l.length ≤ 1000) (hr : rightL l a = true)
    (k : ∀ c' N, Own 47 2 c' ((swwR l a).flatMap encS) N → K (.tup [.agg [c', .int .i64 (swwA l a)], .c (.bool (swwB l a))]) (N ++ H)) : CallW Try.prog Xs 30 [lineV c a] H K := by
  have hra : 0 ≤ a ∧ a ≤ l.length := by
    have := of_decide_eq_true hr; exact ⟨this.1, this.2.1⟩
  have hH := h.sub hs
  obtain ⟨s2, hs2⟩ : ∃ s2, backV l (nextV l a) = s2 := ⟨_, rfl⟩
  obtain ⟨e2, he2⟩ : ∃ e2, nextV l s2 = e2 := ⟨_, rfl⟩
  obtain ⟨s1, hs1⟩ : ∃ s1, backV l s2 = s1 := ⟨_, rfl⟩
  obtain ⟨e1, he1⟩ : ∃ e1, nextV l s1 = e1 := ⟨_, rfl⟩
  have i2 := backV_in l (nextV l a)
  have j2 := nextV_in l s2
  have i1 := backV_in l s2
  have j1 := nextV_in l s1
  rw [hs2] at i2; rw [he2] at j2; rw [hs1] at i1; rw [he1] at j1
  refine call_of (n := 81) (fun _ => rfl) Try.func30 rfl rfl ?_
  refine w_seq ?_
  refine w_region ?_
  refine w_o rfl rfl rfl (op_box rfl fun b1 => ?_)
  refine w_o rfl rfl rfl (op_alloc zer_24 fun b2 => ?_)
  refine w_o rfl rfl rfl (op_assign rfl ?_)
  refine w_end ?_
  refine seq_normal ?_
  refine w_seq ?_
  refine w_region ?_
  refine w_o rfl rfl rfl (op_fieldAddr fa_24_0 rfl ?_)
  refine w_o rfl rfl rfl (op_loadF agg_22 rfl el_ rfl ?_)
  refine w_o rfl rfl rfl (op_assign rfl ?_)
  refine w_end ?_
  refine seq_normal ?_
  refine w_seq ?_
  refine w_region ?_
  refine w_o rfl rfl rfl (op_move rfl ?_)
  refine w_o rfl rfl rfl (op_move rfl ?_)
  refine w_o rfl rfl rfl (op_fieldAddr fa_24_1 rfl ?_)
  refine w_o rfl rfl rfl (op_loadF agg_3 rfl el_ rfl ?_)
  refine w_o rfl rfl rfl (op_call rfl rfl rfl ?_)
  refine Next_w hH.cons.cons hl ?_
  refine w_o rfl rfl rfl (op_call rfl rfl rfl ?_)
  refine Back_w hH.cons.cons hl ?_
  rw [hs2]
  refine w_o rfl rfl rfl (op_assign rfl ?_)
  refine w_end ?_
  refine seq_normal ?_
  refine w_seq ?_
  refine w_region ?_
  refine w_o rfl rfl rfl (op_move rfl ?_)
  refine w_o rfl rfl rfl (op_move rfl ?_)
  refine w_o rfl rfl rfl (op_call rfl rfl rfl ?_)
  refine Next_w hH.cons.cons hl ?_
  rw [he2]
  refine w_o rfl rfl rfl (op_assign rfl ?_)
  refine w_end ?_
  refine seq_normal ?_
  refine w_seq ?_
  refine w_region ?_
  refine w_o rfl rfl rfl (op_move rfl ?_)
  refine w_o rfl rfl rfl (op_move rfl ?_)
  refine w_o rfl rfl rfl (op_call rfl rfl rfl ?_)
  refine Back_w hH.cons.cons hl ?_
  rw [hs1]
  refine w_o rfl rfl rfl (op_assign rfl ?_)
  refine w_end ?_
  refine seq_normal ?_
  refine w_seq ?_
  refine w_region ?_
  refine w_o rfl rfl rfl (op_move rfl ?_)
  refine w_o rfl rfl rfl (op_move rfl ?_)
  refine w_o rfl rfl rfl (op_call rfl rfl rfl ?_)
  refine Next_w hH.cons.cons hl ?_
  rw [he1]
  refine w_o rfl rfl rfl (op_assign rfl ?_)
  refine w_end ?_
  refine seq_normal ?_
  refine w_seq ?_
  refine w_seq ?_
  refine w_region ?_
  refine w_o rfl rfl rfl (op_loadA agg_24 siz_24 rfl rfl el_ ?_)
  refine w_o rfl rfl rfl (op_call rfl rfl rfl ?_)
  refine Right_line_w hH subs_ hl ?_
  rw [hr]
  refine w_o rfl rfl rfl (op_not rfl ?_)
  refine w_o rfl rfl rfl (op_move rfl ?_)
  refine w_og rfl rfl rfl rfl rfl (op_move rfl ?_)
  refine w_og rfl rfl rfl rfl rfl (op_move rfl ?_)
  refine w_og rfl rfl rfl rfl rfl (op_ge rfl rfl ?_)
  refine w_o rfl rfl rfl (op_pick rfl rfl rfl ?_)
  refine w_o rfl rfl rfl (op_move rfl ?_)
  first | refine w_known (t := 34) rfl (fun g34 => ?_) (fun g34 => ?_) | refine w_knownB (t := 34) rfl (fun g34 => ?_) (fun g34 => ?_)
  · have hno : ¬ wordsOK l s1 e1 s2 := fun w => by have := w.1; omega
    refine w_u rfl rfl rfl rfl rfl rfl ?_
    refine w_u rfl rfl rfl rfl rfl rfl ?_
    refine w_u rfl rfl rfl rfl rfl rfl ?_
    refine w_o rfl rfl rfl (op_pick rfl rfl rfl ?_)
    refine w_o rfl rfl rfl (op_move rfl ?_)
    refine w_u rfl rfl rfl rfl rfl rfl ?_
    refine w_u rfl rfl rfl rfl rfl rfl ?_
    refine w_u rfl rfl rfl rfl rfl rfl ?_
    refine w_u rfl rfl rfl rfl rfl rfl ?_
    refine w_u rfl rfl rfl rfl rfl rfl ?_
    refine w_u rfl rfl rfl rfl rfl rfl ?_
    refine w_u rfl rfl rfl rfl rfl rfl ?_
    refine w_o rfl rfl rfl (op_pick rfl rfl rfl ?_)
    refine w_o rfl rfl rfl (op_move rfl ?_)
    refine w_u rfl rfl rfl rfl rfl rfl ?_
    refine w_u rfl rfl rfl rfl rfl rfl ?_
    refine w_u rfl rfl rfl rfl rfl rfl ?_
    refine w_u rfl rfl rfl rfl rfl rfl ?_
    refine w_u rfl rfl rfl rfl rfl rfl ?_
    refine w_u rfl rfl rfl rfl rfl rfl ?_
    refine w_u rfl rfl rfl rfl rfl rfl ?_
    refine w_o rfl rfl rfl (op_pick rfl rfl rfl ?_)
    refine w_end ?_
    refine seq_normal ?_
    refine w_condT rfl ?_
    refine w_seq ?_
    refine w_region ?_
    refine w_o rfl rfl rfl (op_loadA agg_24 siz_24 rfl rfl el_ ?_)
    refine w_o rfl rfl rfl (op_call rfl rfl rfl ?_)
    refine copied_w hH subs_ hl fun cc Nc hC => ?_
    refine w_on rfl rfl (op_store siz_24 rfl rfl rfl (by (repeat (first | exact Pick.head _ _ _ | apply Pick.tail | apply Pick.app)); first | done | fail) (Nat.le_of_ble_eq_true rfl) rfl ?_)
    refine w_o rfl rfl rfl (op_assign rfl ?_)
    refine w_end ?_
    refine seq_normal ?_
    refine w_ret ?_
    refine seq_ret ?_
    obtain ⟨q1, q2, q3⟩ := sww_no hs2 hs1 he1 hno
    rw [q1, q2, q3] at k
    exact ret_cellL rfl agg_24 siz_24 rfl (El.row mem_) rfl sel_ (k _ _ hC)
  · refine w_og rfl rfl rfl rfl rfl (op_move rfl ?_)
    refine w_og rfl rfl rfl rfl rfl (op_move rfl ?_)
    refine w_og rfl rfl rfl rfl rfl (op_gt rfl rfl ?_)
    refine w_o rfl rfl rfl (op_pick rfl rfl rfl ?_)
    refine w_o rfl rfl rfl (op_move rfl ?_)
    first | refine w_known (t := 39) rfl (fun g39 => ?_) (fun g39 => ?_) | refine w_knownB (t := 39) rfl (fun g39 => ?_) (fun g39 => ?_)
    · have hno : ¬ wordsOK l s1 e1 s2 := fun w => by have := w.2.1; omega
      refine w_u rfl rfl rfl rfl rfl rfl ?_
      refine w_u rfl rfl rfl rfl rfl rfl ?_
      refine w_u rfl rfl rfl rfl rfl rfl ?_
      refine w_u rfl rfl rfl rfl rfl rfl ?_
      refine w_u rfl rfl rfl rfl rfl rfl ?_
      refine w_u rfl rfl rfl rfl rfl rfl ?_
      refine w_u rfl rfl rfl rfl rfl rfl ?_
      refine w_o rfl rfl rfl (op_pick rfl rfl rfl ?_)
      refine w_o rfl rfl rfl (op_move rfl ?_)
      refine w_u rfl rfl rfl rfl rfl rfl ?_
      refine w_u rfl rfl rfl rfl rfl rfl ?_
      refine w_u rfl rfl rfl rfl rfl rfl ?_
      refine w_u rfl rfl rfl rfl rfl rfl ?_
      refine w_u rfl rfl rfl rfl rfl rfl ?_
      refine w_u rfl rfl rfl rfl rfl rfl ?_
      refine w_u rfl rfl rfl rfl rfl rfl ?_
      refine w_o rfl rfl rfl (op_pick rfl rfl rfl ?_)
      refine w_end ?_
      refine seq_normal ?_
      refine w_condT rfl ?_
      refine w_seq ?_
      refine w_region ?_
      refine w_o rfl rfl rfl (op_loadA agg_24 siz_24 rfl rfl el_ ?_)
      refine w_o rfl rfl rfl (op_call rfl rfl rfl ?_)
      refine copied_w hH subs_ hl fun cc Nc hC => ?_
      refine w_on rfl rfl (op_store siz_24 rfl rfl rfl (by (repeat (first | exact Pick.head _ _ _ | apply Pick.tail | apply Pick.app)); first | done | fail) (Nat.le_of_ble_eq_true rfl) rfl ?_)
      refine w_o rfl rfl rfl (op_assign rfl ?_)
      refine w_end ?_
      refine seq_normal ?_
      refine w_ret ?_
      refine seq_ret ?_
      obtain ⟨q1, q2, q3⟩ := sww_no hs2 hs1 he1 hno
      rw [q1, q2, q3] at k
      exact ret_cellL rfl agg_24 siz_24 rfl (El.row mem_) rfl sel_ (k _ _ hC)
    · refine w_og rfl rfl rfl rfl rfl (op_move rfl ?_)
      refine w_og rfl rfl rfl rfl rfl (op_move rfl ?_)
      refine w_og rfl rfl rfl rfl rfl (op_indexT (enc := encS) (xs := l) (j := s1.toNat) und_22 siz_47 rfl rfl hH.cons.cons (fun _ => rfl) (by omega) (by omega) fun b42 o42 z42 h42 e42 => ?_)
      refine w_og rfl rfl rfl rfl rfl (op_fieldAddr fa_47_0 rfl ?_)
      refine w_og rfl rfl rfl rfl rfl (op_loadF agg_3 rfl el_ rfl ?_)
      refine w_og rfl rfl rfl rfl rfl (op_call rfl rfl rfl ?_)
      refine word_Kind_sw (Go.Proofs.Ytnlcmcooiodmmaa.P.kind_both _).1 ?_
      refine w_og rfl rfl rfl rfl rfl (op_ne rfl rfl ?_)
      refine w_o rfl rfl rfl (op_pick rfl rfl rfl ?_)
      refine w_o rfl rfl rfl (op_move rfl ?_)
      first | refine w_known (t := 48) rfl (fun g48 => ?_) (fun g48 => ?_) | refine w_knownB (t := 48) rfl (fun g48 => ?_) (fun g48 => ?_)
      · have hno : ¬ wordsOK l s1 e1 s2 := fun w => g48 (of_decide_eq_true ((isW_at (by omega) h42).symm.trans w.2.2.1))
        refine w_u rfl rfl rfl rfl rfl rfl ?_
        refine w_u rfl rfl rfl rfl rfl rfl ?_
        refine w_u rfl rfl rfl rfl rfl rfl ?_
        refine w_u rfl rfl rfl rfl rfl rfl ?_
        refine w_u rfl rfl rfl rfl rfl rfl ?_
        refine w_u rfl rfl rfl rfl rfl rfl ?_
        refine w_u rfl rfl rfl rfl rfl rfl ?_
        refine w_o rfl rfl rfl (op_pick rfl rfl rfl ?_)
        refine w_end ?_
        refine seq_normal ?_
        refine w_condT rfl ?_
        refine w_seq ?_
        refine w_region ?_
        refine w_o rfl rfl rfl (op_loadA agg_24 siz_24 rfl rfl el_ ?_)
        refine w_o rfl rfl rfl (op_call rfl rfl rfl ?_)
        refine copied_w hH subs_ hl fun cc Nc hC => ?_
        refine w_on rfl rfl (op_store siz_24 rfl rfl rfl (by (repeat (first | exact Pick.head _ _ _ | apply Pick.tail | apply Pick.app)); first | done | fail) (Nat.le_of_ble_eq_true rfl) rfl ?_)
        refine w_o rfl rfl rfl (op_assign rfl ?_)
        refine w_end ?_
        refine seq_normal ?_
        refine w_ret ?_
        refine seq_ret ?_
        obtain ⟨q1, q2, q3⟩ := sww_no hs2 hs1 he1 hno
        rw [q1, q2, q3] at k
        exact ret_cellL rfl agg_24 siz_24 rfl (El.row mem_) rfl sel_ (k _ _ hC)
      · refine w_og rfl rfl rfl rfl rfl (op_move rfl ?_)
        refine w_og rfl rfl rfl rfl rfl (op_move rfl ?_)
        refine w_og rfl rfl rfl rfl rfl (op_indexT (enc := encS) (xs := l) (j := s2.toNat) und_22 siz_47 rfl rfl hH.cons.cons (fun _ => rfl) (by omega) (by omega) fun b51 o51 z51 h51 e51 => ?_)
        refine w_og rfl rfl rfl rfl rfl (op_fieldAddr fa_47_0 rfl ?_)
        refine w_og rfl rfl rfl rfl rfl (op_loadF agg_3 rfl el_ rfl ?_)
        refine w_og rfl rfl rfl rfl rfl (op_call rfl rfl rfl ?_)
        refine word_Kind_sw (Go.Proofs.Ytnlcmcooiodmmaa.P.kind_both _).1 ?_
        refine w_og rfl rfl rfl rfl rfl (op_ne rfl rfl ?_)
        refine w_o rfl rfl rfl (op_pick rfl rfl rfl ?_)
        refine w_end ?_
        refine seq_normal ?_
        first | refine w_cond rfl (fun hI1 => ?_) (fun hI1 => ?_) | refine w_condB rfl (fun hI1 => ?_) (fun hI1 => ?_)
        · have hno : ¬ wordsOK l s1 e1 s2 := fun w => hI1 (of_decide_eq_true ((isW_at (by omega) h51).symm.trans w.2.2.2))
          refine w_seq ?_
          refine w_region ?_
          refine w_o rfl rfl rfl (op_loadA agg_24 siz_24 rfl rfl el_ ?_)
          refine w_o rfl rfl rfl (op_call rfl rfl rfl ?_)
          refine copied_w hH subs_ hl fun cc Nc hC => ?_
          refine w_on rfl rfl (op_store siz_24 rfl rfl rfl (by (repeat (first | exact Pick.head _ _ _ | apply Pick.tail | apply Pick.app)); first | done | fail) (Nat.le_of_ble_eq_true rfl) rfl ?_)
          refine w_o rfl rfl rfl (op_assign rfl ?_)
          refine w_end ?_
          refine seq_normal ?_
          refine w_ret ?_
          refine seq_ret ?_
          obtain ⟨q1, q2, q3⟩ := sww_no hs2 hs1 he1 hno
          rw [q1, q2, q3] at k
          exact ret_cellL rfl agg_24 siz_24 rfl (El.row mem_) rfl sel_ (k _ _ hC)
        · have hok : wordsOK l s1 e1 s2 := ⟨by omega, by omega, (isW_at (by omega) h42).trans (decide_eq_true (Classical.byContradiction fun q => g48 q)), (isW_at (by omega) h51).trans (decide_eq_true (Classical.byContradiction fun q => hI1 q))⟩
          refine w_skip ?_
          refine seq_normal ?_
          refine w_seq ?_
          refine w_draw (by decide +kernel) (by decide +kernel) ?_
          refine w_d rfl rfl rfl (op_move rfl ?_)
          refine w_d rfl rfl rfl (op_move rfl ?_)
          refine w_d rfl rfl rfl (op_sliceU (enc := encS) (xs := l) elm_22 siz_47 (by decide) rfl hH subs_ (fun _ => rfl) rfl rfl (by omega) (by omega) (by omega) fun c61 h61 => ?_)
          refine w_d rfl rfl rfl (op_move rfl ?_)
          refine w_d rfl rfl rfl (op_move rfl ?_)
          refine w_d rfl rfl rfl (op_move rfl ?_)
          refine w_d rfl rfl rfl (op_sliceU (enc := encS) (xs := l) elm_22 siz_47 (by decide) rfl hH subs_ (fun _ => rfl) rfl rfl (by omega) (by omega) (by omega) fun c65 h65 => ?_)
          refine w_d rfl rfl rfl (op_move rfl ?_)
          refine w_d rfl rfl rfl (op_move rfl ?_)
          refine w_d rfl rfl rfl (op_move rfl ?_)
          refine w_d rfl rfl rfl (op_sliceU (enc := encS) (xs := l) elm_22 siz_47 (by decide) rfl hH subs_ (fun _ => rfl) rfl rfl (by omega) (by omega) (by omega) fun c69 h69 => ?_)
          refine w_d rfl rfl rfl (op_move rfl ?_)
          refine w_d rfl rfl rfl (op_move rfl ?_)
          refine w_d rfl rfl rfl (op_move rfl ?_)
          refine w_d rfl rfl rfl (op_sliceU (enc := encS) (xs := l) elm_22 siz_47 (by decide) rfl hH subs_ (fun _ => rfl) rfl rfl (by omega) (by omega) (by omega) fun c73 h73 => ?_)
          refine w_d rfl rfl rfl (op_move rfl ?_)
          refine w_d rfl rfl rfl (op_move rfl ?_)
          refine w_d rfl rfl rfl (op_sliceU (enc := encS) (xs := l) elm_22 siz_47 (by decide) rfl hH subs_ (fun _ => rfl) rfl rfl (by omega) (by omega) (by omega) fun c76 h76 => ?_)
          refine w_d rfl rfl rfl (op_buildSlice rfl (bsl_25 _ _ _ (rfl : _ = some [_, _, _, _, _]) rfl (by decide)) fun b77 => ?_)
          refine w_d rfl rfl rfl (op_call rfl rfl rfl ?_)
          refine ConcatS_w (cs := [c61, c65, c69, c73, c76]) (ll := [seg l ((0 : Nat) : Int) s1, seg l s2 e2, seg l e1 s2, seg l s1 e1, seg l e2 ((l.length : Nat) : Int)]) (Sl.of_row (own := true) mem_ rfl) (fun i c' l' a b => ?_) rfl (by simp) ?_ fun c78 N78 h78 => ?_
          · match i with
            | 0 => simp at a b; subst a; subst b; exact h61.cons.cons.cons
            | 1 => simp at a b; subst a; subst b; exact h65.cons.cons.cons
            | 2 => simp at a b; subst a; subst b; exact h69.cons.cons.cons
            | 3 => simp at a b; subst a; subst b; exact h73.cons.cons.cons
            | 4 => simp at a b; subst a; subst b; exact h76.cons.cons.cons
            | i + 5 => simp at a
          · have m1 := seg_len l ((0 : Nat) : Int) s1
            have m2 := seg_len l s2 e2
            have m3 := seg_len l e1 s2
            have m4 := seg_len l s1 e1
            have m5 := seg_len l e2 ((l.length : Nat) : Int)
            simp only [List.flatten_cons, List.flatten_nil, List.length_append, List.length_nil]
            omega
          have e78 : [seg l ((0 : Nat) : Int) s1, seg l s2 e2, seg l e1 s2, seg l s1 e1, seg l e2 ((l.length : Nat) : Int)].flatten = wordsL l s1 e1 s2 e2 := by
            simp only [List.flatten_cons, List.flatten_nil, List.append_nil, wordsL, List.append_assoc]
          rw [e78] at h78
          refine w_d rfl rfl rfl (op_move rfl ?_)
          refine w_d rfl rfl rfl (op_build rfl ((bld_24 _).trans (rfl : _ = some [_, _])) ?_)
          refine w_dn rfl rfl (op_store siz_24 rfl rfl rfl (by (repeat (first | exact Pick.head _ _ _ | apply Pick.tail | apply Pick.app)); first | done | fail) (Nat.le_of_ble_eq_true rfl) rfl ?_)
          refine w_d rfl rfl rfl (op_assign rfl ?_)
          refine w_end ?_
          refine seq_normal ?_
          refine w_ret ?_
          obtain ⟨q1, q2, q3⟩ := sww_yes hs2 he2 hs1 he1 hok
          rw [q1, q2, q3] at k
          exact ret_cellL rfl agg_24 siz_24 rfl (El.row mem_) rfl sel_ (k _ _ h78)
theorem R17SwapWords_w {H H1 : Hyp} {K : V → Hyp → Prop} {c : Cell} {l : List Sign} {a : Int} (h : Sl H1 47 2 c l.length (l.flatMap encS)) (hs : ∀ y ∈ H1, y ∈ H) (hl : l.length ≤ 1000) (hr : rightL l a = true)
    (k : ∀ c' N, Sl (N ++ H) 47 2 c' (swwR l a).length ((swwR l a).flatMap encS) → K (.tup [.agg [c', .int .i64 (swwA l a)], .c (.bool (swwB l a))]) (N ++ H)) : CallW Try.prog Xs 31 [lineV c a] H K := by
  have hra : 0 ≤ a ∧ a ≤ l.length := by
    have := of_decide_eq_true hr; exact ⟨this.1, this.2.1⟩
  have hH := h.sub hs
  obtain ⟨s2, hs2⟩ : ∃ s2, backV l (nextV l a) = s2 := ⟨_, rfl⟩
  obtain ⟨e2, he2⟩ : ∃ e2, nextV l s2 = e2 := ⟨_, rfl⟩
  obtain ⟨s1, hs1⟩ : ∃ s1, backV l s2 = s1 := ⟨_, rfl⟩
  obtain ⟨e1, he1⟩ : ∃ e1, nextV l s1 = e1 := ⟨_, rfl⟩
  have i2 := backV_in l (nextV l a)
  have j2 := nextV_in l s2
  have i1 := backV_in l s2
  have j1 := nextV_in l s1
  rw [hs2] at i2; rw [he2] at j2; rw [hs1] at i1; rw [he1] at j1
  have w1 := isW_eq l s1 (show (9 : Int) ≠ 1 by decide)
  have w2 := isW_eq l s2 (show (9 : Int) ≠ 1 by decide)
  refine call_of (n := 73) (fun _ => rfl) Try.func31 rfl rfl ?_
  refine w_seq ?_
  refine w_region ?_
  refine w_o rfl rfl rfl (op_box rfl fun b1 => ?_)
  refine w_o rfl rfl rfl (op_alloc zer_24 fun b2 => ?_)
  refine w_o rfl rfl rfl (op_assign rfl ?_)
  refine w_end ?_
  refine seq_normal ?_
  refine w_seq ?_
  refine w_region ?_
  refine w_o rfl rfl rfl (op_fieldAddr fa_24_0 rfl ?_)
  refine w_o rfl rfl rfl (op_loadF agg_22 rfl el_ rfl ?_)
  refine w_o rfl rfl rfl (op_assign rfl ?_)
  refine w_end ?_
  refine seq_normal ?_
  refine w_seq ?_
  refine w_region ?_
  refine w_o rfl rfl rfl (op_move rfl ?_)
  refine w_o rfl rfl rfl (op_move rfl ?_)
  refine w_o rfl rfl rfl (op_fieldAddr fa_24_1 rfl ?_)
  refine w_o rfl rfl rfl (op_loadF agg_3 rfl el_ rfl ?_)
  refine w_o rfl rfl rfl (op_call rfl rfl rfl ?_)
  refine R05Next_w hH.cons.cons hl ?_
  refine w_o rfl rfl rfl (op_call rfl rfl rfl ?_)
  refine R05Back_w hH.cons.cons hl ?_
  rw [hs2]
  refine w_o rfl rfl rfl (op_assign rfl ?_)
  refine w_end ?_
  refine seq_normal ?_
  refine w_seq ?_
  refine w_region ?_
  refine w_o rfl rfl rfl (op_move rfl ?_)
  refine w_o rfl rfl rfl (op_move rfl ?_)
  refine w_o rfl rfl rfl (op_call rfl rfl rfl ?_)
  refine R05Next_w hH.cons.cons hl ?_
  rw [he2]
  refine w_o rfl rfl rfl (op_assign rfl ?_)
  refine w_end ?_
  refine seq_normal ?_
  refine w_seq ?_
  refine w_region ?_
  refine w_o rfl rfl rfl (op_move rfl ?_)
  refine w_o rfl rfl rfl (op_move rfl ?_)
  refine w_o rfl rfl rfl (op_call rfl rfl rfl ?_)
  refine R05Back_w hH.cons.cons hl ?_
  rw [hs1]
  refine w_o rfl rfl rfl (op_assign rfl ?_)
  refine w_end ?_
  refine seq_normal ?_
  refine w_seq ?_
  refine w_region ?_
  refine w_o rfl rfl rfl (op_move rfl ?_)
  refine w_o rfl rfl rfl (op_move rfl ?_)
  refine w_o rfl rfl rfl (op_call rfl rfl rfl ?_)
  refine R05Next_w hH.cons.cons hl ?_
  rw [he1]
  refine w_o rfl rfl rfl (op_assign rfl ?_)
  refine w_end ?_
  refine seq_normal ?_
  refine w_seq ?_
  refine w_seq ?_
  refine w_region ?_
  refine w_o rfl rfl rfl (op_move rfl ?_)
  refine w_o rfl rfl rfl (op_move rfl ?_)
  refine w_o rfl rfl rfl (op_ge rfl rfl ?_)
  refine w_o rfl rfl rfl (op_move rfl ?_)
  first | refine w_known (t := 30) rfl (fun g30 => ?_) (fun g30 => ?_) | refine w_knownB (t := 30) rfl (fun g30 => ?_) (fun g30 => ?_)
  · have hno : ¬ wordsOK l s1 e1 s2 := fun w => by have := w.1; omega
    refine w_u rfl rfl rfl rfl rfl rfl ?_
    refine w_u rfl rfl rfl rfl rfl rfl ?_
    refine w_u rfl rfl rfl rfl rfl rfl ?_
    refine w_o rfl rfl rfl (op_pick rfl rfl rfl ?_)
    refine w_o rfl rfl rfl (op_move rfl ?_)
    refine w_u rfl rfl rfl rfl rfl rfl ?_
    refine w_u rfl rfl rfl rfl rfl rfl ?_
    refine w_u rfl rfl rfl rfl rfl rfl ?_
    refine w_u rfl rfl rfl rfl rfl rfl ?_
    refine w_o rfl rfl rfl (op_pick rfl rfl rfl ?_)
    refine w_o rfl rfl rfl (op_move rfl ?_)
    refine w_u rfl rfl rfl rfl rfl rfl ?_
    refine w_u rfl rfl rfl rfl rfl rfl ?_
    refine w_u rfl rfl rfl rfl rfl rfl ?_
    refine w_u rfl rfl rfl rfl rfl rfl ?_
    refine w_o rfl rfl rfl (op_pick rfl rfl rfl ?_)
    refine w_end ?_
    refine seq_normal ?_
    refine w_condT rfl ?_
    refine w_seq ?_
    refine w_region ?_
    refine w_o rfl rfl rfl (op_loadA agg_24 siz_24 rfl rfl el_ ?_)
    refine w_on rfl rfl (op_store siz_24 rfl rfl rfl (by (repeat (first | exact Pick.head _ _ _ | apply Pick.tail | apply Pick.app)); first | done | fail) (Nat.le_of_ble_eq_true rfl) rfl ?_)
    refine w_o rfl rfl rfl (op_assign rfl ?_)
    refine w_end ?_
    refine seq_normal ?_
    refine w_ret ?_
    refine seq_ret ?_
    obtain ⟨q1, q2, q3⟩ := sww_no hs2 hs1 he1 hno
    rw [q1, q2, q3] at k
    exact ret_cellL rfl agg_24 siz_24 rfl (El.row mem_) rfl sel_ (k _ [] hH)
  · refine w_og rfl rfl rfl rfl rfl (op_move rfl ?_)
    refine w_og rfl rfl rfl rfl rfl (op_move rfl ?_)
    refine w_og rfl rfl rfl rfl rfl (op_gt rfl rfl ?_)
    refine w_o rfl rfl rfl (op_pick rfl rfl rfl ?_)
    refine w_o rfl rfl rfl (op_move rfl ?_)
    first | refine w_known (t := 35) rfl (fun g35 => ?_) (fun g35 => ?_) | refine w_knownB (t := 35) rfl (fun g35 => ?_) (fun g35 => ?_)
    · have hno : ¬ wordsOK l s1 e1 s2 := fun w => by have := w.2.1; omega
      refine w_u rfl rfl rfl rfl rfl rfl ?_
      refine w_u rfl rfl rfl rfl rfl rfl ?_
      refine w_u rfl rfl rfl rfl rfl rfl ?_
      refine w_u rfl rfl rfl rfl rfl rfl ?_
      refine w_o rfl rfl rfl (op_pick rfl rfl rfl ?_)
      refine w_o rfl rfl rfl (op_move rfl ?_)
      refine w_u rfl rfl rfl rfl rfl rfl ?_
      refine w_u rfl rfl rfl rfl rfl rfl ?_
      refine w_u rfl rfl rfl rfl rfl rfl ?_
      refine w_u rfl rfl rfl rfl rfl rfl ?_
      refine w_o rfl rfl rfl (op_pick rfl rfl rfl ?_)
      refine w_end ?_
      refine seq_normal ?_
      refine w_condT rfl ?_
      refine w_seq ?_
      refine w_region ?_
      refine w_o rfl rfl rfl (op_loadA agg_24 siz_24 rfl rfl el_ ?_)
      refine w_on rfl rfl (op_store siz_24 rfl rfl rfl (by (repeat (first | exact Pick.head _ _ _ | apply Pick.tail | apply Pick.app)); first | done | fail) (Nat.le_of_ble_eq_true rfl) rfl ?_)
      refine w_o rfl rfl rfl (op_assign rfl ?_)
      refine w_end ?_
      refine seq_normal ?_
      refine w_ret ?_
      refine seq_ret ?_
      obtain ⟨q1, q2, q3⟩ := sww_no hs2 hs1 he1 hno
      rw [q1, q2, q3] at k
      exact ret_cellL rfl agg_24 siz_24 rfl (El.row mem_) rfl sel_ (k _ [] hH)
    · refine w_og rfl rfl rfl rfl rfl (op_move rfl ?_)
      refine w_og rfl rfl rfl rfl rfl (op_move rfl ?_)
      refine w_og rfl rfl rfl rfl rfl (op_call rfl rfl rfl ?_)
      refine R05At_w hl hH.cons.cons ?_
      refine w_og rfl rfl rfl rfl rfl (op_ne rfl rfl ?_)
      refine w_o rfl rfl rfl (op_pick rfl rfl rfl ?_)
      refine w_o rfl rfl rfl (op_move rfl ?_)
      first | refine w_known (t := 41) rfl (fun g41 => ?_) (fun g41 => ?_) | refine w_knownB (t := 41) rfl (fun g41 => ?_) (fun g41 => ?_)
      · have hno : ¬ wordsOK l s1 e1 s2 := fun w => g41 (of_decide_eq_true (w1.trans w.2.2.1))
        refine w_u rfl rfl rfl rfl rfl rfl ?_
        refine w_u rfl rfl rfl rfl rfl rfl ?_
        refine w_u rfl rfl rfl rfl rfl rfl ?_
        refine w_u rfl rfl rfl rfl rfl rfl ?_
        refine w_o rfl rfl rfl (op_pick rfl rfl rfl ?_)
        refine w_end ?_
        refine seq_normal ?_
        refine w_condT rfl ?_
        refine w_seq ?_
        refine w_region ?_
        refine w_o rfl rfl rfl (op_loadA agg_24 siz_24 rfl rfl el_ ?_)
        refine w_on rfl rfl (op_store siz_24 rfl rfl rfl (by (repeat (first | exact Pick.head _ _ _ | apply Pick.tail | apply Pick.app)); first | done | fail) (Nat.le_of_ble_eq_true rfl) rfl ?_)
        refine w_o rfl rfl rfl (op_assign rfl ?_)
        refine w_end ?_
        refine seq_normal ?_
        refine w_ret ?_
        refine seq_ret ?_
        obtain ⟨q1, q2, q3⟩ := sww_no hs2 hs1 he1 hno
        rw [q1, q2, q3] at k
        exact ret_cellL rfl agg_24 siz_24 rfl (El.row mem_) rfl sel_ (k _ [] hH)
      · refine w_og rfl rfl rfl rfl rfl (op_move rfl ?_)
        refine w_og rfl rfl rfl rfl rfl (op_move rfl ?_)
        refine w_og rfl rfl rfl rfl rfl (op_call rfl rfl rfl ?_)
        refine R05At_w hl hH.cons.cons ?_
        refine w_og rfl rfl rfl rfl rfl (op_ne rfl rfl ?_)
        refine w_o rfl rfl rfl (op_pick rfl rfl rfl ?_)
        refine w_end ?_
        refine seq_normal ?_
        first | refine w_cond rfl (fun hI1 => ?_) (fun hI1 => ?_) | refine w_condB rfl (fun hI1 => ?_) (fun hI1 => ?_)
        · have hno : ¬ wordsOK l s1 e1 s2 := fun w => hI1 (of_decide_eq_true (w2.trans w.2.2.2))
          refine w_seq ?_
          refine w_region ?_
          refine w_o rfl rfl rfl (op_loadA agg_24 siz_24 rfl rfl el_ ?_)
          refine w_on rfl rfl (op_store siz_24 rfl rfl rfl (by (repeat (first | exact Pick.head _ _ _ | apply Pick.tail | apply Pick.app)); first | done | fail) (Nat.le_of_ble_eq_true rfl) rfl ?_)
          refine w_o rfl rfl rfl (op_assign rfl ?_)
          refine w_end ?_
          refine seq_normal ?_
          refine w_ret ?_
          refine seq_ret ?_
          obtain ⟨q1, q2, q3⟩ := sww_no hs2 hs1 he1 hno
          rw [q1, q2, q3] at k
          exact ret_cellL rfl agg_24 siz_24 rfl (El.row mem_) rfl sel_ (k _ [] hH)
        · have hok : wordsOK l s1 e1 s2 := ⟨by omega, by omega, w1.symm.trans (decide_eq_true (Classical.byContradiction fun q => g41 q)), w2.symm.trans (decide_eq_true (Classical.byContradiction fun q => hI1 q))⟩
          have m1 := seg_len l ((0 : Nat) : Int) s1
          have m2 := seg_len l s2 e2
          have m3 := seg_len l e1 s2
          have m4 := seg_len l s1 e1
          have m5 := seg_len l e2 ((l.length : Nat) : Int)
          refine w_skip ?_
          refine seq_normal ?_
          refine w_seq ?_
          refine w_drawF (H) sel_ (by decide +kernel) (by decide +kernel) ?_
          refine f_b (guard_none rfl) rfl rfl rfl rfl (op_move rfl ?_)
          refine f_b (guard_none rfl) rfl rfl rfl rfl (op_move rfl ?_)
          refine f_a (guard_none rfl) rfl rfl rfl (by decide +kernel) (op_sliceU (enc := encS) (xs := l) elm_22 siz_47 (by decide) rfl hH subs_ (fun _ => rfl) rfl rfl (by omega) (by omega) (by omega) fun c50 h50 => ?_)
          refine f_b (guard_none rfl) rfl rfl rfl rfl (op_move rfl ?_)
          refine f_b (guard_none rfl) rfl rfl rfl rfl (op_move rfl ?_)
          refine f_b (guard_none rfl) rfl rfl rfl rfl (op_move rfl ?_)
          refine f_a (guard_none rfl) rfl rfl rfl (by decide +kernel) (op_sliceU (enc := encS) (xs := l) elm_22 siz_47 (by decide) rfl hH subs_ (fun _ => rfl) rfl rfl (by omega) (by omega) (by omega) fun c54 h54 => ?_)
          refine f_m (guard_none rfl) rfl rfl rfl (op_call rfl rfl rfl ?_)
          refine R04Join_w (l := seg l ((0 : Nat) : Int) s1) (l' := seg l s2 e2) h50.cons.cons h54.cons.cons (by omega) fun c55 N55 h55 => ?_
          refine ⟨sel_, ?_⟩
          refine f_b (guard_none rfl) rfl rfl rfl rfl (op_move rfl ?_)
          refine f_b (guard_none rfl) rfl rfl rfl rfl (op_move rfl ?_)
          refine f_b (guard_none rfl) rfl rfl rfl rfl (op_move rfl ?_)
          refine f_sliceT (enc := encS) (xs := l) (guard_none rfl) rfl rfl rfl sel_ elm_22 siz_47 (by decide) rfl hH subs_ (fun _ => rfl) rfl rfl (by omega) (by omega) (by omega) fun c59 h59 => ?_
          refine f_b (guard_none rfl) rfl rfl rfl rfl (op_move rfl ?_)
          refine f_b (guard_none rfl) rfl rfl rfl rfl (op_move rfl ?_)
          refine f_b (guard_none rfl) rfl rfl rfl rfl (op_move rfl ?_)
          refine f_sliceT (enc := encS) (xs := l) (guard_none rfl) rfl rfl rfl sel_ elm_22 siz_47 (by decide) rfl hH subs_ (fun _ => rfl) rfl rfl (by omega) (by omega) (by omega) fun c63 h63 => ?_
          refine f_m (guard_none rfl) rfl rfl rfl (op_call rfl rfl rfl ?_)
          refine R04Join_w (l := seg l e1 s2) (l' := seg l s1 e1) h59.cons.cons.app h63.cons.cons.app (by omega) fun c64 N64 h64 => ?_
          refine ⟨sel_, ?_⟩
          refine f_m (guard_none rfl) rfl rfl rfl (op_call rfl rfl rfl ?_)
          refine R04Join_w (l := seg l ((0 : Nat) : Int) s1 ++ seg l s2 e2) (l' := seg l e1 s2 ++ seg l s1 e1) (h55.slT (fun _ => rfl) (by decide) (fun x hx => List.mem_append_right _ (List.mem_append_left _ hx))) (h64.slT (fun _ => rfl) (by decide) (fun x hx => List.mem_append_left _ hx)) (by rw [List.length_append, List.length_append]; omega) fun c65 N65 h65 => ?_
          refine ⟨sel_, ?_⟩
          refine f_b (guard_none rfl) rfl rfl rfl rfl (op_assign rfl ?_)
          refine f_end ?_
          refine seq_normal ?_
          refine w_seq ?_
          refine w_region ?_
          refine w_o rfl rfl rfl (op_move rfl ?_)
          refine w_o rfl rfl rfl (op_move rfl ?_)
          refine w_o rfl rfl rfl (op_move rfl ?_)
          refine w_o rfl rfl rfl (op_sliceU (enc := encS) (xs := l) elm_22 siz_47 (by decide) rfl hH subs_ (fun _ => rfl) rfl rfl (by omega) (by omega) (by omega) fun c69 h69 => ?_)
          refine w_o rfl rfl rfl (op_appendT (enc := encS) (ys := seg l e2 ((l.length : Nat) : Int)) elm_22 inf_47 zer_47 (by decide) und_22 rfl rfl h65 (fun _ => rfl) (PickL.front _ _) (h69.cons.cons.app.app.app) (by simp only [List.length_append]; omega) fun c70 N70 h70 => ?_)
          refine w_o rfl rfl rfl (op_move rfl ?_)
          refine w_o rfl rfl rfl (op_build rfl ((bld_24 _).trans (rfl : _ = some [_, _])) ?_)
          refine w_on rfl rfl (op_store siz_24 rfl rfl rfl (by (repeat (first | exact Pick.head _ _ _ | apply Pick.tail | apply Pick.app)); first | done | fail) (Nat.le_of_ble_eq_true rfl) rfl ?_)
          refine w_o rfl rfl rfl (op_assign rfl ?_)
          refine w_end ?_
          refine seq_normal ?_
          refine w_ret ?_
          obtain ⟨q1, q2, q3⟩ := sww_yes hs2 he2 hs1 he1 hok
          rw [q1, q2, q3] at k
          exact ret_cellL rfl agg_24 siz_24 rfl (El.row mem_) rfl sel_ (k c70 N70 (h70.slT (fun _ => rfl) (by decide) (fun x hx => List.mem_append_left _ hx)))
end Go.Proofs.Ytnlcmcooiodmmaa.AM.B
