/- Signs, and words, change places: the program's and the document's. -/
import Derived.Test.YtdhnjkagmbfoaaaAX
import Derived.Test.YtdhnjkagmbfoaaaBline
set_option linter.unusedVariables false
set_option linter.unusedSimpArgs false
set_option maxRecDepth 10000
set_option maxHeartbeats 4000000
namespace Go.Proofs.Ytdhnjkagmbfoaaa.AM.B
open Go Go.RowKit
/-! ### Two words -/
def seg (l : List Sign) (i j : Int) : List Sign := (l.drop i.toNat).take (j.toNat - i.toNat)
theorem seg_len (l : List Sign) (i j : Int) : (seg l i j).length ≤ l.length := by
  unfold seg; rw [List.length_take, List.length_drop]; omega
def wordsOK (l : List Sign) (s1 e1 s2 : Int) : Prop := s1 < s2 ∧ e1 ≤ s2 ∧ isW l s1 = true ∧ isW l s2 = true
instance (l : List Sign) (s1 e1 s2 : Int) : Decidable (wordsOK l s1 e1 s2) := by unfold wordsOK; infer_instance
def wordsL (l : List Sign) (s1 e1 s2 e2 : Int) : List Sign := seg l ((0 : Nat) : Int) s1 ++ seg l s2 e2 ++ (seg l e1 s2 ++ seg l s1 e1) ++ seg l e2 ((l.length : Nat) : Int)
def sS2 (l : List Sign) (a : Int) : Int := backV l (nextV l a)
def sE2 (l : List Sign) (a : Int) : Int := nextV l (sS2 l a)
def sS1 (l : List Sign) (a : Int) : Int := backV l (sS2 l a)
def sE1 (l : List Sign) (a : Int) : Int := nextV l (sS1 l a)
def swwB (l : List Sign) (a : Int) : Bool := decide (wordsOK l (sS1 l a) (sE1 l a) (sS2 l a))
def swwR (l : List Sign) (a : Int) : List Sign := if wordsOK l (sS1 l a) (sE1 l a) (sS2 l a) then wordsL l (sS1 l a) (sE1 l a) (sS2 l a) (sE2 l a) else l
def swwA (l : List Sign) (a : Int) : Int := if wordsOK l (sS1 l a) (sE1 l a) (sS2 l a) then sE2 l a else a
theorem sww_no {l : List Sign} {a s1 e1 s2 : Int} (h2 : backV l (nextV l a) = s2) (h1 : backV l s2 = s1) (g1 : nextV l s1 = e1) (h : ¬ wordsOK l s1 e1 s2) : swwR l a = l ∧ swwA l a = a ∧ swwB l a = false := by
  subst g1; subst h1; subst h2
  exact ⟨if_neg h, if_neg h, decide_eq_false h⟩
theorem sww_yes {l : List Sign} {a s1 e1 s2 e2 : Int} (h2 : backV l (nextV l a) = s2) (g2 : nextV l s2 = e2) (h1 : backV l s2 = s1) (g1 : nextV l s1 = e1) (h : wordsOK l s1 e1 s2) : swwR l a = wordsL l s1 e1 s2 e2 ∧ swwA l a = e2 ∧ swwB l a = true := by
  subst g1; subst h1; subst g2; subst h2
  exact ⟨if_pos h, if_pos h, decide_eq_true h⟩
theorem isW_at {l : List Sign} {i : Int} {x : Sign} (h0 : 0 ≤ i) (h : l[i.toNat]? = some x) : isW l i = decide (kindV x.f0 = 1) := by
  unfold isW; rw [kindO_at h0 h]
theorem SwapWords_w {H H1 : Hyp} {K : V → Hyp → Prop} {c : Cell} {l : List Sign} {a : Int} (h : Sl H1 39 2 c l.length (l.flatMap encS)) (hs : ∀ y ∈ H1, y ∈ H) (hl : l.length ≤ 1000) (hr : rightL l a = true)
    (k : ∀ c' N, Own 39 2 c' ((swwR l a).flatMap encS) N → K (.tup [.agg [c', .int .i64 (swwA l a)], .c (.bool (swwB l a))]) (N ++ H)) : CallW Try.prog Xs 10 [lineV c a] H K := by
  have hra : 0 ≤ a ∧ a ≤ l.length := by
    have := of_decide_eq_true hr; exact ⟨this.1, this.2.1⟩
  have hH := h.sub hs
  obtain ⟨s2, hs2⟩ : ∃ s2, backV l (nextV l a) = s2 := ⟨_, rfl⟩
  obtain ⟨e2, he2⟩ : ∃ e2, nextV l s2 = e2 := ⟨_, rfl⟩
  obtain ⟨s1, hs1⟩ : ∃ s1, backV l s2 = s1 := ⟨_, rfl⟩
  obtain ⟨e1, he1⟩ : ∃ e1, nextV l s1 = e1 := ⟨_, rfl⟩
  have i2 := backV_in l (nextV l a)
  have j2 := nextV_in l s2
  have i1 := backV_in l s2
  have j1 := nextV_in l s1
  rw [hs2] at i2; rw [he2] at j2; rw [hs1] at i1; rw [he1] at j1
  refine call_of (n := 81) (fun _ => rfl) Try.func10 rfl rfl ?_
  refine w_seq ?_
  refine w_region ?_
  refine w_o rfl rfl rfl (op_box rfl fun b1 => ?_)
  refine w_o rfl rfl rfl (op_alloc zer_24 fun b2 => ?_)
  refine w_o rfl rfl rfl (op_assign rfl ?_)
  refine w_end ?_
  refine seq_normal ?_
  refine w_seq ?_
  refine w_region ?_
  refine w_o rfl rfl rfl (op_fieldAddr fa_24_0 rfl ?_)
  refine w_o rfl rfl rfl (op_loadF agg_22 rfl el_ rfl ?_)
  refine w_o rfl rfl rfl (op_assign rfl ?_)
  refine w_end ?_
  refine seq_normal ?_
  refine w_seq ?_
  refine w_region ?_
  refine w_o rfl rfl rfl (op_move rfl ?_)
  refine w_o rfl rfl rfl (op_move rfl ?_)
  refine w_o rfl rfl rfl (op_fieldAddr fa_24_1 rfl ?_)
  refine w_o rfl rfl rfl (op_loadF agg_3 rfl el_ rfl ?_)
  refine w_o rfl rfl rfl (op_call rfl rfl rfl ?_)
  refine Next_w hH.cons.cons hl ?_
  refine w_o rfl rfl rfl (op_call rfl rfl rfl ?_)
  refine Back_w hH.cons.cons hl ?_
  rw [hs2]
  refine w_o rfl rfl rfl (op_assign rfl ?_)
  refine w_end ?_
  refine seq_normal ?_
  refine w_seq ?_
  refine w_region ?_
  refine w_o rfl rfl rfl (op_move rfl ?_)
  refine w_o rfl rfl rfl (op_move rfl ?_)
  refine w_o rfl rfl rfl (op_call rfl rfl rfl ?_)
  refine Next_w hH.cons.cons hl ?_
  rw [he2]
  refine w_o rfl rfl rfl (op_assign rfl ?_)
  refine w_end ?_
  refine seq_normal ?_
  refine w_seq ?_
  refine w_region ?_
  refine w_o rfl rfl rfl (op_move rfl ?_)
  refine w_o rfl rfl rfl (op_move rfl ?_)
  refine w_o rfl rfl rfl (op_call rfl rfl rfl ?_)
  refine Back_w hH.cons.cons hl ?_
  rw [hs1]
  refine w_o rfl rfl rfl (op_assign rfl ?_)
  refine w_end ?_
  refine seq_normal ?_
  refine w_seq ?_
  refine w_region ?_
  refine w_o rfl rfl rfl (op_move rfl ?_)
  refine w_o rfl rfl rfl (op_move rfl ?_)
  refine w_o rfl rfl rfl (op_call rfl rfl rfl ?_)
  refine Next_w hH.cons.cons hl ?_
  rw [he1]
  refine w_o rfl rfl rfl (op_assign rfl ?_)
  refine w_end ?_
  refine seq_normal ?_
  refine w_seq ?_
  refine w_seq ?_
  refine w_region ?_
  refine w_o rfl rfl rfl (op_loadA agg_24 siz_24 rfl rfl el_ ?_)
  refine w_o rfl rfl rfl (op_call rfl rfl rfl ?_)
  refine Right_line_w hH subs_ hl ?_
  rw [hr]
  refine w_o rfl rfl rfl (op_not rfl ?_)
  refine w_o rfl rfl rfl (op_move rfl ?_)
  refine w_og rfl rfl rfl rfl rfl (op_move rfl ?_)
  refine w_og rfl rfl rfl rfl rfl (op_move rfl ?_)
  refine w_og rfl rfl rfl rfl rfl (op_ge rfl rfl ?_)
  refine w_o rfl rfl rfl (op_pick rfl rfl rfl ?_)
  refine w_o rfl rfl rfl (op_move rfl ?_)
  first | refine w_known (t := 34) rfl (fun g34 => ?_) (fun g34 => ?_) | refine w_knownB (t := 34) rfl (fun g34 => ?_) (fun g34 => ?_)
  · have hno : ¬ wordsOK l s1 e1 s2 := fun w => by have := w.1; omega
    refine w_u rfl rfl rfl rfl rfl rfl ?_
    refine w_u rfl rfl rfl rfl rfl rfl ?_
    refine w_u rfl rfl rfl rfl rfl rfl ?_
    refine w_o rfl rfl rfl (op_pick rfl rfl rfl ?_)
    refine w_o rfl rfl rfl (op_move rfl ?_)
    refine w_u rfl rfl rfl rfl rfl rfl ?_
    refine w_u rfl rfl rfl rfl rfl rfl ?_
    refine w_u rfl rfl rfl rfl rfl rfl ?_
    refine w_u rfl rfl rfl rfl rfl rfl ?_
    refine w_u rfl rfl rfl rfl rfl rfl ?_
    refine w_u rfl rfl rfl rfl rfl rfl ?_
    refine w_u rfl rfl rfl rfl rfl rfl ?_
    refine w_o rfl rfl rfl (op_pick rfl rfl rfl ?_)
    refine w_o rfl rfl rfl (op_move rfl ?_)
    refine w_u rfl rfl rfl rfl rfl rfl ?_
    refine w_u rfl rfl rfl rfl rfl rfl ?_
    refine w_u rfl rfl rfl rfl rfl rfl ?_
    refine w_u rfl rfl rfl rfl rfl rfl ?_
    refine w_u rfl rfl rfl rfl rfl rfl ?_
    refine w_u rfl rfl rfl rfl rfl rfl ?_
    refine w_u rfl rfl rfl rfl rfl rfl ?_
    refine w_o rfl rfl rfl (op_pick rfl rfl rfl ?_)
    refine w_end ?_
    refine seq_normal ?_
    refine w_condT rfl ?_
    refine w_seq ?_
    refine w_region ?_
    refine w_o rfl rfl rfl (op_loadA agg_24 siz_24 rfl rfl el_ ?_)
    refine w_o rfl rfl rfl (op_call rfl rfl rfl ?_)
    refine copied_w hH subs_ hl fun cc Nc hC => ?_
    refine w_on rfl rfl (op_store siz_24 rfl rfl rfl (by (repeat (first | exact Pick.head _ _ _ | apply Pick.tail | apply Pick.app)); first | done | fail) (Nat.le_of_ble_eq_true rfl) rfl ?_)
    refine w_o rfl rfl rfl (op_assign rfl ?_)
    refine w_end ?_
    refine seq_normal ?_
    refine w_ret ?_
    refine seq_ret ?_
    obtain ⟨q1, q2, q3⟩ := sww_no hs2 hs1 he1 hno
    rw [q1, q2, q3] at k
    exact ret_cellL rfl agg_24 siz_24 rfl (El.row mem_) rfl sel_ (k _ _ hC)
  · refine w_og rfl rfl rfl rfl rfl (op_move rfl ?_)
    refine w_og rfl rfl rfl rfl rfl (op_move rfl ?_)
    refine w_og rfl rfl rfl rfl rfl (op_gt rfl rfl ?_)
    refine w_o rfl rfl rfl (op_pick rfl rfl rfl ?_)
    refine w_o rfl rfl rfl (op_move rfl ?_)
    first | refine w_known (t := 39) rfl (fun g39 => ?_) (fun g39 => ?_) | refine w_knownB (t := 39) rfl (fun g39 => ?_) (fun g39 => ?_)
    · have hno : ¬ wordsOK l s1 e1 s2 := fun w => by have := w.2.1; omega
      refine w_u rfl rfl rfl rfl rfl rfl ?_
      refine w_u rfl rfl rfl rfl rfl rfl ?_
      refine w_u rfl rfl rfl rfl rfl rfl ?_
      refine w_u rfl rfl rfl rfl rfl rfl ?_
      refine w_u rfl rfl rfl rfl rfl rfl ?_
      refine w_u rfl rfl rfl rfl rfl rfl ?_
      refine w_u rfl rfl rfl rfl rfl rfl ?_
      refine w_o rfl rfl rfl (op_pick rfl rfl rfl ?_)
      refine w_o rfl rfl rfl (op_move rfl ?_)
      refine w_u rfl rfl rfl rfl rfl rfl ?_
      refine w_u rfl rfl rfl rfl rfl rfl ?_
      refine w_u rfl rfl rfl rfl rfl rfl ?_
      refine w_u rfl rfl rfl rfl rfl rfl ?_
      refine w_u rfl rfl rfl rfl rfl rfl ?_
      refine w_u rfl rfl rfl rfl rfl rfl ?_
      refine w_u rfl rfl rfl rfl rfl rfl ?_
      refine w_o rfl rfl rfl (op_pick rfl rfl rfl ?_)
      refine w_end ?_
      refine seq_normal ?_
      refine w_condT rfl ?_
      refine w_seq ?_
      refine w_region ?_
      refine w_o rfl rfl rfl (op_loadA agg_24 siz_24 rfl rfl el_ ?_)
      refine w_o rfl rfl rfl (op_call rfl rfl rfl ?_)
      refine copied_w hH subs_ hl fun cc Nc hC => ?_
      refine w_on rfl rfl (op_store siz_24 rfl rfl rfl (by (repeat (first | exact Pick.head _ _ _ | apply Pick.tail | apply Pick.app)); first | done | fail) (Nat.le_of_ble_eq_true rfl) rfl ?_)
      refine w_o rfl rfl rfl (op_assign rfl ?_)
      refine w_end ?_
      refine seq_normal ?_
      refine w_ret ?_
      refine seq_ret ?_
      obtain ⟨q1, q2, q3⟩ := sww_no hs2 hs1 he1 hno
      rw [q1, q2, q3] at k
      exact ret_cellL rfl agg_24 siz_24 rfl (El.row mem_) rfl sel_ (k _ _ hC)
    · refine w_og rfl rfl rfl rfl rfl (op_move rfl ?_)
      refine w_og rfl rfl rfl rfl rfl (op_move rfl ?_)
      refine w_og rfl rfl rfl rfl rfl (op_indexT (enc := encS) (xs := l) (j := s1.toNat) und_22 siz_39 rfl rfl hH.cons.cons (fun _ => rfl) (by omega) (by omega) fun b42 o42 z42 h42 e42 => ?_)
      refine w_og rfl rfl rfl rfl rfl (op_fieldAddr fa_39_0 rfl ?_)
      refine w_og rfl rfl rfl rfl rfl (op_loadF agg_3 rfl el_ rfl ?_)
      refine w_og rfl rfl rfl rfl rfl (op_call rfl rfl rfl ?_)
      refine word_Kind_sw (Go.Proofs.Ytdhnjkagmbfoaaa.P.kind_both _).1 ?_
      refine w_og rfl rfl rfl rfl rfl (op_ne rfl rfl ?_)
      refine w_o rfl rfl rfl (op_pick rfl rfl rfl ?_)
      refine w_o rfl rfl rfl (op_move rfl ?_)
      first | refine w_known (t := 48) rfl (fun g48 => ?_) (fun g48 => ?_) | refine w_knownB (t := 48) rfl (fun g48 => ?_) (fun g48 => ?_)
      · have hno : ¬ wordsOK l s1 e1 s2 := fun w => g48 (of_decide_eq_true ((isW_at (by omega) h42).symm.trans w.2.2.1))
        refine w_u rfl rfl rfl rfl rfl rfl ?_
        refine w_u rfl rfl rfl rfl rfl rfl ?_
        refine w_u rfl rfl rfl rfl rfl rfl ?_
        refine w_u rfl rfl rfl rfl rfl rfl ?_
        refine w_u rfl rfl rfl rfl rfl rfl ?_
        refine w_u rfl rfl rfl rfl rfl rfl ?_
        refine w_u rfl rfl rfl rfl rfl rfl ?_
        refine w_o rfl rfl rfl (op_pick rfl rfl rfl ?_)
        refine w_end ?_
        refine seq_normal ?_
        refine w_condT rfl ?_
        refine w_seq ?_
        refine w_region ?_
        refine w_o rfl rfl rfl (op_loadA agg_24 siz_24 rfl rfl el_ ?_)
        refine w_o rfl rfl rfl (op_call rfl rfl rfl ?_)
        refine copied_w hH subs_ hl fun cc Nc hC => ?_
        refine w_on rfl rfl (op_store siz_24 rfl rfl rfl (by (repeat (first | exact Pick.head _ _ _ | apply Pick.tail | apply Pick.app)); first | done | fail) (Nat.le_of_ble_eq_true rfl) rfl ?_)
        refine w_o rfl rfl rfl (op_assign rfl ?_)
        refine w_end ?_
        refine seq_normal ?_
        refine w_ret ?_
        refine seq_ret ?_
        obtain ⟨q1, q2, q3⟩ := sww_no hs2 hs1 he1 hno
        rw [q1, q2, q3] at k
        exact ret_cellL rfl agg_24 siz_24 rfl (El.row mem_) rfl sel_ (k _ _ hC)
      · refine w_og rfl rfl rfl rfl rfl (op_move rfl ?_)
        refine w_og rfl rfl rfl rfl rfl (op_move rfl ?_)
        refine w_og rfl rfl rfl rfl rfl (op_indexT (enc := encS) (xs := l) (j := s2.toNat) und_22 siz_39 rfl rfl hH.cons.cons (fun _ => rfl) (by omega) (by omega) fun b51 o51 z51 h51 e51 => ?_)
        refine w_og rfl rfl rfl rfl rfl (op_fieldAddr fa_39_0 rfl ?_)
        refine w_og rfl rfl rfl rfl rfl (op_loadF agg_3 rfl el_ rfl ?_)
        refine w_og rfl rfl rfl rfl rfl (op_call rfl rfl rfl ?_)
        refine word_Kind_sw (Go.Proofs.Ytdhnjkagmbfoaaa.P.kind_both _).1 ?_
        refine w_og rfl rfl rfl rfl rfl (op_ne rfl rfl ?_)
        refine w_o rfl rfl rfl (op_pick rfl rfl rfl ?_)
        refine w_end ?_
        refine seq_normal ?_
        first | refine w_cond rfl (fun hI1 => ?_) (fun hI1 => ?_) | refine w_condB rfl (fun hI1 => ?_) (fun hI1 => ?_)
        · have hno : ¬ wordsOK l s1 e1 s2 := fun w => hI1 (of_decide_eq_true ((isW_at (by omega) h51).symm.trans w.2.2.2))
          refine w_seq ?_
          refine w_region ?_
          refine w_o rfl rfl rfl (op_loadA agg_24 siz_24 rfl rfl el_ ?_)
          refine w_o rfl rfl rfl (op_call rfl rfl rfl ?_)
          refine copied_w hH subs_ hl fun cc Nc hC => ?_
          refine w_on rfl rfl (op_store siz_24 rfl rfl rfl (by (repeat (first | exact Pick.head _ _ _ | apply Pick.tail | apply Pick.app)); first | done | fail) (Nat.le_of_ble_eq_true rfl) rfl ?_)
          refine w_o rfl rfl rfl (op_assign rfl ?_)
          refine w_end ?_
          refine seq_normal ?_
          refine w_ret ?_
          refine seq_ret ?_
          obtain ⟨q1, q2, q3⟩ := sww_no hs2 hs1 he1 hno
          rw [q1, q2, q3] at k
          exact ret_cellL rfl agg_24 siz_24 rfl (El.row mem_) rfl sel_ (k _ _ hC)
        · have hok : wordsOK l s1 e1 s2 := ⟨by omega, by omega, (isW_at (by omega) h42).trans (decide_eq_true (Classical.byContradiction fun q => g48 q)), (isW_at (by omega) h51).trans (decide_eq_true (Classical.byContradiction fun q => hI1 q))⟩
          refine w_skip ?_
          refine seq_normal ?_
          refine w_seq ?_
          refine w_draw (by decide +kernel) (by decide +kernel) ?_
          refine w_d rfl rfl rfl (op_move rfl ?_)
          refine w_d rfl rfl rfl (op_move rfl ?_)
          refine w_d rfl rfl rfl (op_sliceU (enc := encS) (xs := l) elm_22 siz_39 (by decide) rfl hH subs_ (fun _ => rfl) rfl rfl (by omega) (by omega) (by omega) fun c61 h61 => ?_)
          refine w_d rfl rfl rfl (op_move rfl ?_)
          refine w_d rfl rfl rfl (op_move rfl ?_)
          refine w_d rfl rfl rfl (op_move rfl ?_)
          refine w_d rfl rfl rfl (op_sliceU (enc := encS) (xs := l) elm_22 siz_39 (by decide) rfl hH subs_ (fun _ => rfl) rfl rfl (by omega) (by omega) (by omega) fun c65 h65 => ?_)
          refine w_d rfl rfl rfl (op_move rfl ?_)
          refine w_d rfl rfl rfl (op_move rfl ?_)
          refine w_d rfl rfl rfl (op_move rfl ?_)
          refine w_d rfl rfl rfl (op_sliceU (enc := encS) (xs := l) elm_22 siz_39 (by decide) rfl hH subs_ (fun _ => rfl) rfl rfl (by omega) (by omega) (by omega) fun c69 h69 => ?_)
          refine w_d rfl rfl rfl (op_move rfl ?_)
          refine w_d rfl rfl rfl (op_move rfl ?_)
          refine w_d rfl rfl rfl (op_move rfl ?_)
          refine w_d rfl rfl rfl (op_sliceU (enc := encS) (xs := l) elm_22 siz_39 (by decide) rfl hH subs_ (fun _ => rfl) rfl rfl (by omega) (by omega) (by omega) fun c73 h73 => ?_)
          refine w_d rfl rfl rfl (op_move rfl ?_)
          refine w_d rfl rfl rfl (op_move rfl ?_)
          refine w_d rfl rfl rfl (op_sliceU (enc := encS) (xs := l) elm_22 siz_39 (by decide) rfl hH subs_ (fun _ => rfl) rfl rfl (by omega) (by omega) (by omega) fun c76 h76 => ?_)
          refine w_d rfl rfl rfl (op_buildSlice rfl (bsl_67 _ _ _ (rfl : _ = some [_, _, _, _, _]) rfl (by decide)) fun b77 => ?_)
          refine w_d rfl rfl rfl (op_call rfl rfl rfl ?_)
          refine ConcatS_w (cs := [c61, c65, c69, c73, c76]) (ll := [seg l ((0 : Nat) : Int) s1, seg l s2 e2, seg l e1 s2, seg l s1 e1, seg l e2 ((l.length : Nat) : Int)]) (Sl.of_row (own := true) mem_ rfl) (fun i c' l' a b => ?_) rfl (by simp) ?_ fun c78 N78 h78 => ?_
          · match i with
            | 0 => simp at a b; subst a; subst b; exact h61.cons.cons.cons
            | 1 => simp at a b; subst a; subst b; exact h65.cons.cons.cons
            | 2 => simp at a b; subst a; subst b; exact h69.cons.cons.cons
            | 3 => simp at a b; subst a; subst b; exact h73.cons.cons.cons
            | 4 => simp at a b; subst a; subst b; exact h76.cons.cons.cons
            | i + 5 => simp at a
          · have m1 := seg_len l ((0 : Nat) : Int) s1
            have m2 := seg_len l s2 e2
            have m3 := seg_len l e1 s2
            have m4 := seg_len l s1 e1
            have m5 := seg_len l e2 ((l.length : Nat) : Int)
            simp only [List.flatten_cons, List.flatten_nil, List.length_append, List.length_nil]
            omega
          have e78 : [seg l ((0 : Nat) : Int) s1, seg l s2 e2, seg l e1 s2, seg l s1 e1, seg l e2 ((l.length : Nat) : Int)].flatten = wordsL l s1 e1 s2 e2 := by
            simp only [List.flatten_cons, List.flatten_nil, List.append_nil, wordsL, List.append_assoc]
          rw [e78] at h78
          refine w_d rfl rfl rfl (op_move rfl ?_)
          refine w_d rfl rfl rfl (op_build rfl ((bld_24 _).trans (rfl : _ = some [_, _])) ?_)
          refine w_dn rfl rfl (op_store siz_24 rfl rfl rfl (by (repeat (first | exact Pick.head _ _ _ | apply Pick.tail | apply Pick.app)); first | done | fail) (Nat.le_of_ble_eq_true rfl) rfl ?_)
          refine w_d rfl rfl rfl (op_assign rfl ?_)
          refine w_end ?_
          refine seq_normal ?_
          refine w_ret ?_
          obtain ⟨q1, q2, q3⟩ := sww_yes hs2 he2 hs1 he1 hok
          rw [q1, q2, q3] at k
          exact ret_cellL rfl agg_24 siz_24 rfl (El.row mem_) rfl sel_ (k _ _ h78)
end Go.Proofs.Ytdhnjkagmbfoaaa.AM.B
