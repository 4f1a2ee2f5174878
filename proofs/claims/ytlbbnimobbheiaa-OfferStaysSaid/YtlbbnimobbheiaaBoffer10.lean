/- What is so of an offer: its stem, its labels; the laws' small questions. -/
import Derived.Test.YtlbbnimobbheiaaAX
import Derived.Test.YtlbbnimobbheiaaBoffer9
set_option linter.unusedVariables false
set_option linter.unusedSimpArgs false
set_option maxRecDepth 10000
set_option maxHeartbeats 4000000
namespace Go.Proofs.Ytlbbnimobbheiaa.AM.B
open Go Go.RowKit
theorem same_at {w x y : List Sign} (hx : beginsI (valsS x) (valsS w) = true) (hy : beginsI (valsS y) (valsS w) = true) (h4 : ∀ s ∈ x, s.f1 = 4) (h5 : ∀ s ∈ y, s.f1 = 4) (j : Nat) (hj : j < w.length) : x[j]? = y[j]? := by
  have h1 := beg_at hx
  have h2 := beg_at hy
  have h3 := (h1.2 j hj).trans (h2.2 j hj).symm
  have e1 : x[j]? = some x[j] := List.getElem?_eq_getElem (by omega)
  have e2 : y[j]? = some y[j] := List.getElem?_eq_getElem (by omega)
  have l1 := h4 _ (List.mem_of_getElem? e1)
  have l2 := h5 _ (List.mem_of_getElem? e2)
  rw [e1, e2] at h3 ⊢
  simp only [Option.map_some, Option.some.injEq] at h3
  generalize x[j] = p at h3 l1
  generalize y[j] = q at h3 l2
  cases p; cases q
  simp only at h3 l1 l2
  rw [h3, l1, l2]
theorem headD_mem {L : List (List Sign)} (h : 1 ≤ L.length) : L.headD [] ∈ L := by
  cases L with
  | nil => simp at h
  | cons y ys => simp
theorem stem_gew {w : List Sign} {L : List (List Sign)} (h : OffOK w L) (hL : 1 ≤ L.length) : w.length ≤ (stemF L L.length).length := by
  have h0 := h.1 _ (headD_mem hL)
  refine stem_ge (by omega) (fun x hx => ?_) _ (Nat.le_refl _)
  have h1 := h.1 x hx
  exact ⟨by omega, fun j hj => same_at h1.2.2.1 h0.2.2.1 h1.2.2.2 h0.2.2.2 j hj⟩
theorem stem_in {L : List (List Sign)} {x : List Sign} (hx : x ∈ L) : (stemF L L.length).length ≤ x.length ∧ ∀ j, j < (stemF L L.length).length → x[j]? = (stemF L L.length)[j]? := by
  obtain ⟨i, hi⟩ := List.getElem?_of_mem hx
  have hil := (List.getElem?_eq_some_iff.1 hi).1
  have hm := stem_mono (L := L) (i + 1) (L.length - (i + 1)) (by omega)
  rw [show i + 1 + (L.length - (i + 1)) = L.length by omega, stemF_succ hi, List.length_take] at hm
  have hc := comN_le (stemF L i) x
  refine ⟨by omega, fun j hj => ?_⟩
  rw [← hc.2.2 j (by omega), stemF_pre i (by omega) j (by omega), stemF_pre L.length (Nat.le_refl _) j hj]
theorem chV_hand {L : List (List Sign)} {hand : Int} (h1 : 0 ≤ hand) (h2 : hand < L.length) : chV L hand ∈ L := by
  unfold chV
  rw [if_pos h1]
  have hx : L[hand.toNat]? = some L[hand.toNat] := List.getElem?_eq_getElem (by omega)
  rw [hx]
  exact List.mem_of_getElem? hx
theorem chV_ge {w : List Sign} {L : List (List Sign)} (h : OffOK w L) (hL : 1 ≤ L.length) {hand : Int} (hh : -1 ≤ hand ∧ hand < L.length) : w.length ≤ (chV L hand).length ∧ (chV L hand).length ≤ 40 := by
  by_cases q : 0 ≤ hand
  · have := h.1 _ (chV_hand q hh.2)
    omega
  · unfold chV
    rw [if_neg q]
    have h1 := stemF_len L L.length (Nat.le_refl _)
    have h2 := (h.1 _ (headD_mem hL)).1
    exact ⟨stem_gew h hL, by omega⟩
theorem chV_lab {w : List Sign} {L : List (List Sign)} (h : OffOK w L) (hL : 1 ≤ L.length) {hand : Int} (hh : -1 ≤ hand ∧ hand < L.length) : ∀ s ∈ chV L hand, s.f1 = 4 := by
  by_cases q : 0 ≤ hand
  · exact (h.1 _ (chV_hand q hh.2)).2.2.2
  · unfold chV
    rw [if_neg q, stemF_eq L.length (Nat.le_refl _)]
    exact fun s hs => (h.1 _ (headD_mem hL)).2.2.2 s (List.mem_of_mem_take hs)
theorem stem_begins {w : List Sign} {L : List (List Sign)} (h : OffOK w L) {x : List Sign} (hx : x ∈ L) : beginsI (valsS x) (valsS (w ++ (chV L (-1)).drop w.length)) = true := by
  have hL : 1 ≤ L.length := by
    cases L with
    | nil => cases hx
    | cons y ys => simp
  have hg := stem_gew h hL
  have hs := stem_in hx
  have hb := beg_at (h.1 x hx).2.2.1
  have hc : chV L (-1) = stemF L L.length := by unfold chV; rw [if_neg (by decide)]
  rw [hc]
  have hn : (w ++ (stemF L L.length).drop w.length).length = (stemF L L.length).length := by rw [List.length_append, List.length_drop]; omega
  refine beg_yes (by omega) fun j hj => ?_
  rw [hn] at hj
  by_cases q : j < w.length
  · rw [List.getElem?_append_left q]; exact hb.2 j q
  · rw [List.getElem?_append_right (by omega), List.getElem?_drop, show w.length + (j - w.length) = j by omega, hs.2 j hj]
/-! ### The lines that come -/
theorem wordV_len {l : List Sign} {a : Int} (ha : 0 ≤ a ∧ a ≤ l.length) : a.toNat = (wordV l a).length + fromF l a.toNat := by
  have hf := fromF_le l a.toNat
  unfold wordV seg
  rw [List.length_take, List.length_drop, Int.toNat_natCast]
  omega
theorem seg_lo (l : List Sign) (a : Int) : seg l ((0 : Nat) : Int) a = l.take a.toNat := by
  unfold seg
  rw [show ((0 : Nat) : Int).toNat = 0 from rfl, List.drop_zero, Nat.sub_zero]
theorem seg_hi (l : List Sign) (a : Int) : seg l a ((l.length : Nat) : Int) = l.drop a.toNat := by
  unfold seg
  exact List.take_of_length_le (by rw [List.length_drop, Int.toNat_natCast]; exact Nat.le_refl _)
theorem insV_eq (l : List Sign) (a : Int) (d : List Sign) : insV l a d = l.take a.toNat ++ d ++ l.drop a.toNat := by
  unfold insV
  rw [seg_lo, seg_hi]
theorem insV_len {l : List Sign} {a : Int} {d : List Sign} (ha : 0 ≤ a ∧ a ≤ l.length) : (insV l a d).length = l.length + d.length := by
  rw [insV_eq, List.length_append, List.length_append, List.length_take, List.length_drop]
  omega
theorem insV_lo {l : List Sign} {a : Int} {d : List Sign} (ha : 0 ≤ a ∧ a ≤ l.length) : (insV l a d).take a.toNat = l.take a.toNat := by
  rw [insV_eq, List.append_assoc]
  exact List.take_left' (by rw [List.length_take]; omega)
theorem insV_hi {l : List Sign} {a : Int} {d : List Sign} (ha : 0 ≤ a ∧ a ≤ l.length) : (insV l a d).drop (a.toNat + d.length) = l.drop a.toNat := by
  rw [insV_eq]
  exact List.drop_left' (by rw [List.length_append, List.length_take]; omega)
theorem insV_mid {l : List Sign} {a : Int} {d : List Sign} (ha : 0 ≤ a ∧ a ≤ l.length) {k : Nat} (h1 : a.toNat ≤ k) (h2 : k < a.toNat + d.length) : (insV l a d)[k]? = d[k - a.toNat]? := by
  have hl : (l.take a.toNat).length = a.toNat := by rw [List.length_take]; omega
  rw [insV_eq, List.getElem?_append_left (by rw [List.length_append, hl]; exact h2), List.getElem?_append_right (by omega), hl]
theorem insV_from {l : List Sign} {a : Int} {d : List Sign} (ha : 0 ≤ a ∧ a ≤ l.length) : ((insV l a d).drop (fromF l a.toNat)).take ((a + (d.length : Nat)).toNat - fromF l a.toNat) = wordV l a ++ d := by
  have hf := fromF_le l a.toNat
  have hl : (l.take a.toNat).length = a.toNat := by rw [List.length_take]; omega
  have hw : (l.take a.toNat).drop (fromF l a.toNat) = wordV l a := by
    unfold wordV seg
    rw [List.drop_take, Int.toNat_natCast]
  have hn := wordV_len ha
  rw [insV_eq, List.append_assoc, List.drop_append_of_le_length (by omega), hw, ← List.append_assoc]
  exact List.take_left' (by rw [List.length_append]; omega)
/-! ### The laws' small questions -/
def lightV (C : List (List Sign)) : Bool := decide (C.length ≤ 20 ∧ ∀ x ∈ C, x.length ≤ 40)
theorem light_w {H : Hyp} {K : V → Hyp → Prop} {c : Cell} {C : List (List Sign)} (hC : KVo H C c) (hl : C.length ≤ 1000000000000000) (k : K (vB (lightV C)) H) : CallW Try.prog Xs 6 [.one (.c c)] H K := by
  obtain ⟨cs, g1, g2, g3⟩ := hC
  refine call_of (n := 19) (fun _ => rfl) Try.func6 rfl rfl ?_
  refine w_seq ?_
  refine w_region ?_
  refine w_o rfl rfl rfl (op_assign rfl ?_)
  refine w_end ?_
  refine seq_normal ?_
  refine w_seq ?_
  refine w_seq ?_
  refine w_region ?_
  refine w_o rfl rfl rfl (op_assign rfl ?_)
  refine w_end ?_
  refine seq_normal ?_
  refine w_block ?_
  refine w_loop (fun m e H' => ∃ (i : Nat), i ≤ C.length ∧ m = C.length - i ∧ (∀ (j : Nat) (x : List Sign), j < i → C[j]? = some x → x.length ≤ 40) ∧ H = H' ∧ e = [(0, .one (.c c)), (3, vI (i : Nat))]) ?_ ?_
  · exact ⟨_, _, _, ⟨0, Nat.zero_le _, rfl, fun j x hj => absurd hj (Nat.not_lt_zero _), rfl, rfl⟩, env_, sel_⟩
  · rintro m e H' ⟨i, hi, rfl, hp, rfl, rfl⟩
    refine w_seq ?_
    refine w_seq ?_
    refine w_region ?_
    refine w_o rfl rfl rfl (op_move rfl ?_)
    refine w_o rfl rfl rfl (op_move rfl ?_)
    refine w_o rfl rfl rfl (op_lenC und_25 rfl g1.lenC ?_)
    refine w_o rfl rfl rfl (op_lt rfl rfl ?_)
    refine w_end ?_
    refine seq_normal ?_
    first | refine w_cond rfl (fun hI1 => ?_) (fun hI1 => ?_) | refine w_condB rfl (fun hI1 => ?_) (fun hI1 => ?_)
    · obtain ⟨x, hx⟩ : ∃ x, C[i]? = some x := ⟨_, List.getElem?_eq_getElem (by omega)⟩
      refine w_skip ?_
      refine seq_normal ?_
      refine w_seq ?_
      refine w_block ?_
      refine w_seq ?_
      refine w_region ?_
      refine w_o rfl rfl rfl (op_move rfl ?_)
      refine w_o rfl rfl rfl (op_move rfl ?_)
      refine w_o rfl rfl rfl (op_indexT (enc := encC) (xs := cs) (j := i) und_25 siz_22 rfl rfl g1 (fun _ => rfl) rfl (by omega) fun b12 o12 z12 h12 e12 => ?_)
      refine w_o rfl rfl rfl (op_load1 agg_22 rfl el_ ?_)
      refine w_o rfl rfl rfl (op_lenC und_22 rfl (g3 i z12 x h12 hx).lenC ?_)
      refine w_o rfl rfl rfl (op_gt rfl rfl ?_)
      refine w_end ?_
      refine seq_normal ?_
      first | refine w_cond rfl (fun hI2 => ?_) (fun hI2 => ?_) | refine w_condB rfl (fun hI2 => ?_) (fun hI2 => ?_)
      · refine w_seq ?_
        refine w_region ?_
        refine w_o rfl rfl rfl (op_assign rfl ?_)
        refine w_end ?_
        refine seq_normal ?_
        refine w_ret ?_
        refine block_ret ?_
        refine seq_ret ?_
        refine loop_ret ?_
        refine block_ret ?_
        refine seq_ret ?_
        have hv : false = lightV C := (decide_eq_false (fun q => by have := q.2 x (List.mem_of_getElem? hx); omega)).symm
        exact ret_bool rfl sel_ hv k
      · refine w_skip ?_
        refine block_normal ?_
        refine seq_normal ?_
        refine w_region ?_
        refine w_o rfl rfl rfl (op_move rfl ?_)
        refine w_o rfl rfl rfl (op_addi rfl rfl (by omega) (by omega) ?_)
        refine w_o rfl rfl rfl (op_assign rfl ?_)
        refine w_end ?_
        refine loop_normal (k' := C.length - (i + 1)) (by omega) ⟨i + 1, by omega, rfl, ?_, rfl, rfl⟩ env_ sel_
        intro j y hj hy
        by_cases e : j = i
        · subst e
          rw [hx] at hy; cases hy; omega
        · exact hp j y (by omega) hy
    · refine w_exit ?_
      refine seq_exit ?_
      refine loop_exit ?_
      refine block_hit rfl ?_
      refine seq_normal ?_
      refine w_seq ?_
      refine w_region ?_
      refine w_o rfl rfl rfl (op_move rfl ?_)
      refine w_o rfl rfl rfl (op_lenC und_25 rfl g1.lenC ?_)
      refine w_o rfl rfl rfl (op_le rfl rfl ?_)
      refine w_o rfl rfl rfl (op_assign rfl ?_)
      refine w_end ?_
      refine seq_normal ?_
      refine w_ret ?_
      have hv : decide ((cs.length : Int) ≤ 20) = lightV C := decide_eq_decide.2 ⟨fun q => ⟨by omega, fun x hx => by
        obtain ⟨j, hj⟩ := List.getElem?_of_mem hx
        exact hp j x (by have := (List.getElem?_eq_some_iff.1 hj).1; omega) hj⟩, fun q => by have := q.1; omega⟩
      exact ret_bool rfl sel_ hv k
theorem Lists_w {H : Hyp} {K : V → Hyp → Prop} {L : List (List Sign)} {c c' : Cell} (h : KVo H L c) (h' : KVo H L c') (h4 : L.length ≤ 1000) (hM : ∀ t ∈ L, t.length ≤ 1000000) (k : K (vB true) H) : CallW Try.prog Xs 13 [.one (.c c), .one (.c c')] H K := by
  obtain ⟨cs, h1, h2, h3⟩ := h
  obtain ⟨ds, g1, g2, g3⟩ := h'
  refine call_of (n := 27) (fun _ => rfl) Try.func13 rfl rfl ?_
  refine w_seq ?_
  refine w_region ?_
  refine w_o rfl rfl rfl (op_assign rfl ?_)
  refine w_end ?_
  refine seq_normal ?_
  refine w_seq ?_
  refine w_seq ?_
  refine w_region ?_
  refine w_o rfl rfl rfl (op_move rfl ?_)
  refine w_o rfl rfl rfl (op_lenC und_25 rfl h1.lenC ?_)
  refine w_o rfl rfl rfl (op_move rfl ?_)
  refine w_o rfl rfl rfl (op_lenC und_25 rfl g1.lenC ?_)
  refine w_o rfl rfl rfl (op_ne rfl rfl ?_)
  refine w_end ?_
  refine seq_normal ?_
  refine w_condN rfl (by omega) ?_
  refine w_skip ?_
  refine seq_normal ?_
  refine w_seq ?_
  refine w_seq ?_
  refine w_region ?_
  refine w_o rfl rfl rfl (op_assign rfl ?_)
  refine w_end ?_
  refine seq_normal ?_
  refine w_block ?_
  refine w_loop (fun z e H' => ∃ (j : Nat), j ≤ L.length ∧ z = L.length - j ∧ H = H' ∧ e = [(0, .one (.c c)), (1, .one (.c c')), (5, vI (j : Nat))]) ?_ ?_
  · exact ⟨_, _, _, ⟨0, Nat.zero_le _, rfl, rfl, rfl⟩, env_, sel_⟩
  · rintro z e H' ⟨j, hj, rfl, rfl, rfl⟩
    refine w_seq ?_
    refine w_seq ?_
    refine w_region ?_
    refine w_o rfl rfl rfl (op_move rfl ?_)
    refine w_o rfl rfl rfl (op_move rfl ?_)
    refine w_o rfl rfl rfl (op_lenC und_25 rfl h1.lenC ?_)
    refine w_o rfl rfl rfl (op_lt rfl rfl ?_)
    refine w_end ?_
    refine seq_normal ?_
    first | refine w_cond rfl (fun hI2 => ?_) (fun hI2 => ?_) | refine w_condB rfl (fun hI2 => ?_) (fun hI2 => ?_)
    · obtain ⟨ly, hly⟩ : ∃ x, L[j]? = some x := ⟨_, List.getElem?_eq_getElem (by omega)⟩
      refine w_skip ?_
      refine seq_normal ?_
      refine w_seq ?_
      refine w_block ?_
      refine w_seq ?_
      refine w_draw (by decide +kernel) (by decide +kernel) ?_
      refine w_d rfl rfl rfl (op_move rfl ?_)
      refine w_d rfl rfl rfl (op_move rfl ?_)
      refine w_d rfl rfl rfl (op_indexT (enc := encC) (xs := cs) (j := j) und_25 siz_22 rfl rfl h1 (fun _ => rfl) rfl (by omega) fun b19 o19 z19 h19 e19 => ?_)
      refine w_d rfl rfl rfl (op_load1 agg_22 rfl el_ ?_)
      refine w_d rfl rfl rfl (op_move rfl ?_)
      refine w_d rfl rfl rfl (op_move rfl ?_)
      refine w_d rfl rfl rfl (op_indexT (enc := encC) (xs := ds) (j := j) und_25 siz_22 rfl rfl g1 (fun _ => rfl) rfl (by omega) fun b23 o23 z23 h23 e23 => ?_)
      refine w_d rfl rfl rfl (op_load1 agg_22 rfl el_ ?_)
      refine w_d rfl rfl rfl (op_call rfl rfl rfl ?_)
      refine R04Same_w (h3 j z19 ly h19 hly) (g3 j z23 ly h23 hly) (hM ly (List.mem_of_getElem? hly)) ?_
      rw [decide_eq_true rfl]
      refine w_d rfl rfl rfl (op_not rfl ?_)
      refine w_end ?_
      refine seq_normal ?_
      refine w_condF rfl ?_
      refine w_skip ?_
      refine block_normal ?_
      refine seq_normal ?_
      refine w_region ?_
      refine w_o rfl rfl rfl (op_move rfl ?_)
      refine w_o rfl rfl rfl (op_addi rfl rfl (by omega) (by omega) ?_)
      refine w_o rfl rfl rfl (op_assign rfl ?_)
      refine w_end ?_
      exact loop_normal (k' := L.length - (j + 1)) (by omega) ⟨j + 1, by omega, rfl, rfl, rfl⟩ env_ sel_
    · refine w_exit ?_
      refine seq_exit ?_
      refine loop_exit ?_
      refine block_hit rfl ?_
      refine seq_normal ?_
      refine w_seq ?_
      refine w_region ?_
      refine w_o rfl rfl rfl (op_assign rfl ?_)
      refine w_end ?_
      refine seq_normal ?_
      refine w_ret ?_
      exact ret_ret rfl sel_ k
section
variable {H : Hyp} {K : V → Hyp → Prop}
theorem nilTurn_w {by_ : Int} (k : K (vB false) H) : CallW Try.prog Xs 38 [.one (.c .nilp), vI by_] H K := by
  refine call_of (n := 29) (fun _ => rfl) Try.func38 rfl rfl ?_
  refine w_seq ?_
  refine w_region ?_
  refine w_o rfl rfl rfl (op_assign rfl ?_)
  refine w_end ?_
  refine seq_normal ?_
  refine w_seq ?_
  refine w_seq ?_
  refine w_region ?_
  refine w_o rfl rfl rfl (op_move rfl ?_)
  refine w_o rfl rfl rfl (op_nilEq rfl rfl rfl (by simp only [nilKind, und_29]) ?_)
  refine w_end ?_
  refine seq_normal ?_
  refine w_condT rfl ?_
  refine w_seq ?_
  refine w_region ?_
  refine w_o rfl rfl rfl (op_assign rfl ?_)
  refine w_end ?_
  refine seq_normal ?_
  refine w_ret ?_
  refine seq_ret ?_
  exact ret_ret rfl sel_ k
theorem nilNext_w (k : K (vB false) H) : CallW Try.prog Xs 20 [.one (.c .nilp)] H K := by
  refine call_of (n := 5) (fun _ => rfl) Try.func20 rfl rfl ?_
  refine w_seq ?_
  refine w_region ?_
  refine w_o rfl rfl rfl (op_assign rfl ?_)
  refine w_end ?_
  refine seq_normal ?_
  refine w_seq ?_
  refine w_region ?_
  refine w_o rfl rfl rfl (op_move rfl ?_)
  refine w_o rfl rfl rfl (op_call rfl rfl rfl ?_)
  refine nilTurn_w ?_
  refine w_o rfl rfl rfl (op_assign rfl ?_)
  refine w_end ?_
  refine seq_normal ?_
  refine w_ret ?_
  exact ret_ret rfl (.refl _) k
theorem nilPrev_w (k : K (vB false) H) : CallW Try.prog Xs 21 [.one (.c .nilp)] H K := by
  refine call_of (n := 5) (fun _ => rfl) Try.func21 rfl rfl ?_
  refine w_seq ?_
  refine w_region ?_
  refine w_o rfl rfl rfl (op_assign rfl ?_)
  refine w_end ?_
  refine seq_normal ?_
  refine w_seq ?_
  refine w_region ?_
  refine w_o rfl rfl rfl (op_move rfl ?_)
  refine w_o rfl rfl rfl (op_call rfl rfl rfl ?_)
  refine nilTurn_w ?_
  refine w_o rfl rfl rfl (op_assign rfl ?_)
  refine w_end ?_
  refine seq_normal ?_
  refine w_ret ?_
  exact ret_ret rfl (.refl _) k
theorem nilHand_w (k : K (vI (-1)) H) : CallW Try.prog Xs 16 [.one (.c .nilp)] H K := by
  refine call_of (n := 9) (fun _ => rfl) Try.func16 rfl rfl ?_
  refine w_seq ?_
  refine w_region ?_
  refine w_o rfl rfl rfl (op_assign rfl ?_)
  refine w_end ?_
  refine seq_normal ?_
  refine w_seq ?_
  refine w_seq ?_
  refine w_region ?_
  refine w_o rfl rfl rfl (op_move rfl ?_)
  refine w_o rfl rfl rfl (op_nilEq rfl rfl rfl (by simp only [nilKind, und_29]) ?_)
  refine w_end ?_
  refine seq_normal ?_
  refine w_condT rfl ?_
  refine w_seq ?_
  refine w_region ?_
  refine w_o rfl rfl rfl (op_assign rfl ?_)
  refine w_end ?_
  refine seq_normal ?_
  refine w_ret ?_
  refine seq_ret ?_
  exact ret_ret rfl sel_ k
theorem nilLen_w (k : K (vI 0) H) : CallW Try.prog Xs 15 [.one (.c .nilp)] H K := by
  refine call_of (n := 10) (fun _ => rfl) Try.func15 rfl rfl ?_
  refine w_seq ?_
  refine w_region ?_
  refine w_o rfl rfl rfl (op_assign rfl ?_)
  refine w_end ?_
  refine seq_normal ?_
  refine w_seq ?_
  refine w_seq ?_
  refine w_region ?_
  refine w_o rfl rfl rfl (op_move rfl ?_)
  refine w_o rfl rfl rfl (op_nilEq rfl rfl rfl (by simp only [nilKind, und_29]) ?_)
  refine w_end ?_
  refine seq_normal ?_
  refine w_condT rfl ?_
  refine w_seq ?_
  refine w_region ?_
  refine w_o rfl rfl rfl (op_assign rfl ?_)
  refine w_end ?_
  refine seq_normal ?_
  refine w_ret ?_
  refine seq_ret ?_
  exact ret_ret rfl sel_ k
theorem nilAll_w (k : K (.one (.c .nils)) H) : CallW Try.prog Xs 14 [.one (.c .nilp)] H K := by
  refine call_of (n := 25) (fun _ => rfl) Try.func14 rfl rfl ?_
  refine w_seq ?_
  refine w_region ?_
  refine w_o rfl rfl rfl (op_assign rfl ?_)
  refine w_end ?_
  refine seq_normal ?_
  refine w_seq ?_
  refine w_region ?_
  refine w_o rfl rfl rfl (op_assign rfl ?_)
  refine w_end ?_
  refine seq_normal ?_
  refine w_seq ?_
  refine w_seq ?_
  refine w_region ?_
  refine w_o rfl rfl rfl (op_move rfl ?_)
  refine w_o rfl rfl rfl (op_nilEq rfl rfl rfl (by simp only [nilKind, und_29]) ?_)
  refine w_end ?_
  refine seq_normal ?_
  refine w_condT rfl ?_
  refine w_seq ?_
  refine w_region ?_
  refine w_o rfl rfl rfl (op_move rfl ?_)
  refine w_o rfl rfl rfl (op_assign rfl ?_)
  refine w_end ?_
  refine seq_normal ?_
  refine w_ret ?_
  refine seq_ret ?_
  exact ret_ret rfl sel_ k
theorem nilLine_w (k : K (lineV .nils 0) H) : CallW Try.prog Xs 18 [.one (.c .nilp)] H K := by
  refine call_of (n := 55) (fun _ => rfl) Try.func18 rfl rfl ?_
  refine w_seq ?_
  refine w_region ?_
  refine w_o rfl rfl rfl (op_alloc zer_24 fun b2 => ?_)
  refine w_end ?_
  refine seq_normal ?_
  refine w_seq ?_
  refine w_seq ?_
  refine w_region ?_
  refine w_o rfl rfl rfl (op_move rfl ?_)
  refine w_o rfl rfl rfl (op_nilEq rfl rfl rfl (by simp only [nilKind, und_29]) ?_)
  refine w_end ?_
  refine seq_normal ?_
  refine w_condT rfl ?_
  refine w_seq ?_
  refine w_region ?_
  refine w_o rfl rfl rfl (op_build rfl ((bld_24 _).trans (rfl : _ = some [_, _])) ?_)
  refine w_on rfl rfl (op_store siz_24 rfl rfl rfl (by (repeat (first | exact Pick.head _ _ _ | apply Pick.tail | apply Pick.app)); first | done | fail) (Nat.le_of_ble_eq_true rfl) rfl ?_)
  refine w_end ?_
  refine seq_normal ?_
  refine w_ret ?_
  refine seq_ret ?_
  exact ret_cellA rfl agg_24 siz_24 (El.row mem_) rfl sel_ k
end
end Go.Proofs.Ytlbbnimobbheiaa.AM.B
