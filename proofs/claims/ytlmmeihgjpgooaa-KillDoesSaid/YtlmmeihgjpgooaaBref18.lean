/- What the reference's ring answers. -/
import Derived.Test.YtlmmeihgjpgooaaAX
import Derived.Test.YtlmmeihgjpgooaaBkill
set_option linter.unusedVariables false
set_option linter.unusedSimpArgs false
set_option maxRecDepth 10000
set_option maxHeartbeats 4000000
namespace Go.Proofs.Ytlmmeihgjpgooaa.AM.B
open Go Go.RowKit
/-- A list of texts that can be read. -/
def KV (H : Hyp) (L : List (List Sign)) (c : Cell) : Prop := ∃ cs : List Cell, Sl H 22 1 c cs.length (cs.flatMap encC) ∧ cs.length = L.length ∧ ∀ (i : Nat) (d : Cell) (x : List Sign), cs[i]? = some d → L[i]? = some x → Sl H 46 2 d x.length (x.flatMap encS)
theorem KV.sub {H H' : Hyp} {L : List (List Sign)} {c : Cell} (h : KV H L c) (hs : ∀ y ∈ H, y ∈ H') : KV H' L c := by
  obtain ⟨cs, h1, h2, h3⟩ := h
  exact ⟨cs, h1.sub hs, h2, fun i d x a b => (h3 i d x a b).sub hs⟩
section
variable {H : Hyp} {K : V → Hyp → Prop} {L : List (List Sign)} {c : Cell} {hand : Int}
theorem RNow_w {hi M : Nat} (h : KV H L c) (h4 : L.length ≤ 1000) (hh : L.length ≠ 0 → hand = hi ∧ hi < L.length) (k : ∀ c', Sl H 46 2 c' (if L.length = 0 then [] else nowM L hi).length ((if L.length = 0 then [] else nowM L hi).flatMap encS) → K (.one (.c c')) H) : CallW Try.prog Xs 49 [.one (.agg [c, .int .i64 hand])] H K := by
  obtain ⟨cs, h1, h2, h3⟩ := h
  refine call_of (n := 13) (fun _ => rfl) Try.func49 rfl rfl ?_
  refine w_seq ?_
  refine w_region ?_
  refine w_o rfl rfl rfl (op_box rfl fun b1 => ?_)
  refine w_o rfl rfl rfl (op_assign rfl ?_)
  refine w_end ?_
  refine seq_normal ?_
  refine w_seq ?_
  refine w_seq ?_
  refine w_region ?_
  refine w_o rfl rfl rfl (op_fieldAddr fa_56_0 rfl ?_)
  refine w_o rfl rfl rfl (op_loadF agg_34 rfl el_ rfl ?_)
  refine w_o rfl rfl rfl (op_lenC und_34 rfl h1.lenC ?_)
  refine w_o rfl rfl rfl (op_eq rfl rfl ?_)
  refine w_end ?_
  refine seq_normal ?_
  first | refine w_cond rfl (fun hI1 => ?_) (fun hI1 => ?_) | refine w_condB rfl (fun hI1 => ?_) (fun hI1 => ?_)
  · rw [if_pos (by omega)] at k
    refine w_seq ?_
    refine w_region ?_
    refine w_o rfl rfl rfl (op_assign rfl ?_)
    refine w_end ?_
    refine seq_normal ?_
    refine w_ret ?_
    refine seq_ret ?_
    exact ret_ret rfl sel_ (k .nils Sl.nil)
  · have h0 : L.length ≠ 0 := by omega
    rw [if_neg h0] at k
    obtain ⟨hh1, hh2⟩ := hh h0
    subst hh1
    obtain ⟨l0, hl0⟩ : ∃ l, L[hi]? = some l := ⟨_, List.getElem?_eq_getElem hh2⟩
    have en : nowM L hi = l0 := by unfold nowM; rw [hl0]; rfl
    rw [en] at k
    refine w_skip ?_
    refine seq_normal ?_
    refine w_seq ?_
    refine w_region ?_
    refine w_o rfl rfl rfl (op_fieldAddr fa_56_0 rfl ?_)
    refine w_o rfl rfl rfl (op_loadF agg_34 rfl el_ rfl ?_)
    refine w_o rfl rfl rfl (op_fieldAddr fa_56_1 rfl ?_)
    refine w_o rfl rfl rfl (op_loadF agg_3 rfl el_ rfl ?_)
    refine w_o rfl rfl rfl (op_indexT (enc := encC) und_34 siz_22 rfl rfl h1.cons (fun _ => rfl) rfl (by omega) fun b11 o11 z11 h11 e11 => ?_)
    refine w_o rfl rfl rfl (op_load1 agg_22 rfl el_ ?_)
    refine w_o rfl rfl rfl (op_assign rfl ?_)
    refine w_end ?_
    refine seq_normal ?_
    refine w_ret ?_
    exact ret_ret rfl sel_ (k _ (h3 hi z11 l0 h11 hl0))
theorem RTurn_w {hi : Nat} (h : KV H L c) (h4 : L.length ≤ 1000) (hh : L.length ≠ 0 → hand = hi ∧ hi < L.length) (k : K (.one (.agg [c, .int .i64 (if L.length = 0 then hand else ((if hi = 0 then L.length - 1 else hi - 1 : Nat) : Int))])) H) : CallW Try.prog Xs 42 [.one (.agg [c, .int .i64 hand])] H K := by
  obtain ⟨cs, h1, h2, h3⟩ := h
  refine call_of (n := 22) (fun _ => rfl) Try.func42 rfl rfl ?_
  refine w_seq ?_
  refine w_region ?_
  refine w_o rfl rfl rfl (op_box rfl fun b1 => ?_)
  refine w_o rfl rfl rfl (op_alloc zer_56 fun b2 => ?_)
  refine w_end ?_
  refine seq_normal ?_
  refine w_seq ?_
  refine w_seq ?_
  refine w_region ?_
  refine w_o rfl rfl rfl (op_fieldAddr fa_56_0 rfl ?_)
  refine w_o rfl rfl rfl (op_loadF agg_34 rfl el_ rfl ?_)
  refine w_o rfl rfl rfl (op_lenC und_34 rfl h1.lenC ?_)
  refine w_o rfl rfl rfl (op_eq rfl rfl ?_)
  refine w_end ?_
  refine seq_normal ?_
  first | refine w_cond rfl (fun hI1 => ?_) (fun hI1 => ?_) | refine w_condB rfl (fun hI1 => ?_) (fun hI1 => ?_)
  · rw [if_pos (by omega)] at k
    refine w_seq ?_
    refine w_region ?_
    refine w_o rfl rfl rfl (op_loadA agg_56 siz_56 rfl rfl el_ ?_)
    refine w_on rfl rfl (op_store siz_56 rfl rfl rfl (by (repeat (first | exact Pick.head _ _ _ | apply Pick.tail | apply Pick.app)); first | done | fail) (Nat.le_of_ble_eq_true rfl) rfl ?_)
    refine w_end ?_
    refine seq_normal ?_
    refine w_ret ?_
    refine seq_ret ?_
    exact ret_cellA rfl agg_56 siz_56 el_ rfl sel_ k
  · have h0 : L.length ≠ 0 := by omega
    rw [if_neg h0] at k
    obtain ⟨hh1, hh2⟩ := hh h0
    subst hh1
    have hmod : ((hi : Int) + (cs.length : Int) - 1).tmod (cs.length : Int) = ((if hi = 0 then L.length - 1 else hi - 1 : Nat) : Int) := by
      rw [Int.tmod_eq_emod_of_nonneg (by omega)]
      by_cases q : hi = 0
      · subst q
        rw [if_pos rfl, Int.emod_eq_of_lt (by omega) (by omega)]; omega
      · rw [if_neg q, show (hi : Int) + (cs.length : Int) - 1 = (hi - 1 : Int) + (cs.length : Int) * 1 by omega, Int.add_mul_emod_self_left, Int.emod_eq_of_lt (by omega) (by omega)]; omega
    refine w_skip ?_
    refine seq_normal ?_
    refine w_seq ?_
    refine w_draw (by decide +kernel) (by decide +kernel) ?_
    refine w_d rfl rfl rfl (op_fieldAddr fa_56_0 rfl ?_)
    refine w_d rfl rfl rfl (op_loadF agg_34 rfl el_ rfl ?_)
    refine w_d rfl rfl rfl (op_fieldAddr fa_56_1 rfl ?_)
    refine w_d rfl rfl rfl (op_loadF agg_3 rfl el_ rfl ?_)
    refine w_d rfl rfl rfl (op_fieldAddr fa_56_0 rfl ?_)
    refine w_d rfl rfl rfl (op_loadF agg_34 rfl el_ rfl ?_)
    refine w_d rfl rfl rfl (op_lenC und_34 rfl h1.lenC ?_)
    refine w_d rfl rfl rfl (op_addi rfl rfl (by omega) (by omega) ?_)
    refine w_d rfl rfl rfl (op_subi rfl rfl (by omega) (by omega) ?_)
    refine w_d rfl rfl rfl (op_fieldAddr fa_56_0 rfl ?_)
    refine w_d rfl rfl rfl (op_loadF agg_34 rfl el_ rfl ?_)
    refine w_d rfl rfl rfl (op_lenC und_34 rfl h1.lenC ?_)
    refine w_d rfl rfl rfl (op_remi rfl rfl (by omega) hmod ?_)
    refine w_d rfl rfl rfl (op_build rfl ((bld_56 _).trans (rfl : _ = some [_, _])) ?_)
    refine w_dn rfl rfl (op_store siz_56 rfl rfl rfl (by (repeat (first | exact Pick.head _ _ _ | apply Pick.tail | apply Pick.app)); first | done | fail) (Nat.le_of_ble_eq_true rfl) rfl ?_)
    refine w_end ?_
    refine seq_normal ?_
    refine w_ret ?_
    exact ret_cellA rfl agg_56 siz_56 el_ rfl sel_ k
theorem Lists_w {L' : List (List Sign)} {c' : Cell} {M : Nat} (h : KV H L c) (h' : KV H L' c') (h4 : L.length ≤ 1000) (hM : ∀ t ∈ L, t.length ≤ 1000000) (he : L = L') (k : K (vB true) H) : CallW Try.prog Xs 50 [.one (.c c), .one (.c c')] H K := by
  subst he
  obtain ⟨cs, h1, h2, h3⟩ := h
  obtain ⟨ds, g1, g2, g3⟩ := h'
  refine call_of (n := 27) (fun _ => rfl) Try.func50 rfl rfl ?_
  refine w_seq ?_
  refine w_region ?_
  refine w_o rfl rfl rfl (op_assign rfl ?_)
  refine w_end ?_
  refine seq_normal ?_
  refine w_seq ?_
  refine w_seq ?_
  refine w_region ?_
  refine w_o rfl rfl rfl (op_move rfl ?_)
  refine w_o rfl rfl rfl (op_lenC und_34 rfl h1.lenC ?_)
  refine w_o rfl rfl rfl (op_move rfl ?_)
  refine w_o rfl rfl rfl (op_lenC und_34 rfl g1.lenC ?_)
  refine w_o rfl rfl rfl (op_ne rfl rfl ?_)
  refine w_end ?_
  refine seq_normal ?_
  refine w_condN rfl (by omega) ?_
  refine w_skip ?_
  refine seq_normal ?_
  refine w_seq ?_
  refine w_seq ?_
  refine w_region ?_
  refine w_o rfl rfl rfl (op_assign rfl ?_)
  refine w_end ?_
  refine seq_normal ?_
  refine w_block ?_
  refine w_loop (fun z e H' => ∃ (j : Nat), j ≤ L.length ∧ z = L.length - j ∧ H = H' ∧ e = [(0, .one (.c c)), (1, .one (.c c')), (5, vI (j : Nat))]) ?_ ?_
  · exact ⟨_, _, _, ⟨0, Nat.zero_le _, rfl, rfl, rfl⟩, env_, sel_⟩
  · rintro z e H' ⟨j, hj, rfl, rfl, rfl⟩
    refine w_seq ?_
    refine w_seq ?_
    refine w_region ?_
    refine w_o rfl rfl rfl (op_move rfl ?_)
    refine w_o rfl rfl rfl (op_move rfl ?_)
    refine w_o rfl rfl rfl (op_lenC und_34 rfl h1.lenC ?_)
    refine w_o rfl rfl rfl (op_lt rfl rfl ?_)
    refine w_end ?_
    refine seq_normal ?_
    first | refine w_cond rfl (fun hI2 => ?_) (fun hI2 => ?_) | refine w_condB rfl (fun hI2 => ?_) (fun hI2 => ?_)
    · obtain ⟨ly, hly⟩ : ∃ x, L[j]? = some x := ⟨_, List.getElem?_eq_getElem (by omega)⟩
      refine w_skip ?_
      refine seq_normal ?_
      refine w_seq ?_
      refine w_block ?_
      refine w_seq ?_
      refine w_draw (by decide +kernel) (by decide +kernel) ?_
      refine w_d rfl rfl rfl (op_move rfl ?_)
      refine w_d rfl rfl rfl (op_move rfl ?_)
      refine w_d rfl rfl rfl (op_indexT (enc := encC) und_34 siz_22 rfl rfl h1 (fun _ => rfl) rfl (by omega) fun b19 o19 z19 h19 e19 => ?_)
      refine w_d rfl rfl rfl (op_load1 agg_22 rfl el_ ?_)
      refine w_d rfl rfl rfl (op_move rfl ?_)
      refine w_d rfl rfl rfl (op_move rfl ?_)
      refine w_d rfl rfl rfl (op_indexT (enc := encC) und_34 siz_22 rfl rfl g1 (fun _ => rfl) rfl (by omega) fun b23 o23 z23 h23 e23 => ?_)
      refine w_d rfl rfl rfl (op_load1 agg_22 rfl el_ ?_)
      refine w_d rfl rfl rfl (op_call rfl rfl rfl ?_)
      refine R04Same_w (h3 j z19 ly h19 hly) (g3 j z23 ly h23 hly) (hM ly (List.mem_of_getElem? hly)) ?_
      rw [decide_eq_true rfl]
      refine w_d rfl rfl rfl (op_not rfl ?_)
      refine w_end ?_
      refine seq_normal ?_
      refine w_condF rfl ?_
      refine w_skip ?_
      refine block_normal ?_
      refine seq_normal ?_
      refine w_region ?_
      refine w_o rfl rfl rfl (op_move rfl ?_)
      refine w_o rfl rfl rfl (op_addi rfl rfl (by omega) (by omega) ?_)
      refine w_o rfl rfl rfl (op_assign rfl ?_)
      refine w_end ?_
      exact loop_normal (k' := L.length - (j + 1)) (by omega) ⟨j + 1, by omega, rfl, rfl, rfl⟩ env_ sel_
    · refine w_exit ?_
      refine seq_exit ?_
      refine loop_exit ?_
      refine block_hit rfl ?_
      refine seq_normal ?_
      refine w_seq ?_
      refine w_region ?_
      refine w_o rfl rfl rfl (op_assign rfl ?_)
      refine w_end ?_
      refine seq_normal ?_
      refine w_ret ?_
      exact ret_ret rfl sel_ k
theorem in_snoc {N : Hyp} {cs : List Cell} {l : List Sign} {how : Int} {cj : Cell} (h : L.length = 0 ∨ how = 0) (h2 : cs.length = L.length) (h3 : ∀ (i : Nat) (d : Cell) (x : List Sign), cs[i]? = some d → L[i]? = some x → Sl N 46 2 d x.length (x.flatMap encS)) (hj : Sl N 46 2 cj l.length (l.flatMap encS)) :
    ∀ (i : Nat) (d : Cell) (x : List Sign), (cs ++ [cj])[i]? = some d → (outM L l how)[i]? = some x → Sl N 46 2 d x.length (x.flatMap encS) := by
  intro i d x hd hx
  unfold outM at hx
  rw [if_pos h] at hx
  rw [List.getElem?_append] at hd hx
  rw [h2] at hd
  by_cases q : i < L.length
  · rw [if_pos q] at hd hx; exact h3 i d x hd hx
  · rw [if_neg q] at hd hx
    have e1 : i - L.length = 0 := by
      rcases Nat.eq_zero_or_pos (i - L.length) with q | q
      · exact q
      · rw [List.getElem?_eq_none (by simp; omega)] at hd; cases hd
    rw [e1] at hd hx
    simp at hd hx
    subst hd; subst hx; exact hj
theorem in_set {N : Hyp} {cs : List Cell} {l : List Sign} {how : Int} {cj : Cell} (h : ¬ (L.length = 0 ∨ how = 0)) (h2 : cs.length = L.length) (h3 : ∀ (i : Nat) (d : Cell) (x : List Sign), cs[i]? = some d → L[i]? = some x → Sl N 46 2 d x.length (x.flatMap encS)) (hj : Sl N 46 2 cj (joinM L l how).length ((joinM L l how).flatMap encS)) :
    ∀ (i : Nat) (d : Cell) (x : List Sign), (cs.set (cs.length - 1) cj)[i]? = some d → (outM L l how)[i]? = some x → Sl N 46 2 d x.length (x.flatMap encS) := by
  intro i d x hd hx
  have h0 : L.length ≠ 0 := fun q => h (.inl q)
  unfold outM at hx
  rw [if_neg h, List.getElem?_append, List.length_dropLast] at hx
  rw [List.getElem?_set, h2] at hd
  by_cases q : i < L.length - 1
  · rw [if_neg (by omega)] at hd
    rw [if_pos q, List.getElem?_dropLast, if_pos q] at hx
    exact h3 i d x hd hx
  · rw [if_neg q] at hx
    have e1 : i - (L.length - 1) = 0 := by
      rcases Nat.eq_zero_or_pos (i - (L.length - 1)) with q | q
      · exact q
      · rw [List.getElem?_eq_none (by simp; omega)] at hx; cases hx
    rw [e1] at hx
    rw [if_pos (by omega), if_pos (by omega)] at hd
    simp at hd hx
    subst hd; subst hx; exact hj
theorem RPush_w {H1 : Hyp} {cl : Cell} {l : List Sign} {how most : Int} {M : Nat} (hs : ∀ y ∈ H1, y ∈ H) (h : KV H1 L c) (hl : Sl H1 46 2 cl l.length (l.flatMap encS)) (h4 : L.length ≤ 1000) (hne : l.length ≠ 0) (hM : ∀ t ∈ L, t.length ≤ M) (hM2 : M + l.length ≤ 100000) (hmo : 1 ≤ most) (hh : 0 ≤ how ∧ how ≤ 2)
    (k : ∀ c' N', KV (N' ++ H1) (pushM L l how most) c' → K (.one (.agg [c', .int .i64 ((pushM L l how most).length - 1 : Int)])) (N' ++ H)) : CallW Try.prog Xs 45 [.one (.agg [c, .int .i64 hand]), .one (.c cl), vI how, vI most] H K := by
  obtain ⟨cs, h1, h2, h3⟩ := h
  have hol := outM_len L l how
  have hob : (outM L l how).length ≤ L.length + 1 ∧ 1 ≤ (outM L l how).length := by
    rw [hol]; split <;> omega
  refine call_of (n := 67) (fun _ => rfl) Try.func45 rfl rfl ?_
  refine w_seq ?_
  refine w_region ?_
  refine w_o rfl rfl rfl (op_box rfl fun b4 => ?_)
  refine w_o rfl rfl rfl (op_alloc zer_56 fun b8 => ?_)
  refine w_end ?_
  refine seq_normal ?_
  refine w_seq ?_
  refine w_seq ?_
  refine w_region ?_
  refine w_o rfl rfl rfl (op_move rfl ?_)
  refine w_o rfl rfl rfl (op_lenC und_22 rfl hl.lenC ?_)
  refine w_o rfl rfl rfl (op_eq rfl rfl ?_)
  refine w_end ?_
  refine seq_normal ?_
  refine w_condN rfl (by omega) ?_
  refine w_skip ?_
  refine seq_normal ?_
  refine w_seq ?_
  refine w_region ?_
  refine w_o rfl rfl rfl (op_buildSlice rfl (bsl_34 _ _ _ (rfl : _ = some []) rfl (by decide)) fun b15 => ?_)
  refine w_o rfl rfl rfl (op_fieldAddr fa_56_0 rfl ?_)
  refine w_o rfl rfl rfl (op_loadF agg_34 rfl el_ rfl ?_)
  refine w_o rfl rfl rfl (op_appendT (xs := []) (enc := encC) elm_34 inf_22 zer_22 (by decide) und_34 rfl rfl (.row _ 0 [] rfl) (fun _ => rfl) (PickL.front [_] _) ((h1.sub hs).cons.cons.cons) (by simp only [List.length_nil]; omega) fun c18 N18 h18 => ?_)
  rw [List.nil_append] at h18
  refine w_o rfl rfl rfl (op_assign rfl ?_)
  refine w_end ?_
  refine seq_normal ?_
  refine w_seq ?_
  refine w_region ?_
  refine w_o rfl rfl rfl (op_move rfl ?_)
  refine w_o rfl rfl rfl (op_lenC und_34 rfl (by first | exact ⟨rfl, fun s e => by cases e⟩ | exact Sl.lenC (by assumption) | (refine Own.lenT (by assumption) ?_ ?_ <;> first | exact fun _ => rfl | decide)) ?_)
  refine w_o rfl rfl rfl (op_assign rfl ?_)
  refine w_end ?_
  refine seq_normal ?_
  refine w_cut (fun e H' => ∃ (c9 : Cell) (cs9 : List Cell) (N9 : Hyp), Sl (N9 ++ H1) 22 1 c9 cs9.length (cs9.flatMap encC) ∧ cs9.length = (outM L l how).length ∧ (∀ (i : Nat) (d : Cell) (x : List Sign), cs9[i]? = some d → (outM L l how)[i]? = some x → Sl (N9 ++ H1) 46 2 d x.length (x.flatMap encS)) ∧ H' = (b8, .row true 56 1 [.nils, .int .i64 0]) :: (N9 ++ H) ∧ e = [(3, vI most), (8, ptrV b8 0), (9, .one (.c c9))]) ?_ ?_
  · refine w_seq ?_
    refine w_region ?_
    refine w_o rfl rfl rfl (op_move rfl ?_)
    refine w_o rfl rfl rfl (op_eq rfl rfl ?_)
    refine w_o rfl rfl rfl (op_move rfl ?_)
    first | refine w_known (t := 23) rfl (fun g23 => ?_) (fun g23 => ?_) | refine w_knownB (t := 23) rfl (fun g23 => ?_) (fun g23 => ?_)
    · refine w_u rfl rfl rfl rfl rfl rfl ?_
      refine w_u rfl rfl rfl rfl rfl rfl ?_
      refine w_o rfl rfl rfl (op_pick rfl rfl rfl ?_)
      refine w_end ?_
      refine seq_normal ?_
      refine w_condT rfl ?_
      refine w_region ?_
      refine w_o rfl rfl rfl (op_move rfl ?_)
      refine w_o rfl rfl rfl (op_move rfl ?_)
      refine w_o rfl rfl rfl (op_call rfl rfl rfl ?_)
      refine R04Join_w (l' := []) ((hl.sub hs).cons.cons.app) Sl.nil (by simp; omega) fun cj Nj hJ => ?_
      rw [List.append_nil] at hJ
      refine w_o rfl rfl rfl (op_buildSlice rfl (bsl_34 _ _ _ (rfl : _ = some [_]) rfl (by decide)) fun b30 => ?_)
      refine w_o rfl rfl rfl (op_append1 (enc := encC) elm_34 inf_22 zer_22 (by decide) und_34 rfl rfl (by assumption) (fun _ => rfl) (by (repeat (first | exact PickL.front _ _ | exact PickL.nil _ | apply PickL.skip | apply PickL.skipL)); first | done | fail) rfl (by omega) fun c31 N31 h31 => ?_)
      refine w_o rfl rfl rfl (op_assign rfl ?_)
      refine w_end ?_
      first
        | (have hor : L.length = 0 ∨ how = 0 := by omega
           have e9 : (cs ++ [cj]).length = (outM L l how).length := by rw [hol, if_pos hor]; simp [h2]
           exact mid_normal ⟨_, cs ++ [cj], N31 ++ Nj, h31.slT (fun _ => rfl) (by decide) (fun x hx => List.mem_append_left _ (List.mem_append_left _ hx)), e9, in_snoc hor h2 (fun i d x a b => (h3 i d x a b).app) (hJ.slT (fun _ => rfl) (by decide) (fun x hx => List.mem_append_left _ (List.mem_append_right _ hx))), rfl, rfl⟩ env_ sel_)
        | (have e9 : (cs.set (cs.length - 1) cj).length = (outM L l how).length := by rw [hol, if_neg hnz]; simp [h2]
           exact mid_normal ⟨.sl bo 0 cs.length (.lim 0), cs.set (cs.length - 1) cj, (bo, .row true 22 1 ((cs.set (cs.length - 1) cj).flatMap encC)) :: Nj, (by have q := Sl.of_row (H := (bo, Fact.row true 22 1 ((cs.set (cs.length - 1) cj).flatMap encC)) :: Nj ++ H1) (own := true) (len := (cs.set (cs.length - 1) cj).length) (List.Mem.head _) (flatMap_len (enc := encC) (n := 1) (fun _ => rfl) _); rw [List.length_set] at q ⊢; exact q), e9, in_set hnz h2 (fun i d x a b => (h3 i d x a b).app) (hJ.slT (fun _ => rfl) (by decide) (fun x hx => List.mem_append_left _ (List.Mem.tail _ hx))), rfl, rfl⟩ env_ sel_)
    · refine w_og rfl rfl rfl rfl rfl (op_move rfl ?_)
      refine w_og rfl rfl rfl rfl rfl (op_eq rfl rfl ?_)
      refine w_o rfl rfl rfl (op_pick rfl rfl rfl ?_)
      refine w_end ?_
      refine seq_normal ?_
      first | refine w_cond rfl (fun hI2 => ?_) (fun hI2 => ?_) | refine w_condB rfl (fun hI2 => ?_) (fun hI2 => ?_)
      · refine w_region ?_
        refine w_o rfl rfl rfl (op_move rfl ?_)
        refine w_o rfl rfl rfl (op_move rfl ?_)
        refine w_o rfl rfl rfl (op_call rfl rfl rfl ?_)
        refine R04Join_w (l' := []) ((hl.sub hs).cons.cons.app) Sl.nil (by simp; omega) fun cj Nj hJ => ?_
        rw [List.append_nil] at hJ
        refine w_o rfl rfl rfl (op_buildSlice rfl (bsl_34 _ _ _ (rfl : _ = some [_]) rfl (by decide)) fun b30 => ?_)
        refine w_o rfl rfl rfl (op_append1 (enc := encC) elm_34 inf_22 zer_22 (by decide) und_34 rfl rfl (by assumption) (fun _ => rfl) (by (repeat (first | exact PickL.front _ _ | exact PickL.nil _ | apply PickL.skip | apply PickL.skipL)); first | done | fail) rfl (by omega) fun c31 N31 h31 => ?_)
        refine w_o rfl rfl rfl (op_assign rfl ?_)
        refine w_end ?_
        first
          | (have hor : L.length = 0 ∨ how = 0 := by omega
             have e9 : (cs ++ [cj]).length = (outM L l how).length := by rw [hol, if_pos hor]; simp [h2]
             exact mid_normal ⟨_, cs ++ [cj], N31 ++ Nj, h31.slT (fun _ => rfl) (by decide) (fun x hx => List.mem_append_left _ (List.mem_append_left _ hx)), e9, in_snoc hor h2 (fun i d x a b => (h3 i d x a b).app) (hJ.slT (fun _ => rfl) (by decide) (fun x hx => List.mem_append_left _ (List.mem_append_right _ hx))), rfl, rfl⟩ env_ sel_)
          | (have e9 : (cs.set (cs.length - 1) cj).length = (outM L l how).length := by rw [hol, if_neg hnz]; simp [h2]
             exact mid_normal ⟨.sl bo 0 cs.length (.lim 0), cs.set (cs.length - 1) cj, (bo, .row true 22 1 ((cs.set (cs.length - 1) cj).flatMap encC)) :: Nj, (by have q := Sl.of_row (H := (bo, Fact.row true 22 1 ((cs.set (cs.length - 1) cj).flatMap encC)) :: Nj ++ H1) (own := true) (len := (cs.set (cs.length - 1) cj).length) (List.Mem.head _) (flatMap_len (enc := encC) (n := 1) (fun _ => rfl) _); rw [List.length_set] at q ⊢; exact q), e9, in_set hnz h2 (fun i d x a b => (h3 i d x a b).app) (hJ.slT (fun _ => rfl) (by decide) (fun x hx => List.mem_append_left _ (List.Mem.tail _ hx))), rfl, rfl⟩ env_ sel_)
      · have hnz : ¬ (L.length = 0 ∨ how = 0) := by omega
        obtain ⟨bo, lo, rfl, rfl, hlo⟩ := h18.row_of (by rw [flatMap_len (enc := encC) (n := 1) (fun _ => rfl)]; omega)
        have hlo2 : lo = cs.length := by rw [flatMap_len (enc := encC) (n := 1) (fun _ => rfl)] at hlo; omega
        subst hlo2
        have hla : L[L.length - 1]? = some (lastL L) := getLastD_at (by omega)
        have hlb := hM _ (List.mem_of_getElem? hla)
        refine w_seq ?_
        refine w_region ?_
        refine w_o rfl rfl rfl (op_move rfl ?_)
        refine w_o rfl rfl rfl (op_eq rfl rfl ?_)
        refine w_end ?_
        refine seq_normal ?_
        first | refine w_cond rfl (fun hI3 => ?_) (fun hI3 => ?_) | refine w_condB rfl (fun hI3 => ?_) (fun hI3 => ?_)
        · refine w_region ?_
          refine w_o rfl rfl rfl (op_move rfl ?_)
          refine w_o rfl rfl rfl (op_move rfl ?_)
          refine w_o rfl rfl rfl (op_subi rfl rfl (by omega) (by omega) ?_)
          refine w_o rfl rfl rfl (op_move rfl ?_)
          refine w_o rfl rfl rfl (op_move rfl ?_)
          refine w_o rfl rfl rfl (op_subi rfl rfl (by omega) (by omega) ?_)
          refine w_o rfl rfl rfl (op_indexT (enc := encC) (xs := cs) (j := cs.length - 1) und_34 siz_22 rfl rfl (Sl.of_row (own := true) (List.Mem.head _) hlo) (fun _ => rfl) (by omega) (by omega) fun b40 o40 z40 h40 e40 => ?_)
          refine w_o rfl rfl rfl (op_load1 agg_22 rfl el_ ?_)
          refine w_o rfl rfl rfl (op_move rfl ?_)
          refine w_o rfl rfl rfl (op_call rfl rfl rfl ?_)
          have hz := h3 _ z40 (lastL L) h40 (by rw [h2]; exact hla)
          refine R04Join_w ((hz.sub hs).cons.cons.cons) ((hl.sub hs).cons.cons.cons) (by omega) fun cj Nj hJ => ?_
          rw [show lastL L ++ l = joinM L l how by unfold joinM; rw [if_neg hnz, if_pos hI3]] at hJ
          refine w_o rfl rfl rfl (op_indexE und_34 siz_22 rfl rfl (by omega) (by omega) ?_)
          refine w_on rfl rfl (op_storeT (xs := cs) (enc := encC) (z0 := cj) (j := cs.length - 1) siz_22 rfl rfl rfl (fun _ => rfl) (by (repeat (first | exact Pick.head _ _ _ | apply Pick.tail | apply Pick.app)); first | done | fail) (by omega) (by omega) ?_)
          refine w_end ?_
          first
            | (have hor : L.length = 0 ∨ how = 0 := by omega
               have e9 : (cs ++ [cj]).length = (outM L l how).length := by rw [hol, if_pos hor]; simp [h2]
               exact mid_normal ⟨_, cs ++ [cj], N31 ++ Nj, h31.slT (fun _ => rfl) (by decide) (fun x hx => List.mem_append_left _ (List.mem_append_left _ hx)), e9, in_snoc hor h2 (fun i d x a b => (h3 i d x a b).app) (hJ.slT (fun _ => rfl) (by decide) (fun x hx => List.mem_append_left _ (List.mem_append_right _ hx))), rfl, rfl⟩ env_ sel_)
            | (have e9 : (cs.set (cs.length - 1) cj).length = (outM L l how).length := by rw [hol, if_neg hnz]; simp [h2]
               exact mid_normal ⟨.sl bo 0 cs.length (.lim 0), cs.set (cs.length - 1) cj, (bo, .row true 22 1 ((cs.set (cs.length - 1) cj).flatMap encC)) :: Nj, (by have q := Sl.of_row (H := (bo, Fact.row true 22 1 ((cs.set (cs.length - 1) cj).flatMap encC)) :: Nj ++ H1) (own := true) (len := (cs.set (cs.length - 1) cj).length) (List.Mem.head _) (flatMap_len (enc := encC) (n := 1) (fun _ => rfl) _); rw [List.length_set] at q ⊢; exact q), e9, in_set hnz h2 (fun i d x a b => (h3 i d x a b).app) (hJ.slT (fun _ => rfl) (by decide) (fun x hx => List.mem_append_left _ (List.Mem.tail _ hx))), rfl, rfl⟩ env_ sel_)
        · refine w_region ?_
          refine w_o rfl rfl rfl (op_move rfl ?_)
          refine w_o rfl rfl rfl (op_move rfl ?_)
          refine w_o rfl rfl rfl (op_subi rfl rfl (by omega) (by omega) ?_)
          refine w_o rfl rfl rfl (op_move rfl ?_)
          refine w_o rfl rfl rfl (op_move rfl ?_)
          refine w_o rfl rfl rfl (op_move rfl ?_)
          refine w_o rfl rfl rfl (op_subi rfl rfl (by omega) (by omega) ?_)
          refine w_o rfl rfl rfl (op_indexT (enc := encC) (xs := cs) (j := cs.length - 1) und_34 siz_22 rfl rfl (Sl.of_row (own := true) (List.Mem.head _) hlo) (fun _ => rfl) (by omega) (by omega) fun b52 o52 z52 h52 e52 => ?_)
          refine w_o rfl rfl rfl (op_load1 agg_22 rfl el_ ?_)
          refine w_o rfl rfl rfl (op_call rfl rfl rfl ?_)
          have hz := h3 _ z52 (lastL L) h52 (by rw [h2]; exact hla)
          refine R04Join_w ((hl.sub hs).cons.cons.cons) ((hz.sub hs).cons.cons.cons) (by omega) fun cj Nj hJ => ?_
          rw [show l ++ lastL L = joinM L l how by unfold joinM; rw [if_neg hnz, if_neg hI3]] at hJ
          refine w_o rfl rfl rfl (op_indexE und_34 siz_22 rfl rfl (by omega) (by omega) ?_)
          refine w_on rfl rfl (op_storeT (xs := cs) (enc := encC) (z0 := cj) (j := cs.length - 1) siz_22 rfl rfl rfl (fun _ => rfl) (by (repeat (first | exact Pick.head _ _ _ | apply Pick.tail | apply Pick.app)); first | done | fail) (by omega) (by omega) ?_)
          refine w_end ?_
          first
            | (have hor : L.length = 0 ∨ how = 0 := by omega
               have e9 : (cs ++ [cj]).length = (outM L l how).length := by rw [hol, if_pos hor]; simp [h2]
               exact mid_normal ⟨_, cs ++ [cj], N31 ++ Nj, h31.slT (fun _ => rfl) (by decide) (fun x hx => List.mem_append_left _ (List.mem_append_left _ hx)), e9, in_snoc hor h2 (fun i d x a b => (h3 i d x a b).app) (hJ.slT (fun _ => rfl) (by decide) (fun x hx => List.mem_append_left _ (List.mem_append_right _ hx))), rfl, rfl⟩ env_ sel_)
            | (have e9 : (cs.set (cs.length - 1) cj).length = (outM L l how).length := by rw [hol, if_neg hnz]; simp [h2]
               exact mid_normal ⟨.sl bo 0 cs.length (.lim 0), cs.set (cs.length - 1) cj, (bo, .row true 22 1 ((cs.set (cs.length - 1) cj).flatMap encC)) :: Nj, (by have q := Sl.of_row (H := (bo, Fact.row true 22 1 ((cs.set (cs.length - 1) cj).flatMap encC)) :: Nj ++ H1) (own := true) (len := (cs.set (cs.length - 1) cj).length) (List.Mem.head _) (flatMap_len (enc := encC) (n := 1) (fun _ => rfl) _); rw [List.length_set] at q ⊢; exact q), e9, in_set hnz h2 (fun i d x a b => (h3 i d x a b).app) (hJ.slT (fun _ => rfl) (by decide) (fun x hx => List.mem_append_left _ (List.Mem.tail _ hx))), rfl, rfl⟩ env_ sel_)
  · rintro e H' ⟨c9, cs9, N9, g1, g2, g3, rfl, rfl⟩
    refine w_seq ?_
    refine w_seq ?_
    refine w_region ?_
    refine w_o rfl rfl rfl (op_move rfl ?_)
    refine w_o rfl rfl rfl (op_lenC und_34 rfl g1.lenC ?_)
    refine w_o rfl rfl rfl (op_move rfl ?_)
    refine w_o rfl rfl rfl (op_gt rfl rfl ?_)
    refine w_end ?_
    refine seq_normal ?_
    first | refine w_cond rfl (fun hI4 => ?_) (fun hI4 => ?_) | refine w_condB rfl (fun hI4 => ?_) (fun hI4 => ?_)
    · have ep : pushM L l how most = (outM L l how).drop 1 := by unfold pushM; rw [if_pos (by omega)]
      refine w_region ?_
      refine w_o rfl rfl rfl (op_move rfl ?_)
      refine w_o rfl rfl rfl (op_sliceT (enc := encC) elm_34 siz_22 (by decide) rfl g1 (fun y hy => List.Mem.tail _ (by rcases List.mem_append.1 hy with q | q; exact List.mem_append_left _ q; exact List.mem_append_right _ (hs _ q))) (fun _ => rfl) rfl rfl (by omega) (by omega) (by omega) (.inl rfl) fun c61 N61 h61 => ?_)
      have hl61 : ((cs9.drop (1 : Int).toNat).take (((cs9.length : Nat) : Int).toNat - (1 : Int).toNat)).length = cs9.length - 1 := by
        rw [List.length_take, List.length_drop, show (1 : Int).toNat = 1 from rfl]; omega
      have el61 : (cs9.drop (1 : Int).toNat).take (((cs9.length : Nat) : Int).toNat - (1 : Int).toNat) = cs9.drop 1 := by
        rw [show (1 : Int).toNat = 1 from rfl]
        exact List.take_of_length_le (by rw [List.length_drop]; omega)
      refine w_o rfl rfl rfl (op_assign rfl ?_)
      refine w_end ?_
      refine seq_normal ?_
      refine w_seq ?_
      refine w_region ?_
      refine w_o rfl rfl rfl (op_move rfl ?_)
      refine w_o rfl rfl rfl (op_move rfl ?_)
      refine w_o rfl rfl rfl (op_lenC und_34 rfl (by first | exact ⟨rfl, fun s e => by cases e⟩ | exact Sl.lenC (by assumption) | (refine Own.lenT (by assumption) ?_ ?_ <;> first | exact fun _ => rfl | decide)) ?_)
      refine w_o rfl rfl rfl (op_subi rfl rfl (by omega) (by omega) ?_)
      refine w_o rfl rfl rfl (op_build rfl ((bld_56 _).trans (rfl : _ = some [_, _])) ?_)
      refine w_on rfl rfl (op_store siz_56 rfl rfl rfl (by (repeat (first | exact Pick.head _ _ _ | apply Pick.tail | apply Pick.app)); first | done | fail) (Nat.le_of_ble_eq_true rfl) rfl ?_)
      refine w_end ?_
      refine seq_normal ?_
      refine w_ret ?_
      first
        | (have k' := k c61 (N61 ++ N9) (by
             rw [List.append_assoc, ep]
             refine ⟨_, h61, ?_, ?_⟩
             · rw [hl61, List.length_drop]; omega
             · intro i d x hd hx
               rw [el61, List.getElem?_drop] at hd
               rw [List.getElem?_drop] at hx
               exact (g3 _ d x hd hx).app)
           rw [show ((pushM L l how most).length : Int) = ((((cs9.drop (1 : Int).toNat).take (((cs9.length : Nat) : Int).toNat - (1 : Int).toNat)).length : Nat) : Int) by rw [ep, hl61, List.length_drop]; omega] at k'
           exact ret_cellA rfl agg_56 siz_56 el_ rfl sel_ k')
        | (have k' := k c9 N9 (by rw [ep]; exact ⟨cs9, g1, g2, g3⟩)
           rw [show ((pushM L l how most).length : Int) = ((cs9.length : Nat) : Int) by rw [ep, g2]] at k'
           exact ret_cellA rfl agg_56 siz_56 el_ rfl sel_ k')
    · have ep : pushM L l how most = outM L l how := by unfold pushM; rw [if_neg (by omega)]
      refine w_skip ?_
      refine seq_normal ?_
      refine w_seq ?_
      refine w_region ?_
      refine w_o rfl rfl rfl (op_move rfl ?_)
      refine w_o rfl rfl rfl (op_move rfl ?_)
      refine w_o rfl rfl rfl (op_lenC und_34 rfl (by first | exact ⟨rfl, fun s e => by cases e⟩ | exact Sl.lenC (by assumption) | (refine Own.lenT (by assumption) ?_ ?_ <;> first | exact fun _ => rfl | decide)) ?_)
      refine w_o rfl rfl rfl (op_subi rfl rfl (by omega) (by omega) ?_)
      refine w_o rfl rfl rfl (op_build rfl ((bld_56 _).trans (rfl : _ = some [_, _])) ?_)
      refine w_on rfl rfl (op_store siz_56 rfl rfl rfl (by (repeat (first | exact Pick.head _ _ _ | apply Pick.tail | apply Pick.app)); first | done | fail) (Nat.le_of_ble_eq_true rfl) rfl ?_)
      refine w_end ?_
      refine seq_normal ?_
      refine w_ret ?_
      first
        | (have k' := k c61 (N61 ++ N9) (by
             rw [List.append_assoc, ep]
             refine ⟨_, h61, ?_, ?_⟩
             · rw [hl61, List.length_drop]; omega
             · intro i d x hd hx
               rw [el61, List.getElem?_drop] at hd
               rw [List.getElem?_drop] at hx
               exact (g3 _ d x hd hx).app)
           rw [show ((pushM L l how most).length : Int) = ((((cs9.drop (1 : Int).toNat).take (((cs9.length : Nat) : Int).toNat - (1 : Int).toNat)).length : Nat) : Int) by rw [ep, hl61, List.length_drop]; omega] at k'
           exact ret_cellA rfl agg_56 siz_56 el_ rfl sel_ k')
        | (have k' := k c9 N9 (by rw [ep]; exact ⟨cs9, g1, g2, g3⟩)
           rw [show ((pushM L l how most).length : Int) = ((cs9.length : Nat) : Int) by rw [ep, g2]] at k'
           exact ret_cellA rfl agg_56 siz_56 el_ rfl sel_ k')
end
end Go.Proofs.Ytlmmeihgjpgooaa.AM.B
