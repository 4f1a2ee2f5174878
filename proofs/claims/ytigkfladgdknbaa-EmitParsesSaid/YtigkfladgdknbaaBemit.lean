/- emit and its reference, walked. -/
import Derived.Test.YtigkfladgdknbaaAX
import Derived.Test.YtigkfladgdknbaaBdec
set_option linter.unusedVariables false
set_option linter.unusedSimpArgs false
set_option maxRecDepth 10000
set_option maxHeartbeats 4000000
namespace Go.Proofs.Ytigkfladgdknbaa.AM.B
open Go Go.RowKit
def encO (o : OutS) : List Cell := [.int .i64 o.f0, .int .i64 o.f1, .int .i64 o.f2, .str o.f3]
theorem IndexFuncI_w {H : Hyp} {K : V → Hyp → Prop} {c : Cell} {l : List (Int)} {p : Int → Bool} {g : Nat} {caps : List (Nat × Nat)} (h : Sl H 3 1 c l.length (l.flatMap encI)) (hl : l.length ≤ 1000000000)
    (hg : ∀ x ∈ l, ∀ (H0 : Hyp) (K' : V → Hyp → Prop), Sel H0 H → K' (vB (p x)) H0 → CallW Try.prog Xs g ([vI x] ++ caps.map fun p => ptrV p.1 p.2) H0 K')
    (k : K (vI (idxF p l)) H) : CallW Try.prog Xs 53 [.one (.c c), .one (.c (.fn g caps))] H K := by
  refine call_of (n := 19) (fun _ => rfl) Try.func53 rfl rfl ?_
  refine w_seq ?_
  refine w_region ?_
  refine w_o rfl rfl rfl (op_assign rfl ?_)
  refine w_end ?_
  refine seq_normal ?_
  refine w_seq ?_
  refine w_seq ?_
  refine w_region ?_
  refine w_o rfl rfl rfl (op_move rfl ?_)
  refine w_o rfl rfl rfl (op_lenC und_38 rfl (by first | exact ⟨rfl, fun s e => by cases e⟩ | exact Sl.lenC (by assumption) | (refine Own.lenT (by assumption) ?_ ?_ <;> first | exact fun _ => rfl | decide)) ?_)
  refine w_o rfl rfl rfl (op_move rfl ?_)
  refine w_end ?_
  refine seq_normal ?_
  refine w_block ?_
  refine w_loop (fun m e H' => ∃ (i : Nat), i ≤ l.length ∧ m = l.length - i ∧ (∀ j x, j < i → l[j]? = some x → p x = false) ∧ H = H' ∧ e = [(0, .one (.c c)), (1, .one (.c (.fn g caps))), (7, vI (l.length : Nat)), (8, vI (i : Nat))]) ?_ ?_
  · exact ⟨_, _, _, ⟨0, Nat.zero_le _, rfl, fun j x hj => absurd hj (Nat.not_lt_zero _), rfl, rfl⟩, env_, sel_⟩
  · rintro m e H' ⟨i, hi, rfl, hp, rfl, rfl⟩
    refine w_seq ?_
    refine w_region ?_
    refine w_o rfl rfl rfl (op_lt rfl rfl ?_)
    refine w_end ?_
    refine seq_normal ?_
    refine w_seq ?_
    first | refine w_cond rfl (fun hI1 => ?_) (fun hI1 => ?_) | refine w_condB rfl (fun hI1 => ?_) (fun hI1 => ?_)
    · refine w_skip ?_
      refine seq_normal ?_
      refine w_seq ?_
      refine w_block ?_
      refine w_seq ?_
      refine w_region ?_
      refine w_o rfl rfl rfl (op_move rfl ?_)
      refine w_o rfl rfl rfl (op_assign rfl ?_)
      refine w_end ?_
      refine seq_normal ?_
      refine w_seq ?_
      refine w_region ?_
      refine w_o rfl rfl rfl (op_move rfl ?_)
      refine w_o rfl rfl rfl (op_move rfl ?_)
      refine w_o rfl rfl rfl (op_move rfl ?_)
      refine w_o rfl rfl rfl (op_indexT (enc := encI) und_38 siz_3 rfl rfl (by first | assumption | (repeat (first | assumption | apply Sl.cons | apply Sl.app))) (fun _ => rfl) rfl (by omega) fun b14 o14 z14 h14 e14 => ?_)
      refine w_o rfl rfl rfl (op_load1 agg_3 rfl el_ ?_)
      refine w_o rfl rfl rfl (op_call rfl rfl rfl ?_)
      refine hg z14 (List.mem_of_getElem? h14) _ _ (.refl _) ?_
      refine w_end ?_
      refine seq_normal ?_
      first | refine w_cond rfl (fun hI2 => ?_) (fun hI2 => ?_) | refine w_condB rfl (fun hI2 => ?_) (fun hI2 => ?_)
      · refine w_seq ?_
        refine w_region ?_
        refine w_o rfl rfl rfl (op_move rfl ?_)
        refine w_o rfl rfl rfl (op_assign rfl ?_)
        refine w_end ?_
        refine seq_normal ?_
        refine w_ret ?_
        refine block_ret ?_
        refine seq_ret ?_
        refine loop_ret ?_
        refine block_ret ?_
        refine seq_ret ?_
        rw [idxF_at h14 hI2 hp] at k
        exact ret_ret rfl (.refl _) k
      · refine w_skip ?_
        refine block_normal ?_
        refine seq_normal ?_
        refine w_region ?_
        refine w_o rfl rfl rfl (op_addi rfl rfl (by omega) (by omega) ?_)
        refine w_o rfl rfl rfl (op_move rfl ?_)
        refine w_end ?_
        refine loop_normal (k' := l.length - (i + 1)) (by omega) ⟨i + 1, by omega, rfl, ?_, rfl, rfl⟩ env_ sel_
        intro j x hj hx
        by_cases e : j = i
        · subst e; rw [h14] at hx; cases hx; exact hI2
        · exact hp j x (by omega) hx
    · refine w_exit ?_
      refine seq_exit ?_
      refine loop_exit ?_
      refine block_hit rfl ?_
      refine seq_normal ?_
      refine w_seq ?_
      refine w_region ?_
      refine w_o rfl rfl rfl (op_assign rfl ?_)
      refine w_end ?_
      refine seq_normal ?_
      refine w_ret ?_
      rw [idxF_no (fun x hx => by
        obtain ⟨j, hj⟩ := List.getElem?_of_mem hx
        exact hp j x (by have := (List.getElem?_eq_some_iff.1 hj).1; omega) hj)] at k
      exact ret_ret rfl (.refl _) k
theorem ContainsFuncI_w {H : Hyp} {K : V → Hyp → Prop} {c : Cell} {l : List (Int)} {p : Int → Bool} {g : Nat} {caps : List (Nat × Nat)} (h : Sl H 3 1 c l.length (l.flatMap encI)) (hl : l.length ≤ 1000000000)
    (hg : ∀ x ∈ l, ∀ (H0 : Hyp) (K' : V → Hyp → Prop), Sel H0 H → K' (vB (p x)) H0 → CallW Try.prog Xs g ([vI x] ++ caps.map fun p => ptrV p.1 p.2) H0 K')
    (k : K (vB (l.any p)) H) : CallW Try.prog Xs 42 [.one (.c c), .one (.c (.fn g caps))] H K := by
  refine call_of (n := 9) (fun _ => rfl) Try.func42 rfl rfl ?_
  refine w_seq ?_
  refine w_region ?_
  refine w_o rfl rfl rfl (op_assign rfl ?_)
  refine w_end ?_
  refine seq_normal ?_
  refine w_seq ?_
  refine w_region ?_
  refine w_o rfl rfl rfl (op_move rfl ?_)
  refine w_o rfl rfl rfl (op_move rfl ?_)
  refine w_o rfl rfl rfl (op_call rfl rfl rfl ?_)
  refine IndexFuncI_w h hl hg ?_
  refine w_o rfl rfl rfl (op_ge rfl rfl ?_)
  refine w_o rfl rfl rfl (op_assign rfl ?_)
  refine w_end ?_
  refine seq_normal ?_
  refine w_ret ?_
  rw [← idxF_ge0] at k
  exact ret_ret rfl (.refl _) k
theorem empty_iff {s : ByteArray} : s = ⟨#[]⟩ ↔ bl s = [] := ⟨fun h => by rw [h], fun h => bl_inj h⟩
theorem plain1_w {H : Hyp} {K : V → Hyp → Prop} {v : Int} (k : K (vB (decide (widthV v = 0))) H) : CallW Try.prog Xs 41 [vI v] H K := by
  refine call_of (n := 6) (fun _ => rfl) Try.func41 rfl rfl ?_
  refine w_seq ?_
  refine w_region ?_
  refine w_o rfl rfl rfl (op_assign rfl ?_)
  refine w_end ?_
  refine seq_normal ?_
  refine w_seq ?_
  refine w_region ?_
  refine w_o rfl rfl rfl (op_move rfl ?_)
  refine w_o rfl rfl rfl (op_call rfl rfl rfl ?_)
  refine class_Width_sw (Go.Proofs.Ytigkfladgdknbaa.P.class_Width.at _ 100 (by decide)) ?_
  refine w_o rfl rfl rfl (op_eq rfl rfl ?_)
  refine w_o rfl rfl rfl (op_assign rfl ?_)
  refine w_end ?_
  refine seq_normal ?_
  refine w_ret ?_
  exact ret_ret rfl sel_ k
theorem plain_w {H : Hyp} {K : V → Hyp → Prop} {s : ByteArray} (hs : s.size ≤ 1000000) (k : K (vB (plainL (bl s))) H) : CallW Try.prog Xs 25 [vS s] H K := by
  have hvl := vals_len (bl s)
  rw [bl_len] at hvl
  refine call_of (n := 13) (fun _ => rfl) Try.func25 rfl rfl ?_
  refine w_seq ?_
  refine w_region ?_
  refine w_o rfl rfl rfl (op_assign rfl ?_)
  refine w_end ?_
  refine seq_normal ?_
  refine w_seq ?_
  refine w_region ?_
  refine w_o rfl rfl rfl (op_assign rfl ?_)
  refine w_end ?_
  refine seq_normal ?_
  refine w_seq ?_
  refine w_region ?_
  refine w_o rfl rfl rfl (op_move rfl ?_)
  refine w_o rfl rfl rfl (op_strne rfl rfl ?_)
  refine w_o rfl rfl rfl (op_move rfl ?_)
  first | refine w_known (t := 6) rfl (fun g6 => ?_) (fun g6 => ?_) | refine w_knownB (t := 6) rfl (fun g6 => ?_) (fun g6 => ?_)
  · refine w_og rfl rfl rfl rfl rfl (op_move rfl ?_)
    refine w_og rfl rfl rfl rfl rfl (op_call rfl rfl rfl ?_)
    refine utfDecode_w hs fun ca Na ha => ?_
    refine w_og rfl rfl rfl rfl rfl (op_move rfl ?_)
    refine w_og rfl rfl rfl rfl rfl (op_call rfl rfl rfl ?_)
    refine ContainsFuncI_w (l := vals (bl s)) (p := fun v => decide (widthV v = 0)) (caps := []) (Own.slT ha (fun _ => rfl) (by decide) subs_) (by omega) (fun x hx H0 K' hs0 k0 => plain1_w k0) ?_
    refine w_og rfl rfl rfl rfl rfl (op_not rfl ?_)
    refine w_o rfl rfl rfl (op_pick rfl rfl rfl ?_)
    refine w_o rfl rfl rfl (op_assign rfl ?_)
    refine w_end ?_
    refine seq_normal ?_
    refine w_ret ?_
    refine ret_bool rfl sel_ ?_ k
    unfold plainL
    first
      | (have hne : bl s = [] := empty_iff.1 (Classical.byContradiction fun q => g6 q)
         rw [hne]; rfl)
      | (have hne : bl s ≠ [] := fun q => g6 (empty_iff.2 q)
         rw [decide_eq_true hne, Bool.true_and]
         simp only [List.all_eq_not_any_not]
         simp)
  · refine w_u rfl rfl rfl rfl rfl rfl ?_
    refine w_u rfl rfl rfl rfl rfl rfl ?_
    refine w_u rfl rfl rfl rfl rfl rfl ?_
    refine w_u rfl rfl rfl rfl rfl rfl ?_
    refine w_u rfl rfl rfl rfl rfl rfl ?_
    refine w_o rfl rfl rfl (op_pick rfl rfl rfl ?_)
    refine w_o rfl rfl rfl (op_assign rfl ?_)
    refine w_end ?_
    refine seq_normal ?_
    refine w_ret ?_
    refine ret_bool rfl sel_ ?_ k
    unfold plainL
    first
      | (have hne : bl s = [] := empty_iff.1 (Classical.byContradiction fun q => g6 q)
         rw [hne]; rfl)
      | (have hne : bl s ≠ [] := fun q => g6 (empty_iff.2 q)
         rw [decide_eq_true hne, Bool.true_and]
         simp only [List.all_eq_not_any_not]
         simp)
theorem ba_beq (a b : ByteArray) : ((a == b) = true) ↔ a = b := by
  constructor
  · intro h
    have h2 : (a.data == b.data) = true := h
    exact ByteArray.ext (eq_of_beq h2)
  · rintro rfl
    show (a.data == a.data) = true
    exact beq_self_eq_true _
def eqO (a b : OutS) : Bool := (a.f0 == b.f0) && ((a.f1 == b.f1) && ((a.f2 == b.f2) && (a.f3 == b.f3)))
theorem chk0 {o : OutS} (h : o.f0 = 0) : mayO o = (plainL (bl o.f3) && eqO o ⟨o.f0, 0, 0, o.f3⟩) := by
  unfold mayO eqO
  rw [if_pos h, Bool.eq_iff_iff]
  simp only [Bool.and_eq_true, decide_eq_true_eq, beq_iff_eq, ba_beq, and_true, true_and]
  exact And.comm
theorem chk1 {o : OutS} (h : o.f0 = 1) : mayO o = (decide (1 ≤ o.f1 ∧ o.f1 ≤ 1000 ∧ 1 ≤ o.f2 ∧ o.f2 ≤ 1000) && eqO o ⟨o.f0, o.f1, o.f2, ⟨#[]⟩⟩) := by
  unfold mayO eqO
  rw [if_neg (by omega), if_pos h, Bool.eq_iff_iff]
  simp only [Bool.and_eq_true, decide_eq_true_eq, beq_iff_eq, ba_beq, and_true, true_and]
  exact And.comm
theorem chk4 {o : OutS} (h : o.f0 = 4) : mayO o = (decide (0 ≤ o.f1 ∧ o.f1 ≤ 7) && eqO o ⟨o.f0, o.f1, 0, ⟨#[]⟩⟩) := by
  unfold mayO eqO
  rw [if_neg (by omega), if_neg (by omega), if_pos h, Bool.eq_iff_iff]
  simp only [Bool.and_eq_true, decide_eq_true_eq, beq_iff_eq, ba_beq, and_true, true_and]
  constructor
  · rintro ⟨a, b, c⟩; exact ⟨c, b, a⟩
  · rintro ⟨c, b, a⟩; exact ⟨a, b, c⟩
theorem chk5 {o : OutS} (h : o.f0 = 5) : mayO o = (decide (0 ≤ o.f1 ∧ o.f1 ≤ 1) && eqO o ⟨o.f0, o.f1, 0, ⟨#[]⟩⟩) := by
  unfold mayO eqO
  rw [if_neg (by omega), if_neg (by omega), if_neg (by omega), if_pos h, Bool.eq_iff_iff]
  simp only [Bool.and_eq_true, decide_eq_true_eq, beq_iff_eq, ba_beq, and_true, true_and]
  constructor
  · rintro ⟨a, b, c⟩; exact ⟨by omega, b, a⟩
  · rintro ⟨c, b, a⟩; exact ⟨a, b, by omega⟩
theorem chkz {o : OutS} (h : o.f0 = 2 ∨ o.f0 = 3 ∨ o.f0 = 6 ∨ o.f0 = 7 ∨ o.f0 = 8) : mayO o = (true && eqO o ⟨o.f0, 0, 0, ⟨#[]⟩⟩) := by
  unfold mayO eqO
  rw [if_neg (by omega), if_neg (by omega), if_neg (by omega), if_neg (by omega), Bool.eq_iff_iff]
  simp only [Bool.and_eq_true, decide_eq_true_eq, beq_iff_eq, ba_beq, and_true, true_and]
  constructor
  · rintro ⟨a, b, c⟩; exact ⟨c.2.2, b, a⟩
  · rintro ⟨c, b, a⟩; exact ⟨a, b, by omega⟩
theorem chkn {o : OutS} (h : o.f0 < 0 ∨ 8 < o.f0) : mayO o = (false && eqO o ⟨o.f0, 0, 0, ⟨#[]⟩⟩) := by
  unfold mayO
  rw [if_neg (by omega), if_neg (by omega), if_neg (by omega), if_neg (by omega), Bool.eq_iff_iff]
  simp only [Bool.and_eq_true, decide_eq_true_eq, Bool.false_and]
  constructor
  · rintro ⟨a, b, c⟩; omega
  · intro c; cases c
theorem Check_w {H : Hyp} {K : V → Hyp → Prop} {o : OutS} (hs : o.f3.size ≤ 1000000) (k : K (vI (if mayO o = true then 0 else 2)) H) : CallW Try.prog Xs 12 [.one (.agg (encO o))] H K := by
  refine call_of (n := 81) (fun _ => rfl) Try.func12 rfl rfl ?_
  refine w_seq ?_
  refine w_region ?_
  refine w_o rfl rfl rfl (op_box rfl fun b1 => ?_)
  refine w_o rfl rfl rfl (op_assign rfl ?_)
  refine w_end ?_
  refine seq_normal ?_
  refine w_seq ?_
  refine w_region ?_
  refine w_o rfl rfl rfl (op_fieldAddr fa_31_0 rfl ?_)
  refine w_o rfl rfl rfl (op_loadF agg_3 rfl el_ rfl ?_)
  refine w_o rfl rfl rfl (op_build rfl ((bld_31 _).trans (rfl : _ = some [_, _, _, _])) ?_)
  refine w_o rfl rfl rfl (op_alloc zer_31 fun b3 => ?_)
  refine w_on rfl rfl (op_store siz_31 rfl rfl rfl (by (repeat (first | exact Pick.head _ _ _ | apply Pick.tail | apply Pick.app)); first | done | fail) (Nat.le_of_ble_eq_true rfl) rfl ?_)
  refine w_end ?_
  refine seq_normal ?_
  refine w_seq ?_
  refine w_region ?_
  refine w_o rfl rfl rfl (op_assign rfl ?_)
  refine w_end ?_
  refine seq_normal ?_
  refine w_cut (fun e H' => ∃ (right : Bool) (n : OutS), mayO o = (right && eqO o n) ∧ H' = (b3, .row true 31 1 (encO n)) :: (b1, .row true 31 1 (encO o)) :: H ∧ e = [(1, ptrV b1 0), (3, ptrV b3 0), (4, vB right)]) ?_ ?_
  · refine w_seq ?_
    refine w_region ?_
    refine w_o rfl rfl rfl (op_fieldAddr fa_31_0 rfl ?_)
    refine w_o rfl rfl rfl (op_loadF agg_3 rfl el_ rfl ?_)
    refine w_end ?_
    refine seq_normal ?_
    refine w_block ?_
    refine w_seq ?_
    refine w_block ?_
    refine w_seq ?_
    refine w_block ?_
    refine w_seq ?_
    refine w_block ?_
    refine w_seq ?_
    refine w_block ?_
    refine w_seq ?_
    refine w_block ?_
    refine w_seq ?_
    refine w_seq ?_
    refine w_seq ?_
    refine w_region ?_
    refine w_o rfl rfl rfl (op_eq rfl rfl ?_)
    refine w_o rfl rfl rfl (op_assign rfl ?_)
    refine w_end ?_
    refine seq_normal ?_
    first | refine w_cond rfl (fun hI1 => ?_) (fun hI1 => ?_) | refine w_condB rfl (fun hI1 => ?_) (fun hI1 => ?_)
    · refine w_exit ?_
      refine seq_exit ?_
      refine seq_exit ?_
      refine block_hit rfl ?_
      refine seq_normal ?_
      refine w_seq ?_
      refine w_seq ?_
      refine w_region ?_
      refine w_o rfl rfl rfl (op_fieldAddr fa_31_3 rfl ?_)
      refine w_o rfl rfl rfl (op_loadF agg_9 rfl el_ rfl ?_)
      refine w_o rfl rfl rfl (op_fieldAddr fa_31_3 rfl ?_)
      refine w_on rfl rfl (op_store siz_9 rfl rfl rfl (by (repeat (first | exact Pick.head _ _ _ | apply Pick.tail | apply Pick.app)); first | done | fail) (Nat.le_of_ble_eq_true rfl) rfl ?_)
      refine w_end ?_
      refine seq_normal ?_
      refine w_region ?_
      refine w_o rfl rfl rfl (op_fieldAddr fa_31_3 rfl ?_)
      refine w_o rfl rfl rfl (op_loadF agg_9 rfl el_ rfl ?_)
      refine w_o rfl rfl rfl (op_call rfl rfl rfl ?_)
      refine plain_w hs ?_
      refine w_o rfl rfl rfl (op_assign rfl ?_)
      refine w_end ?_
      refine seq_normal ?_
      refine w_exit ?_
      refine block_miss rfl ?_
      refine seq_exit ?_
      refine block_miss rfl ?_
      refine seq_exit ?_
      refine block_miss rfl ?_
      refine seq_exit ?_
      refine block_miss rfl ?_
      refine seq_exit ?_
      refine block_hit rfl ?_
      first
        | exact mid_normal ⟨plainL (bl o.f3), ⟨o.f0, 0, 0, o.f3⟩, chk0 hI1, rfl, rfl⟩ env_ sel_
        | (have hq := chkz (o := o) (by omega)
           exact mid_normal ⟨true, ⟨o.f0, 0, 0, ⟨#[]⟩⟩, hq, rfl, rfl⟩ env_ sel_)
        | (have hq := chkn (o := o) (by omega)
           exact mid_normal ⟨false, ⟨o.f0, 0, 0, ⟨#[]⟩⟩, hq, rfl, rfl⟩ env_ sel_)
        | (have hq := chk1 (o := o) (by omega)
           first
             | (rw [decide_eq_false (by omega)] at hq
                exact mid_normal ⟨false, ⟨o.f0, o.f1, o.f2, ⟨#[]⟩⟩, hq, rfl, rfl⟩ env_ sel_)
             | (rw [decide_eq_decide.2 (show _ ↔ o.f1 ≤ 1000 by omega)] at hq
                exact mid_normal ⟨decide (o.f1 ≤ 1000), ⟨o.f0, o.f1, o.f2, ⟨#[]⟩⟩, hq, rfl, rfl⟩ env_ sel_))
        | (have hq := chk4 (o := o) (by omega)
           first
             | (rw [decide_eq_false (by omega)] at hq
                exact mid_normal ⟨false, ⟨o.f0, o.f1, 0, ⟨#[]⟩⟩, hq, rfl, rfl⟩ env_ sel_)
             | (rw [decide_eq_true (by omega)] at hq
                exact mid_normal ⟨true, ⟨o.f0, o.f1, 0, ⟨#[]⟩⟩, hq, rfl, rfl⟩ env_ sel_)
             | (rw [decide_eq_decide.2 (show _ ↔ o.f1 ≤ 7 by omega)] at hq
                exact mid_normal ⟨decide (o.f1 ≤ 7), ⟨o.f0, o.f1, 0, ⟨#[]⟩⟩, hq, rfl, rfl⟩ env_ sel_))
        | (have hq := chk5 (o := o) (by omega)
           first
             | (rw [decide_eq_false (by omega)] at hq
                exact mid_normal ⟨false, ⟨o.f0, o.f1, 0, ⟨#[]⟩⟩, hq, rfl, rfl⟩ env_ sel_)
             | (rw [decide_eq_true (by omega)] at hq
                exact mid_normal ⟨true, ⟨o.f0, o.f1, 0, ⟨#[]⟩⟩, hq, rfl, rfl⟩ env_ sel_))
    · refine w_skip ?_
      refine seq_normal ?_
      refine w_seq ?_
      refine w_seq ?_
      refine w_region ?_
      refine w_o rfl rfl rfl (op_eq rfl rfl ?_)
      refine w_o rfl rfl rfl (op_assign rfl ?_)
      refine w_end ?_
      refine seq_normal ?_
      first | refine w_cond rfl (fun hI2 => ?_) (fun hI2 => ?_) | refine w_condB rfl (fun hI2 => ?_) (fun hI2 => ?_)
      · refine w_exit ?_
        refine seq_exit ?_
        refine seq_exit ?_
        refine block_miss rfl ?_
        refine seq_exit ?_
        refine block_hit rfl ?_
        refine seq_normal ?_
        refine w_seq ?_
        refine w_region ?_
        refine w_o rfl rfl rfl (op_fieldAddr fa_31_2 rfl ?_)
        refine w_o rfl rfl rfl (op_loadF agg_3 rfl el_ rfl ?_)
        refine w_o rfl rfl rfl (op_fieldAddr fa_31_2 rfl ?_)
        refine w_on rfl rfl (op_store siz_3 rfl rfl rfl (by (repeat (first | exact Pick.head _ _ _ | apply Pick.tail | apply Pick.app)); first | done | fail) (Nat.le_of_ble_eq_true rfl) rfl ?_)
        refine w_end ?_
        refine seq_normal ?_
        refine w_region ?_
        refine w_o rfl rfl rfl (op_fieldAddr fa_31_2 rfl ?_)
        refine w_o rfl rfl rfl (op_loadF agg_3 rfl el_ rfl ?_)
        refine w_o rfl rfl rfl (op_ge rfl rfl ?_)
        refine w_o rfl rfl rfl (op_move rfl ?_)
        first | refine w_known (t := 35) rfl (fun g35 => ?_) (fun g35 => ?_) | refine w_knownB (t := 35) rfl (fun g35 => ?_) (fun g35 => ?_)
        · refine w_og rfl rfl rfl rfl rfl (op_fieldAddr fa_31_2 rfl ?_)
          refine w_og rfl rfl rfl rfl rfl (op_loadF agg_3 rfl el_ rfl ?_)
          refine w_og rfl rfl rfl rfl rfl (op_le rfl rfl ?_)
          refine w_o rfl rfl rfl (op_pick rfl rfl rfl ?_)
          refine w_o rfl rfl rfl (op_move rfl ?_)
          first | refine w_known (t := 40) rfl (fun g40 => ?_) (fun g40 => ?_) | refine w_knownB (t := 40) rfl (fun g40 => ?_) (fun g40 => ?_)
          · refine w_og rfl rfl rfl rfl rfl (op_fieldAddr fa_31_1 rfl ?_)
            refine w_og rfl rfl rfl rfl rfl (op_loadF agg_3 rfl el_ rfl ?_)
            refine w_og rfl rfl rfl rfl rfl (op_ge rfl rfl ?_)
            refine w_o rfl rfl rfl (op_pick rfl rfl rfl ?_)
            refine w_o rfl rfl rfl (op_move rfl ?_)
            first | refine w_known (t := 45) rfl (fun g45 => ?_) (fun g45 => ?_) | refine w_knownB (t := 45) rfl (fun g45 => ?_) (fun g45 => ?_)
            · refine w_og rfl rfl rfl rfl rfl (op_fieldAddr fa_31_1 rfl ?_)
              refine w_og rfl rfl rfl rfl rfl (op_loadF agg_3 rfl el_ rfl ?_)
              refine w_og rfl rfl rfl rfl rfl (op_le rfl rfl ?_)
              refine w_o rfl rfl rfl (op_pick rfl rfl rfl ?_)
              refine w_o rfl rfl rfl (op_assign rfl ?_)
              refine w_end ?_
              refine block_normal ?_
              refine seq_normal ?_
              refine w_seq ?_
              refine w_seq ?_
              refine w_region ?_
              refine w_o rfl rfl rfl (op_fieldAddr fa_31_1 rfl ?_)
              refine w_o rfl rfl rfl (op_loadF agg_3 rfl el_ rfl ?_)
              refine w_o rfl rfl rfl (op_fieldAddr fa_31_1 rfl ?_)
              refine w_on rfl rfl (op_store siz_3 rfl rfl rfl (by (repeat (first | exact Pick.head _ _ _ | apply Pick.tail | apply Pick.app)); first | done | fail) (Nat.le_of_ble_eq_true rfl) rfl ?_)
              refine w_end ?_
              refine seq_normal ?_
              refine w_seq ?_
              refine w_region ?_
              refine w_o rfl rfl rfl (op_fieldAddr fa_31_0 rfl ?_)
              refine w_o rfl rfl rfl (op_loadF agg_3 rfl el_ rfl ?_)
              refine w_o rfl rfl rfl (op_ne rfl rfl ?_)
              refine w_end ?_
              refine seq_normal ?_
              first | refine w_cond rfl (fun hI10 => ?_) (fun hI10 => ?_) | refine w_condB rfl (fun hI10 => ?_) (fun hI10 => ?_)
              · try (exfalso; omega)
                all_goals
                  refine w_region ?_
                  refine w_o rfl rfl rfl (op_fieldAddr fa_31_1 rfl ?_)
                  refine w_o rfl rfl rfl (op_loadF agg_3 rfl el_ rfl ?_)
                  refine w_o rfl rfl rfl (op_ge rfl rfl ?_)
                  refine w_o rfl rfl rfl (op_move rfl ?_)
                  first | refine w_known (t := 59) rfl (fun g59 => ?_) (fun g59 => ?_) | refine w_knownB (t := 59) rfl (fun g59 => ?_) (fun g59 => ?_)
                  · refine w_og rfl rfl rfl rfl rfl (op_fieldAddr fa_31_1 rfl ?_)
                    refine w_og rfl rfl rfl rfl rfl (op_loadF agg_3 rfl el_ rfl ?_)
                    refine w_og rfl rfl rfl rfl rfl (op_le rfl rfl ?_)
                    refine w_og rfl rfl rfl rfl rfl (op_move rfl ?_)
                    first | refine w_known (t := 63) rfl (fun g63 => ?_) (fun g63 => ?_) | refine w_knownB (t := 63) rfl (fun g63 => ?_) (fun g63 => ?_)
                    · refine w_u rfl rfl rfl rfl rfl rfl ?_
                      refine w_u rfl rfl rfl rfl rfl rfl ?_
                      refine w_u rfl rfl rfl rfl rfl rfl ?_
                      refine w_u rfl rfl rfl rfl rfl rfl ?_
                      refine w_u rfl rfl rfl rfl rfl rfl ?_
                      refine w_u rfl rfl rfl rfl rfl rfl ?_
                      refine w_u rfl rfl rfl rfl rfl rfl ?_
                      refine w_u rfl rfl rfl rfl rfl rfl ?_
                      refine w_og rfl rfl rfl rfl rfl (op_pick rfl rfl rfl ?_)
                      refine w_o rfl rfl rfl (op_pick rfl rfl rfl ?_)
                      refine w_o rfl rfl rfl (op_assign rfl ?_)
                      refine w_end ?_
                      refine seq_normal ?_
                      refine w_exit ?_
                      refine block_miss rfl ?_
                      refine seq_exit ?_
                      refine block_miss rfl ?_
                      refine seq_exit ?_
                      refine block_hit rfl ?_
                      first
                        | exact mid_normal ⟨plainL (bl o.f3), ⟨o.f0, 0, 0, o.f3⟩, chk0 hI1, rfl, rfl⟩ env_ sel_
                        | (have hq := chkz (o := o) (by omega)
                           exact mid_normal ⟨true, ⟨o.f0, 0, 0, ⟨#[]⟩⟩, hq, rfl, rfl⟩ env_ sel_)
                        | (have hq := chkn (o := o) (by omega)
                           exact mid_normal ⟨false, ⟨o.f0, 0, 0, ⟨#[]⟩⟩, hq, rfl, rfl⟩ env_ sel_)
                        | (have hq := chk1 (o := o) (by omega)
                           first
                             | (rw [decide_eq_false (by omega)] at hq
                                exact mid_normal ⟨false, ⟨o.f0, o.f1, o.f2, ⟨#[]⟩⟩, hq, rfl, rfl⟩ env_ sel_)
                             | (rw [decide_eq_decide.2 (show _ ↔ o.f1 ≤ 1000 by omega)] at hq
                                exact mid_normal ⟨decide (o.f1 ≤ 1000), ⟨o.f0, o.f1, o.f2, ⟨#[]⟩⟩, hq, rfl, rfl⟩ env_ sel_))
                        | (have hq := chk4 (o := o) (by omega)
                           first
                             | (rw [decide_eq_false (by omega)] at hq
                                exact mid_normal ⟨false, ⟨o.f0, o.f1, 0, ⟨#[]⟩⟩, hq, rfl, rfl⟩ env_ sel_)
                             | (rw [decide_eq_true (by omega)] at hq
                                exact mid_normal ⟨true, ⟨o.f0, o.f1, 0, ⟨#[]⟩⟩, hq, rfl, rfl⟩ env_ sel_)
                             | (rw [decide_eq_decide.2 (show _ ↔ o.f1 ≤ 7 by omega)] at hq
                                exact mid_normal ⟨decide (o.f1 ≤ 7), ⟨o.f0, o.f1, 0, ⟨#[]⟩⟩, hq, rfl, rfl⟩ env_ sel_))
                        | (have hq := chk5 (o := o) (by omega)
                           first
                             | (rw [decide_eq_false (by omega)] at hq
                                exact mid_normal ⟨false, ⟨o.f0, o.f1, 0, ⟨#[]⟩⟩, hq, rfl, rfl⟩ env_ sel_)
                             | (rw [decide_eq_true (by omega)] at hq
                                exact mid_normal ⟨true, ⟨o.f0, o.f1, 0, ⟨#[]⟩⟩, hq, rfl, rfl⟩ env_ sel_))
                    · refine w_og rfl rfl rfl rfl rfl (op_fieldAddr fa_31_0 rfl ?_)
                      refine w_og rfl rfl rfl rfl rfl (op_loadF agg_3 rfl el_ rfl ?_)
                      refine w_og rfl rfl rfl rfl rfl (op_eq rfl rfl ?_)
                      refine w_og rfl rfl rfl rfl rfl (op_move rfl ?_)
                      first | refine w_known (t := 67) rfl (fun g67 => ?_) (fun g67 => ?_) | refine w_knownB (t := 67) rfl (fun g67 => ?_) (fun g67 => ?_)
                      · refine w_og rfl rfl rfl rfl rfl (op_fieldAddr fa_31_1 rfl ?_)
                        refine w_og rfl rfl rfl rfl rfl (op_loadF agg_3 rfl el_ rfl ?_)
                        refine w_og rfl rfl rfl rfl rfl (op_le rfl rfl ?_)
                        refine w_og rfl rfl rfl rfl rfl (op_pick rfl rfl rfl ?_)
                        refine w_og rfl rfl rfl rfl rfl (op_pick rfl rfl rfl ?_)
                        refine w_o rfl rfl rfl (op_pick rfl rfl rfl ?_)
                        refine w_o rfl rfl rfl (op_assign rfl ?_)
                        refine w_end ?_
                        refine seq_normal ?_
                        refine w_exit ?_
                        refine block_miss rfl ?_
                        refine seq_exit ?_
                        refine block_miss rfl ?_
                        refine seq_exit ?_
                        refine block_hit rfl ?_
                        first
                          | exact mid_normal ⟨plainL (bl o.f3), ⟨o.f0, 0, 0, o.f3⟩, chk0 hI1, rfl, rfl⟩ env_ sel_
                          | (have hq := chkz (o := o) (by omega)
                             exact mid_normal ⟨true, ⟨o.f0, 0, 0, ⟨#[]⟩⟩, hq, rfl, rfl⟩ env_ sel_)
                          | (have hq := chkn (o := o) (by omega)
                             exact mid_normal ⟨false, ⟨o.f0, 0, 0, ⟨#[]⟩⟩, hq, rfl, rfl⟩ env_ sel_)
                          | (have hq := chk1 (o := o) (by omega)
                             first
                               | (rw [decide_eq_false (by omega)] at hq
                                  exact mid_normal ⟨false, ⟨o.f0, o.f1, o.f2, ⟨#[]⟩⟩, hq, rfl, rfl⟩ env_ sel_)
                               | (rw [decide_eq_decide.2 (show _ ↔ o.f1 ≤ 1000 by omega)] at hq
                                  exact mid_normal ⟨decide (o.f1 ≤ 1000), ⟨o.f0, o.f1, o.f2, ⟨#[]⟩⟩, hq, rfl, rfl⟩ env_ sel_))
                          | (have hq := chk4 (o := o) (by omega)
                             first
                               | (rw [decide_eq_false (by omega)] at hq
                                  exact mid_normal ⟨false, ⟨o.f0, o.f1, 0, ⟨#[]⟩⟩, hq, rfl, rfl⟩ env_ sel_)
                               | (rw [decide_eq_true (by omega)] at hq
                                  exact mid_normal ⟨true, ⟨o.f0, o.f1, 0, ⟨#[]⟩⟩, hq, rfl, rfl⟩ env_ sel_)
                               | (rw [decide_eq_decide.2 (show _ ↔ o.f1 ≤ 7 by omega)] at hq
                                  exact mid_normal ⟨decide (o.f1 ≤ 7), ⟨o.f0, o.f1, 0, ⟨#[]⟩⟩, hq, rfl, rfl⟩ env_ sel_))
                          | (have hq := chk5 (o := o) (by omega)
                             first
                               | (rw [decide_eq_false (by omega)] at hq
                                  exact mid_normal ⟨false, ⟨o.f0, o.f1, 0, ⟨#[]⟩⟩, hq, rfl, rfl⟩ env_ sel_)
                               | (rw [decide_eq_true (by omega)] at hq
                                  exact mid_normal ⟨true, ⟨o.f0, o.f1, 0, ⟨#[]⟩⟩, hq, rfl, rfl⟩ env_ sel_))
                      · refine w_u rfl rfl rfl rfl rfl rfl ?_
                        refine w_u rfl rfl rfl rfl rfl rfl ?_
                        refine w_u rfl rfl rfl rfl rfl rfl ?_
                        refine w_og rfl rfl rfl rfl rfl (op_pick rfl rfl rfl ?_)
                        refine w_og rfl rfl rfl rfl rfl (op_pick rfl rfl rfl ?_)
                        refine w_o rfl rfl rfl (op_pick rfl rfl rfl ?_)
                        refine w_o rfl rfl rfl (op_assign rfl ?_)
                        refine w_end ?_
                        refine seq_normal ?_
                        refine w_exit ?_
                        refine block_miss rfl ?_
                        refine seq_exit ?_
                        refine block_miss rfl ?_
                        refine seq_exit ?_
                        refine block_hit rfl ?_
                        first
                          | exact mid_normal ⟨plainL (bl o.f3), ⟨o.f0, 0, 0, o.f3⟩, chk0 hI1, rfl, rfl⟩ env_ sel_
                          | (have hq := chkz (o := o) (by omega)
                             exact mid_normal ⟨true, ⟨o.f0, 0, 0, ⟨#[]⟩⟩, hq, rfl, rfl⟩ env_ sel_)
                          | (have hq := chkn (o := o) (by omega)
                             exact mid_normal ⟨false, ⟨o.f0, 0, 0, ⟨#[]⟩⟩, hq, rfl, rfl⟩ env_ sel_)
                          | (have hq := chk1 (o := o) (by omega)
                             first
                               | (rw [decide_eq_false (by omega)] at hq
                                  exact mid_normal ⟨false, ⟨o.f0, o.f1, o.f2, ⟨#[]⟩⟩, hq, rfl, rfl⟩ env_ sel_)
                               | (rw [decide_eq_decide.2 (show _ ↔ o.f1 ≤ 1000 by omega)] at hq
                                  exact mid_normal ⟨decide (o.f1 ≤ 1000), ⟨o.f0, o.f1, o.f2, ⟨#[]⟩⟩, hq, rfl, rfl⟩ env_ sel_))
                          | (have hq := chk4 (o := o) (by omega)
                             first
                               | (rw [decide_eq_false (by omega)] at hq
                                  exact mid_normal ⟨false, ⟨o.f0, o.f1, 0, ⟨#[]⟩⟩, hq, rfl, rfl⟩ env_ sel_)
                               | (rw [decide_eq_true (by omega)] at hq
                                  exact mid_normal ⟨true, ⟨o.f0, o.f1, 0, ⟨#[]⟩⟩, hq, rfl, rfl⟩ env_ sel_)
                               | (rw [decide_eq_decide.2 (show _ ↔ o.f1 ≤ 7 by omega)] at hq
                                  exact mid_normal ⟨decide (o.f1 ≤ 7), ⟨o.f0, o.f1, 0, ⟨#[]⟩⟩, hq, rfl, rfl⟩ env_ sel_))
                          | (have hq := chk5 (o := o) (by omega)
                             first
                               | (rw [decide_eq_false (by omega)] at hq
                                  exact mid_normal ⟨false, ⟨o.f0, o.f1, 0, ⟨#[]⟩⟩, hq, rfl, rfl⟩ env_ sel_)
                               | (rw [decide_eq_true (by omega)] at hq
                                  exact mid_normal ⟨true, ⟨o.f0, o.f1, 0, ⟨#[]⟩⟩, hq, rfl, rfl⟩ env_ sel_))
                  · refine w_u rfl rfl rfl rfl rfl rfl ?_
                    refine w_u rfl rfl rfl rfl rfl rfl ?_
                    refine w_u rfl rfl rfl rfl rfl rfl ?_
                    refine w_u rfl rfl rfl rfl rfl rfl ?_
                    refine w_u rfl rfl rfl rfl rfl rfl ?_
                    refine w_u rfl rfl rfl rfl rfl rfl ?_
                    refine w_u rfl rfl rfl rfl rfl rfl ?_
                    refine w_u rfl rfl rfl rfl rfl rfl ?_
                    refine w_u rfl rfl rfl rfl rfl rfl ?_
                    refine w_u rfl rfl rfl rfl rfl rfl ?_
                    refine w_u rfl rfl rfl rfl rfl rfl ?_
                    refine w_u rfl rfl rfl rfl rfl rfl ?_
                    refine w_u rfl rfl rfl rfl rfl rfl ?_
                    refine w_o rfl rfl rfl (op_pick rfl rfl rfl ?_)
                    refine w_o rfl rfl rfl (op_assign rfl ?_)
                    refine w_end ?_
                    refine seq_normal ?_
                    refine w_exit ?_
                    refine block_miss rfl ?_
                    refine seq_exit ?_
                    refine block_miss rfl ?_
                    refine seq_exit ?_
                    refine block_hit rfl ?_
                    first
                      | exact mid_normal ⟨plainL (bl o.f3), ⟨o.f0, 0, 0, o.f3⟩, chk0 hI1, rfl, rfl⟩ env_ sel_
                      | (have hq := chkz (o := o) (by omega)
                         exact mid_normal ⟨true, ⟨o.f0, 0, 0, ⟨#[]⟩⟩, hq, rfl, rfl⟩ env_ sel_)
                      | (have hq := chkn (o := o) (by omega)
                         exact mid_normal ⟨false, ⟨o.f0, 0, 0, ⟨#[]⟩⟩, hq, rfl, rfl⟩ env_ sel_)
                      | (have hq := chk1 (o := o) (by omega)
                         first
                           | (rw [decide_eq_false (by omega)] at hq
                              exact mid_normal ⟨false, ⟨o.f0, o.f1, o.f2, ⟨#[]⟩⟩, hq, rfl, rfl⟩ env_ sel_)
                           | (rw [decide_eq_decide.2 (show _ ↔ o.f1 ≤ 1000 by omega)] at hq
                              exact mid_normal ⟨decide (o.f1 ≤ 1000), ⟨o.f0, o.f1, o.f2, ⟨#[]⟩⟩, hq, rfl, rfl⟩ env_ sel_))
                      | (have hq := chk4 (o := o) (by omega)
                         first
                           | (rw [decide_eq_false (by omega)] at hq
                              exact mid_normal ⟨false, ⟨o.f0, o.f1, 0, ⟨#[]⟩⟩, hq, rfl, rfl⟩ env_ sel_)
                           | (rw [decide_eq_true (by omega)] at hq
                              exact mid_normal ⟨true, ⟨o.f0, o.f1, 0, ⟨#[]⟩⟩, hq, rfl, rfl⟩ env_ sel_)
                           | (rw [decide_eq_decide.2 (show _ ↔ o.f1 ≤ 7 by omega)] at hq
                              exact mid_normal ⟨decide (o.f1 ≤ 7), ⟨o.f0, o.f1, 0, ⟨#[]⟩⟩, hq, rfl, rfl⟩ env_ sel_))
                      | (have hq := chk5 (o := o) (by omega)
                         first
                           | (rw [decide_eq_false (by omega)] at hq
                              exact mid_normal ⟨false, ⟨o.f0, o.f1, 0, ⟨#[]⟩⟩, hq, rfl, rfl⟩ env_ sel_)
                           | (rw [decide_eq_true (by omega)] at hq
                              exact mid_normal ⟨true, ⟨o.f0, o.f1, 0, ⟨#[]⟩⟩, hq, rfl, rfl⟩ env_ sel_))
              · try (exfalso; omega)
                all_goals
                  refine w_skip ?_
                  refine seq_normal ?_
                  refine w_exit ?_
                  refine block_miss rfl ?_
                  refine seq_exit ?_
                  refine block_miss rfl ?_
                  refine seq_exit ?_
                  refine block_hit rfl ?_
                  first
                    | exact mid_normal ⟨plainL (bl o.f3), ⟨o.f0, 0, 0, o.f3⟩, chk0 hI1, rfl, rfl⟩ env_ sel_
                    | (have hq := chkz (o := o) (by omega)
                       exact mid_normal ⟨true, ⟨o.f0, 0, 0, ⟨#[]⟩⟩, hq, rfl, rfl⟩ env_ sel_)
                    | (have hq := chkn (o := o) (by omega)
                       exact mid_normal ⟨false, ⟨o.f0, 0, 0, ⟨#[]⟩⟩, hq, rfl, rfl⟩ env_ sel_)
                    | (have hq := chk1 (o := o) (by omega)
                       first
                         | (rw [decide_eq_false (by omega)] at hq
                            exact mid_normal ⟨false, ⟨o.f0, o.f1, o.f2, ⟨#[]⟩⟩, hq, rfl, rfl⟩ env_ sel_)
                         | (rw [decide_eq_decide.2 (show _ ↔ o.f1 ≤ 1000 by omega)] at hq
                            exact mid_normal ⟨decide (o.f1 ≤ 1000), ⟨o.f0, o.f1, o.f2, ⟨#[]⟩⟩, hq, rfl, rfl⟩ env_ sel_))
                    | (have hq := chk4 (o := o) (by omega)
                       first
                         | (rw [decide_eq_false (by omega)] at hq
                            exact mid_normal ⟨false, ⟨o.f0, o.f1, 0, ⟨#[]⟩⟩, hq, rfl, rfl⟩ env_ sel_)
                         | (rw [decide_eq_true (by omega)] at hq
                            exact mid_normal ⟨true, ⟨o.f0, o.f1, 0, ⟨#[]⟩⟩, hq, rfl, rfl⟩ env_ sel_)
                         | (rw [decide_eq_decide.2 (show _ ↔ o.f1 ≤ 7 by omega)] at hq
                            exact mid_normal ⟨decide (o.f1 ≤ 7), ⟨o.f0, o.f1, 0, ⟨#[]⟩⟩, hq, rfl, rfl⟩ env_ sel_))
                    | (have hq := chk5 (o := o) (by omega)
                       first
                         | (rw [decide_eq_false (by omega)] at hq
                            exact mid_normal ⟨false, ⟨o.f0, o.f1, 0, ⟨#[]⟩⟩, hq, rfl, rfl⟩ env_ sel_)
                         | (rw [decide_eq_true (by omega)] at hq
                            exact mid_normal ⟨true, ⟨o.f0, o.f1, 0, ⟨#[]⟩⟩, hq, rfl, rfl⟩ env_ sel_))
            · refine w_u rfl rfl rfl rfl rfl rfl ?_
              refine w_u rfl rfl rfl rfl rfl rfl ?_
              refine w_u rfl rfl rfl rfl rfl rfl ?_
              refine w_o rfl rfl rfl (op_pick rfl rfl rfl ?_)
              refine w_o rfl rfl rfl (op_assign rfl ?_)
              refine w_end ?_
              refine block_normal ?_
              refine seq_normal ?_
              refine w_seq ?_
              refine w_seq ?_
              refine w_region ?_
              refine w_o rfl rfl rfl (op_fieldAddr fa_31_1 rfl ?_)
              refine w_o rfl rfl rfl (op_loadF agg_3 rfl el_ rfl ?_)
              refine w_o rfl rfl rfl (op_fieldAddr fa_31_1 rfl ?_)
              refine w_on rfl rfl (op_store siz_3 rfl rfl rfl (by (repeat (first | exact Pick.head _ _ _ | apply Pick.tail | apply Pick.app)); first | done | fail) (Nat.le_of_ble_eq_true rfl) rfl ?_)
              refine w_end ?_
              refine seq_normal ?_
              refine w_seq ?_
              refine w_region ?_
              refine w_o rfl rfl rfl (op_fieldAddr fa_31_0 rfl ?_)
              refine w_o rfl rfl rfl (op_loadF agg_3 rfl el_ rfl ?_)
              refine w_o rfl rfl rfl (op_ne rfl rfl ?_)
              refine w_end ?_
              refine seq_normal ?_
              first | refine w_cond rfl (fun hI10 => ?_) (fun hI10 => ?_) | refine w_condB rfl (fun hI10 => ?_) (fun hI10 => ?_)
              · try (exfalso; omega)
                all_goals
                  refine w_region ?_
                  refine w_o rfl rfl rfl (op_fieldAddr fa_31_1 rfl ?_)
                  refine w_o rfl rfl rfl (op_loadF agg_3 rfl el_ rfl ?_)
                  refine w_o rfl rfl rfl (op_ge rfl rfl ?_)
                  refine w_o rfl rfl rfl (op_move rfl ?_)
                  first | refine w_known (t := 59) rfl (fun g59 => ?_) (fun g59 => ?_) | refine w_knownB (t := 59) rfl (fun g59 => ?_) (fun g59 => ?_)
                  · refine w_og rfl rfl rfl rfl rfl (op_fieldAddr fa_31_1 rfl ?_)
                    refine w_og rfl rfl rfl rfl rfl (op_loadF agg_3 rfl el_ rfl ?_)
                    refine w_og rfl rfl rfl rfl rfl (op_le rfl rfl ?_)
                    refine w_og rfl rfl rfl rfl rfl (op_move rfl ?_)
                    first | refine w_known (t := 63) rfl (fun g63 => ?_) (fun g63 => ?_) | refine w_knownB (t := 63) rfl (fun g63 => ?_) (fun g63 => ?_)
                    · refine w_u rfl rfl rfl rfl rfl rfl ?_
                      refine w_u rfl rfl rfl rfl rfl rfl ?_
                      refine w_u rfl rfl rfl rfl rfl rfl ?_
                      refine w_u rfl rfl rfl rfl rfl rfl ?_
                      refine w_u rfl rfl rfl rfl rfl rfl ?_
                      refine w_u rfl rfl rfl rfl rfl rfl ?_
                      refine w_u rfl rfl rfl rfl rfl rfl ?_
                      refine w_u rfl rfl rfl rfl rfl rfl ?_
                      refine w_og rfl rfl rfl rfl rfl (op_pick rfl rfl rfl ?_)
                      refine w_o rfl rfl rfl (op_pick rfl rfl rfl ?_)
                      refine w_o rfl rfl rfl (op_assign rfl ?_)
                      refine w_end ?_
                      refine seq_normal ?_
                      refine w_exit ?_
                      refine block_miss rfl ?_
                      refine seq_exit ?_
                      refine block_miss rfl ?_
                      refine seq_exit ?_
                      refine block_hit rfl ?_
                      first
                        | exact mid_normal ⟨plainL (bl o.f3), ⟨o.f0, 0, 0, o.f3⟩, chk0 hI1, rfl, rfl⟩ env_ sel_
                        | (have hq := chkz (o := o) (by omega)
                           exact mid_normal ⟨true, ⟨o.f0, 0, 0, ⟨#[]⟩⟩, hq, rfl, rfl⟩ env_ sel_)
                        | (have hq := chkn (o := o) (by omega)
                           exact mid_normal ⟨false, ⟨o.f0, 0, 0, ⟨#[]⟩⟩, hq, rfl, rfl⟩ env_ sel_)
                        | (have hq := chk1 (o := o) (by omega)
                           first
                             | (rw [decide_eq_false (by omega)] at hq
                                exact mid_normal ⟨false, ⟨o.f0, o.f1, o.f2, ⟨#[]⟩⟩, hq, rfl, rfl⟩ env_ sel_)
                             | (rw [decide_eq_decide.2 (show _ ↔ o.f1 ≤ 1000 by omega)] at hq
                                exact mid_normal ⟨decide (o.f1 ≤ 1000), ⟨o.f0, o.f1, o.f2, ⟨#[]⟩⟩, hq, rfl, rfl⟩ env_ sel_))
                        | (have hq := chk4 (o := o) (by omega)
                           first
                             | (rw [decide_eq_false (by omega)] at hq
                                exact mid_normal ⟨false, ⟨o.f0, o.f1, 0, ⟨#[]⟩⟩, hq, rfl, rfl⟩ env_ sel_)
                             | (rw [decide_eq_true (by omega)] at hq
                                exact mid_normal ⟨true, ⟨o.f0, o.f1, 0, ⟨#[]⟩⟩, hq, rfl, rfl⟩ env_ sel_)
                             | (rw [decide_eq_decide.2 (show _ ↔ o.f1 ≤ 7 by omega)] at hq
                                exact mid_normal ⟨decide (o.f1 ≤ 7), ⟨o.f0, o.f1, 0, ⟨#[]⟩⟩, hq, rfl, rfl⟩ env_ sel_))
                        | (have hq := chk5 (o := o) (by omega)
                           first
                             | (rw [decide_eq_false (by omega)] at hq
                                exact mid_normal ⟨false, ⟨o.f0, o.f1, 0, ⟨#[]⟩⟩, hq, rfl, rfl⟩ env_ sel_)
                             | (rw [decide_eq_true (by omega)] at hq
                                exact mid_normal ⟨true, ⟨o.f0, o.f1, 0, ⟨#[]⟩⟩, hq, rfl, rfl⟩ env_ sel_))
                    · refine w_og rfl rfl rfl rfl rfl (op_fieldAddr fa_31_0 rfl ?_)
                      refine w_og rfl rfl rfl rfl rfl (op_loadF agg_3 rfl el_ rfl ?_)
                      refine w_og rfl rfl rfl rfl rfl (op_eq rfl rfl ?_)
                      refine w_og rfl rfl rfl rfl rfl (op_move rfl ?_)
                      first | refine w_known (t := 67) rfl (fun g67 => ?_) (fun g67 => ?_) | refine w_knownB (t := 67) rfl (fun g67 => ?_) (fun g67 => ?_)
                      · refine w_og rfl rfl rfl rfl rfl (op_fieldAddr fa_31_1 rfl ?_)
                        refine w_og rfl rfl rfl rfl rfl (op_loadF agg_3 rfl el_ rfl ?_)
                        refine w_og rfl rfl rfl rfl rfl (op_le rfl rfl ?_)
                        refine w_og rfl rfl rfl rfl rfl (op_pick rfl rfl rfl ?_)
                        refine w_og rfl rfl rfl rfl rfl (op_pick rfl rfl rfl ?_)
                        refine w_o rfl rfl rfl (op_pick rfl rfl rfl ?_)
                        refine w_o rfl rfl rfl (op_assign rfl ?_)
                        refine w_end ?_
                        refine seq_normal ?_
                        refine w_exit ?_
                        refine block_miss rfl ?_
                        refine seq_exit ?_
                        refine block_miss rfl ?_
                        refine seq_exit ?_
                        refine block_hit rfl ?_
                        first
                          | exact mid_normal ⟨plainL (bl o.f3), ⟨o.f0, 0, 0, o.f3⟩, chk0 hI1, rfl, rfl⟩ env_ sel_
                          | (have hq := chkz (o := o) (by omega)
                             exact mid_normal ⟨true, ⟨o.f0, 0, 0, ⟨#[]⟩⟩, hq, rfl, rfl⟩ env_ sel_)
                          | (have hq := chkn (o := o) (by omega)
                             exact mid_normal ⟨false, ⟨o.f0, 0, 0, ⟨#[]⟩⟩, hq, rfl, rfl⟩ env_ sel_)
                          | (have hq := chk1 (o := o) (by omega)
                             first
                               | (rw [decide_eq_false (by omega)] at hq
                                  exact mid_normal ⟨false, ⟨o.f0, o.f1, o.f2, ⟨#[]⟩⟩, hq, rfl, rfl⟩ env_ sel_)
                               | (rw [decide_eq_decide.2 (show _ ↔ o.f1 ≤ 1000 by omega)] at hq
                                  exact mid_normal ⟨decide (o.f1 ≤ 1000), ⟨o.f0, o.f1, o.f2, ⟨#[]⟩⟩, hq, rfl, rfl⟩ env_ sel_))
                          | (have hq := chk4 (o := o) (by omega)
                             first
                               | (rw [decide_eq_false (by omega)] at hq
                                  exact mid_normal ⟨false, ⟨o.f0, o.f1, 0, ⟨#[]⟩⟩, hq, rfl, rfl⟩ env_ sel_)
                               | (rw [decide_eq_true (by omega)] at hq
                                  exact mid_normal ⟨true, ⟨o.f0, o.f1, 0, ⟨#[]⟩⟩, hq, rfl, rfl⟩ env_ sel_)
                               | (rw [decide_eq_decide.2 (show _ ↔ o.f1 ≤ 7 by omega)] at hq
                                  exact mid_normal ⟨decide (o.f1 ≤ 7), ⟨o.f0, o.f1, 0, ⟨#[]⟩⟩, hq, rfl, rfl⟩ env_ sel_))
                          | (have hq := chk5 (o := o) (by omega)
                             first
                               | (rw [decide_eq_false (by omega)] at hq
                                  exact mid_normal ⟨false, ⟨o.f0, o.f1, 0, ⟨#[]⟩⟩, hq, rfl, rfl⟩ env_ sel_)
                               | (rw [decide_eq_true (by omega)] at hq
                                  exact mid_normal ⟨true, ⟨o.f0, o.f1, 0, ⟨#[]⟩⟩, hq, rfl, rfl⟩ env_ sel_))
                      · refine w_u rfl rfl rfl rfl rfl rfl ?_
                        refine w_u rfl rfl rfl rfl rfl rfl ?_
                        refine w_u rfl rfl rfl rfl rfl rfl ?_
                        refine w_og rfl rfl rfl rfl rfl (op_pick rfl rfl rfl ?_)
                        refine w_og rfl rfl rfl rfl rfl (op_pick rfl rfl rfl ?_)
                        refine w_o rfl rfl rfl (op_pick rfl rfl rfl ?_)
                        refine w_o rfl rfl rfl (op_assign rfl ?_)
                        refine w_end ?_
                        refine seq_normal ?_
                        refine w_exit ?_
                        refine block_miss rfl ?_
                        refine seq_exit ?_
                        refine block_miss rfl ?_
                        refine seq_exit ?_
                        refine block_hit rfl ?_
                        first
                          | exact mid_normal ⟨plainL (bl o.f3), ⟨o.f0, 0, 0, o.f3⟩, chk0 hI1, rfl, rfl⟩ env_ sel_
                          | (have hq := chkz (o := o) (by omega)
                             exact mid_normal ⟨true, ⟨o.f0, 0, 0, ⟨#[]⟩⟩, hq, rfl, rfl⟩ env_ sel_)
                          | (have hq := chkn (o := o) (by omega)
                             exact mid_normal ⟨false, ⟨o.f0, 0, 0, ⟨#[]⟩⟩, hq, rfl, rfl⟩ env_ sel_)
                          | (have hq := chk1 (o := o) (by omega)
                             first
                               | (rw [decide_eq_false (by omega)] at hq
                                  exact mid_normal ⟨false, ⟨o.f0, o.f1, o.f2, ⟨#[]⟩⟩, hq, rfl, rfl⟩ env_ sel_)
                               | (rw [decide_eq_decide.2 (show _ ↔ o.f1 ≤ 1000 by omega)] at hq
                                  exact mid_normal ⟨decide (o.f1 ≤ 1000), ⟨o.f0, o.f1, o.f2, ⟨#[]⟩⟩, hq, rfl, rfl⟩ env_ sel_))
                          | (have hq := chk4 (o := o) (by omega)
                             first
                               | (rw [decide_eq_false (by omega)] at hq
                                  exact mid_normal ⟨false, ⟨o.f0, o.f1, 0, ⟨#[]⟩⟩, hq, rfl, rfl⟩ env_ sel_)
                               | (rw [decide_eq_true (by omega)] at hq
                                  exact mid_normal ⟨true, ⟨o.f0, o.f1, 0, ⟨#[]⟩⟩, hq, rfl, rfl⟩ env_ sel_)
                               | (rw [decide_eq_decide.2 (show _ ↔ o.f1 ≤ 7 by omega)] at hq
                                  exact mid_normal ⟨decide (o.f1 ≤ 7), ⟨o.f0, o.f1, 0, ⟨#[]⟩⟩, hq, rfl, rfl⟩ env_ sel_))
                          | (have hq := chk5 (o := o) (by omega)
                             first
                               | (rw [decide_eq_false (by omega)] at hq
                                  exact mid_normal ⟨false, ⟨o.f0, o.f1, 0, ⟨#[]⟩⟩, hq, rfl, rfl⟩ env_ sel_)
                               | (rw [decide_eq_true (by omega)] at hq
                                  exact mid_normal ⟨true, ⟨o.f0, o.f1, 0, ⟨#[]⟩⟩, hq, rfl, rfl⟩ env_ sel_))
                  · refine w_u rfl rfl rfl rfl rfl rfl ?_
                    refine w_u rfl rfl rfl rfl rfl rfl ?_
                    refine w_u rfl rfl rfl rfl rfl rfl ?_
                    refine w_u rfl rfl rfl rfl rfl rfl ?_
                    refine w_u rfl rfl rfl rfl rfl rfl ?_
                    refine w_u rfl rfl rfl rfl rfl rfl ?_
                    refine w_u rfl rfl rfl rfl rfl rfl ?_
                    refine w_u rfl rfl rfl rfl rfl rfl ?_
                    refine w_u rfl rfl rfl rfl rfl rfl ?_
                    refine w_u rfl rfl rfl rfl rfl rfl ?_
                    refine w_u rfl rfl rfl rfl rfl rfl ?_
                    refine w_u rfl rfl rfl rfl rfl rfl ?_
                    refine w_u rfl rfl rfl rfl rfl rfl ?_
                    refine w_o rfl rfl rfl (op_pick rfl rfl rfl ?_)
                    refine w_o rfl rfl rfl (op_assign rfl ?_)
                    refine w_end ?_
                    refine seq_normal ?_
                    refine w_exit ?_
                    refine block_miss rfl ?_
                    refine seq_exit ?_
                    refine block_miss rfl ?_
                    refine seq_exit ?_
                    refine block_hit rfl ?_
                    first
                      | exact mid_normal ⟨plainL (bl o.f3), ⟨o.f0, 0, 0, o.f3⟩, chk0 hI1, rfl, rfl⟩ env_ sel_
                      | (have hq := chkz (o := o) (by omega)
                         exact mid_normal ⟨true, ⟨o.f0, 0, 0, ⟨#[]⟩⟩, hq, rfl, rfl⟩ env_ sel_)
                      | (have hq := chkn (o := o) (by omega)
                         exact mid_normal ⟨false, ⟨o.f0, 0, 0, ⟨#[]⟩⟩, hq, rfl, rfl⟩ env_ sel_)
                      | (have hq := chk1 (o := o) (by omega)
                         first
                           | (rw [decide_eq_false (by omega)] at hq
                              exact mid_normal ⟨false, ⟨o.f0, o.f1, o.f2, ⟨#[]⟩⟩, hq, rfl, rfl⟩ env_ sel_)
                           | (rw [decide_eq_decide.2 (show _ ↔ o.f1 ≤ 1000 by omega)] at hq
                              exact mid_normal ⟨decide (o.f1 ≤ 1000), ⟨o.f0, o.f1, o.f2, ⟨#[]⟩⟩, hq, rfl, rfl⟩ env_ sel_))
                      | (have hq := chk4 (o := o) (by omega)
                         first
                           | (rw [decide_eq_false (by omega)] at hq
                              exact mid_normal ⟨false, ⟨o.f0, o.f1, 0, ⟨#[]⟩⟩, hq, rfl, rfl⟩ env_ sel_)
                           | (rw [decide_eq_true (by omega)] at hq
                              exact mid_normal ⟨true, ⟨o.f0, o.f1, 0, ⟨#[]⟩⟩, hq, rfl, rfl⟩ env_ sel_)
                           | (rw [decide_eq_decide.2 (show _ ↔ o.f1 ≤ 7 by omega)] at hq
                              exact mid_normal ⟨decide (o.f1 ≤ 7), ⟨o.f0, o.f1, 0, ⟨#[]⟩⟩, hq, rfl, rfl⟩ env_ sel_))
                      | (have hq := chk5 (o := o) (by omega)
                         first
                           | (rw [decide_eq_false (by omega)] at hq
                              exact mid_normal ⟨false, ⟨o.f0, o.f1, 0, ⟨#[]⟩⟩, hq, rfl, rfl⟩ env_ sel_)
                           | (rw [decide_eq_true (by omega)] at hq
                              exact mid_normal ⟨true, ⟨o.f0, o.f1, 0, ⟨#[]⟩⟩, hq, rfl, rfl⟩ env_ sel_))
              · try (exfalso; omega)
                all_goals
                  refine w_skip ?_
                  refine seq_normal ?_
                  refine w_exit ?_
                  refine block_miss rfl ?_
                  refine seq_exit ?_
                  refine block_miss rfl ?_
                  refine seq_exit ?_
                  refine block_hit rfl ?_
                  first
                    | exact mid_normal ⟨plainL (bl o.f3), ⟨o.f0, 0, 0, o.f3⟩, chk0 hI1, rfl, rfl⟩ env_ sel_
                    | (have hq := chkz (o := o) (by omega)
                       exact mid_normal ⟨true, ⟨o.f0, 0, 0, ⟨#[]⟩⟩, hq, rfl, rfl⟩ env_ sel_)
                    | (have hq := chkn (o := o) (by omega)
                       exact mid_normal ⟨false, ⟨o.f0, 0, 0, ⟨#[]⟩⟩, hq, rfl, rfl⟩ env_ sel_)
                    | (have hq := chk1 (o := o) (by omega)
                       first
                         | (rw [decide_eq_false (by omega)] at hq
                            exact mid_normal ⟨false, ⟨o.f0, o.f1, o.f2, ⟨#[]⟩⟩, hq, rfl, rfl⟩ env_ sel_)
                         | (rw [decide_eq_decide.2 (show _ ↔ o.f1 ≤ 1000 by omega)] at hq
                            exact mid_normal ⟨decide (o.f1 ≤ 1000), ⟨o.f0, o.f1, o.f2, ⟨#[]⟩⟩, hq, rfl, rfl⟩ env_ sel_))
                    | (have hq := chk4 (o := o) (by omega)
                       first
                         | (rw [decide_eq_false (by omega)] at hq
                            exact mid_normal ⟨false, ⟨o.f0, o.f1, 0, ⟨#[]⟩⟩, hq, rfl, rfl⟩ env_ sel_)
                         | (rw [decide_eq_true (by omega)] at hq
                            exact mid_normal ⟨true, ⟨o.f0, o.f1, 0, ⟨#[]⟩⟩, hq, rfl, rfl⟩ env_ sel_)
                         | (rw [decide_eq_decide.2 (show _ ↔ o.f1 ≤ 7 by omega)] at hq
                            exact mid_normal ⟨decide (o.f1 ≤ 7), ⟨o.f0, o.f1, 0, ⟨#[]⟩⟩, hq, rfl, rfl⟩ env_ sel_))
                    | (have hq := chk5 (o := o) (by omega)
                       first
                         | (rw [decide_eq_false (by omega)] at hq
                            exact mid_normal ⟨false, ⟨o.f0, o.f1, 0, ⟨#[]⟩⟩, hq, rfl, rfl⟩ env_ sel_)
                         | (rw [decide_eq_true (by omega)] at hq
                            exact mid_normal ⟨true, ⟨o.f0, o.f1, 0, ⟨#[]⟩⟩, hq, rfl, rfl⟩ env_ sel_))
          · refine w_u rfl rfl rfl rfl rfl rfl ?_
            refine w_u rfl rfl rfl rfl rfl rfl ?_
            refine w_u rfl rfl rfl rfl rfl rfl ?_
            refine w_o rfl rfl rfl (op_pick rfl rfl rfl ?_)
            refine w_o rfl rfl rfl (op_move rfl ?_)
            refine w_u rfl rfl rfl rfl rfl rfl ?_
            refine w_u rfl rfl rfl rfl rfl rfl ?_
            refine w_u rfl rfl rfl rfl rfl rfl ?_
            refine w_o rfl rfl rfl (op_pick rfl rfl rfl ?_)
            refine w_o rfl rfl rfl (op_assign rfl ?_)
            refine w_end ?_
            refine block_normal ?_
            refine seq_normal ?_
            refine w_seq ?_
            refine w_seq ?_
            refine w_region ?_
            refine w_o rfl rfl rfl (op_fieldAddr fa_31_1 rfl ?_)
            refine w_o rfl rfl rfl (op_loadF agg_3 rfl el_ rfl ?_)
            refine w_o rfl rfl rfl (op_fieldAddr fa_31_1 rfl ?_)
            refine w_on rfl rfl (op_store siz_3 rfl rfl rfl (by (repeat (first | exact Pick.head _ _ _ | apply Pick.tail | apply Pick.app)); first | done | fail) (Nat.le_of_ble_eq_true rfl) rfl ?_)
            refine w_end ?_
            refine seq_normal ?_
            refine w_seq ?_
            refine w_region ?_
            refine w_o rfl rfl rfl (op_fieldAddr fa_31_0 rfl ?_)
            refine w_o rfl rfl rfl (op_loadF agg_3 rfl el_ rfl ?_)
            refine w_o rfl rfl rfl (op_ne rfl rfl ?_)
            refine w_end ?_
            refine seq_normal ?_
            first | refine w_cond rfl (fun hI10 => ?_) (fun hI10 => ?_) | refine w_condB rfl (fun hI10 => ?_) (fun hI10 => ?_)
            · try (exfalso; omega)
              all_goals
                refine w_region ?_
                refine w_o rfl rfl rfl (op_fieldAddr fa_31_1 rfl ?_)
                refine w_o rfl rfl rfl (op_loadF agg_3 rfl el_ rfl ?_)
                refine w_o rfl rfl rfl (op_ge rfl rfl ?_)
                refine w_o rfl rfl rfl (op_move rfl ?_)
                first | refine w_known (t := 59) rfl (fun g59 => ?_) (fun g59 => ?_) | refine w_knownB (t := 59) rfl (fun g59 => ?_) (fun g59 => ?_)
                · refine w_og rfl rfl rfl rfl rfl (op_fieldAddr fa_31_1 rfl ?_)
                  refine w_og rfl rfl rfl rfl rfl (op_loadF agg_3 rfl el_ rfl ?_)
                  refine w_og rfl rfl rfl rfl rfl (op_le rfl rfl ?_)
                  refine w_og rfl rfl rfl rfl rfl (op_move rfl ?_)
                  first | refine w_known (t := 63) rfl (fun g63 => ?_) (fun g63 => ?_) | refine w_knownB (t := 63) rfl (fun g63 => ?_) (fun g63 => ?_)
                  · refine w_u rfl rfl rfl rfl rfl rfl ?_
                    refine w_u rfl rfl rfl rfl rfl rfl ?_
                    refine w_u rfl rfl rfl rfl rfl rfl ?_
                    refine w_u rfl rfl rfl rfl rfl rfl ?_
                    refine w_u rfl rfl rfl rfl rfl rfl ?_
                    refine w_u rfl rfl rfl rfl rfl rfl ?_
                    refine w_u rfl rfl rfl rfl rfl rfl ?_
                    refine w_u rfl rfl rfl rfl rfl rfl ?_
                    refine w_og rfl rfl rfl rfl rfl (op_pick rfl rfl rfl ?_)
                    refine w_o rfl rfl rfl (op_pick rfl rfl rfl ?_)
                    refine w_o rfl rfl rfl (op_assign rfl ?_)
                    refine w_end ?_
                    refine seq_normal ?_
                    refine w_exit ?_
                    refine block_miss rfl ?_
                    refine seq_exit ?_
                    refine block_miss rfl ?_
                    refine seq_exit ?_
                    refine block_hit rfl ?_
                    first
                      | exact mid_normal ⟨plainL (bl o.f3), ⟨o.f0, 0, 0, o.f3⟩, chk0 hI1, rfl, rfl⟩ env_ sel_
                      | (have hq := chkz (o := o) (by omega)
                         exact mid_normal ⟨true, ⟨o.f0, 0, 0, ⟨#[]⟩⟩, hq, rfl, rfl⟩ env_ sel_)
                      | (have hq := chkn (o := o) (by omega)
                         exact mid_normal ⟨false, ⟨o.f0, 0, 0, ⟨#[]⟩⟩, hq, rfl, rfl⟩ env_ sel_)
                      | (have hq := chk1 (o := o) (by omega)
                         first
                           | (rw [decide_eq_false (by omega)] at hq
                              exact mid_normal ⟨false, ⟨o.f0, o.f1, o.f2, ⟨#[]⟩⟩, hq, rfl, rfl⟩ env_ sel_)
                           | (rw [decide_eq_decide.2 (show _ ↔ o.f1 ≤ 1000 by omega)] at hq
                              exact mid_normal ⟨decide (o.f1 ≤ 1000), ⟨o.f0, o.f1, o.f2, ⟨#[]⟩⟩, hq, rfl, rfl⟩ env_ sel_))
                      | (have hq := chk4 (o := o) (by omega)
                         first
                           | (rw [decide_eq_false (by omega)] at hq
                              exact mid_normal ⟨false, ⟨o.f0, o.f1, 0, ⟨#[]⟩⟩, hq, rfl, rfl⟩ env_ sel_)
                           | (rw [decide_eq_true (by omega)] at hq
                              exact mid_normal ⟨true, ⟨o.f0, o.f1, 0, ⟨#[]⟩⟩, hq, rfl, rfl⟩ env_ sel_)
                           | (rw [decide_eq_decide.2 (show _ ↔ o.f1 ≤ 7 by omega)] at hq
                              exact mid_normal ⟨decide (o.f1 ≤ 7), ⟨o.f0, o.f1, 0, ⟨#[]⟩⟩, hq, rfl, rfl⟩ env_ sel_))
                      | (have hq := chk5 (o := o) (by omega)
                         first
                           | (rw [decide_eq_false (by omega)] at hq
                              exact mid_normal ⟨false, ⟨o.f0, o.f1, 0, ⟨#[]⟩⟩, hq, rfl, rfl⟩ env_ sel_)
                           | (rw [decide_eq_true (by omega)] at hq
                              exact mid_normal ⟨true, ⟨o.f0, o.f1, 0, ⟨#[]⟩⟩, hq, rfl, rfl⟩ env_ sel_))
                  · refine w_og rfl rfl rfl rfl rfl (op_fieldAddr fa_31_0 rfl ?_)
                    refine w_og rfl rfl rfl rfl rfl (op_loadF agg_3 rfl el_ rfl ?_)
                    refine w_og rfl rfl rfl rfl rfl (op_eq rfl rfl ?_)
                    refine w_og rfl rfl rfl rfl rfl (op_move rfl ?_)
                    first | refine w_known (t := 67) rfl (fun g67 => ?_) (fun g67 => ?_) | refine w_knownB (t := 67) rfl (fun g67 => ?_) (fun g67 => ?_)
                    · refine w_og rfl rfl rfl rfl rfl (op_fieldAddr fa_31_1 rfl ?_)
                      refine w_og rfl rfl rfl rfl rfl (op_loadF agg_3 rfl el_ rfl ?_)
                      refine w_og rfl rfl rfl rfl rfl (op_le rfl rfl ?_)
                      refine w_og rfl rfl rfl rfl rfl (op_pick rfl rfl rfl ?_)
                      refine w_og rfl rfl rfl rfl rfl (op_pick rfl rfl rfl ?_)
                      refine w_o rfl rfl rfl (op_pick rfl rfl rfl ?_)
                      refine w_o rfl rfl rfl (op_assign rfl ?_)
                      refine w_end ?_
                      refine seq_normal ?_
                      refine w_exit ?_
                      refine block_miss rfl ?_
                      refine seq_exit ?_
                      refine block_miss rfl ?_
                      refine seq_exit ?_
                      refine block_hit rfl ?_
                      first
                        | exact mid_normal ⟨plainL (bl o.f3), ⟨o.f0, 0, 0, o.f3⟩, chk0 hI1, rfl, rfl⟩ env_ sel_
                        | (have hq := chkz (o := o) (by omega)
                           exact mid_normal ⟨true, ⟨o.f0, 0, 0, ⟨#[]⟩⟩, hq, rfl, rfl⟩ env_ sel_)
                        | (have hq := chkn (o := o) (by omega)
                           exact mid_normal ⟨false, ⟨o.f0, 0, 0, ⟨#[]⟩⟩, hq, rfl, rfl⟩ env_ sel_)
                        | (have hq := chk1 (o := o) (by omega)
                           first
                             | (rw [decide_eq_false (by omega)] at hq
                                exact mid_normal ⟨false, ⟨o.f0, o.f1, o.f2, ⟨#[]⟩⟩, hq, rfl, rfl⟩ env_ sel_)
                             | (rw [decide_eq_decide.2 (show _ ↔ o.f1 ≤ 1000 by omega)] at hq
                                exact mid_normal ⟨decide (o.f1 ≤ 1000), ⟨o.f0, o.f1, o.f2, ⟨#[]⟩⟩, hq, rfl, rfl⟩ env_ sel_))
                        | (have hq := chk4 (o := o) (by omega)
                           first
                             | (rw [decide_eq_false (by omega)] at hq
                                exact mid_normal ⟨false, ⟨o.f0, o.f1, 0, ⟨#[]⟩⟩, hq, rfl, rfl⟩ env_ sel_)
                             | (rw [decide_eq_true (by omega)] at hq
                                exact mid_normal ⟨true, ⟨o.f0, o.f1, 0, ⟨#[]⟩⟩, hq, rfl, rfl⟩ env_ sel_)
                             | (rw [decide_eq_decide.2 (show _ ↔ o.f1 ≤ 7 by omega)] at hq
                                exact mid_normal ⟨decide (o.f1 ≤ 7), ⟨o.f0, o.f1, 0, ⟨#[]⟩⟩, hq, rfl, rfl⟩ env_ sel_))
                        | (have hq := chk5 (o := o) (by omega)
                           first
                             | (rw [decide_eq_false (by omega)] at hq
                                exact mid_normal ⟨false, ⟨o.f0, o.f1, 0, ⟨#[]⟩⟩, hq, rfl, rfl⟩ env_ sel_)
                             | (rw [decide_eq_true (by omega)] at hq
                                exact mid_normal ⟨true, ⟨o.f0, o.f1, 0, ⟨#[]⟩⟩, hq, rfl, rfl⟩ env_ sel_))
                    · refine w_u rfl rfl rfl rfl rfl rfl ?_
                      refine w_u rfl rfl rfl rfl rfl rfl ?_
                      refine w_u rfl rfl rfl rfl rfl rfl ?_
                      refine w_og rfl rfl rfl rfl rfl (op_pick rfl rfl rfl ?_)
                      refine w_og rfl rfl rfl rfl rfl (op_pick rfl rfl rfl ?_)
                      refine w_o rfl rfl rfl (op_pick rfl rfl rfl ?_)
                      refine w_o rfl rfl rfl (op_assign rfl ?_)
                      refine w_end ?_
                      refine seq_normal ?_
                      refine w_exit ?_
                      refine block_miss rfl ?_
                      refine seq_exit ?_
                      refine block_miss rfl ?_
                      refine seq_exit ?_
                      refine block_hit rfl ?_
                      first
                        | exact mid_normal ⟨plainL (bl o.f3), ⟨o.f0, 0, 0, o.f3⟩, chk0 hI1, rfl, rfl⟩ env_ sel_
                        | (have hq := chkz (o := o) (by omega)
                           exact mid_normal ⟨true, ⟨o.f0, 0, 0, ⟨#[]⟩⟩, hq, rfl, rfl⟩ env_ sel_)
                        | (have hq := chkn (o := o) (by omega)
                           exact mid_normal ⟨false, ⟨o.f0, 0, 0, ⟨#[]⟩⟩, hq, rfl, rfl⟩ env_ sel_)
                        | (have hq := chk1 (o := o) (by omega)
                           first
                             | (rw [decide_eq_false (by omega)] at hq
                                exact mid_normal ⟨false, ⟨o.f0, o.f1, o.f2, ⟨#[]⟩⟩, hq, rfl, rfl⟩ env_ sel_)
                             | (rw [decide_eq_decide.2 (show _ ↔ o.f1 ≤ 1000 by omega)] at hq
                                exact mid_normal ⟨decide (o.f1 ≤ 1000), ⟨o.f0, o.f1, o.f2, ⟨#[]⟩⟩, hq, rfl, rfl⟩ env_ sel_))
                        | (have hq := chk4 (o := o) (by omega)
                           first
                             | (rw [decide_eq_false (by omega)] at hq
                                exact mid_normal ⟨false, ⟨o.f0, o.f1, 0, ⟨#[]⟩⟩, hq, rfl, rfl⟩ env_ sel_)
                             | (rw [decide_eq_true (by omega)] at hq
                                exact mid_normal ⟨true, ⟨o.f0, o.f1, 0, ⟨#[]⟩⟩, hq, rfl, rfl⟩ env_ sel_)
                             | (rw [decide_eq_decide.2 (show _ ↔ o.f1 ≤ 7 by omega)] at hq
                                exact mid_normal ⟨decide (o.f1 ≤ 7), ⟨o.f0, o.f1, 0, ⟨#[]⟩⟩, hq, rfl, rfl⟩ env_ sel_))
                        | (have hq := chk5 (o := o) (by omega)
                           first
                             | (rw [decide_eq_false (by omega)] at hq
                                exact mid_normal ⟨false, ⟨o.f0, o.f1, 0, ⟨#[]⟩⟩, hq, rfl, rfl⟩ env_ sel_)
                             | (rw [decide_eq_true (by omega)] at hq
                                exact mid_normal ⟨true, ⟨o.f0, o.f1, 0, ⟨#[]⟩⟩, hq, rfl, rfl⟩ env_ sel_))
                · refine w_u rfl rfl rfl rfl rfl rfl ?_
                  refine w_u rfl rfl rfl rfl rfl rfl ?_
                  refine w_u rfl rfl rfl rfl rfl rfl ?_
                  refine w_u rfl rfl rfl rfl rfl rfl ?_
                  refine w_u rfl rfl rfl rfl rfl rfl ?_
                  refine w_u rfl rfl rfl rfl rfl rfl ?_
                  refine w_u rfl rfl rfl rfl rfl rfl ?_
                  refine w_u rfl rfl rfl rfl rfl rfl ?_
                  refine w_u rfl rfl rfl rfl rfl rfl ?_
                  refine w_u rfl rfl rfl rfl rfl rfl ?_
                  refine w_u rfl rfl rfl rfl rfl rfl ?_
                  refine w_u rfl rfl rfl rfl rfl rfl ?_
                  refine w_u rfl rfl rfl rfl rfl rfl ?_
                  refine w_o rfl rfl rfl (op_pick rfl rfl rfl ?_)
                  refine w_o rfl rfl rfl (op_assign rfl ?_)
                  refine w_end ?_
                  refine seq_normal ?_
                  refine w_exit ?_
                  refine block_miss rfl ?_
                  refine seq_exit ?_
                  refine block_miss rfl ?_
                  refine seq_exit ?_
                  refine block_hit rfl ?_
                  first
                    | exact mid_normal ⟨plainL (bl o.f3), ⟨o.f0, 0, 0, o.f3⟩, chk0 hI1, rfl, rfl⟩ env_ sel_
                    | (have hq := chkz (o := o) (by omega)
                       exact mid_normal ⟨true, ⟨o.f0, 0, 0, ⟨#[]⟩⟩, hq, rfl, rfl⟩ env_ sel_)
                    | (have hq := chkn (o := o) (by omega)
                       exact mid_normal ⟨false, ⟨o.f0, 0, 0, ⟨#[]⟩⟩, hq, rfl, rfl⟩ env_ sel_)
                    | (have hq := chk1 (o := o) (by omega)
                       first
                         | (rw [decide_eq_false (by omega)] at hq
                            exact mid_normal ⟨false, ⟨o.f0, o.f1, o.f2, ⟨#[]⟩⟩, hq, rfl, rfl⟩ env_ sel_)
                         | (rw [decide_eq_decide.2 (show _ ↔ o.f1 ≤ 1000 by omega)] at hq
                            exact mid_normal ⟨decide (o.f1 ≤ 1000), ⟨o.f0, o.f1, o.f2, ⟨#[]⟩⟩, hq, rfl, rfl⟩ env_ sel_))
                    | (have hq := chk4 (o := o) (by omega)
                       first
                         | (rw [decide_eq_false (by omega)] at hq
                            exact mid_normal ⟨false, ⟨o.f0, o.f1, 0, ⟨#[]⟩⟩, hq, rfl, rfl⟩ env_ sel_)
                         | (rw [decide_eq_true (by omega)] at hq
                            exact mid_normal ⟨true, ⟨o.f0, o.f1, 0, ⟨#[]⟩⟩, hq, rfl, rfl⟩ env_ sel_)
                         | (rw [decide_eq_decide.2 (show _ ↔ o.f1 ≤ 7 by omega)] at hq
                            exact mid_normal ⟨decide (o.f1 ≤ 7), ⟨o.f0, o.f1, 0, ⟨#[]⟩⟩, hq, rfl, rfl⟩ env_ sel_))
                    | (have hq := chk5 (o := o) (by omega)
                       first
                         | (rw [decide_eq_false (by omega)] at hq
                            exact mid_normal ⟨false, ⟨o.f0, o.f1, 0, ⟨#[]⟩⟩, hq, rfl, rfl⟩ env_ sel_)
                         | (rw [decide_eq_true (by omega)] at hq
                            exact mid_normal ⟨true, ⟨o.f0, o.f1, 0, ⟨#[]⟩⟩, hq, rfl, rfl⟩ env_ sel_))
            · try (exfalso; omega)
              all_goals
                refine w_skip ?_
                refine seq_normal ?_
                refine w_exit ?_
                refine block_miss rfl ?_
                refine seq_exit ?_
                refine block_miss rfl ?_
                refine seq_exit ?_
                refine block_hit rfl ?_
                first
                  | exact mid_normal ⟨plainL (bl o.f3), ⟨o.f0, 0, 0, o.f3⟩, chk0 hI1, rfl, rfl⟩ env_ sel_
                  | (have hq := chkz (o := o) (by omega)
                     exact mid_normal ⟨true, ⟨o.f0, 0, 0, ⟨#[]⟩⟩, hq, rfl, rfl⟩ env_ sel_)
                  | (have hq := chkn (o := o) (by omega)
                     exact mid_normal ⟨false, ⟨o.f0, 0, 0, ⟨#[]⟩⟩, hq, rfl, rfl⟩ env_ sel_)
                  | (have hq := chk1 (o := o) (by omega)
                     first
                       | (rw [decide_eq_false (by omega)] at hq
                          exact mid_normal ⟨false, ⟨o.f0, o.f1, o.f2, ⟨#[]⟩⟩, hq, rfl, rfl⟩ env_ sel_)
                       | (rw [decide_eq_decide.2 (show _ ↔ o.f1 ≤ 1000 by omega)] at hq
                          exact mid_normal ⟨decide (o.f1 ≤ 1000), ⟨o.f0, o.f1, o.f2, ⟨#[]⟩⟩, hq, rfl, rfl⟩ env_ sel_))
                  | (have hq := chk4 (o := o) (by omega)
                     first
                       | (rw [decide_eq_false (by omega)] at hq
                          exact mid_normal ⟨false, ⟨o.f0, o.f1, 0, ⟨#[]⟩⟩, hq, rfl, rfl⟩ env_ sel_)
                       | (rw [decide_eq_true (by omega)] at hq
                          exact mid_normal ⟨true, ⟨o.f0, o.f1, 0, ⟨#[]⟩⟩, hq, rfl, rfl⟩ env_ sel_)
                       | (rw [decide_eq_decide.2 (show _ ↔ o.f1 ≤ 7 by omega)] at hq
                          exact mid_normal ⟨decide (o.f1 ≤ 7), ⟨o.f0, o.f1, 0, ⟨#[]⟩⟩, hq, rfl, rfl⟩ env_ sel_))
                  | (have hq := chk5 (o := o) (by omega)
                     first
                       | (rw [decide_eq_false (by omega)] at hq
                          exact mid_normal ⟨false, ⟨o.f0, o.f1, 0, ⟨#[]⟩⟩, hq, rfl, rfl⟩ env_ sel_)
                       | (rw [decide_eq_true (by omega)] at hq
                          exact mid_normal ⟨true, ⟨o.f0, o.f1, 0, ⟨#[]⟩⟩, hq, rfl, rfl⟩ env_ sel_))
        · refine w_u rfl rfl rfl rfl rfl rfl ?_
          refine w_u rfl rfl rfl rfl rfl rfl ?_
          refine w_u rfl rfl rfl rfl rfl rfl ?_
          refine w_o rfl rfl rfl (op_pick rfl rfl rfl ?_)
          refine w_o rfl rfl rfl (op_move rfl ?_)
          refine w_u rfl rfl rfl rfl rfl rfl ?_
          refine w_u rfl rfl rfl rfl rfl rfl ?_
          refine w_u rfl rfl rfl rfl rfl rfl ?_
          refine w_o rfl rfl rfl (op_pick rfl rfl rfl ?_)
          refine w_o rfl rfl rfl (op_move rfl ?_)
          refine w_u rfl rfl rfl rfl rfl rfl ?_
          refine w_u rfl rfl rfl rfl rfl rfl ?_
          refine w_u rfl rfl rfl rfl rfl rfl ?_
          refine w_o rfl rfl rfl (op_pick rfl rfl rfl ?_)
          refine w_o rfl rfl rfl (op_assign rfl ?_)
          refine w_end ?_
          refine block_normal ?_
          refine seq_normal ?_
          refine w_seq ?_
          refine w_seq ?_
          refine w_region ?_
          refine w_o rfl rfl rfl (op_fieldAddr fa_31_1 rfl ?_)
          refine w_o rfl rfl rfl (op_loadF agg_3 rfl el_ rfl ?_)
          refine w_o rfl rfl rfl (op_fieldAddr fa_31_1 rfl ?_)
          refine w_on rfl rfl (op_store siz_3 rfl rfl rfl (by (repeat (first | exact Pick.head _ _ _ | apply Pick.tail | apply Pick.app)); first | done | fail) (Nat.le_of_ble_eq_true rfl) rfl ?_)
          refine w_end ?_
          refine seq_normal ?_
          refine w_seq ?_
          refine w_region ?_
          refine w_o rfl rfl rfl (op_fieldAddr fa_31_0 rfl ?_)
          refine w_o rfl rfl rfl (op_loadF agg_3 rfl el_ rfl ?_)
          refine w_o rfl rfl rfl (op_ne rfl rfl ?_)
          refine w_end ?_
          refine seq_normal ?_
          first | refine w_cond rfl (fun hI10 => ?_) (fun hI10 => ?_) | refine w_condB rfl (fun hI10 => ?_) (fun hI10 => ?_)
          · try (exfalso; omega)
            all_goals
              refine w_region ?_
              refine w_o rfl rfl rfl (op_fieldAddr fa_31_1 rfl ?_)
              refine w_o rfl rfl rfl (op_loadF agg_3 rfl el_ rfl ?_)
              refine w_o rfl rfl rfl (op_ge rfl rfl ?_)
              refine w_o rfl rfl rfl (op_move rfl ?_)
              first | refine w_known (t := 59) rfl (fun g59 => ?_) (fun g59 => ?_) | refine w_knownB (t := 59) rfl (fun g59 => ?_) (fun g59 => ?_)
              · refine w_og rfl rfl rfl rfl rfl (op_fieldAddr fa_31_1 rfl ?_)
                refine w_og rfl rfl rfl rfl rfl (op_loadF agg_3 rfl el_ rfl ?_)
                refine w_og rfl rfl rfl rfl rfl (op_le rfl rfl ?_)
                refine w_og rfl rfl rfl rfl rfl (op_move rfl ?_)
                first | refine w_known (t := 63) rfl (fun g63 => ?_) (fun g63 => ?_) | refine w_knownB (t := 63) rfl (fun g63 => ?_) (fun g63 => ?_)
                · refine w_u rfl rfl rfl rfl rfl rfl ?_
                  refine w_u rfl rfl rfl rfl rfl rfl ?_
                  refine w_u rfl rfl rfl rfl rfl rfl ?_
                  refine w_u rfl rfl rfl rfl rfl rfl ?_
                  refine w_u rfl rfl rfl rfl rfl rfl ?_
                  refine w_u rfl rfl rfl rfl rfl rfl ?_
                  refine w_u rfl rfl rfl rfl rfl rfl ?_
                  refine w_u rfl rfl rfl rfl rfl rfl ?_
                  refine w_og rfl rfl rfl rfl rfl (op_pick rfl rfl rfl ?_)
                  refine w_o rfl rfl rfl (op_pick rfl rfl rfl ?_)
                  refine w_o rfl rfl rfl (op_assign rfl ?_)
                  refine w_end ?_
                  refine seq_normal ?_
                  refine w_exit ?_
                  refine block_miss rfl ?_
                  refine seq_exit ?_
                  refine block_miss rfl ?_
                  refine seq_exit ?_
                  refine block_hit rfl ?_
                  first
                    | exact mid_normal ⟨plainL (bl o.f3), ⟨o.f0, 0, 0, o.f3⟩, chk0 hI1, rfl, rfl⟩ env_ sel_
                    | (have hq := chkz (o := o) (by omega)
                       exact mid_normal ⟨true, ⟨o.f0, 0, 0, ⟨#[]⟩⟩, hq, rfl, rfl⟩ env_ sel_)
                    | (have hq := chkn (o := o) (by omega)
                       exact mid_normal ⟨false, ⟨o.f0, 0, 0, ⟨#[]⟩⟩, hq, rfl, rfl⟩ env_ sel_)
                    | (have hq := chk1 (o := o) (by omega)
                       first
                         | (rw [decide_eq_false (by omega)] at hq
                            exact mid_normal ⟨false, ⟨o.f0, o.f1, o.f2, ⟨#[]⟩⟩, hq, rfl, rfl⟩ env_ sel_)
                         | (rw [decide_eq_decide.2 (show _ ↔ o.f1 ≤ 1000 by omega)] at hq
                            exact mid_normal ⟨decide (o.f1 ≤ 1000), ⟨o.f0, o.f1, o.f2, ⟨#[]⟩⟩, hq, rfl, rfl⟩ env_ sel_))
                    | (have hq := chk4 (o := o) (by omega)
                       first
                         | (rw [decide_eq_false (by omega)] at hq
                            exact mid_normal ⟨false, ⟨o.f0, o.f1, 0, ⟨#[]⟩⟩, hq, rfl, rfl⟩ env_ sel_)
                         | (rw [decide_eq_true (by omega)] at hq
                            exact mid_normal ⟨true, ⟨o.f0, o.f1, 0, ⟨#[]⟩⟩, hq, rfl, rfl⟩ env_ sel_)
                         | (rw [decide_eq_decide.2 (show _ ↔ o.f1 ≤ 7 by omega)] at hq
                            exact mid_normal ⟨decide (o.f1 ≤ 7), ⟨o.f0, o.f1, 0, ⟨#[]⟩⟩, hq, rfl, rfl⟩ env_ sel_))
                    | (have hq := chk5 (o := o) (by omega)
                       first
                         | (rw [decide_eq_false (by omega)] at hq
                            exact mid_normal ⟨false, ⟨o.f0, o.f1, 0, ⟨#[]⟩⟩, hq, rfl, rfl⟩ env_ sel_)
                         | (rw [decide_eq_true (by omega)] at hq
                            exact mid_normal ⟨true, ⟨o.f0, o.f1, 0, ⟨#[]⟩⟩, hq, rfl, rfl⟩ env_ sel_))
                · refine w_og rfl rfl rfl rfl rfl (op_fieldAddr fa_31_0 rfl ?_)
                  refine w_og rfl rfl rfl rfl rfl (op_loadF agg_3 rfl el_ rfl ?_)
                  refine w_og rfl rfl rfl rfl rfl (op_eq rfl rfl ?_)
                  refine w_og rfl rfl rfl rfl rfl (op_move rfl ?_)
                  first | refine w_known (t := 67) rfl (fun g67 => ?_) (fun g67 => ?_) | refine w_knownB (t := 67) rfl (fun g67 => ?_) (fun g67 => ?_)
                  · refine w_og rfl rfl rfl rfl rfl (op_fieldAddr fa_31_1 rfl ?_)
                    refine w_og rfl rfl rfl rfl rfl (op_loadF agg_3 rfl el_ rfl ?_)
                    refine w_og rfl rfl rfl rfl rfl (op_le rfl rfl ?_)
                    refine w_og rfl rfl rfl rfl rfl (op_pick rfl rfl rfl ?_)
                    refine w_og rfl rfl rfl rfl rfl (op_pick rfl rfl rfl ?_)
                    refine w_o rfl rfl rfl (op_pick rfl rfl rfl ?_)
                    refine w_o rfl rfl rfl (op_assign rfl ?_)
                    refine w_end ?_
                    refine seq_normal ?_
                    refine w_exit ?_
                    refine block_miss rfl ?_
                    refine seq_exit ?_
                    refine block_miss rfl ?_
                    refine seq_exit ?_
                    refine block_hit rfl ?_
                    first
                      | exact mid_normal ⟨plainL (bl o.f3), ⟨o.f0, 0, 0, o.f3⟩, chk0 hI1, rfl, rfl⟩ env_ sel_
                      | (have hq := chkz (o := o) (by omega)
                         exact mid_normal ⟨true, ⟨o.f0, 0, 0, ⟨#[]⟩⟩, hq, rfl, rfl⟩ env_ sel_)
                      | (have hq := chkn (o := o) (by omega)
                         exact mid_normal ⟨false, ⟨o.f0, 0, 0, ⟨#[]⟩⟩, hq, rfl, rfl⟩ env_ sel_)
                      | (have hq := chk1 (o := o) (by omega)
                         first
                           | (rw [decide_eq_false (by omega)] at hq
                              exact mid_normal ⟨false, ⟨o.f0, o.f1, o.f2, ⟨#[]⟩⟩, hq, rfl, rfl⟩ env_ sel_)
                           | (rw [decide_eq_decide.2 (show _ ↔ o.f1 ≤ 1000 by omega)] at hq
                              exact mid_normal ⟨decide (o.f1 ≤ 1000), ⟨o.f0, o.f1, o.f2, ⟨#[]⟩⟩, hq, rfl, rfl⟩ env_ sel_))
                      | (have hq := chk4 (o := o) (by omega)
                         first
                           | (rw [decide_eq_false (by omega)] at hq
                              exact mid_normal ⟨false, ⟨o.f0, o.f1, 0, ⟨#[]⟩⟩, hq, rfl, rfl⟩ env_ sel_)
                           | (rw [decide_eq_true (by omega)] at hq
                              exact mid_normal ⟨true, ⟨o.f0, o.f1, 0, ⟨#[]⟩⟩, hq, rfl, rfl⟩ env_ sel_)
                           | (rw [decide_eq_decide.2 (show _ ↔ o.f1 ≤ 7 by omega)] at hq
                              exact mid_normal ⟨decide (o.f1 ≤ 7), ⟨o.f0, o.f1, 0, ⟨#[]⟩⟩, hq, rfl, rfl⟩ env_ sel_))
                      | (have hq := chk5 (o := o) (by omega)
                         first
                           | (rw [decide_eq_false (by omega)] at hq
                              exact mid_normal ⟨false, ⟨o.f0, o.f1, 0, ⟨#[]⟩⟩, hq, rfl, rfl⟩ env_ sel_)
                           | (rw [decide_eq_true (by omega)] at hq
                              exact mid_normal ⟨true, ⟨o.f0, o.f1, 0, ⟨#[]⟩⟩, hq, rfl, rfl⟩ env_ sel_))
                  · refine w_u rfl rfl rfl rfl rfl rfl ?_
                    refine w_u rfl rfl rfl rfl rfl rfl ?_
                    refine w_u rfl rfl rfl rfl rfl rfl ?_
                    refine w_og rfl rfl rfl rfl rfl (op_pick rfl rfl rfl ?_)
                    refine w_og rfl rfl rfl rfl rfl (op_pick rfl rfl rfl ?_)
                    refine w_o rfl rfl rfl (op_pick rfl rfl rfl ?_)
                    refine w_o rfl rfl rfl (op_assign rfl ?_)
                    refine w_end ?_
                    refine seq_normal ?_
                    refine w_exit ?_
                    refine block_miss rfl ?_
                    refine seq_exit ?_
                    refine block_miss rfl ?_
                    refine seq_exit ?_
                    refine block_hit rfl ?_
                    first
                      | exact mid_normal ⟨plainL (bl o.f3), ⟨o.f0, 0, 0, o.f3⟩, chk0 hI1, rfl, rfl⟩ env_ sel_
                      | (have hq := chkz (o := o) (by omega)
                         exact mid_normal ⟨true, ⟨o.f0, 0, 0, ⟨#[]⟩⟩, hq, rfl, rfl⟩ env_ sel_)
                      | (have hq := chkn (o := o) (by omega)
                         exact mid_normal ⟨false, ⟨o.f0, 0, 0, ⟨#[]⟩⟩, hq, rfl, rfl⟩ env_ sel_)
                      | (have hq := chk1 (o := o) (by omega)
                         first
                           | (rw [decide_eq_false (by omega)] at hq
                              exact mid_normal ⟨false, ⟨o.f0, o.f1, o.f2, ⟨#[]⟩⟩, hq, rfl, rfl⟩ env_ sel_)
                           | (rw [decide_eq_decide.2 (show _ ↔ o.f1 ≤ 1000 by omega)] at hq
                              exact mid_normal ⟨decide (o.f1 ≤ 1000), ⟨o.f0, o.f1, o.f2, ⟨#[]⟩⟩, hq, rfl, rfl⟩ env_ sel_))
                      | (have hq := chk4 (o := o) (by omega)
                         first
                           | (rw [decide_eq_false (by omega)] at hq
                              exact mid_normal ⟨false, ⟨o.f0, o.f1, 0, ⟨#[]⟩⟩, hq, rfl, rfl⟩ env_ sel_)
                           | (rw [decide_eq_true (by omega)] at hq
                              exact mid_normal ⟨true, ⟨o.f0, o.f1, 0, ⟨#[]⟩⟩, hq, rfl, rfl⟩ env_ sel_)
                           | (rw [decide_eq_decide.2 (show _ ↔ o.f1 ≤ 7 by omega)] at hq
                              exact mid_normal ⟨decide (o.f1 ≤ 7), ⟨o.f0, o.f1, 0, ⟨#[]⟩⟩, hq, rfl, rfl⟩ env_ sel_))
                      | (have hq := chk5 (o := o) (by omega)
                         first
                           | (rw [decide_eq_false (by omega)] at hq
                              exact mid_normal ⟨false, ⟨o.f0, o.f1, 0, ⟨#[]⟩⟩, hq, rfl, rfl⟩ env_ sel_)
                           | (rw [decide_eq_true (by omega)] at hq
                              exact mid_normal ⟨true, ⟨o.f0, o.f1, 0, ⟨#[]⟩⟩, hq, rfl, rfl⟩ env_ sel_))
              · refine w_u rfl rfl rfl rfl rfl rfl ?_
                refine w_u rfl rfl rfl rfl rfl rfl ?_
                refine w_u rfl rfl rfl rfl rfl rfl ?_
                refine w_u rfl rfl rfl rfl rfl rfl ?_
                refine w_u rfl rfl rfl rfl rfl rfl ?_
                refine w_u rfl rfl rfl rfl rfl rfl ?_
                refine w_u rfl rfl rfl rfl rfl rfl ?_
                refine w_u rfl rfl rfl rfl rfl rfl ?_
                refine w_u rfl rfl rfl rfl rfl rfl ?_
                refine w_u rfl rfl rfl rfl rfl rfl ?_
                refine w_u rfl rfl rfl rfl rfl rfl ?_
                refine w_u rfl rfl rfl rfl rfl rfl ?_
                refine w_u rfl rfl rfl rfl rfl rfl ?_
                refine w_o rfl rfl rfl (op_pick rfl rfl rfl ?_)
                refine w_o rfl rfl rfl (op_assign rfl ?_)
                refine w_end ?_
                refine seq_normal ?_
                refine w_exit ?_
                refine block_miss rfl ?_
                refine seq_exit ?_
                refine block_miss rfl ?_
                refine seq_exit ?_
                refine block_hit rfl ?_
                first
                  | exact mid_normal ⟨plainL (bl o.f3), ⟨o.f0, 0, 0, o.f3⟩, chk0 hI1, rfl, rfl⟩ env_ sel_
                  | (have hq := chkz (o := o) (by omega)
                     exact mid_normal ⟨true, ⟨o.f0, 0, 0, ⟨#[]⟩⟩, hq, rfl, rfl⟩ env_ sel_)
                  | (have hq := chkn (o := o) (by omega)
                     exact mid_normal ⟨false, ⟨o.f0, 0, 0, ⟨#[]⟩⟩, hq, rfl, rfl⟩ env_ sel_)
                  | (have hq := chk1 (o := o) (by omega)
                     first
                       | (rw [decide_eq_false (by omega)] at hq
                          exact mid_normal ⟨false, ⟨o.f0, o.f1, o.f2, ⟨#[]⟩⟩, hq, rfl, rfl⟩ env_ sel_)
                       | (rw [decide_eq_decide.2 (show _ ↔ o.f1 ≤ 1000 by omega)] at hq
                          exact mid_normal ⟨decide (o.f1 ≤ 1000), ⟨o.f0, o.f1, o.f2, ⟨#[]⟩⟩, hq, rfl, rfl⟩ env_ sel_))
                  | (have hq := chk4 (o := o) (by omega)
                     first
                       | (rw [decide_eq_false (by omega)] at hq
                          exact mid_normal ⟨false, ⟨o.f0, o.f1, 0, ⟨#[]⟩⟩, hq, rfl, rfl⟩ env_ sel_)
                       | (rw [decide_eq_true (by omega)] at hq
                          exact mid_normal ⟨true, ⟨o.f0, o.f1, 0, ⟨#[]⟩⟩, hq, rfl, rfl⟩ env_ sel_)
                       | (rw [decide_eq_decide.2 (show _ ↔ o.f1 ≤ 7 by omega)] at hq
                          exact mid_normal ⟨decide (o.f1 ≤ 7), ⟨o.f0, o.f1, 0, ⟨#[]⟩⟩, hq, rfl, rfl⟩ env_ sel_))
                  | (have hq := chk5 (o := o) (by omega)
                     first
                       | (rw [decide_eq_false (by omega)] at hq
                          exact mid_normal ⟨false, ⟨o.f0, o.f1, 0, ⟨#[]⟩⟩, hq, rfl, rfl⟩ env_ sel_)
                       | (rw [decide_eq_true (by omega)] at hq
                          exact mid_normal ⟨true, ⟨o.f0, o.f1, 0, ⟨#[]⟩⟩, hq, rfl, rfl⟩ env_ sel_))
          · try (exfalso; omega)
            all_goals
              refine w_skip ?_
              refine seq_normal ?_
              refine w_exit ?_
              refine block_miss rfl ?_
              refine seq_exit ?_
              refine block_miss rfl ?_
              refine seq_exit ?_
              refine block_hit rfl ?_
              first
                | exact mid_normal ⟨plainL (bl o.f3), ⟨o.f0, 0, 0, o.f3⟩, chk0 hI1, rfl, rfl⟩ env_ sel_
                | (have hq := chkz (o := o) (by omega)
                   exact mid_normal ⟨true, ⟨o.f0, 0, 0, ⟨#[]⟩⟩, hq, rfl, rfl⟩ env_ sel_)
                | (have hq := chkn (o := o) (by omega)
                   exact mid_normal ⟨false, ⟨o.f0, 0, 0, ⟨#[]⟩⟩, hq, rfl, rfl⟩ env_ sel_)
                | (have hq := chk1 (o := o) (by omega)
                   first
                     | (rw [decide_eq_false (by omega)] at hq
                        exact mid_normal ⟨false, ⟨o.f0, o.f1, o.f2, ⟨#[]⟩⟩, hq, rfl, rfl⟩ env_ sel_)
                     | (rw [decide_eq_decide.2 (show _ ↔ o.f1 ≤ 1000 by omega)] at hq
                        exact mid_normal ⟨decide (o.f1 ≤ 1000), ⟨o.f0, o.f1, o.f2, ⟨#[]⟩⟩, hq, rfl, rfl⟩ env_ sel_))
                | (have hq := chk4 (o := o) (by omega)
                   first
                     | (rw [decide_eq_false (by omega)] at hq
                        exact mid_normal ⟨false, ⟨o.f0, o.f1, 0, ⟨#[]⟩⟩, hq, rfl, rfl⟩ env_ sel_)
                     | (rw [decide_eq_true (by omega)] at hq
                        exact mid_normal ⟨true, ⟨o.f0, o.f1, 0, ⟨#[]⟩⟩, hq, rfl, rfl⟩ env_ sel_)
                     | (rw [decide_eq_decide.2 (show _ ↔ o.f1 ≤ 7 by omega)] at hq
                        exact mid_normal ⟨decide (o.f1 ≤ 7), ⟨o.f0, o.f1, 0, ⟨#[]⟩⟩, hq, rfl, rfl⟩ env_ sel_))
                | (have hq := chk5 (o := o) (by omega)
                   first
                     | (rw [decide_eq_false (by omega)] at hq
                        exact mid_normal ⟨false, ⟨o.f0, o.f1, 0, ⟨#[]⟩⟩, hq, rfl, rfl⟩ env_ sel_)
                     | (rw [decide_eq_true (by omega)] at hq
                        exact mid_normal ⟨true, ⟨o.f0, o.f1, 0, ⟨#[]⟩⟩, hq, rfl, rfl⟩ env_ sel_))
      · refine w_skip ?_
        refine seq_normal ?_
        refine w_seq ?_
        refine w_seq ?_
        refine w_seq ?_
        refine w_region ?_
        refine w_o rfl rfl rfl (op_eq rfl rfl ?_)
        refine w_o rfl rfl rfl (op_assign rfl ?_)
        refine w_end ?_
        refine seq_normal ?_
        first | refine w_cond rfl (fun hI3 => ?_) (fun hI3 => ?_) | refine w_condB rfl (fun hI3 => ?_) (fun hI3 => ?_)
        · refine w_skip ?_
          refine seq_normal ?_
          first | refine w_cond rfl (fun hI4 => ?_) (fun hI4 => ?_) | refine w_condB rfl (fun hI4 => ?_) (fun hI4 => ?_)
          · refine w_exit ?_
            refine seq_exit ?_
            refine seq_exit ?_
            refine block_miss rfl ?_
            refine seq_exit ?_
            refine block_miss rfl ?_
            refine seq_exit ?_
            refine block_hit rfl ?_
            refine seq_normal ?_
            refine w_seq ?_
            refine w_seq ?_
            refine w_region ?_
            refine w_o rfl rfl rfl (op_fieldAddr fa_31_1 rfl ?_)
            refine w_o rfl rfl rfl (op_loadF agg_3 rfl el_ rfl ?_)
            refine w_o rfl rfl rfl (op_fieldAddr fa_31_1 rfl ?_)
            refine w_on rfl rfl (op_store siz_3 rfl rfl rfl (by (repeat (first | exact Pick.head _ _ _ | apply Pick.tail | apply Pick.app)); first | done | fail) (Nat.le_of_ble_eq_true rfl) rfl ?_)
            refine w_end ?_
            refine seq_normal ?_
            refine w_seq ?_
            refine w_region ?_
            refine w_o rfl rfl rfl (op_fieldAddr fa_31_0 rfl ?_)
            refine w_o rfl rfl rfl (op_loadF agg_3 rfl el_ rfl ?_)
            refine w_o rfl rfl rfl (op_ne rfl rfl ?_)
            refine w_end ?_
            refine seq_normal ?_
            first | refine w_cond rfl (fun hI10 => ?_) (fun hI10 => ?_) | refine w_condB rfl (fun hI10 => ?_) (fun hI10 => ?_)
            · try (exfalso; omega)
              all_goals
                refine w_region ?_
                refine w_o rfl rfl rfl (op_fieldAddr fa_31_1 rfl ?_)
                refine w_o rfl rfl rfl (op_loadF agg_3 rfl el_ rfl ?_)
                refine w_o rfl rfl rfl (op_ge rfl rfl ?_)
                refine w_o rfl rfl rfl (op_move rfl ?_)
                first | refine w_known (t := 59) rfl (fun g59 => ?_) (fun g59 => ?_) | refine w_knownB (t := 59) rfl (fun g59 => ?_) (fun g59 => ?_)
                · refine w_og rfl rfl rfl rfl rfl (op_fieldAddr fa_31_1 rfl ?_)
                  refine w_og rfl rfl rfl rfl rfl (op_loadF agg_3 rfl el_ rfl ?_)
                  refine w_og rfl rfl rfl rfl rfl (op_le rfl rfl ?_)
                  refine w_og rfl rfl rfl rfl rfl (op_move rfl ?_)
                  first | refine w_known (t := 63) rfl (fun g63 => ?_) (fun g63 => ?_) | refine w_knownB (t := 63) rfl (fun g63 => ?_) (fun g63 => ?_)
                  · refine w_u rfl rfl rfl rfl rfl rfl ?_
                    refine w_u rfl rfl rfl rfl rfl rfl ?_
                    refine w_u rfl rfl rfl rfl rfl rfl ?_
                    refine w_u rfl rfl rfl rfl rfl rfl ?_
                    refine w_u rfl rfl rfl rfl rfl rfl ?_
                    refine w_u rfl rfl rfl rfl rfl rfl ?_
                    refine w_u rfl rfl rfl rfl rfl rfl ?_
                    refine w_u rfl rfl rfl rfl rfl rfl ?_
                    refine w_og rfl rfl rfl rfl rfl (op_pick rfl rfl rfl ?_)
                    refine w_o rfl rfl rfl (op_pick rfl rfl rfl ?_)
                    refine w_o rfl rfl rfl (op_assign rfl ?_)
                    refine w_end ?_
                    refine seq_normal ?_
                    refine w_exit ?_
                    refine block_miss rfl ?_
                    refine seq_exit ?_
                    refine block_miss rfl ?_
                    refine seq_exit ?_
                    refine block_hit rfl ?_
                    first
                      | exact mid_normal ⟨plainL (bl o.f3), ⟨o.f0, 0, 0, o.f3⟩, chk0 hI1, rfl, rfl⟩ env_ sel_
                      | (have hq := chkz (o := o) (by omega)
                         exact mid_normal ⟨true, ⟨o.f0, 0, 0, ⟨#[]⟩⟩, hq, rfl, rfl⟩ env_ sel_)
                      | (have hq := chkn (o := o) (by omega)
                         exact mid_normal ⟨false, ⟨o.f0, 0, 0, ⟨#[]⟩⟩, hq, rfl, rfl⟩ env_ sel_)
                      | (have hq := chk1 (o := o) (by omega)
                         first
                           | (rw [decide_eq_false (by omega)] at hq
                              exact mid_normal ⟨false, ⟨o.f0, o.f1, o.f2, ⟨#[]⟩⟩, hq, rfl, rfl⟩ env_ sel_)
                           | (rw [decide_eq_decide.2 (show _ ↔ o.f1 ≤ 1000 by omega)] at hq
                              exact mid_normal ⟨decide (o.f1 ≤ 1000), ⟨o.f0, o.f1, o.f2, ⟨#[]⟩⟩, hq, rfl, rfl⟩ env_ sel_))
                      | (have hq := chk4 (o := o) (by omega)
                         first
                           | (rw [decide_eq_false (by omega)] at hq
                              exact mid_normal ⟨false, ⟨o.f0, o.f1, 0, ⟨#[]⟩⟩, hq, rfl, rfl⟩ env_ sel_)
                           | (rw [decide_eq_true (by omega)] at hq
                              exact mid_normal ⟨true, ⟨o.f0, o.f1, 0, ⟨#[]⟩⟩, hq, rfl, rfl⟩ env_ sel_)
                           | (rw [decide_eq_decide.2 (show _ ↔ o.f1 ≤ 7 by omega)] at hq
                              exact mid_normal ⟨decide (o.f1 ≤ 7), ⟨o.f0, o.f1, 0, ⟨#[]⟩⟩, hq, rfl, rfl⟩ env_ sel_))
                      | (have hq := chk5 (o := o) (by omega)
                         first
                           | (rw [decide_eq_false (by omega)] at hq
                              exact mid_normal ⟨false, ⟨o.f0, o.f1, 0, ⟨#[]⟩⟩, hq, rfl, rfl⟩ env_ sel_)
                           | (rw [decide_eq_true (by omega)] at hq
                              exact mid_normal ⟨true, ⟨o.f0, o.f1, 0, ⟨#[]⟩⟩, hq, rfl, rfl⟩ env_ sel_))
                  · refine w_og rfl rfl rfl rfl rfl (op_fieldAddr fa_31_0 rfl ?_)
                    refine w_og rfl rfl rfl rfl rfl (op_loadF agg_3 rfl el_ rfl ?_)
                    refine w_og rfl rfl rfl rfl rfl (op_eq rfl rfl ?_)
                    refine w_og rfl rfl rfl rfl rfl (op_move rfl ?_)
                    first | refine w_known (t := 67) rfl (fun g67 => ?_) (fun g67 => ?_) | refine w_knownB (t := 67) rfl (fun g67 => ?_) (fun g67 => ?_)
                    · refine w_og rfl rfl rfl rfl rfl (op_fieldAddr fa_31_1 rfl ?_)
                      refine w_og rfl rfl rfl rfl rfl (op_loadF agg_3 rfl el_ rfl ?_)
                      refine w_og rfl rfl rfl rfl rfl (op_le rfl rfl ?_)
                      refine w_og rfl rfl rfl rfl rfl (op_pick rfl rfl rfl ?_)
                      refine w_og rfl rfl rfl rfl rfl (op_pick rfl rfl rfl ?_)
                      refine w_o rfl rfl rfl (op_pick rfl rfl rfl ?_)
                      refine w_o rfl rfl rfl (op_assign rfl ?_)
                      refine w_end ?_
                      refine seq_normal ?_
                      refine w_exit ?_
                      refine block_miss rfl ?_
                      refine seq_exit ?_
                      refine block_miss rfl ?_
                      refine seq_exit ?_
                      refine block_hit rfl ?_
                      first
                        | exact mid_normal ⟨plainL (bl o.f3), ⟨o.f0, 0, 0, o.f3⟩, chk0 hI1, rfl, rfl⟩ env_ sel_
                        | (have hq := chkz (o := o) (by omega)
                           exact mid_normal ⟨true, ⟨o.f0, 0, 0, ⟨#[]⟩⟩, hq, rfl, rfl⟩ env_ sel_)
                        | (have hq := chkn (o := o) (by omega)
                           exact mid_normal ⟨false, ⟨o.f0, 0, 0, ⟨#[]⟩⟩, hq, rfl, rfl⟩ env_ sel_)
                        | (have hq := chk1 (o := o) (by omega)
                           first
                             | (rw [decide_eq_false (by omega)] at hq
                                exact mid_normal ⟨false, ⟨o.f0, o.f1, o.f2, ⟨#[]⟩⟩, hq, rfl, rfl⟩ env_ sel_)
                             | (rw [decide_eq_decide.2 (show _ ↔ o.f1 ≤ 1000 by omega)] at hq
                                exact mid_normal ⟨decide (o.f1 ≤ 1000), ⟨o.f0, o.f1, o.f2, ⟨#[]⟩⟩, hq, rfl, rfl⟩ env_ sel_))
                        | (have hq := chk4 (o := o) (by omega)
                           first
                             | (rw [decide_eq_false (by omega)] at hq
                                exact mid_normal ⟨false, ⟨o.f0, o.f1, 0, ⟨#[]⟩⟩, hq, rfl, rfl⟩ env_ sel_)
                             | (rw [decide_eq_true (by omega)] at hq
                                exact mid_normal ⟨true, ⟨o.f0, o.f1, 0, ⟨#[]⟩⟩, hq, rfl, rfl⟩ env_ sel_)
                             | (rw [decide_eq_decide.2 (show _ ↔ o.f1 ≤ 7 by omega)] at hq
                                exact mid_normal ⟨decide (o.f1 ≤ 7), ⟨o.f0, o.f1, 0, ⟨#[]⟩⟩, hq, rfl, rfl⟩ env_ sel_))
                        | (have hq := chk5 (o := o) (by omega)
                           first
                             | (rw [decide_eq_false (by omega)] at hq
                                exact mid_normal ⟨false, ⟨o.f0, o.f1, 0, ⟨#[]⟩⟩, hq, rfl, rfl⟩ env_ sel_)
                             | (rw [decide_eq_true (by omega)] at hq
                                exact mid_normal ⟨true, ⟨o.f0, o.f1, 0, ⟨#[]⟩⟩, hq, rfl, rfl⟩ env_ sel_))
                    · refine w_u rfl rfl rfl rfl rfl rfl ?_
                      refine w_u rfl rfl rfl rfl rfl rfl ?_
                      refine w_u rfl rfl rfl rfl rfl rfl ?_
                      refine w_og rfl rfl rfl rfl rfl (op_pick rfl rfl rfl ?_)
                      refine w_og rfl rfl rfl rfl rfl (op_pick rfl rfl rfl ?_)
                      refine w_o rfl rfl rfl (op_pick rfl rfl rfl ?_)
                      refine w_o rfl rfl rfl (op_assign rfl ?_)
                      refine w_end ?_
                      refine seq_normal ?_
                      refine w_exit ?_
                      refine block_miss rfl ?_
                      refine seq_exit ?_
                      refine block_miss rfl ?_
                      refine seq_exit ?_
                      refine block_hit rfl ?_
                      first
                        | exact mid_normal ⟨plainL (bl o.f3), ⟨o.f0, 0, 0, o.f3⟩, chk0 hI1, rfl, rfl⟩ env_ sel_
                        | (have hq := chkz (o := o) (by omega)
                           exact mid_normal ⟨true, ⟨o.f0, 0, 0, ⟨#[]⟩⟩, hq, rfl, rfl⟩ env_ sel_)
                        | (have hq := chkn (o := o) (by omega)
                           exact mid_normal ⟨false, ⟨o.f0, 0, 0, ⟨#[]⟩⟩, hq, rfl, rfl⟩ env_ sel_)
                        | (have hq := chk1 (o := o) (by omega)
                           first
                             | (rw [decide_eq_false (by omega)] at hq
                                exact mid_normal ⟨false, ⟨o.f0, o.f1, o.f2, ⟨#[]⟩⟩, hq, rfl, rfl⟩ env_ sel_)
                             | (rw [decide_eq_decide.2 (show _ ↔ o.f1 ≤ 1000 by omega)] at hq
                                exact mid_normal ⟨decide (o.f1 ≤ 1000), ⟨o.f0, o.f1, o.f2, ⟨#[]⟩⟩, hq, rfl, rfl⟩ env_ sel_))
                        | (have hq := chk4 (o := o) (by omega)
                           first
                             | (rw [decide_eq_false (by omega)] at hq
                                exact mid_normal ⟨false, ⟨o.f0, o.f1, 0, ⟨#[]⟩⟩, hq, rfl, rfl⟩ env_ sel_)
                             | (rw [decide_eq_true (by omega)] at hq
                                exact mid_normal ⟨true, ⟨o.f0, o.f1, 0, ⟨#[]⟩⟩, hq, rfl, rfl⟩ env_ sel_)
                             | (rw [decide_eq_decide.2 (show _ ↔ o.f1 ≤ 7 by omega)] at hq
                                exact mid_normal ⟨decide (o.f1 ≤ 7), ⟨o.f0, o.f1, 0, ⟨#[]⟩⟩, hq, rfl, rfl⟩ env_ sel_))
                        | (have hq := chk5 (o := o) (by omega)
                           first
                             | (rw [decide_eq_false (by omega)] at hq
                                exact mid_normal ⟨false, ⟨o.f0, o.f1, 0, ⟨#[]⟩⟩, hq, rfl, rfl⟩ env_ sel_)
                             | (rw [decide_eq_true (by omega)] at hq
                                exact mid_normal ⟨true, ⟨o.f0, o.f1, 0, ⟨#[]⟩⟩, hq, rfl, rfl⟩ env_ sel_))
                · refine w_u rfl rfl rfl rfl rfl rfl ?_
                  refine w_u rfl rfl rfl rfl rfl rfl ?_
                  refine w_u rfl rfl rfl rfl rfl rfl ?_
                  refine w_u rfl rfl rfl rfl rfl rfl ?_
                  refine w_u rfl rfl rfl rfl rfl rfl ?_
                  refine w_u rfl rfl rfl rfl rfl rfl ?_
                  refine w_u rfl rfl rfl rfl rfl rfl ?_
                  refine w_u rfl rfl rfl rfl rfl rfl ?_
                  refine w_u rfl rfl rfl rfl rfl rfl ?_
                  refine w_u rfl rfl rfl rfl rfl rfl ?_
                  refine w_u rfl rfl rfl rfl rfl rfl ?_
                  refine w_u rfl rfl rfl rfl rfl rfl ?_
                  refine w_u rfl rfl rfl rfl rfl rfl ?_
                  refine w_o rfl rfl rfl (op_pick rfl rfl rfl ?_)
                  refine w_o rfl rfl rfl (op_assign rfl ?_)
                  refine w_end ?_
                  refine seq_normal ?_
                  refine w_exit ?_
                  refine block_miss rfl ?_
                  refine seq_exit ?_
                  refine block_miss rfl ?_
                  refine seq_exit ?_
                  refine block_hit rfl ?_
                  first
                    | exact mid_normal ⟨plainL (bl o.f3), ⟨o.f0, 0, 0, o.f3⟩, chk0 hI1, rfl, rfl⟩ env_ sel_
                    | (have hq := chkz (o := o) (by omega)
                       exact mid_normal ⟨true, ⟨o.f0, 0, 0, ⟨#[]⟩⟩, hq, rfl, rfl⟩ env_ sel_)
                    | (have hq := chkn (o := o) (by omega)
                       exact mid_normal ⟨false, ⟨o.f0, 0, 0, ⟨#[]⟩⟩, hq, rfl, rfl⟩ env_ sel_)
                    | (have hq := chk1 (o := o) (by omega)
                       first
                         | (rw [decide_eq_false (by omega)] at hq
                            exact mid_normal ⟨false, ⟨o.f0, o.f1, o.f2, ⟨#[]⟩⟩, hq, rfl, rfl⟩ env_ sel_)
                         | (rw [decide_eq_decide.2 (show _ ↔ o.f1 ≤ 1000 by omega)] at hq
                            exact mid_normal ⟨decide (o.f1 ≤ 1000), ⟨o.f0, o.f1, o.f2, ⟨#[]⟩⟩, hq, rfl, rfl⟩ env_ sel_))
                    | (have hq := chk4 (o := o) (by omega)
                       first
                         | (rw [decide_eq_false (by omega)] at hq
                            exact mid_normal ⟨false, ⟨o.f0, o.f1, 0, ⟨#[]⟩⟩, hq, rfl, rfl⟩ env_ sel_)
                         | (rw [decide_eq_true (by omega)] at hq
                            exact mid_normal ⟨true, ⟨o.f0, o.f1, 0, ⟨#[]⟩⟩, hq, rfl, rfl⟩ env_ sel_)
                         | (rw [decide_eq_decide.2 (show _ ↔ o.f1 ≤ 7 by omega)] at hq
                            exact mid_normal ⟨decide (o.f1 ≤ 7), ⟨o.f0, o.f1, 0, ⟨#[]⟩⟩, hq, rfl, rfl⟩ env_ sel_))
                    | (have hq := chk5 (o := o) (by omega)
                       first
                         | (rw [decide_eq_false (by omega)] at hq
                            exact mid_normal ⟨false, ⟨o.f0, o.f1, 0, ⟨#[]⟩⟩, hq, rfl, rfl⟩ env_ sel_)
                         | (rw [decide_eq_true (by omega)] at hq
                            exact mid_normal ⟨true, ⟨o.f0, o.f1, 0, ⟨#[]⟩⟩, hq, rfl, rfl⟩ env_ sel_))
            · try (exfalso; omega)
              all_goals
                refine w_skip ?_
                refine seq_normal ?_
                refine w_exit ?_
                refine block_miss rfl ?_
                refine seq_exit ?_
                refine block_miss rfl ?_
                refine seq_exit ?_
                refine block_hit rfl ?_
                first
                  | exact mid_normal ⟨plainL (bl o.f3), ⟨o.f0, 0, 0, o.f3⟩, chk0 hI1, rfl, rfl⟩ env_ sel_
                  | (have hq := chkz (o := o) (by omega)
                     exact mid_normal ⟨true, ⟨o.f0, 0, 0, ⟨#[]⟩⟩, hq, rfl, rfl⟩ env_ sel_)
                  | (have hq := chkn (o := o) (by omega)
                     exact mid_normal ⟨false, ⟨o.f0, 0, 0, ⟨#[]⟩⟩, hq, rfl, rfl⟩ env_ sel_)
                  | (have hq := chk1 (o := o) (by omega)
                     first
                       | (rw [decide_eq_false (by omega)] at hq
                          exact mid_normal ⟨false, ⟨o.f0, o.f1, o.f2, ⟨#[]⟩⟩, hq, rfl, rfl⟩ env_ sel_)
                       | (rw [decide_eq_decide.2 (show _ ↔ o.f1 ≤ 1000 by omega)] at hq
                          exact mid_normal ⟨decide (o.f1 ≤ 1000), ⟨o.f0, o.f1, o.f2, ⟨#[]⟩⟩, hq, rfl, rfl⟩ env_ sel_))
                  | (have hq := chk4 (o := o) (by omega)
                     first
                       | (rw [decide_eq_false (by omega)] at hq
                          exact mid_normal ⟨false, ⟨o.f0, o.f1, 0, ⟨#[]⟩⟩, hq, rfl, rfl⟩ env_ sel_)
                       | (rw [decide_eq_true (by omega)] at hq
                          exact mid_normal ⟨true, ⟨o.f0, o.f1, 0, ⟨#[]⟩⟩, hq, rfl, rfl⟩ env_ sel_)
                       | (rw [decide_eq_decide.2 (show _ ↔ o.f1 ≤ 7 by omega)] at hq
                          exact mid_normal ⟨decide (o.f1 ≤ 7), ⟨o.f0, o.f1, 0, ⟨#[]⟩⟩, hq, rfl, rfl⟩ env_ sel_))
                  | (have hq := chk5 (o := o) (by omega)
                     first
                       | (rw [decide_eq_false (by omega)] at hq
                          exact mid_normal ⟨false, ⟨o.f0, o.f1, 0, ⟨#[]⟩⟩, hq, rfl, rfl⟩ env_ sel_)
                       | (rw [decide_eq_true (by omega)] at hq
                          exact mid_normal ⟨true, ⟨o.f0, o.f1, 0, ⟨#[]⟩⟩, hq, rfl, rfl⟩ env_ sel_))
          · refine w_skip ?_
            refine seq_normal ?_
            refine w_seq ?_
            refine w_seq ?_
            refine w_region ?_
            refine w_o rfl rfl rfl (op_eq rfl rfl ?_)
            refine w_o rfl rfl rfl (op_assign rfl ?_)
            refine w_end ?_
            refine seq_normal ?_
            first | refine w_cond rfl (fun hI5 => ?_) (fun hI5 => ?_) | refine w_condB rfl (fun hI5 => ?_) (fun hI5 => ?_)
            · refine w_skip ?_
              refine seq_normal ?_
              first | refine w_cond rfl (fun hI9 => ?_) (fun hI9 => ?_) | refine w_condB rfl (fun hI9 => ?_) (fun hI9 => ?_)
              · refine w_exit ?_
                refine seq_exit ?_
                refine block_miss rfl ?_
                refine seq_exit ?_
                refine block_miss rfl ?_
                refine seq_exit ?_
                refine block_miss rfl ?_
                refine seq_exit ?_
                refine block_hit rfl ?_
                refine seq_normal ?_
                refine w_exit ?_
                refine block_miss rfl ?_
                refine seq_exit ?_
                refine block_hit rfl ?_
                first
                  | exact mid_normal ⟨plainL (bl o.f3), ⟨o.f0, 0, 0, o.f3⟩, chk0 hI1, rfl, rfl⟩ env_ sel_
                  | (have hq := chkz (o := o) (by omega)
                     exact mid_normal ⟨true, ⟨o.f0, 0, 0, ⟨#[]⟩⟩, hq, rfl, rfl⟩ env_ sel_)
                  | (have hq := chkn (o := o) (by omega)
                     exact mid_normal ⟨false, ⟨o.f0, 0, 0, ⟨#[]⟩⟩, hq, rfl, rfl⟩ env_ sel_)
                  | (have hq := chk1 (o := o) (by omega)
                     first
                       | (rw [decide_eq_false (by omega)] at hq
                          exact mid_normal ⟨false, ⟨o.f0, o.f1, o.f2, ⟨#[]⟩⟩, hq, rfl, rfl⟩ env_ sel_)
                       | (rw [decide_eq_decide.2 (show _ ↔ o.f1 ≤ 1000 by omega)] at hq
                          exact mid_normal ⟨decide (o.f1 ≤ 1000), ⟨o.f0, o.f1, o.f2, ⟨#[]⟩⟩, hq, rfl, rfl⟩ env_ sel_))
                  | (have hq := chk4 (o := o) (by omega)
                     first
                       | (rw [decide_eq_false (by omega)] at hq
                          exact mid_normal ⟨false, ⟨o.f0, o.f1, 0, ⟨#[]⟩⟩, hq, rfl, rfl⟩ env_ sel_)
                       | (rw [decide_eq_true (by omega)] at hq
                          exact mid_normal ⟨true, ⟨o.f0, o.f1, 0, ⟨#[]⟩⟩, hq, rfl, rfl⟩ env_ sel_)
                       | (rw [decide_eq_decide.2 (show _ ↔ o.f1 ≤ 7 by omega)] at hq
                          exact mid_normal ⟨decide (o.f1 ≤ 7), ⟨o.f0, o.f1, 0, ⟨#[]⟩⟩, hq, rfl, rfl⟩ env_ sel_))
                  | (have hq := chk5 (o := o) (by omega)
                     first
                       | (rw [decide_eq_false (by omega)] at hq
                          exact mid_normal ⟨false, ⟨o.f0, o.f1, 0, ⟨#[]⟩⟩, hq, rfl, rfl⟩ env_ sel_)
                       | (rw [decide_eq_true (by omega)] at hq
                          exact mid_normal ⟨true, ⟨o.f0, o.f1, 0, ⟨#[]⟩⟩, hq, rfl, rfl⟩ env_ sel_))
              · refine w_skip ?_
                refine seq_normal ?_
                refine w_exit ?_
                refine block_miss rfl ?_
                refine seq_exit ?_
                refine block_miss rfl ?_
                refine seq_exit ?_
                refine block_miss rfl ?_
                refine seq_exit ?_
                refine block_miss rfl ?_
                refine seq_exit ?_
                refine block_hit rfl ?_
                refine seq_normal ?_
                refine w_seq ?_
                refine w_region ?_
                refine w_o rfl rfl rfl (op_assign rfl ?_)
                refine w_end ?_
                refine seq_normal ?_
                refine w_exit ?_
                refine block_hit rfl ?_
                first
                  | exact mid_normal ⟨plainL (bl o.f3), ⟨o.f0, 0, 0, o.f3⟩, chk0 hI1, rfl, rfl⟩ env_ sel_
                  | (have hq := chkz (o := o) (by omega)
                     exact mid_normal ⟨true, ⟨o.f0, 0, 0, ⟨#[]⟩⟩, hq, rfl, rfl⟩ env_ sel_)
                  | (have hq := chkn (o := o) (by omega)
                     exact mid_normal ⟨false, ⟨o.f0, 0, 0, ⟨#[]⟩⟩, hq, rfl, rfl⟩ env_ sel_)
                  | (have hq := chk1 (o := o) (by omega)
                     first
                       | (rw [decide_eq_false (by omega)] at hq
                          exact mid_normal ⟨false, ⟨o.f0, o.f1, o.f2, ⟨#[]⟩⟩, hq, rfl, rfl⟩ env_ sel_)
                       | (rw [decide_eq_decide.2 (show _ ↔ o.f1 ≤ 1000 by omega)] at hq
                          exact mid_normal ⟨decide (o.f1 ≤ 1000), ⟨o.f0, o.f1, o.f2, ⟨#[]⟩⟩, hq, rfl, rfl⟩ env_ sel_))
                  | (have hq := chk4 (o := o) (by omega)
                     first
                       | (rw [decide_eq_false (by omega)] at hq
                          exact mid_normal ⟨false, ⟨o.f0, o.f1, 0, ⟨#[]⟩⟩, hq, rfl, rfl⟩ env_ sel_)
                       | (rw [decide_eq_true (by omega)] at hq
                          exact mid_normal ⟨true, ⟨o.f0, o.f1, 0, ⟨#[]⟩⟩, hq, rfl, rfl⟩ env_ sel_)
                       | (rw [decide_eq_decide.2 (show _ ↔ o.f1 ≤ 7 by omega)] at hq
                          exact mid_normal ⟨decide (o.f1 ≤ 7), ⟨o.f0, o.f1, 0, ⟨#[]⟩⟩, hq, rfl, rfl⟩ env_ sel_))
                  | (have hq := chk5 (o := o) (by omega)
                     first
                       | (rw [decide_eq_false (by omega)] at hq
                          exact mid_normal ⟨false, ⟨o.f0, o.f1, 0, ⟨#[]⟩⟩, hq, rfl, rfl⟩ env_ sel_)
                       | (rw [decide_eq_true (by omega)] at hq
                          exact mid_normal ⟨true, ⟨o.f0, o.f1, 0, ⟨#[]⟩⟩, hq, rfl, rfl⟩ env_ sel_))
            · refine w_seq ?_
              refine w_region ?_
              refine w_o rfl rfl rfl (op_eq rfl rfl ?_)
              refine w_o rfl rfl rfl (op_assign rfl ?_)
              refine w_end ?_
              refine seq_normal ?_
              first | refine w_cond rfl (fun hI6 => ?_) (fun hI6 => ?_) | refine w_condB rfl (fun hI6 => ?_) (fun hI6 => ?_)
              · refine w_skip ?_
                refine seq_normal ?_
                first | refine w_cond rfl (fun hI9 => ?_) (fun hI9 => ?_) | refine w_condB rfl (fun hI9 => ?_) (fun hI9 => ?_)
                · refine w_exit ?_
                  refine seq_exit ?_
                  refine block_miss rfl ?_
                  refine seq_exit ?_
                  refine block_miss rfl ?_
                  refine seq_exit ?_
                  refine block_miss rfl ?_
                  refine seq_exit ?_
                  refine block_hit rfl ?_
                  refine seq_normal ?_
                  refine w_exit ?_
                  refine block_miss rfl ?_
                  refine seq_exit ?_
                  refine block_hit rfl ?_
                  first
                    | exact mid_normal ⟨plainL (bl o.f3), ⟨o.f0, 0, 0, o.f3⟩, chk0 hI1, rfl, rfl⟩ env_ sel_
                    | (have hq := chkz (o := o) (by omega)
                       exact mid_normal ⟨true, ⟨o.f0, 0, 0, ⟨#[]⟩⟩, hq, rfl, rfl⟩ env_ sel_)
                    | (have hq := chkn (o := o) (by omega)
                       exact mid_normal ⟨false, ⟨o.f0, 0, 0, ⟨#[]⟩⟩, hq, rfl, rfl⟩ env_ sel_)
                    | (have hq := chk1 (o := o) (by omega)
                       first
                         | (rw [decide_eq_false (by omega)] at hq
                            exact mid_normal ⟨false, ⟨o.f0, o.f1, o.f2, ⟨#[]⟩⟩, hq, rfl, rfl⟩ env_ sel_)
                         | (rw [decide_eq_decide.2 (show _ ↔ o.f1 ≤ 1000 by omega)] at hq
                            exact mid_normal ⟨decide (o.f1 ≤ 1000), ⟨o.f0, o.f1, o.f2, ⟨#[]⟩⟩, hq, rfl, rfl⟩ env_ sel_))
                    | (have hq := chk4 (o := o) (by omega)
                       first
                         | (rw [decide_eq_false (by omega)] at hq
                            exact mid_normal ⟨false, ⟨o.f0, o.f1, 0, ⟨#[]⟩⟩, hq, rfl, rfl⟩ env_ sel_)
                         | (rw [decide_eq_true (by omega)] at hq
                            exact mid_normal ⟨true, ⟨o.f0, o.f1, 0, ⟨#[]⟩⟩, hq, rfl, rfl⟩ env_ sel_)
                         | (rw [decide_eq_decide.2 (show _ ↔ o.f1 ≤ 7 by omega)] at hq
                            exact mid_normal ⟨decide (o.f1 ≤ 7), ⟨o.f0, o.f1, 0, ⟨#[]⟩⟩, hq, rfl, rfl⟩ env_ sel_))
                    | (have hq := chk5 (o := o) (by omega)
                       first
                         | (rw [decide_eq_false (by omega)] at hq
                            exact mid_normal ⟨false, ⟨o.f0, o.f1, 0, ⟨#[]⟩⟩, hq, rfl, rfl⟩ env_ sel_)
                         | (rw [decide_eq_true (by omega)] at hq
                            exact mid_normal ⟨true, ⟨o.f0, o.f1, 0, ⟨#[]⟩⟩, hq, rfl, rfl⟩ env_ sel_))
                · refine w_skip ?_
                  refine seq_normal ?_
                  refine w_exit ?_
                  refine block_miss rfl ?_
                  refine seq_exit ?_
                  refine block_miss rfl ?_
                  refine seq_exit ?_
                  refine block_miss rfl ?_
                  refine seq_exit ?_
                  refine block_miss rfl ?_
                  refine seq_exit ?_
                  refine block_hit rfl ?_
                  refine seq_normal ?_
                  refine w_seq ?_
                  refine w_region ?_
                  refine w_o rfl rfl rfl (op_assign rfl ?_)
                  refine w_end ?_
                  refine seq_normal ?_
                  refine w_exit ?_
                  refine block_hit rfl ?_
                  first
                    | exact mid_normal ⟨plainL (bl o.f3), ⟨o.f0, 0, 0, o.f3⟩, chk0 hI1, rfl, rfl⟩ env_ sel_
                    | (have hq := chkz (o := o) (by omega)
                       exact mid_normal ⟨true, ⟨o.f0, 0, 0, ⟨#[]⟩⟩, hq, rfl, rfl⟩ env_ sel_)
                    | (have hq := chkn (o := o) (by omega)
                       exact mid_normal ⟨false, ⟨o.f0, 0, 0, ⟨#[]⟩⟩, hq, rfl, rfl⟩ env_ sel_)
                    | (have hq := chk1 (o := o) (by omega)
                       first
                         | (rw [decide_eq_false (by omega)] at hq
                            exact mid_normal ⟨false, ⟨o.f0, o.f1, o.f2, ⟨#[]⟩⟩, hq, rfl, rfl⟩ env_ sel_)
                         | (rw [decide_eq_decide.2 (show _ ↔ o.f1 ≤ 1000 by omega)] at hq
                            exact mid_normal ⟨decide (o.f1 ≤ 1000), ⟨o.f0, o.f1, o.f2, ⟨#[]⟩⟩, hq, rfl, rfl⟩ env_ sel_))
                    | (have hq := chk4 (o := o) (by omega)
                       first
                         | (rw [decide_eq_false (by omega)] at hq
                            exact mid_normal ⟨false, ⟨o.f0, o.f1, 0, ⟨#[]⟩⟩, hq, rfl, rfl⟩ env_ sel_)
                         | (rw [decide_eq_true (by omega)] at hq
                            exact mid_normal ⟨true, ⟨o.f0, o.f1, 0, ⟨#[]⟩⟩, hq, rfl, rfl⟩ env_ sel_)
                         | (rw [decide_eq_decide.2 (show _ ↔ o.f1 ≤ 7 by omega)] at hq
                            exact mid_normal ⟨decide (o.f1 ≤ 7), ⟨o.f0, o.f1, 0, ⟨#[]⟩⟩, hq, rfl, rfl⟩ env_ sel_))
                    | (have hq := chk5 (o := o) (by omega)
                       first
                         | (rw [decide_eq_false (by omega)] at hq
                            exact mid_normal ⟨false, ⟨o.f0, o.f1, 0, ⟨#[]⟩⟩, hq, rfl, rfl⟩ env_ sel_)
                         | (rw [decide_eq_true (by omega)] at hq
                            exact mid_normal ⟨true, ⟨o.f0, o.f1, 0, ⟨#[]⟩⟩, hq, rfl, rfl⟩ env_ sel_))
              · refine w_seq ?_
                refine w_region ?_
                refine w_o rfl rfl rfl (op_eq rfl rfl ?_)
                refine w_o rfl rfl rfl (op_assign rfl ?_)
                refine w_end ?_
                refine seq_normal ?_
                first | refine w_cond rfl (fun hI7 => ?_) (fun hI7 => ?_) | refine w_condB rfl (fun hI7 => ?_) (fun hI7 => ?_)
                · refine w_skip ?_
                  refine seq_normal ?_
                  first | refine w_cond rfl (fun hI9 => ?_) (fun hI9 => ?_) | refine w_condB rfl (fun hI9 => ?_) (fun hI9 => ?_)
                  · refine w_exit ?_
                    refine seq_exit ?_
                    refine block_miss rfl ?_
                    refine seq_exit ?_
                    refine block_miss rfl ?_
                    refine seq_exit ?_
                    refine block_miss rfl ?_
                    refine seq_exit ?_
                    refine block_hit rfl ?_
                    refine seq_normal ?_
                    refine w_exit ?_
                    refine block_miss rfl ?_
                    refine seq_exit ?_
                    refine block_hit rfl ?_
                    first
                      | exact mid_normal ⟨plainL (bl o.f3), ⟨o.f0, 0, 0, o.f3⟩, chk0 hI1, rfl, rfl⟩ env_ sel_
                      | (have hq := chkz (o := o) (by omega)
                         exact mid_normal ⟨true, ⟨o.f0, 0, 0, ⟨#[]⟩⟩, hq, rfl, rfl⟩ env_ sel_)
                      | (have hq := chkn (o := o) (by omega)
                         exact mid_normal ⟨false, ⟨o.f0, 0, 0, ⟨#[]⟩⟩, hq, rfl, rfl⟩ env_ sel_)
                      | (have hq := chk1 (o := o) (by omega)
                         first
                           | (rw [decide_eq_false (by omega)] at hq
                              exact mid_normal ⟨false, ⟨o.f0, o.f1, o.f2, ⟨#[]⟩⟩, hq, rfl, rfl⟩ env_ sel_)
                           | (rw [decide_eq_decide.2 (show _ ↔ o.f1 ≤ 1000 by omega)] at hq
                              exact mid_normal ⟨decide (o.f1 ≤ 1000), ⟨o.f0, o.f1, o.f2, ⟨#[]⟩⟩, hq, rfl, rfl⟩ env_ sel_))
                      | (have hq := chk4 (o := o) (by omega)
                         first
                           | (rw [decide_eq_false (by omega)] at hq
                              exact mid_normal ⟨false, ⟨o.f0, o.f1, 0, ⟨#[]⟩⟩, hq, rfl, rfl⟩ env_ sel_)
                           | (rw [decide_eq_true (by omega)] at hq
                              exact mid_normal ⟨true, ⟨o.f0, o.f1, 0, ⟨#[]⟩⟩, hq, rfl, rfl⟩ env_ sel_)
                           | (rw [decide_eq_decide.2 (show _ ↔ o.f1 ≤ 7 by omega)] at hq
                              exact mid_normal ⟨decide (o.f1 ≤ 7), ⟨o.f0, o.f1, 0, ⟨#[]⟩⟩, hq, rfl, rfl⟩ env_ sel_))
                      | (have hq := chk5 (o := o) (by omega)
                         first
                           | (rw [decide_eq_false (by omega)] at hq
                              exact mid_normal ⟨false, ⟨o.f0, o.f1, 0, ⟨#[]⟩⟩, hq, rfl, rfl⟩ env_ sel_)
                           | (rw [decide_eq_true (by omega)] at hq
                              exact mid_normal ⟨true, ⟨o.f0, o.f1, 0, ⟨#[]⟩⟩, hq, rfl, rfl⟩ env_ sel_))
                  · refine w_skip ?_
                    refine seq_normal ?_
                    refine w_exit ?_
                    refine block_miss rfl ?_
                    refine seq_exit ?_
                    refine block_miss rfl ?_
                    refine seq_exit ?_
                    refine block_miss rfl ?_
                    refine seq_exit ?_
                    refine block_miss rfl ?_
                    refine seq_exit ?_
                    refine block_hit rfl ?_
                    refine seq_normal ?_
                    refine w_seq ?_
                    refine w_region ?_
                    refine w_o rfl rfl rfl (op_assign rfl ?_)
                    refine w_end ?_
                    refine seq_normal ?_
                    refine w_exit ?_
                    refine block_hit rfl ?_
                    first
                      | exact mid_normal ⟨plainL (bl o.f3), ⟨o.f0, 0, 0, o.f3⟩, chk0 hI1, rfl, rfl⟩ env_ sel_
                      | (have hq := chkz (o := o) (by omega)
                         exact mid_normal ⟨true, ⟨o.f0, 0, 0, ⟨#[]⟩⟩, hq, rfl, rfl⟩ env_ sel_)
                      | (have hq := chkn (o := o) (by omega)
                         exact mid_normal ⟨false, ⟨o.f0, 0, 0, ⟨#[]⟩⟩, hq, rfl, rfl⟩ env_ sel_)
                      | (have hq := chk1 (o := o) (by omega)
                         first
                           | (rw [decide_eq_false (by omega)] at hq
                              exact mid_normal ⟨false, ⟨o.f0, o.f1, o.f2, ⟨#[]⟩⟩, hq, rfl, rfl⟩ env_ sel_)
                           | (rw [decide_eq_decide.2 (show _ ↔ o.f1 ≤ 1000 by omega)] at hq
                              exact mid_normal ⟨decide (o.f1 ≤ 1000), ⟨o.f0, o.f1, o.f2, ⟨#[]⟩⟩, hq, rfl, rfl⟩ env_ sel_))
                      | (have hq := chk4 (o := o) (by omega)
                         first
                           | (rw [decide_eq_false (by omega)] at hq
                              exact mid_normal ⟨false, ⟨o.f0, o.f1, 0, ⟨#[]⟩⟩, hq, rfl, rfl⟩ env_ sel_)
                           | (rw [decide_eq_true (by omega)] at hq
                              exact mid_normal ⟨true, ⟨o.f0, o.f1, 0, ⟨#[]⟩⟩, hq, rfl, rfl⟩ env_ sel_)
                           | (rw [decide_eq_decide.2 (show _ ↔ o.f1 ≤ 7 by omega)] at hq
                              exact mid_normal ⟨decide (o.f1 ≤ 7), ⟨o.f0, o.f1, 0, ⟨#[]⟩⟩, hq, rfl, rfl⟩ env_ sel_))
                      | (have hq := chk5 (o := o) (by omega)
                         first
                           | (rw [decide_eq_false (by omega)] at hq
                              exact mid_normal ⟨false, ⟨o.f0, o.f1, 0, ⟨#[]⟩⟩, hq, rfl, rfl⟩ env_ sel_)
                           | (rw [decide_eq_true (by omega)] at hq
                              exact mid_normal ⟨true, ⟨o.f0, o.f1, 0, ⟨#[]⟩⟩, hq, rfl, rfl⟩ env_ sel_))
                · refine w_seq ?_
                  refine w_region ?_
                  refine w_o rfl rfl rfl (op_eq rfl rfl ?_)
                  refine w_o rfl rfl rfl (op_assign rfl ?_)
                  refine w_end ?_
                  refine seq_normal ?_
                  first | refine w_cond rfl (fun hI8 => ?_) (fun hI8 => ?_) | refine w_condB rfl (fun hI8 => ?_) (fun hI8 => ?_)
                  · refine w_skip ?_
                    refine seq_normal ?_
                    first | refine w_cond rfl (fun hI9 => ?_) (fun hI9 => ?_) | refine w_condB rfl (fun hI9 => ?_) (fun hI9 => ?_)
                    · refine w_exit ?_
                      refine seq_exit ?_
                      refine block_miss rfl ?_
                      refine seq_exit ?_
                      refine block_miss rfl ?_
                      refine seq_exit ?_
                      refine block_miss rfl ?_
                      refine seq_exit ?_
                      refine block_hit rfl ?_
                      refine seq_normal ?_
                      refine w_exit ?_
                      refine block_miss rfl ?_
                      refine seq_exit ?_
                      refine block_hit rfl ?_
                      first
                        | exact mid_normal ⟨plainL (bl o.f3), ⟨o.f0, 0, 0, o.f3⟩, chk0 hI1, rfl, rfl⟩ env_ sel_
                        | (have hq := chkz (o := o) (by omega)
                           exact mid_normal ⟨true, ⟨o.f0, 0, 0, ⟨#[]⟩⟩, hq, rfl, rfl⟩ env_ sel_)
                        | (have hq := chkn (o := o) (by omega)
                           exact mid_normal ⟨false, ⟨o.f0, 0, 0, ⟨#[]⟩⟩, hq, rfl, rfl⟩ env_ sel_)
                        | (have hq := chk1 (o := o) (by omega)
                           first
                             | (rw [decide_eq_false (by omega)] at hq
                                exact mid_normal ⟨false, ⟨o.f0, o.f1, o.f2, ⟨#[]⟩⟩, hq, rfl, rfl⟩ env_ sel_)
                             | (rw [decide_eq_decide.2 (show _ ↔ o.f1 ≤ 1000 by omega)] at hq
                                exact mid_normal ⟨decide (o.f1 ≤ 1000), ⟨o.f0, o.f1, o.f2, ⟨#[]⟩⟩, hq, rfl, rfl⟩ env_ sel_))
                        | (have hq := chk4 (o := o) (by omega)
                           first
                             | (rw [decide_eq_false (by omega)] at hq
                                exact mid_normal ⟨false, ⟨o.f0, o.f1, 0, ⟨#[]⟩⟩, hq, rfl, rfl⟩ env_ sel_)
                             | (rw [decide_eq_true (by omega)] at hq
                                exact mid_normal ⟨true, ⟨o.f0, o.f1, 0, ⟨#[]⟩⟩, hq, rfl, rfl⟩ env_ sel_)
                             | (rw [decide_eq_decide.2 (show _ ↔ o.f1 ≤ 7 by omega)] at hq
                                exact mid_normal ⟨decide (o.f1 ≤ 7), ⟨o.f0, o.f1, 0, ⟨#[]⟩⟩, hq, rfl, rfl⟩ env_ sel_))
                        | (have hq := chk5 (o := o) (by omega)
                           first
                             | (rw [decide_eq_false (by omega)] at hq
                                exact mid_normal ⟨false, ⟨o.f0, o.f1, 0, ⟨#[]⟩⟩, hq, rfl, rfl⟩ env_ sel_)
                             | (rw [decide_eq_true (by omega)] at hq
                                exact mid_normal ⟨true, ⟨o.f0, o.f1, 0, ⟨#[]⟩⟩, hq, rfl, rfl⟩ env_ sel_))
                    · refine w_skip ?_
                      refine seq_normal ?_
                      refine w_exit ?_
                      refine block_miss rfl ?_
                      refine seq_exit ?_
                      refine block_miss rfl ?_
                      refine seq_exit ?_
                      refine block_miss rfl ?_
                      refine seq_exit ?_
                      refine block_miss rfl ?_
                      refine seq_exit ?_
                      refine block_hit rfl ?_
                      refine seq_normal ?_
                      refine w_seq ?_
                      refine w_region ?_
                      refine w_o rfl rfl rfl (op_assign rfl ?_)
                      refine w_end ?_
                      refine seq_normal ?_
                      refine w_exit ?_
                      refine block_hit rfl ?_
                      first
                        | exact mid_normal ⟨plainL (bl o.f3), ⟨o.f0, 0, 0, o.f3⟩, chk0 hI1, rfl, rfl⟩ env_ sel_
                        | (have hq := chkz (o := o) (by omega)
                           exact mid_normal ⟨true, ⟨o.f0, 0, 0, ⟨#[]⟩⟩, hq, rfl, rfl⟩ env_ sel_)
                        | (have hq := chkn (o := o) (by omega)
                           exact mid_normal ⟨false, ⟨o.f0, 0, 0, ⟨#[]⟩⟩, hq, rfl, rfl⟩ env_ sel_)
                        | (have hq := chk1 (o := o) (by omega)
                           first
                             | (rw [decide_eq_false (by omega)] at hq
                                exact mid_normal ⟨false, ⟨o.f0, o.f1, o.f2, ⟨#[]⟩⟩, hq, rfl, rfl⟩ env_ sel_)
                             | (rw [decide_eq_decide.2 (show _ ↔ o.f1 ≤ 1000 by omega)] at hq
                                exact mid_normal ⟨decide (o.f1 ≤ 1000), ⟨o.f0, o.f1, o.f2, ⟨#[]⟩⟩, hq, rfl, rfl⟩ env_ sel_))
                        | (have hq := chk4 (o := o) (by omega)
                           first
                             | (rw [decide_eq_false (by omega)] at hq
                                exact mid_normal ⟨false, ⟨o.f0, o.f1, 0, ⟨#[]⟩⟩, hq, rfl, rfl⟩ env_ sel_)
                             | (rw [decide_eq_true (by omega)] at hq
                                exact mid_normal ⟨true, ⟨o.f0, o.f1, 0, ⟨#[]⟩⟩, hq, rfl, rfl⟩ env_ sel_)
                             | (rw [decide_eq_decide.2 (show _ ↔ o.f1 ≤ 7 by omega)] at hq
                                exact mid_normal ⟨decide (o.f1 ≤ 7), ⟨o.f0, o.f1, 0, ⟨#[]⟩⟩, hq, rfl, rfl⟩ env_ sel_))
                        | (have hq := chk5 (o := o) (by omega)
                           first
                             | (rw [decide_eq_false (by omega)] at hq
                                exact mid_normal ⟨false, ⟨o.f0, o.f1, 0, ⟨#[]⟩⟩, hq, rfl, rfl⟩ env_ sel_)
                             | (rw [decide_eq_true (by omega)] at hq
                                exact mid_normal ⟨true, ⟨o.f0, o.f1, 0, ⟨#[]⟩⟩, hq, rfl, rfl⟩ env_ sel_))
                  · refine w_region ?_
                    refine w_o rfl rfl rfl (op_eq rfl rfl ?_)
                    refine w_o rfl rfl rfl (op_assign rfl ?_)
                    refine w_end ?_
                    refine seq_normal ?_
                    first | refine w_cond rfl (fun hI9 => ?_) (fun hI9 => ?_) | refine w_condB rfl (fun hI9 => ?_) (fun hI9 => ?_)
                    · refine w_exit ?_
                      refine seq_exit ?_
                      refine block_miss rfl ?_
                      refine seq_exit ?_
                      refine block_miss rfl ?_
                      refine seq_exit ?_
                      refine block_miss rfl ?_
                      refine seq_exit ?_
                      refine block_hit rfl ?_
                      refine seq_normal ?_
                      refine w_exit ?_
                      refine block_miss rfl ?_
                      refine seq_exit ?_
                      refine block_hit rfl ?_
                      first
                        | exact mid_normal ⟨plainL (bl o.f3), ⟨o.f0, 0, 0, o.f3⟩, chk0 hI1, rfl, rfl⟩ env_ sel_
                        | (have hq := chkz (o := o) (by omega)
                           exact mid_normal ⟨true, ⟨o.f0, 0, 0, ⟨#[]⟩⟩, hq, rfl, rfl⟩ env_ sel_)
                        | (have hq := chkn (o := o) (by omega)
                           exact mid_normal ⟨false, ⟨o.f0, 0, 0, ⟨#[]⟩⟩, hq, rfl, rfl⟩ env_ sel_)
                        | (have hq := chk1 (o := o) (by omega)
                           first
                             | (rw [decide_eq_false (by omega)] at hq
                                exact mid_normal ⟨false, ⟨o.f0, o.f1, o.f2, ⟨#[]⟩⟩, hq, rfl, rfl⟩ env_ sel_)
                             | (rw [decide_eq_decide.2 (show _ ↔ o.f1 ≤ 1000 by omega)] at hq
                                exact mid_normal ⟨decide (o.f1 ≤ 1000), ⟨o.f0, o.f1, o.f2, ⟨#[]⟩⟩, hq, rfl, rfl⟩ env_ sel_))
                        | (have hq := chk4 (o := o) (by omega)
                           first
                             | (rw [decide_eq_false (by omega)] at hq
                                exact mid_normal ⟨false, ⟨o.f0, o.f1, 0, ⟨#[]⟩⟩, hq, rfl, rfl⟩ env_ sel_)
                             | (rw [decide_eq_true (by omega)] at hq
                                exact mid_normal ⟨true, ⟨o.f0, o.f1, 0, ⟨#[]⟩⟩, hq, rfl, rfl⟩ env_ sel_)
                             | (rw [decide_eq_decide.2 (show _ ↔ o.f1 ≤ 7 by omega)] at hq
                                exact mid_normal ⟨decide (o.f1 ≤ 7), ⟨o.f0, o.f1, 0, ⟨#[]⟩⟩, hq, rfl, rfl⟩ env_ sel_))
                        | (have hq := chk5 (o := o) (by omega)
                           first
                             | (rw [decide_eq_false (by omega)] at hq
                                exact mid_normal ⟨false, ⟨o.f0, o.f1, 0, ⟨#[]⟩⟩, hq, rfl, rfl⟩ env_ sel_)
                             | (rw [decide_eq_true (by omega)] at hq
                                exact mid_normal ⟨true, ⟨o.f0, o.f1, 0, ⟨#[]⟩⟩, hq, rfl, rfl⟩ env_ sel_))
                    · refine w_skip ?_
                      refine seq_normal ?_
                      refine w_exit ?_
                      refine block_miss rfl ?_
                      refine seq_exit ?_
                      refine block_miss rfl ?_
                      refine seq_exit ?_
                      refine block_miss rfl ?_
                      refine seq_exit ?_
                      refine block_miss rfl ?_
                      refine seq_exit ?_
                      refine block_hit rfl ?_
                      refine seq_normal ?_
                      refine w_seq ?_
                      refine w_region ?_
                      refine w_o rfl rfl rfl (op_assign rfl ?_)
                      refine w_end ?_
                      refine seq_normal ?_
                      refine w_exit ?_
                      refine block_hit rfl ?_
                      first
                        | exact mid_normal ⟨plainL (bl o.f3), ⟨o.f0, 0, 0, o.f3⟩, chk0 hI1, rfl, rfl⟩ env_ sel_
                        | (have hq := chkz (o := o) (by omega)
                           exact mid_normal ⟨true, ⟨o.f0, 0, 0, ⟨#[]⟩⟩, hq, rfl, rfl⟩ env_ sel_)
                        | (have hq := chkn (o := o) (by omega)
                           exact mid_normal ⟨false, ⟨o.f0, 0, 0, ⟨#[]⟩⟩, hq, rfl, rfl⟩ env_ sel_)
                        | (have hq := chk1 (o := o) (by omega)
                           first
                             | (rw [decide_eq_false (by omega)] at hq
                                exact mid_normal ⟨false, ⟨o.f0, o.f1, o.f2, ⟨#[]⟩⟩, hq, rfl, rfl⟩ env_ sel_)
                             | (rw [decide_eq_decide.2 (show _ ↔ o.f1 ≤ 1000 by omega)] at hq
                                exact mid_normal ⟨decide (o.f1 ≤ 1000), ⟨o.f0, o.f1, o.f2, ⟨#[]⟩⟩, hq, rfl, rfl⟩ env_ sel_))
                        | (have hq := chk4 (o := o) (by omega)
                           first
                             | (rw [decide_eq_false (by omega)] at hq
                                exact mid_normal ⟨false, ⟨o.f0, o.f1, 0, ⟨#[]⟩⟩, hq, rfl, rfl⟩ env_ sel_)
                             | (rw [decide_eq_true (by omega)] at hq
                                exact mid_normal ⟨true, ⟨o.f0, o.f1, 0, ⟨#[]⟩⟩, hq, rfl, rfl⟩ env_ sel_)
                             | (rw [decide_eq_decide.2 (show _ ↔ o.f1 ≤ 7 by omega)] at hq
                                exact mid_normal ⟨decide (o.f1 ≤ 7), ⟨o.f0, o.f1, 0, ⟨#[]⟩⟩, hq, rfl, rfl⟩ env_ sel_))
                        | (have hq := chk5 (o := o) (by omega)
                           first
                             | (rw [decide_eq_false (by omega)] at hq
                                exact mid_normal ⟨false, ⟨o.f0, o.f1, 0, ⟨#[]⟩⟩, hq, rfl, rfl⟩ env_ sel_)
                             | (rw [decide_eq_true (by omega)] at hq
                                exact mid_normal ⟨true, ⟨o.f0, o.f1, 0, ⟨#[]⟩⟩, hq, rfl, rfl⟩ env_ sel_))
        · refine w_region ?_
          refine w_o rfl rfl rfl (op_eq rfl rfl ?_)
          refine w_o rfl rfl rfl (op_assign rfl ?_)
          refine w_end ?_
          refine seq_normal ?_
          first | refine w_cond rfl (fun hI4 => ?_) (fun hI4 => ?_) | refine w_condB rfl (fun hI4 => ?_) (fun hI4 => ?_)
          · refine w_exit ?_
            refine seq_exit ?_
            refine seq_exit ?_
            refine block_miss rfl ?_
            refine seq_exit ?_
            refine block_miss rfl ?_
            refine seq_exit ?_
            refine block_hit rfl ?_
            refine seq_normal ?_
            refine w_seq ?_
            refine w_seq ?_
            refine w_region ?_
            refine w_o rfl rfl rfl (op_fieldAddr fa_31_1 rfl ?_)
            refine w_o rfl rfl rfl (op_loadF agg_3 rfl el_ rfl ?_)
            refine w_o rfl rfl rfl (op_fieldAddr fa_31_1 rfl ?_)
            refine w_on rfl rfl (op_store siz_3 rfl rfl rfl (by (repeat (first | exact Pick.head _ _ _ | apply Pick.tail | apply Pick.app)); first | done | fail) (Nat.le_of_ble_eq_true rfl) rfl ?_)
            refine w_end ?_
            refine seq_normal ?_
            refine w_seq ?_
            refine w_region ?_
            refine w_o rfl rfl rfl (op_fieldAddr fa_31_0 rfl ?_)
            refine w_o rfl rfl rfl (op_loadF agg_3 rfl el_ rfl ?_)
            refine w_o rfl rfl rfl (op_ne rfl rfl ?_)
            refine w_end ?_
            refine seq_normal ?_
            first | refine w_cond rfl (fun hI10 => ?_) (fun hI10 => ?_) | refine w_condB rfl (fun hI10 => ?_) (fun hI10 => ?_)
            · try (exfalso; omega)
              all_goals
                refine w_region ?_
                refine w_o rfl rfl rfl (op_fieldAddr fa_31_1 rfl ?_)
                refine w_o rfl rfl rfl (op_loadF agg_3 rfl el_ rfl ?_)
                refine w_o rfl rfl rfl (op_ge rfl rfl ?_)
                refine w_o rfl rfl rfl (op_move rfl ?_)
                first | refine w_known (t := 59) rfl (fun g59 => ?_) (fun g59 => ?_) | refine w_knownB (t := 59) rfl (fun g59 => ?_) (fun g59 => ?_)
                · refine w_og rfl rfl rfl rfl rfl (op_fieldAddr fa_31_1 rfl ?_)
                  refine w_og rfl rfl rfl rfl rfl (op_loadF agg_3 rfl el_ rfl ?_)
                  refine w_og rfl rfl rfl rfl rfl (op_le rfl rfl ?_)
                  refine w_og rfl rfl rfl rfl rfl (op_move rfl ?_)
                  first | refine w_known (t := 63) rfl (fun g63 => ?_) (fun g63 => ?_) | refine w_knownB (t := 63) rfl (fun g63 => ?_) (fun g63 => ?_)
                  · refine w_u rfl rfl rfl rfl rfl rfl ?_
                    refine w_u rfl rfl rfl rfl rfl rfl ?_
                    refine w_u rfl rfl rfl rfl rfl rfl ?_
                    refine w_u rfl rfl rfl rfl rfl rfl ?_
                    refine w_u rfl rfl rfl rfl rfl rfl ?_
                    refine w_u rfl rfl rfl rfl rfl rfl ?_
                    refine w_u rfl rfl rfl rfl rfl rfl ?_
                    refine w_u rfl rfl rfl rfl rfl rfl ?_
                    refine w_og rfl rfl rfl rfl rfl (op_pick rfl rfl rfl ?_)
                    refine w_o rfl rfl rfl (op_pick rfl rfl rfl ?_)
                    refine w_o rfl rfl rfl (op_assign rfl ?_)
                    refine w_end ?_
                    refine seq_normal ?_
                    refine w_exit ?_
                    refine block_miss rfl ?_
                    refine seq_exit ?_
                    refine block_miss rfl ?_
                    refine seq_exit ?_
                    refine block_hit rfl ?_
                    first
                      | exact mid_normal ⟨plainL (bl o.f3), ⟨o.f0, 0, 0, o.f3⟩, chk0 hI1, rfl, rfl⟩ env_ sel_
                      | (have hq := chkz (o := o) (by omega)
                         exact mid_normal ⟨true, ⟨o.f0, 0, 0, ⟨#[]⟩⟩, hq, rfl, rfl⟩ env_ sel_)
                      | (have hq := chkn (o := o) (by omega)
                         exact mid_normal ⟨false, ⟨o.f0, 0, 0, ⟨#[]⟩⟩, hq, rfl, rfl⟩ env_ sel_)
                      | (have hq := chk1 (o := o) (by omega)
                         first
                           | (rw [decide_eq_false (by omega)] at hq
                              exact mid_normal ⟨false, ⟨o.f0, o.f1, o.f2, ⟨#[]⟩⟩, hq, rfl, rfl⟩ env_ sel_)
                           | (rw [decide_eq_decide.2 (show _ ↔ o.f1 ≤ 1000 by omega)] at hq
                              exact mid_normal ⟨decide (o.f1 ≤ 1000), ⟨o.f0, o.f1, o.f2, ⟨#[]⟩⟩, hq, rfl, rfl⟩ env_ sel_))
                      | (have hq := chk4 (o := o) (by omega)
                         first
                           | (rw [decide_eq_false (by omega)] at hq
                              exact mid_normal ⟨false, ⟨o.f0, o.f1, 0, ⟨#[]⟩⟩, hq, rfl, rfl⟩ env_ sel_)
                           | (rw [decide_eq_true (by omega)] at hq
                              exact mid_normal ⟨true, ⟨o.f0, o.f1, 0, ⟨#[]⟩⟩, hq, rfl, rfl⟩ env_ sel_)
                           | (rw [decide_eq_decide.2 (show _ ↔ o.f1 ≤ 7 by omega)] at hq
                              exact mid_normal ⟨decide (o.f1 ≤ 7), ⟨o.f0, o.f1, 0, ⟨#[]⟩⟩, hq, rfl, rfl⟩ env_ sel_))
                      | (have hq := chk5 (o := o) (by omega)
                         first
                           | (rw [decide_eq_false (by omega)] at hq
                              exact mid_normal ⟨false, ⟨o.f0, o.f1, 0, ⟨#[]⟩⟩, hq, rfl, rfl⟩ env_ sel_)
                           | (rw [decide_eq_true (by omega)] at hq
                              exact mid_normal ⟨true, ⟨o.f0, o.f1, 0, ⟨#[]⟩⟩, hq, rfl, rfl⟩ env_ sel_))
                  · refine w_og rfl rfl rfl rfl rfl (op_fieldAddr fa_31_0 rfl ?_)
                    refine w_og rfl rfl rfl rfl rfl (op_loadF agg_3 rfl el_ rfl ?_)
                    refine w_og rfl rfl rfl rfl rfl (op_eq rfl rfl ?_)
                    refine w_og rfl rfl rfl rfl rfl (op_move rfl ?_)
                    first | refine w_known (t := 67) rfl (fun g67 => ?_) (fun g67 => ?_) | refine w_knownB (t := 67) rfl (fun g67 => ?_) (fun g67 => ?_)
                    · refine w_og rfl rfl rfl rfl rfl (op_fieldAddr fa_31_1 rfl ?_)
                      refine w_og rfl rfl rfl rfl rfl (op_loadF agg_3 rfl el_ rfl ?_)
                      refine w_og rfl rfl rfl rfl rfl (op_le rfl rfl ?_)
                      refine w_og rfl rfl rfl rfl rfl (op_pick rfl rfl rfl ?_)
                      refine w_og rfl rfl rfl rfl rfl (op_pick rfl rfl rfl ?_)
                      refine w_o rfl rfl rfl (op_pick rfl rfl rfl ?_)
                      refine w_o rfl rfl rfl (op_assign rfl ?_)
                      refine w_end ?_
                      refine seq_normal ?_
                      refine w_exit ?_
                      refine block_miss rfl ?_
                      refine seq_exit ?_
                      refine block_miss rfl ?_
                      refine seq_exit ?_
                      refine block_hit rfl ?_
                      first
                        | exact mid_normal ⟨plainL (bl o.f3), ⟨o.f0, 0, 0, o.f3⟩, chk0 hI1, rfl, rfl⟩ env_ sel_
                        | (have hq := chkz (o := o) (by omega)
                           exact mid_normal ⟨true, ⟨o.f0, 0, 0, ⟨#[]⟩⟩, hq, rfl, rfl⟩ env_ sel_)
                        | (have hq := chkn (o := o) (by omega)
                           exact mid_normal ⟨false, ⟨o.f0, 0, 0, ⟨#[]⟩⟩, hq, rfl, rfl⟩ env_ sel_)
                        | (have hq := chk1 (o := o) (by omega)
                           first
                             | (rw [decide_eq_false (by omega)] at hq
                                exact mid_normal ⟨false, ⟨o.f0, o.f1, o.f2, ⟨#[]⟩⟩, hq, rfl, rfl⟩ env_ sel_)
                             | (rw [decide_eq_decide.2 (show _ ↔ o.f1 ≤ 1000 by omega)] at hq
                                exact mid_normal ⟨decide (o.f1 ≤ 1000), ⟨o.f0, o.f1, o.f2, ⟨#[]⟩⟩, hq, rfl, rfl⟩ env_ sel_))
                        | (have hq := chk4 (o := o) (by omega)
                           first
                             | (rw [decide_eq_false (by omega)] at hq
                                exact mid_normal ⟨false, ⟨o.f0, o.f1, 0, ⟨#[]⟩⟩, hq, rfl, rfl⟩ env_ sel_)
                             | (rw [decide_eq_true (by omega)] at hq
                                exact mid_normal ⟨true, ⟨o.f0, o.f1, 0, ⟨#[]⟩⟩, hq, rfl, rfl⟩ env_ sel_)
                             | (rw [decide_eq_decide.2 (show _ ↔ o.f1 ≤ 7 by omega)] at hq
                                exact mid_normal ⟨decide (o.f1 ≤ 7), ⟨o.f0, o.f1, 0, ⟨#[]⟩⟩, hq, rfl, rfl⟩ env_ sel_))
                        | (have hq := chk5 (o := o) (by omega)
                           first
                             | (rw [decide_eq_false (by omega)] at hq
                                exact mid_normal ⟨false, ⟨o.f0, o.f1, 0, ⟨#[]⟩⟩, hq, rfl, rfl⟩ env_ sel_)
                             | (rw [decide_eq_true (by omega)] at hq
                                exact mid_normal ⟨true, ⟨o.f0, o.f1, 0, ⟨#[]⟩⟩, hq, rfl, rfl⟩ env_ sel_))
                    · refine w_u rfl rfl rfl rfl rfl rfl ?_
                      refine w_u rfl rfl rfl rfl rfl rfl ?_
                      refine w_u rfl rfl rfl rfl rfl rfl ?_
                      refine w_og rfl rfl rfl rfl rfl (op_pick rfl rfl rfl ?_)
                      refine w_og rfl rfl rfl rfl rfl (op_pick rfl rfl rfl ?_)
                      refine w_o rfl rfl rfl (op_pick rfl rfl rfl ?_)
                      refine w_o rfl rfl rfl (op_assign rfl ?_)
                      refine w_end ?_
                      refine seq_normal ?_
                      refine w_exit ?_
                      refine block_miss rfl ?_
                      refine seq_exit ?_
                      refine block_miss rfl ?_
                      refine seq_exit ?_
                      refine block_hit rfl ?_
                      first
                        | exact mid_normal ⟨plainL (bl o.f3), ⟨o.f0, 0, 0, o.f3⟩, chk0 hI1, rfl, rfl⟩ env_ sel_
                        | (have hq := chkz (o := o) (by omega)
                           exact mid_normal ⟨true, ⟨o.f0, 0, 0, ⟨#[]⟩⟩, hq, rfl, rfl⟩ env_ sel_)
                        | (have hq := chkn (o := o) (by omega)
                           exact mid_normal ⟨false, ⟨o.f0, 0, 0, ⟨#[]⟩⟩, hq, rfl, rfl⟩ env_ sel_)
                        | (have hq := chk1 (o := o) (by omega)
                           first
                             | (rw [decide_eq_false (by omega)] at hq
                                exact mid_normal ⟨false, ⟨o.f0, o.f1, o.f2, ⟨#[]⟩⟩, hq, rfl, rfl⟩ env_ sel_)
                             | (rw [decide_eq_decide.2 (show _ ↔ o.f1 ≤ 1000 by omega)] at hq
                                exact mid_normal ⟨decide (o.f1 ≤ 1000), ⟨o.f0, o.f1, o.f2, ⟨#[]⟩⟩, hq, rfl, rfl⟩ env_ sel_))
                        | (have hq := chk4 (o := o) (by omega)
                           first
                             | (rw [decide_eq_false (by omega)] at hq
                                exact mid_normal ⟨false, ⟨o.f0, o.f1, 0, ⟨#[]⟩⟩, hq, rfl, rfl⟩ env_ sel_)
                             | (rw [decide_eq_true (by omega)] at hq
                                exact mid_normal ⟨true, ⟨o.f0, o.f1, 0, ⟨#[]⟩⟩, hq, rfl, rfl⟩ env_ sel_)
                             | (rw [decide_eq_decide.2 (show _ ↔ o.f1 ≤ 7 by omega)] at hq
                                exact mid_normal ⟨decide (o.f1 ≤ 7), ⟨o.f0, o.f1, 0, ⟨#[]⟩⟩, hq, rfl, rfl⟩ env_ sel_))
                        | (have hq := chk5 (o := o) (by omega)
                           first
                             | (rw [decide_eq_false (by omega)] at hq
                                exact mid_normal ⟨false, ⟨o.f0, o.f1, 0, ⟨#[]⟩⟩, hq, rfl, rfl⟩ env_ sel_)
                             | (rw [decide_eq_true (by omega)] at hq
                                exact mid_normal ⟨true, ⟨o.f0, o.f1, 0, ⟨#[]⟩⟩, hq, rfl, rfl⟩ env_ sel_))
                · refine w_u rfl rfl rfl rfl rfl rfl ?_
                  refine w_u rfl rfl rfl rfl rfl rfl ?_
                  refine w_u rfl rfl rfl rfl rfl rfl ?_
                  refine w_u rfl rfl rfl rfl rfl rfl ?_
                  refine w_u rfl rfl rfl rfl rfl rfl ?_
                  refine w_u rfl rfl rfl rfl rfl rfl ?_
                  refine w_u rfl rfl rfl rfl rfl rfl ?_
                  refine w_u rfl rfl rfl rfl rfl rfl ?_
                  refine w_u rfl rfl rfl rfl rfl rfl ?_
                  refine w_u rfl rfl rfl rfl rfl rfl ?_
                  refine w_u rfl rfl rfl rfl rfl rfl ?_
                  refine w_u rfl rfl rfl rfl rfl rfl ?_
                  refine w_u rfl rfl rfl rfl rfl rfl ?_
                  refine w_o rfl rfl rfl (op_pick rfl rfl rfl ?_)
                  refine w_o rfl rfl rfl (op_assign rfl ?_)
                  refine w_end ?_
                  refine seq_normal ?_
                  refine w_exit ?_
                  refine block_miss rfl ?_
                  refine seq_exit ?_
                  refine block_miss rfl ?_
                  refine seq_exit ?_
                  refine block_hit rfl ?_
                  first
                    | exact mid_normal ⟨plainL (bl o.f3), ⟨o.f0, 0, 0, o.f3⟩, chk0 hI1, rfl, rfl⟩ env_ sel_
                    | (have hq := chkz (o := o) (by omega)
                       exact mid_normal ⟨true, ⟨o.f0, 0, 0, ⟨#[]⟩⟩, hq, rfl, rfl⟩ env_ sel_)
                    | (have hq := chkn (o := o) (by omega)
                       exact mid_normal ⟨false, ⟨o.f0, 0, 0, ⟨#[]⟩⟩, hq, rfl, rfl⟩ env_ sel_)
                    | (have hq := chk1 (o := o) (by omega)
                       first
                         | (rw [decide_eq_false (by omega)] at hq
                            exact mid_normal ⟨false, ⟨o.f0, o.f1, o.f2, ⟨#[]⟩⟩, hq, rfl, rfl⟩ env_ sel_)
                         | (rw [decide_eq_decide.2 (show _ ↔ o.f1 ≤ 1000 by omega)] at hq
                            exact mid_normal ⟨decide (o.f1 ≤ 1000), ⟨o.f0, o.f1, o.f2, ⟨#[]⟩⟩, hq, rfl, rfl⟩ env_ sel_))
                    | (have hq := chk4 (o := o) (by omega)
                       first
                         | (rw [decide_eq_false (by omega)] at hq
                            exact mid_normal ⟨false, ⟨o.f0, o.f1, 0, ⟨#[]⟩⟩, hq, rfl, rfl⟩ env_ sel_)
                         | (rw [decide_eq_true (by omega)] at hq
                            exact mid_normal ⟨true, ⟨o.f0, o.f1, 0, ⟨#[]⟩⟩, hq, rfl, rfl⟩ env_ sel_)
                         | (rw [decide_eq_decide.2 (show _ ↔ o.f1 ≤ 7 by omega)] at hq
                            exact mid_normal ⟨decide (o.f1 ≤ 7), ⟨o.f0, o.f1, 0, ⟨#[]⟩⟩, hq, rfl, rfl⟩ env_ sel_))
                    | (have hq := chk5 (o := o) (by omega)
                       first
                         | (rw [decide_eq_false (by omega)] at hq
                            exact mid_normal ⟨false, ⟨o.f0, o.f1, 0, ⟨#[]⟩⟩, hq, rfl, rfl⟩ env_ sel_)
                         | (rw [decide_eq_true (by omega)] at hq
                            exact mid_normal ⟨true, ⟨o.f0, o.f1, 0, ⟨#[]⟩⟩, hq, rfl, rfl⟩ env_ sel_))
            · try (exfalso; omega)
              all_goals
                refine w_skip ?_
                refine seq_normal ?_
                refine w_exit ?_
                refine block_miss rfl ?_
                refine seq_exit ?_
                refine block_miss rfl ?_
                refine seq_exit ?_
                refine block_hit rfl ?_
                first
                  | exact mid_normal ⟨plainL (bl o.f3), ⟨o.f0, 0, 0, o.f3⟩, chk0 hI1, rfl, rfl⟩ env_ sel_
                  | (have hq := chkz (o := o) (by omega)
                     exact mid_normal ⟨true, ⟨o.f0, 0, 0, ⟨#[]⟩⟩, hq, rfl, rfl⟩ env_ sel_)
                  | (have hq := chkn (o := o) (by omega)
                     exact mid_normal ⟨false, ⟨o.f0, 0, 0, ⟨#[]⟩⟩, hq, rfl, rfl⟩ env_ sel_)
                  | (have hq := chk1 (o := o) (by omega)
                     first
                       | (rw [decide_eq_false (by omega)] at hq
                          exact mid_normal ⟨false, ⟨o.f0, o.f1, o.f2, ⟨#[]⟩⟩, hq, rfl, rfl⟩ env_ sel_)
                       | (rw [decide_eq_decide.2 (show _ ↔ o.f1 ≤ 1000 by omega)] at hq
                          exact mid_normal ⟨decide (o.f1 ≤ 1000), ⟨o.f0, o.f1, o.f2, ⟨#[]⟩⟩, hq, rfl, rfl⟩ env_ sel_))
                  | (have hq := chk4 (o := o) (by omega)
                     first
                       | (rw [decide_eq_false (by omega)] at hq
                          exact mid_normal ⟨false, ⟨o.f0, o.f1, 0, ⟨#[]⟩⟩, hq, rfl, rfl⟩ env_ sel_)
                       | (rw [decide_eq_true (by omega)] at hq
                          exact mid_normal ⟨true, ⟨o.f0, o.f1, 0, ⟨#[]⟩⟩, hq, rfl, rfl⟩ env_ sel_)
                       | (rw [decide_eq_decide.2 (show _ ↔ o.f1 ≤ 7 by omega)] at hq
                          exact mid_normal ⟨decide (o.f1 ≤ 7), ⟨o.f0, o.f1, 0, ⟨#[]⟩⟩, hq, rfl, rfl⟩ env_ sel_))
                  | (have hq := chk5 (o := o) (by omega)
                     first
                       | (rw [decide_eq_false (by omega)] at hq
                          exact mid_normal ⟨false, ⟨o.f0, o.f1, 0, ⟨#[]⟩⟩, hq, rfl, rfl⟩ env_ sel_)
                       | (rw [decide_eq_true (by omega)] at hq
                          exact mid_normal ⟨true, ⟨o.f0, o.f1, 0, ⟨#[]⟩⟩, hq, rfl, rfl⟩ env_ sel_))
          · refine w_skip ?_
            refine seq_normal ?_
            refine w_seq ?_
            refine w_seq ?_
            refine w_region ?_
            refine w_o rfl rfl rfl (op_eq rfl rfl ?_)
            refine w_o rfl rfl rfl (op_assign rfl ?_)
            refine w_end ?_
            refine seq_normal ?_
            first | refine w_cond rfl (fun hI5 => ?_) (fun hI5 => ?_) | refine w_condB rfl (fun hI5 => ?_) (fun hI5 => ?_)
            · refine w_skip ?_
              refine seq_normal ?_
              first | refine w_cond rfl (fun hI9 => ?_) (fun hI9 => ?_) | refine w_condB rfl (fun hI9 => ?_) (fun hI9 => ?_)
              · refine w_exit ?_
                refine seq_exit ?_
                refine block_miss rfl ?_
                refine seq_exit ?_
                refine block_miss rfl ?_
                refine seq_exit ?_
                refine block_miss rfl ?_
                refine seq_exit ?_
                refine block_hit rfl ?_
                refine seq_normal ?_
                refine w_exit ?_
                refine block_miss rfl ?_
                refine seq_exit ?_
                refine block_hit rfl ?_
                first
                  | exact mid_normal ⟨plainL (bl o.f3), ⟨o.f0, 0, 0, o.f3⟩, chk0 hI1, rfl, rfl⟩ env_ sel_
                  | (have hq := chkz (o := o) (by omega)
                     exact mid_normal ⟨true, ⟨o.f0, 0, 0, ⟨#[]⟩⟩, hq, rfl, rfl⟩ env_ sel_)
                  | (have hq := chkn (o := o) (by omega)
                     exact mid_normal ⟨false, ⟨o.f0, 0, 0, ⟨#[]⟩⟩, hq, rfl, rfl⟩ env_ sel_)
                  | (have hq := chk1 (o := o) (by omega)
                     first
                       | (rw [decide_eq_false (by omega)] at hq
                          exact mid_normal ⟨false, ⟨o.f0, o.f1, o.f2, ⟨#[]⟩⟩, hq, rfl, rfl⟩ env_ sel_)
                       | (rw [decide_eq_decide.2 (show _ ↔ o.f1 ≤ 1000 by omega)] at hq
                          exact mid_normal ⟨decide (o.f1 ≤ 1000), ⟨o.f0, o.f1, o.f2, ⟨#[]⟩⟩, hq, rfl, rfl⟩ env_ sel_))
                  | (have hq := chk4 (o := o) (by omega)
                     first
                       | (rw [decide_eq_false (by omega)] at hq
                          exact mid_normal ⟨false, ⟨o.f0, o.f1, 0, ⟨#[]⟩⟩, hq, rfl, rfl⟩ env_ sel_)
                       | (rw [decide_eq_true (by omega)] at hq
                          exact mid_normal ⟨true, ⟨o.f0, o.f1, 0, ⟨#[]⟩⟩, hq, rfl, rfl⟩ env_ sel_)
                       | (rw [decide_eq_decide.2 (show _ ↔ o.f1 ≤ 7 by omega)] at hq
                          exact mid_normal ⟨decide (o.f1 ≤ 7), ⟨o.f0, o.f1, 0, ⟨#[]⟩⟩, hq, rfl, rfl⟩ env_ sel_))
                  | (have hq := chk5 (o := o) (by omega)
                     first
                       | (rw [decide_eq_false (by omega)] at hq
                          exact mid_normal ⟨false, ⟨o.f0, o.f1, 0, ⟨#[]⟩⟩, hq, rfl, rfl⟩ env_ sel_)
                       | (rw [decide_eq_true (by omega)] at hq
                          exact mid_normal ⟨true, ⟨o.f0, o.f1, 0, ⟨#[]⟩⟩, hq, rfl, rfl⟩ env_ sel_))
              · refine w_skip ?_
                refine seq_normal ?_
                refine w_exit ?_
                refine block_miss rfl ?_
                refine seq_exit ?_
                refine block_miss rfl ?_
                refine seq_exit ?_
                refine block_miss rfl ?_
                refine seq_exit ?_
                refine block_miss rfl ?_
                refine seq_exit ?_
                refine block_hit rfl ?_
                refine seq_normal ?_
                refine w_seq ?_
                refine w_region ?_
                refine w_o rfl rfl rfl (op_assign rfl ?_)
                refine w_end ?_
                refine seq_normal ?_
                refine w_exit ?_
                refine block_hit rfl ?_
                first
                  | exact mid_normal ⟨plainL (bl o.f3), ⟨o.f0, 0, 0, o.f3⟩, chk0 hI1, rfl, rfl⟩ env_ sel_
                  | (have hq := chkz (o := o) (by omega)
                     exact mid_normal ⟨true, ⟨o.f0, 0, 0, ⟨#[]⟩⟩, hq, rfl, rfl⟩ env_ sel_)
                  | (have hq := chkn (o := o) (by omega)
                     exact mid_normal ⟨false, ⟨o.f0, 0, 0, ⟨#[]⟩⟩, hq, rfl, rfl⟩ env_ sel_)
                  | (have hq := chk1 (o := o) (by omega)
                     first
                       | (rw [decide_eq_false (by omega)] at hq
                          exact mid_normal ⟨false, ⟨o.f0, o.f1, o.f2, ⟨#[]⟩⟩, hq, rfl, rfl⟩ env_ sel_)
                       | (rw [decide_eq_decide.2 (show _ ↔ o.f1 ≤ 1000 by omega)] at hq
                          exact mid_normal ⟨decide (o.f1 ≤ 1000), ⟨o.f0, o.f1, o.f2, ⟨#[]⟩⟩, hq, rfl, rfl⟩ env_ sel_))
                  | (have hq := chk4 (o := o) (by omega)
                     first
                       | (rw [decide_eq_false (by omega)] at hq
                          exact mid_normal ⟨false, ⟨o.f0, o.f1, 0, ⟨#[]⟩⟩, hq, rfl, rfl⟩ env_ sel_)
                       | (rw [decide_eq_true (by omega)] at hq
                          exact mid_normal ⟨true, ⟨o.f0, o.f1, 0, ⟨#[]⟩⟩, hq, rfl, rfl⟩ env_ sel_)
                       | (rw [decide_eq_decide.2 (show _ ↔ o.f1 ≤ 7 by omega)] at hq
                          exact mid_normal ⟨decide (o.f1 ≤ 7), ⟨o.f0, o.f1, 0, ⟨#[]⟩⟩, hq, rfl, rfl⟩ env_ sel_))
                  | (have hq := chk5 (o := o) (by omega)
                     first
                       | (rw [decide_eq_false (by omega)] at hq
                          exact mid_normal ⟨false, ⟨o.f0, o.f1, 0, ⟨#[]⟩⟩, hq, rfl, rfl⟩ env_ sel_)
                       | (rw [decide_eq_true (by omega)] at hq
                          exact mid_normal ⟨true, ⟨o.f0, o.f1, 0, ⟨#[]⟩⟩, hq, rfl, rfl⟩ env_ sel_))
            · refine w_seq ?_
              refine w_region ?_
              refine w_o rfl rfl rfl (op_eq rfl rfl ?_)
              refine w_o rfl rfl rfl (op_assign rfl ?_)
              refine w_end ?_
              refine seq_normal ?_
              first | refine w_cond rfl (fun hI6 => ?_) (fun hI6 => ?_) | refine w_condB rfl (fun hI6 => ?_) (fun hI6 => ?_)
              · refine w_skip ?_
                refine seq_normal ?_
                first | refine w_cond rfl (fun hI9 => ?_) (fun hI9 => ?_) | refine w_condB rfl (fun hI9 => ?_) (fun hI9 => ?_)
                · refine w_exit ?_
                  refine seq_exit ?_
                  refine block_miss rfl ?_
                  refine seq_exit ?_
                  refine block_miss rfl ?_
                  refine seq_exit ?_
                  refine block_miss rfl ?_
                  refine seq_exit ?_
                  refine block_hit rfl ?_
                  refine seq_normal ?_
                  refine w_exit ?_
                  refine block_miss rfl ?_
                  refine seq_exit ?_
                  refine block_hit rfl ?_
                  first
                    | exact mid_normal ⟨plainL (bl o.f3), ⟨o.f0, 0, 0, o.f3⟩, chk0 hI1, rfl, rfl⟩ env_ sel_
                    | (have hq := chkz (o := o) (by omega)
                       exact mid_normal ⟨true, ⟨o.f0, 0, 0, ⟨#[]⟩⟩, hq, rfl, rfl⟩ env_ sel_)
                    | (have hq := chkn (o := o) (by omega)
                       exact mid_normal ⟨false, ⟨o.f0, 0, 0, ⟨#[]⟩⟩, hq, rfl, rfl⟩ env_ sel_)
                    | (have hq := chk1 (o := o) (by omega)
                       first
                         | (rw [decide_eq_false (by omega)] at hq
                            exact mid_normal ⟨false, ⟨o.f0, o.f1, o.f2, ⟨#[]⟩⟩, hq, rfl, rfl⟩ env_ sel_)
                         | (rw [decide_eq_decide.2 (show _ ↔ o.f1 ≤ 1000 by omega)] at hq
                            exact mid_normal ⟨decide (o.f1 ≤ 1000), ⟨o.f0, o.f1, o.f2, ⟨#[]⟩⟩, hq, rfl, rfl⟩ env_ sel_))
                    | (have hq := chk4 (o := o) (by omega)
                       first
                         | (rw [decide_eq_false (by omega)] at hq
                            exact mid_normal ⟨false, ⟨o.f0, o.f1, 0, ⟨#[]⟩⟩, hq, rfl, rfl⟩ env_ sel_)
                         | (rw [decide_eq_true (by omega)] at hq
                            exact mid_normal ⟨true, ⟨o.f0, o.f1, 0, ⟨#[]⟩⟩, hq, rfl, rfl⟩ env_ sel_)
                         | (rw [decide_eq_decide.2 (show _ ↔ o.f1 ≤ 7 by omega)] at hq
                            exact mid_normal ⟨decide (o.f1 ≤ 7), ⟨o.f0, o.f1, 0, ⟨#[]⟩⟩, hq, rfl, rfl⟩ env_ sel_))
                    | (have hq := chk5 (o := o) (by omega)
                       first
                         | (rw [decide_eq_false (by omega)] at hq
                            exact mid_normal ⟨false, ⟨o.f0, o.f1, 0, ⟨#[]⟩⟩, hq, rfl, rfl⟩ env_ sel_)
                         | (rw [decide_eq_true (by omega)] at hq
                            exact mid_normal ⟨true, ⟨o.f0, o.f1, 0, ⟨#[]⟩⟩, hq, rfl, rfl⟩ env_ sel_))
                · refine w_skip ?_
                  refine seq_normal ?_
                  refine w_exit ?_
                  refine block_miss rfl ?_
                  refine seq_exit ?_
                  refine block_miss rfl ?_
                  refine seq_exit ?_
                  refine block_miss rfl ?_
                  refine seq_exit ?_
                  refine block_miss rfl ?_
                  refine seq_exit ?_
                  refine block_hit rfl ?_
                  refine seq_normal ?_
                  refine w_seq ?_
                  refine w_region ?_
                  refine w_o rfl rfl rfl (op_assign rfl ?_)
                  refine w_end ?_
                  refine seq_normal ?_
                  refine w_exit ?_
                  refine block_hit rfl ?_
                  first
                    | exact mid_normal ⟨plainL (bl o.f3), ⟨o.f0, 0, 0, o.f3⟩, chk0 hI1, rfl, rfl⟩ env_ sel_
                    | (have hq := chkz (o := o) (by omega)
                       exact mid_normal ⟨true, ⟨o.f0, 0, 0, ⟨#[]⟩⟩, hq, rfl, rfl⟩ env_ sel_)
                    | (have hq := chkn (o := o) (by omega)
                       exact mid_normal ⟨false, ⟨o.f0, 0, 0, ⟨#[]⟩⟩, hq, rfl, rfl⟩ env_ sel_)
                    | (have hq := chk1 (o := o) (by omega)
                       first
                         | (rw [decide_eq_false (by omega)] at hq
                            exact mid_normal ⟨false, ⟨o.f0, o.f1, o.f2, ⟨#[]⟩⟩, hq, rfl, rfl⟩ env_ sel_)
                         | (rw [decide_eq_decide.2 (show _ ↔ o.f1 ≤ 1000 by omega)] at hq
                            exact mid_normal ⟨decide (o.f1 ≤ 1000), ⟨o.f0, o.f1, o.f2, ⟨#[]⟩⟩, hq, rfl, rfl⟩ env_ sel_))
                    | (have hq := chk4 (o := o) (by omega)
                       first
                         | (rw [decide_eq_false (by omega)] at hq
                            exact mid_normal ⟨false, ⟨o.f0, o.f1, 0, ⟨#[]⟩⟩, hq, rfl, rfl⟩ env_ sel_)
                         | (rw [decide_eq_true (by omega)] at hq
                            exact mid_normal ⟨true, ⟨o.f0, o.f1, 0, ⟨#[]⟩⟩, hq, rfl, rfl⟩ env_ sel_)
                         | (rw [decide_eq_decide.2 (show _ ↔ o.f1 ≤ 7 by omega)] at hq
                            exact mid_normal ⟨decide (o.f1 ≤ 7), ⟨o.f0, o.f1, 0, ⟨#[]⟩⟩, hq, rfl, rfl⟩ env_ sel_))
                    | (have hq := chk5 (o := o) (by omega)
                       first
                         | (rw [decide_eq_false (by omega)] at hq
                            exact mid_normal ⟨false, ⟨o.f0, o.f1, 0, ⟨#[]⟩⟩, hq, rfl, rfl⟩ env_ sel_)
                         | (rw [decide_eq_true (by omega)] at hq
                            exact mid_normal ⟨true, ⟨o.f0, o.f1, 0, ⟨#[]⟩⟩, hq, rfl, rfl⟩ env_ sel_))
              · refine w_seq ?_
                refine w_region ?_
                refine w_o rfl rfl rfl (op_eq rfl rfl ?_)
                refine w_o rfl rfl rfl (op_assign rfl ?_)
                refine w_end ?_
                refine seq_normal ?_
                first | refine w_cond rfl (fun hI7 => ?_) (fun hI7 => ?_) | refine w_condB rfl (fun hI7 => ?_) (fun hI7 => ?_)
                · refine w_skip ?_
                  refine seq_normal ?_
                  first | refine w_cond rfl (fun hI9 => ?_) (fun hI9 => ?_) | refine w_condB rfl (fun hI9 => ?_) (fun hI9 => ?_)
                  · refine w_exit ?_
                    refine seq_exit ?_
                    refine block_miss rfl ?_
                    refine seq_exit ?_
                    refine block_miss rfl ?_
                    refine seq_exit ?_
                    refine block_miss rfl ?_
                    refine seq_exit ?_
                    refine block_hit rfl ?_
                    refine seq_normal ?_
                    refine w_exit ?_
                    refine block_miss rfl ?_
                    refine seq_exit ?_
                    refine block_hit rfl ?_
                    first
                      | exact mid_normal ⟨plainL (bl o.f3), ⟨o.f0, 0, 0, o.f3⟩, chk0 hI1, rfl, rfl⟩ env_ sel_
                      | (have hq := chkz (o := o) (by omega)
                         exact mid_normal ⟨true, ⟨o.f0, 0, 0, ⟨#[]⟩⟩, hq, rfl, rfl⟩ env_ sel_)
                      | (have hq := chkn (o := o) (by omega)
                         exact mid_normal ⟨false, ⟨o.f0, 0, 0, ⟨#[]⟩⟩, hq, rfl, rfl⟩ env_ sel_)
                      | (have hq := chk1 (o := o) (by omega)
                         first
                           | (rw [decide_eq_false (by omega)] at hq
                              exact mid_normal ⟨false, ⟨o.f0, o.f1, o.f2, ⟨#[]⟩⟩, hq, rfl, rfl⟩ env_ sel_)
                           | (rw [decide_eq_decide.2 (show _ ↔ o.f1 ≤ 1000 by omega)] at hq
                              exact mid_normal ⟨decide (o.f1 ≤ 1000), ⟨o.f0, o.f1, o.f2, ⟨#[]⟩⟩, hq, rfl, rfl⟩ env_ sel_))
                      | (have hq := chk4 (o := o) (by omega)
                         first
                           | (rw [decide_eq_false (by omega)] at hq
                              exact mid_normal ⟨false, ⟨o.f0, o.f1, 0, ⟨#[]⟩⟩, hq, rfl, rfl⟩ env_ sel_)
                           | (rw [decide_eq_true (by omega)] at hq
                              exact mid_normal ⟨true, ⟨o.f0, o.f1, 0, ⟨#[]⟩⟩, hq, rfl, rfl⟩ env_ sel_)
                           | (rw [decide_eq_decide.2 (show _ ↔ o.f1 ≤ 7 by omega)] at hq
                              exact mid_normal ⟨decide (o.f1 ≤ 7), ⟨o.f0, o.f1, 0, ⟨#[]⟩⟩, hq, rfl, rfl⟩ env_ sel_))
                      | (have hq := chk5 (o := o) (by omega)
                         first
                           | (rw [decide_eq_false (by omega)] at hq
                              exact mid_normal ⟨false, ⟨o.f0, o.f1, 0, ⟨#[]⟩⟩, hq, rfl, rfl⟩ env_ sel_)
                           | (rw [decide_eq_true (by omega)] at hq
                              exact mid_normal ⟨true, ⟨o.f0, o.f1, 0, ⟨#[]⟩⟩, hq, rfl, rfl⟩ env_ sel_))
                  · refine w_skip ?_
                    refine seq_normal ?_
                    refine w_exit ?_
                    refine block_miss rfl ?_
                    refine seq_exit ?_
                    refine block_miss rfl ?_
                    refine seq_exit ?_
                    refine block_miss rfl ?_
                    refine seq_exit ?_
                    refine block_miss rfl ?_
                    refine seq_exit ?_
                    refine block_hit rfl ?_
                    refine seq_normal ?_
                    refine w_seq ?_
                    refine w_region ?_
                    refine w_o rfl rfl rfl (op_assign rfl ?_)
                    refine w_end ?_
                    refine seq_normal ?_
                    refine w_exit ?_
                    refine block_hit rfl ?_
                    first
                      | exact mid_normal ⟨plainL (bl o.f3), ⟨o.f0, 0, 0, o.f3⟩, chk0 hI1, rfl, rfl⟩ env_ sel_
                      | (have hq := chkz (o := o) (by omega)
                         exact mid_normal ⟨true, ⟨o.f0, 0, 0, ⟨#[]⟩⟩, hq, rfl, rfl⟩ env_ sel_)
                      | (have hq := chkn (o := o) (by omega)
                         exact mid_normal ⟨false, ⟨o.f0, 0, 0, ⟨#[]⟩⟩, hq, rfl, rfl⟩ env_ sel_)
                      | (have hq := chk1 (o := o) (by omega)
                         first
                           | (rw [decide_eq_false (by omega)] at hq
                              exact mid_normal ⟨false, ⟨o.f0, o.f1, o.f2, ⟨#[]⟩⟩, hq, rfl, rfl⟩ env_ sel_)
                           | (rw [decide_eq_decide.2 (show _ ↔ o.f1 ≤ 1000 by omega)] at hq
                              exact mid_normal ⟨decide (o.f1 ≤ 1000), ⟨o.f0, o.f1, o.f2, ⟨#[]⟩⟩, hq, rfl, rfl⟩ env_ sel_))
                      | (have hq := chk4 (o := o) (by omega)
                         first
                           | (rw [decide_eq_false (by omega)] at hq
                              exact mid_normal ⟨false, ⟨o.f0, o.f1, 0, ⟨#[]⟩⟩, hq, rfl, rfl⟩ env_ sel_)
                           | (rw [decide_eq_true (by omega)] at hq
                              exact mid_normal ⟨true, ⟨o.f0, o.f1, 0, ⟨#[]⟩⟩, hq, rfl, rfl⟩ env_ sel_)
                           | (rw [decide_eq_decide.2 (show _ ↔ o.f1 ≤ 7 by omega)] at hq
                              exact mid_normal ⟨decide (o.f1 ≤ 7), ⟨o.f0, o.f1, 0, ⟨#[]⟩⟩, hq, rfl, rfl⟩ env_ sel_))
                      | (have hq := chk5 (o := o) (by omega)
                         first
                           | (rw [decide_eq_false (by omega)] at hq
                              exact mid_normal ⟨false, ⟨o.f0, o.f1, 0, ⟨#[]⟩⟩, hq, rfl, rfl⟩ env_ sel_)
                           | (rw [decide_eq_true (by omega)] at hq
                              exact mid_normal ⟨true, ⟨o.f0, o.f1, 0, ⟨#[]⟩⟩, hq, rfl, rfl⟩ env_ sel_))
                · refine w_seq ?_
                  refine w_region ?_
                  refine w_o rfl rfl rfl (op_eq rfl rfl ?_)
                  refine w_o rfl rfl rfl (op_assign rfl ?_)
                  refine w_end ?_
                  refine seq_normal ?_
                  first | refine w_cond rfl (fun hI8 => ?_) (fun hI8 => ?_) | refine w_condB rfl (fun hI8 => ?_) (fun hI8 => ?_)
                  · refine w_skip ?_
                    refine seq_normal ?_
                    first | refine w_cond rfl (fun hI9 => ?_) (fun hI9 => ?_) | refine w_condB rfl (fun hI9 => ?_) (fun hI9 => ?_)
                    · refine w_exit ?_
                      refine seq_exit ?_
                      refine block_miss rfl ?_
                      refine seq_exit ?_
                      refine block_miss rfl ?_
                      refine seq_exit ?_
                      refine block_miss rfl ?_
                      refine seq_exit ?_
                      refine block_hit rfl ?_
                      refine seq_normal ?_
                      refine w_exit ?_
                      refine block_miss rfl ?_
                      refine seq_exit ?_
                      refine block_hit rfl ?_
                      first
                        | exact mid_normal ⟨plainL (bl o.f3), ⟨o.f0, 0, 0, o.f3⟩, chk0 hI1, rfl, rfl⟩ env_ sel_
                        | (have hq := chkz (o := o) (by omega)
                           exact mid_normal ⟨true, ⟨o.f0, 0, 0, ⟨#[]⟩⟩, hq, rfl, rfl⟩ env_ sel_)
                        | (have hq := chkn (o := o) (by omega)
                           exact mid_normal ⟨false, ⟨o.f0, 0, 0, ⟨#[]⟩⟩, hq, rfl, rfl⟩ env_ sel_)
                        | (have hq := chk1 (o := o) (by omega)
                           first
                             | (rw [decide_eq_false (by omega)] at hq
                                exact mid_normal ⟨false, ⟨o.f0, o.f1, o.f2, ⟨#[]⟩⟩, hq, rfl, rfl⟩ env_ sel_)
                             | (rw [decide_eq_decide.2 (show _ ↔ o.f1 ≤ 1000 by omega)] at hq
                                exact mid_normal ⟨decide (o.f1 ≤ 1000), ⟨o.f0, o.f1, o.f2, ⟨#[]⟩⟩, hq, rfl, rfl⟩ env_ sel_))
                        | (have hq := chk4 (o := o) (by omega)
                           first
                             | (rw [decide_eq_false (by omega)] at hq
                                exact mid_normal ⟨false, ⟨o.f0, o.f1, 0, ⟨#[]⟩⟩, hq, rfl, rfl⟩ env_ sel_)
                             | (rw [decide_eq_true (by omega)] at hq
                                exact mid_normal ⟨true, ⟨o.f0, o.f1, 0, ⟨#[]⟩⟩, hq, rfl, rfl⟩ env_ sel_)
                             | (rw [decide_eq_decide.2 (show _ ↔ o.f1 ≤ 7 by omega)] at hq
                                exact mid_normal ⟨decide (o.f1 ≤ 7), ⟨o.f0, o.f1, 0, ⟨#[]⟩⟩, hq, rfl, rfl⟩ env_ sel_))
                        | (have hq := chk5 (o := o) (by omega)
                           first
                             | (rw [decide_eq_false (by omega)] at hq
                                exact mid_normal ⟨false, ⟨o.f0, o.f1, 0, ⟨#[]⟩⟩, hq, rfl, rfl⟩ env_ sel_)
                             | (rw [decide_eq_true (by omega)] at hq
                                exact mid_normal ⟨true, ⟨o.f0, o.f1, 0, ⟨#[]⟩⟩, hq, rfl, rfl⟩ env_ sel_))
                    · refine w_skip ?_
                      refine seq_normal ?_
                      refine w_exit ?_
                      refine block_miss rfl ?_
                      refine seq_exit ?_
                      refine block_miss rfl ?_
                      refine seq_exit ?_
                      refine block_miss rfl ?_
                      refine seq_exit ?_
                      refine block_miss rfl ?_
                      refine seq_exit ?_
                      refine block_hit rfl ?_
                      refine seq_normal ?_
                      refine w_seq ?_
                      refine w_region ?_
                      refine w_o rfl rfl rfl (op_assign rfl ?_)
                      refine w_end ?_
                      refine seq_normal ?_
                      refine w_exit ?_
                      refine block_hit rfl ?_
                      first
                        | exact mid_normal ⟨plainL (bl o.f3), ⟨o.f0, 0, 0, o.f3⟩, chk0 hI1, rfl, rfl⟩ env_ sel_
                        | (have hq := chkz (o := o) (by omega)
                           exact mid_normal ⟨true, ⟨o.f0, 0, 0, ⟨#[]⟩⟩, hq, rfl, rfl⟩ env_ sel_)
                        | (have hq := chkn (o := o) (by omega)
                           exact mid_normal ⟨false, ⟨o.f0, 0, 0, ⟨#[]⟩⟩, hq, rfl, rfl⟩ env_ sel_)
                        | (have hq := chk1 (o := o) (by omega)
                           first
                             | (rw [decide_eq_false (by omega)] at hq
                                exact mid_normal ⟨false, ⟨o.f0, o.f1, o.f2, ⟨#[]⟩⟩, hq, rfl, rfl⟩ env_ sel_)
                             | (rw [decide_eq_decide.2 (show _ ↔ o.f1 ≤ 1000 by omega)] at hq
                                exact mid_normal ⟨decide (o.f1 ≤ 1000), ⟨o.f0, o.f1, o.f2, ⟨#[]⟩⟩, hq, rfl, rfl⟩ env_ sel_))
                        | (have hq := chk4 (o := o) (by omega)
                           first
                             | (rw [decide_eq_false (by omega)] at hq
                                exact mid_normal ⟨false, ⟨o.f0, o.f1, 0, ⟨#[]⟩⟩, hq, rfl, rfl⟩ env_ sel_)
                             | (rw [decide_eq_true (by omega)] at hq
                                exact mid_normal ⟨true, ⟨o.f0, o.f1, 0, ⟨#[]⟩⟩, hq, rfl, rfl⟩ env_ sel_)
                             | (rw [decide_eq_decide.2 (show _ ↔ o.f1 ≤ 7 by omega)] at hq
                                exact mid_normal ⟨decide (o.f1 ≤ 7), ⟨o.f0, o.f1, 0, ⟨#[]⟩⟩, hq, rfl, rfl⟩ env_ sel_))
                        | (have hq := chk5 (o := o) (by omega)
                           first
                             | (rw [decide_eq_false (by omega)] at hq
                                exact mid_normal ⟨false, ⟨o.f0, o.f1, 0, ⟨#[]⟩⟩, hq, rfl, rfl⟩ env_ sel_)
                             | (rw [decide_eq_true (by omega)] at hq
                                exact mid_normal ⟨true, ⟨o.f0, o.f1, 0, ⟨#[]⟩⟩, hq, rfl, rfl⟩ env_ sel_))
                  · refine w_region ?_
                    refine w_o rfl rfl rfl (op_eq rfl rfl ?_)
                    refine w_o rfl rfl rfl (op_assign rfl ?_)
                    refine w_end ?_
                    refine seq_normal ?_
                    first | refine w_cond rfl (fun hI9 => ?_) (fun hI9 => ?_) | refine w_condB rfl (fun hI9 => ?_) (fun hI9 => ?_)
                    · refine w_exit ?_
                      refine seq_exit ?_
                      refine block_miss rfl ?_
                      refine seq_exit ?_
                      refine block_miss rfl ?_
                      refine seq_exit ?_
                      refine block_miss rfl ?_
                      refine seq_exit ?_
                      refine block_hit rfl ?_
                      refine seq_normal ?_
                      refine w_exit ?_
                      refine block_miss rfl ?_
                      refine seq_exit ?_
                      refine block_hit rfl ?_
                      first
                        | exact mid_normal ⟨plainL (bl o.f3), ⟨o.f0, 0, 0, o.f3⟩, chk0 hI1, rfl, rfl⟩ env_ sel_
                        | (have hq := chkz (o := o) (by omega)
                           exact mid_normal ⟨true, ⟨o.f0, 0, 0, ⟨#[]⟩⟩, hq, rfl, rfl⟩ env_ sel_)
                        | (have hq := chkn (o := o) (by omega)
                           exact mid_normal ⟨false, ⟨o.f0, 0, 0, ⟨#[]⟩⟩, hq, rfl, rfl⟩ env_ sel_)
                        | (have hq := chk1 (o := o) (by omega)
                           first
                             | (rw [decide_eq_false (by omega)] at hq
                                exact mid_normal ⟨false, ⟨o.f0, o.f1, o.f2, ⟨#[]⟩⟩, hq, rfl, rfl⟩ env_ sel_)
                             | (rw [decide_eq_decide.2 (show _ ↔ o.f1 ≤ 1000 by omega)] at hq
                                exact mid_normal ⟨decide (o.f1 ≤ 1000), ⟨o.f0, o.f1, o.f2, ⟨#[]⟩⟩, hq, rfl, rfl⟩ env_ sel_))
                        | (have hq := chk4 (o := o) (by omega)
                           first
                             | (rw [decide_eq_false (by omega)] at hq
                                exact mid_normal ⟨false, ⟨o.f0, o.f1, 0, ⟨#[]⟩⟩, hq, rfl, rfl⟩ env_ sel_)
                             | (rw [decide_eq_true (by omega)] at hq
                                exact mid_normal ⟨true, ⟨o.f0, o.f1, 0, ⟨#[]⟩⟩, hq, rfl, rfl⟩ env_ sel_)
                             | (rw [decide_eq_decide.2 (show _ ↔ o.f1 ≤ 7 by omega)] at hq
                                exact mid_normal ⟨decide (o.f1 ≤ 7), ⟨o.f0, o.f1, 0, ⟨#[]⟩⟩, hq, rfl, rfl⟩ env_ sel_))
                        | (have hq := chk5 (o := o) (by omega)
                           first
                             | (rw [decide_eq_false (by omega)] at hq
                                exact mid_normal ⟨false, ⟨o.f0, o.f1, 0, ⟨#[]⟩⟩, hq, rfl, rfl⟩ env_ sel_)
                             | (rw [decide_eq_true (by omega)] at hq
                                exact mid_normal ⟨true, ⟨o.f0, o.f1, 0, ⟨#[]⟩⟩, hq, rfl, rfl⟩ env_ sel_))
                    · refine w_skip ?_
                      refine seq_normal ?_
                      refine w_exit ?_
                      refine block_miss rfl ?_
                      refine seq_exit ?_
                      refine block_miss rfl ?_
                      refine seq_exit ?_
                      refine block_miss rfl ?_
                      refine seq_exit ?_
                      refine block_miss rfl ?_
                      refine seq_exit ?_
                      refine block_hit rfl ?_
                      refine seq_normal ?_
                      refine w_seq ?_
                      refine w_region ?_
                      refine w_o rfl rfl rfl (op_assign rfl ?_)
                      refine w_end ?_
                      refine seq_normal ?_
                      refine w_exit ?_
                      refine block_hit rfl ?_
                      first
                        | exact mid_normal ⟨plainL (bl o.f3), ⟨o.f0, 0, 0, o.f3⟩, chk0 hI1, rfl, rfl⟩ env_ sel_
                        | (have hq := chkz (o := o) (by omega)
                           exact mid_normal ⟨true, ⟨o.f0, 0, 0, ⟨#[]⟩⟩, hq, rfl, rfl⟩ env_ sel_)
                        | (have hq := chkn (o := o) (by omega)
                           exact mid_normal ⟨false, ⟨o.f0, 0, 0, ⟨#[]⟩⟩, hq, rfl, rfl⟩ env_ sel_)
                        | (have hq := chk1 (o := o) (by omega)
                           first
                             | (rw [decide_eq_false (by omega)] at hq
                                exact mid_normal ⟨false, ⟨o.f0, o.f1, o.f2, ⟨#[]⟩⟩, hq, rfl, rfl⟩ env_ sel_)
                             | (rw [decide_eq_decide.2 (show _ ↔ o.f1 ≤ 1000 by omega)] at hq
                                exact mid_normal ⟨decide (o.f1 ≤ 1000), ⟨o.f0, o.f1, o.f2, ⟨#[]⟩⟩, hq, rfl, rfl⟩ env_ sel_))
                        | (have hq := chk4 (o := o) (by omega)
                           first
                             | (rw [decide_eq_false (by omega)] at hq
                                exact mid_normal ⟨false, ⟨o.f0, o.f1, 0, ⟨#[]⟩⟩, hq, rfl, rfl⟩ env_ sel_)
                             | (rw [decide_eq_true (by omega)] at hq
                                exact mid_normal ⟨true, ⟨o.f0, o.f1, 0, ⟨#[]⟩⟩, hq, rfl, rfl⟩ env_ sel_)
                             | (rw [decide_eq_decide.2 (show _ ↔ o.f1 ≤ 7 by omega)] at hq
                                exact mid_normal ⟨decide (o.f1 ≤ 7), ⟨o.f0, o.f1, 0, ⟨#[]⟩⟩, hq, rfl, rfl⟩ env_ sel_))
                        | (have hq := chk5 (o := o) (by omega)
                           first
                             | (rw [decide_eq_false (by omega)] at hq
                                exact mid_normal ⟨false, ⟨o.f0, o.f1, 0, ⟨#[]⟩⟩, hq, rfl, rfl⟩ env_ sel_)
                             | (rw [decide_eq_true (by omega)] at hq
                                exact mid_normal ⟨true, ⟨o.f0, o.f1, 0, ⟨#[]⟩⟩, hq, rfl, rfl⟩ env_ sel_))
  · rintro e H' ⟨right, n, hm, rfl, rfl⟩
    refine w_seq ?_
    refine w_seq ?_
    refine w_region ?_
    refine w_o rfl rfl rfl (op_move rfl ?_)
    refine w_o rfl rfl rfl (op_not rfl ?_)
    refine w_o rfl rfl rfl (op_move rfl ?_)
    first | refine w_known (t := 76) rfl (fun g76 => ?_) (fun g76 => ?_) | refine w_knownB (t := 76) rfl (fun g76 => ?_) (fun g76 => ?_)
    · refine w_u rfl rfl rfl rfl rfl rfl ?_
      refine w_u rfl rfl rfl rfl rfl rfl ?_
      refine w_u rfl rfl rfl rfl rfl rfl ?_
      refine w_o rfl rfl rfl (op_pick rfl rfl rfl ?_)
      refine w_end ?_
      refine seq_normal ?_
      refine w_condT rfl ?_
      refine w_seq ?_
      refine w_region ?_
      refine w_o rfl rfl rfl (op_assign rfl ?_)
      refine w_end ?_
      refine seq_normal ?_
      refine w_ret ?_
      refine seq_ret ?_
      have hf : ¬ mayO o = true := by
        rw [hm]
        first
          | (rw [show right = false by simpa using g76]; simp)
          | (rw [show eqO o n = false from by cases q : eqO o n with
                                                | false => rfl
                                                | true => (have q2 : (!eqO o n) = true := hI11
                                                           rw [q] at q2; cases q2)]; simp)
      rw [if_neg hf] at k
      exact ret_ret rfl sel_ k
    · refine w_og rfl rfl rfl rfl rfl (op_loadA agg_31 siz_31 rfl rfl el_ ?_)
      refine w_og rfl rfl rfl rfl rfl (op_loadA agg_31 siz_31 rfl rfl el_ ?_)
      refine w_og rfl rfl rfl rfl rfl (op_nes_31 rfl rfl ?_)
      refine w_o rfl rfl rfl (op_pick rfl rfl rfl ?_)
      refine w_end ?_
      refine seq_normal ?_
      first | refine w_cond rfl (fun hI11 => ?_) (fun hI11 => ?_) | refine w_condB rfl (fun hI11 => ?_) (fun hI11 => ?_)
      · refine w_seq ?_
        refine w_region ?_
        refine w_o rfl rfl rfl (op_assign rfl ?_)
        refine w_end ?_
        refine seq_normal ?_
        refine w_ret ?_
        refine seq_ret ?_
        have hf : ¬ mayO o = true := by
          rw [hm]
          first
            | (rw [show right = false by simpa using g76]; simp)
            | (rw [show eqO o n = false from by cases q : eqO o n with
                                                  | false => rfl
                                                  | true => (have q2 : (!eqO o n) = true := hI11
                                                             rw [q] at q2; cases q2)]; simp)
        rw [if_neg hf] at k
        exact ret_ret rfl sel_ k
      · refine w_skip ?_
        refine seq_normal ?_
        refine w_seq ?_
        refine w_region ?_
        refine w_o rfl rfl rfl (op_assign rfl ?_)
        refine w_end ?_
        refine seq_normal ?_
        refine w_ret ?_
        have hf : mayO o = true := by
          rw [hm, show right = true by simpa using g76, show eqO o n = true by simpa [eqO] using hI11]; rfl
        rw [if_pos hf] at k
        exact ret_ret rfl sel_ k
def lkTab (i : Nat) : ByteArray := if i = 0 then ⟨#[59, 55]⟩ else if i = 1 then ⟨#[59, 52]⟩ else ⟨#[59, 49]⟩
def lkP (n : Nat) : Nat → List UInt8
  | 0 => [48]
  | i + 1 => lkP n i ++ (if n / 2 ^ i % 2 = 1 then bl (lkTab i) else [])
theorem lk_end : ∀ n : Nat, n < 8 → lkP n 3 ++ [109] = (looksT[n]?).getD [] := by decide
theorem lk_len (n : Nat) : ∀ i, (lkP n i).length ≤ 1 + 2 * i
  | 0 => by simp [lkP]
  | i + 1 => by
    have := lk_len n i
    have h2 : (bl (lkTab i)).length = 2 := by unfold lkTab; split; rfl; split <;> rfl
    simp only [lkP, List.length_append]
    split
    · omega
    · simp only [List.length_nil]; omega
theorem and1 : ∀ n : Nat, n < 8 → bits .and .i64 (n : Int) 1 = ((n % 2 : Nat) : Int) := by decide +kernel
theorem looks_w {H : Hyp} {K : V → Hyp → Prop} {n : Int} (h0 : 0 ≤ n) (h7 : n ≤ 7) (k : ∀ t, bl t = looksB n → K (vS t) H) : CallW Try.prog Xs 40 [vI n] H K := by
  obtain ⟨m, rfl⟩ : ∃ m : Nat, n = (m : Int) := ⟨n.toNat, by omega⟩
  refine call_of (n := 22) (fun _ => rfl) Try.func40 rfl rfl ?_
  refine w_seq ?_
  refine w_region ?_
  refine w_o rfl rfl rfl (op_assign rfl ?_)
  refine w_end ?_
  refine seq_normal ?_
  refine w_seq ?_
  refine w_region ?_
  refine w_o rfl rfl rfl (op_assign rfl ?_)
  refine w_end ?_
  refine seq_normal ?_
  refine w_seq ?_
  refine w_seq ?_
  refine w_region ?_
  refine w_o rfl rfl rfl (op_build rfl ((bld_59 _).trans (rfl : _ = some [_, _, _])) ?_)
  refine w_o rfl rfl rfl (op_move rfl ?_)
  refine w_end ?_
  refine seq_normal ?_
  refine w_block ?_
  refine w_loop (fun j e H' => ∃ (i : Nat) (t : ByteArray), i ≤ 3 ∧ bl t = lkP m i ∧ j = 3 - i ∧ H = H' ∧ e = [(0, vI (m : Int)), (3, vS t), (6, .one (.agg [.str ⟨#[59, 55]⟩, .str ⟨#[59, 52]⟩, .str ⟨#[59, 49]⟩])), (7, vI (i : Nat))]) ?_ ?_
  · exact ⟨_, _, _, ⟨0, ⟨#[48]⟩, by decide, rfl, rfl, rfl, rfl⟩, env_, sel_⟩
  · rintro j e H' ⟨i, t, hi, ht, rfl, rfl, rfl⟩
    have hts : t.size ≤ 7 := by
      have h1 := lk_len m i
      rw [← ht] at h1
      have e : (bl t).length = t.size := rfl
      omega
    refine w_seq ?_
    refine w_region ?_
    refine w_o rfl rfl rfl (op_lt rfl rfl ?_)
    refine w_end ?_
    refine seq_normal ?_
    refine w_seq ?_
    first | refine w_cond rfl (fun hI1 => ?_) (fun hI1 => ?_) | refine w_condB rfl (fun hI1 => ?_) (fun hI1 => ?_)
    · have hi3 : i = 0 ∨ i = 1 ∨ i = 2 := by omega
      have hlt : (lkTab i).size = 2 := by unfold lkTab; split; rfl; split <;> rfl
      refine w_skip ?_
      refine seq_normal ?_
      refine w_seq ?_
      refine w_block ?_
      refine w_seq ?_
      refine w_region ?_
      refine w_o rfl rfl rfl (op_move rfl ?_)
      refine w_o rfl rfl rfl (op_indexA und_59 agg_9 (by kernel_rfl) rfl rfl (c := .str (lkTab i)) (v := .string (lkTab i)) (vs := [.string ⟨#[59, 55]⟩, .string ⟨#[59, 52]⟩, .string ⟨#[59, 49]⟩]) rfl (by omega) (by omega) (by rcases hi3 with rfl | rfl | rfl <;> rfl) rfl ?_)
      refine w_o rfl rfl rfl (op_assign rfl ?_)
      refine w_o rfl rfl rfl (op_assign rfl ?_)
      refine w_end ?_
      refine seq_normal ?_
      refine w_seq ?_
      refine w_region ?_
      refine w_o rfl rfl rfl (op_move rfl ?_)
      refine w_o rfl rfl rfl (op_move rfl ?_)
      refine w_o rfl rfl rfl (op_shr rfl rfl (by omega) (by show (i : Int) ≤ 64; omega) (c := ((m / 2 ^ i : Nat) : Int)) (by rw [Int.toNat_natCast, Int.natCast_ediv]; rw [Int.natCast_pow]; rfl) ?_)
      refine w_o rfl rfl rfl (op_band rfl rfl (c := ((m / 2 ^ i % 2 : Nat) : Int)) (and1 _ (Nat.lt_of_le_of_lt (Nat.div_le_self _ _) (by omega))) ?_)
      refine w_o rfl rfl rfl (op_eq rfl rfl ?_)
      refine w_end ?_
      refine seq_normal ?_
      first | refine w_cond rfl (fun hI2 => ?_) (fun hI2 => ?_) | refine w_condB rfl (fun hI2 => ?_) (fun hI2 => ?_)
      · refine w_region ?_
        refine w_o rfl rfl rfl (op_move rfl ?_)
        refine w_o rfl rfl rfl (op_move rfl ?_)
        refine w_o rfl rfl rfl (op_stradd rfl rfl (by omega) ?_)
        refine w_o rfl rfl rfl (op_assign rfl ?_)
        refine w_end ?_
        refine block_normal ?_
        refine seq_normal ?_
        refine w_region ?_
        refine w_o rfl rfl rfl (op_addi rfl rfl (by omega) (by omega) ?_)
        refine w_o rfl rfl rfl (op_move rfl ?_)
        refine w_end ?_
        first
          | exact loop_normal (k' := 3 - (i + 1)) (by omega) ⟨i + 1, t ++ lkTab i, by omega, by rw [bl_append, ht, lkP, if_pos (by omega)], rfl, rfl, rfl⟩ env_ sel_
          | exact loop_normal (k' := 3 - (i + 1)) (by omega) ⟨i + 1, t, by omega, by rw [ht, lkP, if_neg (by omega), List.append_nil], rfl, rfl, rfl⟩ env_ sel_
      · refine w_skip ?_
        refine block_normal ?_
        refine seq_normal ?_
        refine w_region ?_
        refine w_o rfl rfl rfl (op_addi rfl rfl (by omega) (by omega) ?_)
        refine w_o rfl rfl rfl (op_move rfl ?_)
        refine w_end ?_
        first
          | exact loop_normal (k' := 3 - (i + 1)) (by omega) ⟨i + 1, t ++ lkTab i, by omega, by rw [bl_append, ht, lkP, if_pos (by omega)], rfl, rfl, rfl⟩ env_ sel_
          | exact loop_normal (k' := 3 - (i + 1)) (by omega) ⟨i + 1, t, by omega, by rw [ht, lkP, if_neg (by omega), List.append_nil], rfl, rfl, rfl⟩ env_ sel_
    · refine w_exit ?_
      refine seq_exit ?_
      refine loop_exit ?_
      refine block_hit rfl ?_
      refine seq_normal ?_
      refine w_seq ?_
      refine w_region ?_
      refine w_o rfl rfl rfl (op_move rfl ?_)
      refine w_o rfl rfl rfl (op_stradd rfl rfl (by show t.size + 1 ≤ _; omega) ?_)
      refine w_o rfl rfl rfl (op_assign rfl ?_)
      refine w_end ?_
      refine seq_normal ?_
      refine w_ret ?_
      have hi' : i = 3 := by omega
      subst hi'
      refine ret_ret rfl sel_ (k _ ?_)
      rw [bl_append, ht]
      exact lk_end m (by omega)
theorem bytesL_len {o : OutS} (h : mayO o = true) : (bytesL o).length ≤ o.f3.size + 30 := by
  rcases may_cases h with ⟨q, _⟩ | ⟨q3, ⟨q0, q1, q2, q4, q5⟩ | ⟨q0, q1, q2, q4⟩ | ⟨q0, q1, q2⟩ | ⟨q0, q1, q2⟩⟩
  · rw [bytes_text q, bl_len]; omega
  · have e1 := decR_len 4 o.f1.toNat (by omega) (by decide)
    have e2 := decR_len 4 o.f2.toNat (by omega) (by decide)
    rw [bytes_esc (by omega)]
    unfold escL
    rw [if_pos q0]
    simp only [begB, List.length_append, List.length_cons, List.length_nil]; omega
  · rw [bytes_esc (by omega)]
    unfold escL
    rw [if_neg (by omega), if_neg (by omega), if_neg (by omega), if_pos q0]
    have key : ∀ k : Nat, k < 8 → ((looksT[k]?).getD []).length ≤ 10 := by decide
    have := key o.f1.toNat (by omega)
    simp only [begB, looksB, List.length_append, List.length_cons, List.length_nil]; omega
  · rw [bytes_esc (by omega)]
    unfold escL
    rw [if_neg (by omega), if_neg (by omega), if_neg (by omega), if_neg (by omega)]
    split <;> (simp [begB]; try omega)
  · unfold bytesL escL
    rcases q0 with q | q | q | q | q
    · rw [if_neg (by omega), if_neg (by omega), if_neg (by omega), if_neg (by omega), if_neg (by omega), if_pos q]; simp [begB]
    · rw [if_neg (by omega), if_neg (by omega), if_neg (by omega), if_neg (by omega), if_neg (by omega), if_neg (by omega), if_pos q]; simp [begB]
    · rw [if_neg (by omega), if_pos q]; simp
    · rw [if_neg (by omega), if_neg (by omega), if_pos q]; simp
    · rw [if_neg (by omega), if_neg (by omega), if_neg (by omega), if_pos q]; simp
theorem esc1 {o : OutS} (h : o.f0 = 1) : bytesL o = begB ++ (decR o.f1.toNat ++ 59 :: (decR o.f2.toNat ++ [72])) := by rw [bytes_esc (by omega)]; unfold escL; rw [if_pos h]
theorem esc2 {o : OutS} (h : o.f0 = 2) : bytesL o = [27, 91, 50, 74] := by rw [bytes_esc (by omega)]; unfold escL; rw [if_neg (by omega), if_pos h]; rfl
theorem esc3 {o : OutS} (h : o.f0 = 3) : bytesL o = [27, 91, 75] := by rw [bytes_esc (by omega)]; unfold escL; rw [if_neg (by omega), if_neg (by omega), if_pos h]; rfl
theorem esc4 {o : OutS} (h : o.f0 = 4) : bytesL o = begB ++ looksB o.f1 := by rw [bytes_esc (by omega)]; unfold escL; rw [if_neg (by omega), if_neg (by omega), if_neg (by omega), if_pos h]
theorem esc50 {o : OutS} (h : o.f0 = 5) (h1 : o.f1 = 0) : bytesL o = [27, 91, 63, 50, 48, 48, 52, 108] := by rw [bytes_esc (by omega)]; unfold escL; rw [if_neg (by omega), if_neg (by omega), if_neg (by omega), if_neg (by omega), if_pos h1]; rfl
theorem esc51 {o : OutS} (h : o.f0 = 5) (h1 : o.f1 = 1) : bytesL o = [27, 91, 63, 50, 48, 48, 52, 104] := by rw [bytes_esc (by omega)]; unfold escL; rw [if_neg (by omega), if_neg (by omega), if_neg (by omega), if_neg (by omega), if_neg (by omega)]; rfl
theorem bts6 {o : OutS} (h : o.f0 = 6) : bytesL o = [7] := by unfold bytesL; rw [if_neg (by omega), if_pos h]
theorem bts7 {o : OutS} (h : o.f0 = 7) : bytesL o = [13] := by unfold bytesL; rw [if_neg (by omega), if_neg (by omega), if_pos h]
theorem bts8 {o : OutS} (h : o.f0 = 8) : bytesL o = [10] := by unfold bytesL; rw [if_neg (by omega), if_neg (by omega), if_neg (by omega), if_pos h]
/-- What is so of the numbers of a piece that may be. -/
theorem may_num {x : OutS} (hx : mayO x = true) : 0 ≤ x.f0 ∧ x.f0 ≤ 8 ∧ (x.f0 = 0 → x.f1 = 0 ∧ x.f2 = 0) ∧ (x.f0 = 1 → 1 ≤ x.f1 ∧ x.f1 ≤ 1000 ∧ 1 ≤ x.f2 ∧ x.f2 ≤ 1000) ∧ (x.f0 = 4 → x.f2 = 0 ∧ 0 ≤ x.f1 ∧ x.f1 ≤ 7) ∧ (x.f0 = 5 → x.f2 = 0 ∧ (x.f1 = 0 ∨ x.f1 = 1)) ∧ (x.f0 = 2 ∨ x.f0 = 3 ∨ x.f0 = 6 ∨ x.f0 = 7 ∨ x.f0 = 8 → x.f1 = 0 ∧ x.f2 = 0) ∧ (x.f0 ≠ 0 → x.f3 = ⟨#[]⟩) := by
  rcases may_cases hx with ⟨q, a, b, _⟩ | ⟨q3, ⟨q, a1, a2, a3, a4⟩ | ⟨q, a1, a2, a3⟩ | ⟨q, a1, a2⟩ | ⟨q, a1, a2⟩⟩
  · refine ⟨by omega, by omega, ?_, ?_, ?_, ?_, ?_, ?_⟩ <;> intro z <;> omega
  all_goals refine ⟨by omega, by omega, ?_, ?_, ?_, ?_, ?_, fun _ => q3⟩ <;> intro z <;> omega
theorem decB_dec {n : Int} (h : 0 ≤ n) : bl (decB n) = decR n.toNat := by rw [decB_bl, if_neg (by omega)]
theorem bytes_w {H : Hyp} {K : V → Hyp → Prop} {o : OutS} (hm : mayO o = true) (k : ∀ t, bl t = bytesL o → K (vS t) H) : CallW Try.prog Xs 23 [.one (.agg (encO o))] H K := by
  obtain ⟨n1, n2, n3, n4, n5, n6, n7, n8⟩ := may_num hm
  refine call_of (n := 44) (fun _ => rfl) Try.func23 rfl rfl ?_
  refine w_seq ?_
  refine w_region ?_
  refine w_o rfl rfl rfl (op_box rfl fun b1 => ?_)
  refine w_o rfl rfl rfl (op_assign rfl ?_)
  refine w_end ?_
  refine seq_normal ?_
  refine w_seq ?_
  refine w_seq ?_
  refine w_region ?_
  refine w_o rfl rfl rfl (op_fieldAddr fa_31_0 rfl ?_)
  refine w_o rfl rfl rfl (op_loadF agg_3 rfl el_ rfl ?_)
  refine w_end ?_
  refine seq_normal ?_
  refine w_block ?_
  refine w_seq ?_
  refine w_region ?_
  refine w_o rfl rfl rfl (op_eq rfl rfl ?_)
  refine w_o rfl rfl rfl (op_assign rfl ?_)
  refine w_end ?_
  refine seq_normal ?_
  first | refine w_cond rfl (fun hI1 => ?_) (fun hI1 => ?_) | refine w_condB rfl (fun hI1 => ?_) (fun hI1 => ?_)
  · refine w_seq ?_
    refine w_region ?_
    refine w_o rfl rfl rfl (op_fieldAddr fa_31_3 rfl ?_)
    refine w_o rfl rfl rfl (op_loadF agg_9 rfl el_ rfl ?_)
    refine w_o rfl rfl rfl (op_assign rfl ?_)
    refine w_end ?_
    refine seq_normal ?_
    refine w_ret ?_
    refine block_ret ?_
    refine seq_ret ?_
    exact ret_ret rfl sel_ (k _ (bytes_text hI1).symm)
  · refine w_seq ?_
    refine w_region ?_
    refine w_o rfl rfl rfl (op_eq rfl rfl ?_)
    refine w_o rfl rfl rfl (op_assign rfl ?_)
    refine w_end ?_
    refine seq_normal ?_
    first | refine w_cond rfl (fun hI2 => ?_) (fun hI2 => ?_) | refine w_condB rfl (fun hI2 => ?_) (fun hI2 => ?_)
    · refine w_seq ?_
      refine w_drawF ((b1, .row true 31 1 (encO o)) :: H) sel_ (by decide +kernel) (by decide +kernel) ?_
      refine f_b (guard_none rfl) rfl rfl rfl rfl (op_fieldAddr fa_31_1 rfl ?_)
      refine f_l (guard_none rfl) rfl rfl rfl sel_ (op_loadF agg_3 rfl el_ rfl rfl) ?_
      refine f_m (guard_none rfl) rfl rfl rfl (op_call rfl rfl rfl ?_)
      refine Dec_w (n := o.f1) (by omega) (by omega) ?_
      have ds1 := decB_size o.f1 (by omega) (by omega)
      refine ⟨sel_, ?_⟩
      refine f_b (guard_none rfl) rfl rfl rfl rfl (op_stradd rfl rfl (by show 2 + (decB o.f1).size ≤ _; omega) ?_)
      refine f_b (guard_none rfl) rfl rfl rfl rfl (op_stradd rfl rfl (by rw [ByteArray.size_append]; show 2 + (decB o.f1).size + 1 ≤ _; omega) ?_)
      refine f_b (guard_none rfl) rfl rfl rfl rfl (op_fieldAddr fa_31_2 rfl ?_)
      refine f_l (guard_none rfl) rfl rfl rfl sel_ (op_loadF agg_3 rfl el_ rfl rfl) ?_
      refine f_m (guard_none rfl) rfl rfl rfl (op_call rfl rfl rfl ?_)
      refine Dec_w (n := o.f2) (by omega) (by omega) ?_
      have ds2 := decB_size o.f2 (by omega) (by omega)
      refine ⟨sel_, ?_⟩
      refine f_b (guard_none rfl) rfl rfl rfl rfl (op_stradd rfl rfl (by rw [ByteArray.size_append, ByteArray.size_append]; show 2 + (decB o.f1).size + 1 + (decB o.f2).size ≤ _; omega) ?_)
      refine f_b (guard_none rfl) rfl rfl rfl rfl (op_stradd rfl rfl (by rw [ByteArray.size_append, ByteArray.size_append, ByteArray.size_append]; show 2 + (decB o.f1).size + 1 + (decB o.f2).size + 1 ≤ _; omega) ?_)
      refine f_b (guard_none rfl) rfl rfl rfl rfl (op_assign rfl ?_)
      refine f_end ?_
      refine seq_normal ?_
      refine w_ret ?_
      refine block_ret ?_
      refine seq_ret ?_
      refine ret_ret rfl sel_ (k _ ?_)
      rw [esc1 hI2]
      simp only [bl_append]
      rw [decB_dec (by omega), decB_dec (by omega)]
      simp [bl, begB]
    · refine w_seq ?_
      refine w_region ?_
      refine w_o rfl rfl rfl (op_eq rfl rfl ?_)
      refine w_o rfl rfl rfl (op_assign rfl ?_)
      refine w_end ?_
      refine seq_normal ?_
      first | refine w_cond rfl (fun hI3 => ?_) (fun hI3 => ?_) | refine w_condB rfl (fun hI3 => ?_) (fun hI3 => ?_)
      · refine w_seq ?_
        refine w_region ?_
        refine w_o rfl rfl rfl (op_assign rfl ?_)
        refine w_end ?_
        refine seq_normal ?_
        refine w_ret ?_
        refine block_ret ?_
        refine seq_ret ?_
        exact ret_ret rfl sel_ (k _ (esc2 hI3).symm)
      · refine w_seq ?_
        refine w_region ?_
        refine w_o rfl rfl rfl (op_eq rfl rfl ?_)
        refine w_o rfl rfl rfl (op_assign rfl ?_)
        refine w_end ?_
        refine seq_normal ?_
        first | refine w_cond rfl (fun hI4 => ?_) (fun hI4 => ?_) | refine w_condB rfl (fun hI4 => ?_) (fun hI4 => ?_)
        · refine w_seq ?_
          refine w_region ?_
          refine w_o rfl rfl rfl (op_assign rfl ?_)
          refine w_end ?_
          refine seq_normal ?_
          refine w_ret ?_
          refine block_ret ?_
          refine seq_ret ?_
          exact ret_ret rfl sel_ (k _ (esc3 hI4).symm)
        · refine w_seq ?_
          refine w_region ?_
          refine w_o rfl rfl rfl (op_eq rfl rfl ?_)
          refine w_o rfl rfl rfl (op_assign rfl ?_)
          refine w_end ?_
          refine seq_normal ?_
          first | refine w_cond rfl (fun hI5 => ?_) (fun hI5 => ?_) | refine w_condB rfl (fun hI5 => ?_) (fun hI5 => ?_)
          · refine w_seq ?_
            refine w_region ?_
            refine w_o rfl rfl rfl (op_fieldAddr fa_31_1 rfl ?_)
            refine w_o rfl rfl rfl (op_loadF agg_3 rfl el_ rfl ?_)
            refine w_o rfl rfl rfl (op_call rfl rfl rfl ?_)
            refine looks_w (by omega) (by omega) fun t ht => ?_
            have hts : t.size ≤ 10 := by
              have key : ∀ k : Nat, k < 8 → ((looksT[k]?).getD []).length ≤ 10 := by decide
              have := key o.f1.toNat (by omega)
              have e := congrArg List.length ht
              rw [bl_len] at e
              rw [e]; exact this
            refine w_o rfl rfl rfl (op_stradd rfl rfl (by show 2 + t.size ≤ _; omega) ?_)
            refine w_o rfl rfl rfl (op_assign rfl ?_)
            refine w_end ?_
            refine seq_normal ?_
            refine w_ret ?_
            refine block_ret ?_
            refine seq_ret ?_
            refine ret_ret rfl sel_ (k _ ?_)
            rw [esc4 hI5, bl_append, ht]; rfl
          · refine w_seq ?_
            refine w_region ?_
            refine w_o rfl rfl rfl (op_eq rfl rfl ?_)
            refine w_o rfl rfl rfl (op_assign rfl ?_)
            refine w_end ?_
            refine seq_normal ?_
            first | refine w_cond rfl (fun hI6 => ?_) (fun hI6 => ?_) | refine w_condB rfl (fun hI6 => ?_) (fun hI6 => ?_)
            · have h01 : o.f1 = 0 ∨ o.f1 = 1 := (n6 hI6).2
              refine w_seq ?_
              refine w_region ?_
              refine w_o rfl rfl rfl (op_fieldAddr fa_31_1 rfl ?_)
              refine w_o rfl rfl rfl (op_loadF agg_3 rfl el_ rfl ?_)
              refine w_o rfl rfl rfl (op_fieldAddr fa_31_1 rfl ?_)
              refine w_o rfl rfl rfl (op_loadF agg_3 rfl el_ rfl ?_)
              refine w_o rfl rfl rfl (op_addi rfl rfl (by omega) (by omega) ?_)
              refine w_o rfl rfl rfl (op_sliceS (s0 := ⟨#[108, 104]⟩) (l := o.f1) (h := o.f1 + 1) und_9 rfl rfl rfl (by omega) (by omega) (by show o.f1 + 1 ≤ 2; omega) ?_)
              refine w_o rfl rfl rfl (op_stradd rfl rfl (by rw [ByteArray.size_extract]; show 7 + (min _ 2 - _) ≤ _; omega) ?_)
              refine w_o rfl rfl rfl (op_assign rfl ?_)
              refine w_end ?_
              refine seq_normal ?_
              refine w_ret ?_
              refine block_ret ?_
              refine seq_ret ?_
              refine ret_ret rfl sel_ (k _ ?_)
              rcases h01 with h | h
              · rw [esc50 hI6 h, h]; rfl
              · rw [esc51 hI6 h, h]; rfl
            · refine w_seq ?_
              refine w_region ?_
              refine w_o rfl rfl rfl (op_eq rfl rfl ?_)
              refine w_o rfl rfl rfl (op_assign rfl ?_)
              refine w_end ?_
              refine seq_normal ?_
              first | refine w_cond rfl (fun hI7 => ?_) (fun hI7 => ?_) | refine w_condB rfl (fun hI7 => ?_) (fun hI7 => ?_)
              · refine w_seq ?_
                refine w_region ?_
                refine w_o rfl rfl rfl (op_assign rfl ?_)
                refine w_end ?_
                refine seq_normal ?_
                refine w_ret ?_
                refine block_ret ?_
                refine seq_ret ?_
                exact ret_ret rfl sel_ (k _ (bts6 hI7).symm)
              · refine w_seq ?_
                refine w_region ?_
                refine w_o rfl rfl rfl (op_eq rfl rfl ?_)
                refine w_o rfl rfl rfl (op_assign rfl ?_)
                refine w_end ?_
                refine seq_normal ?_
                first | refine w_cond rfl (fun hI8 => ?_) (fun hI8 => ?_) | refine w_condB rfl (fun hI8 => ?_) (fun hI8 => ?_)
                · refine w_seq ?_
                  refine w_region ?_
                  refine w_o rfl rfl rfl (op_assign rfl ?_)
                  refine w_end ?_
                  refine seq_normal ?_
                  refine w_ret ?_
                  refine block_ret ?_
                  refine seq_ret ?_
                  exact ret_ret rfl sel_ (k _ (bts7 hI8).symm)
                · refine w_skip ?_
                  refine block_normal ?_
                  refine seq_normal ?_
                  refine w_seq ?_
                  refine w_region ?_
                  refine w_o rfl rfl rfl (op_assign rfl ?_)
                  refine w_end ?_
                  refine seq_normal ?_
                  refine w_ret ?_
                  exact ret_ret rfl sel_ (k _ (bts8 (by omega)).symm)
theorem textL_snoc (l : List OutS) (i : Nat) (o : OutS) (h : l[i]? = some o) : textL (l.take (i + 1)) = textL (l.take i) ++ bytesL o := by
  rw [List.take_add_one, h]; unfold textL; rw [List.flatMap_append]; simp
theorem Text_w {H : Hyp} {K : V → Hyp → Prop} {c : Cell} {l : List OutS} (h : Sl H 31 4 c l.length (l.flatMap encO)) (hl : l.length ≤ 100000) (ht : ∀ o ∈ l, o.f3.size ≤ 1000000)
    (k1 : (∀ o ∈ l, mayO o = true) → ∀ t, bl t = textL l → K (.tup [.c (.str t), .c (.int .i64 0)]) H) (k2 : ¬ (∀ o ∈ l, mayO o = true) → K (.tup [.c (.str ⟨#[]⟩), .c (.int .i64 2)]) H) : CallW Try.prog Xs 9 [.one (.c c)] H K := by
  refine call_of (n := 25) (fun _ => rfl) Try.func9 rfl rfl ?_
  refine w_seq ?_
  refine w_region ?_
  refine w_o rfl rfl rfl (op_assign rfl ?_)
  refine w_o rfl rfl rfl (op_assign rfl ?_)
  refine w_end ?_
  refine seq_normal ?_
  refine w_seq ?_
  refine w_region ?_
  refine w_o rfl rfl rfl (op_assign rfl ?_)
  refine w_end ?_
  refine seq_normal ?_
  refine w_seq ?_
  refine w_seq ?_
  refine w_region ?_
  refine w_o rfl rfl rfl (op_move rfl ?_)
  refine w_o rfl rfl rfl (op_lenC und_22 rfl h.lenC ?_)
  refine w_o rfl rfl rfl (op_move rfl ?_)
  refine w_end ?_
  refine seq_normal ?_
  refine w_block ?_
  refine w_loop (fun m e H' => ∃ (i : Nat) (t : ByteArray), i ≤ l.length ∧ (∀ o ∈ l.take i, mayO o = true) ∧ bl t = textL (l.take i) ∧ t.size ≤ i * 1000030 ∧ m = l.length - i ∧ H = H' ∧ e = [(4, vS t), (8, .one (.c c)), (9, vI (l.length : Nat)), (10, vI (i : Nat))]) ?_ ?_
  · exact ⟨_, _, _, ⟨0, ⟨#[]⟩, Nat.zero_le _, fun o ho => absurd ho (by simp), rfl, Nat.zero_le _, rfl, rfl, rfl⟩, env_, sel_⟩
  · rintro m e H' ⟨i, t, hi, hm, hbt, hts, rfl, rfl, rfl⟩
    refine w_seq ?_
    refine w_region ?_
    refine w_o rfl rfl rfl (op_lt rfl rfl ?_)
    refine w_end ?_
    refine seq_normal ?_
    refine w_seq ?_
    first | refine w_cond rfl (fun hI1 => ?_) (fun hI1 => ?_) | refine w_condB rfl (fun hI1 => ?_) (fun hI1 => ?_)
    · refine w_skip ?_
      refine seq_normal ?_
      refine w_seq ?_
      refine w_block ?_
      refine w_seq ?_
      refine w_region ?_
      refine w_o rfl rfl rfl (op_indexT (xs := l) (enc := encO) und_22 siz_31 rfl rfl h (fun _ => rfl) rfl (by omega) fun b12 o12 z12 h12 e12 => ?_)
      have hz := ht z12 (List.mem_of_getElem? h12)
      refine w_o rfl rfl rfl (op_loadA agg_31 siz_31 rfl rfl el_ ?_)
      refine w_o rfl rfl rfl (op_alloc zer_31 fun b6 => ?_)
      refine w_on rfl rfl (op_store siz_31 rfl rfl rfl (by (repeat (first | exact Pick.head _ _ _ | apply Pick.tail | apply Pick.app)); first | done | fail) (Nat.le_of_ble_eq_true rfl) rfl ?_)
      refine w_end ?_
      refine seq_normal ?_
      refine w_seq ?_
      refine w_seq ?_
      refine w_region ?_
      refine w_o rfl rfl rfl (op_loadA agg_31 siz_31 rfl rfl el_ ?_)
      refine w_o rfl rfl rfl (op_call rfl rfl rfl ?_)
      refine Check_w (o := z12) hz ?_
      refine w_o rfl rfl rfl (op_assign rfl ?_)
      refine w_end ?_
      refine seq_normal ?_
      refine w_seq ?_
      refine w_region ?_
      refine w_o rfl rfl rfl (op_move rfl ?_)
      refine w_o rfl rfl rfl (op_ne rfl rfl ?_)
      refine w_end ?_
      refine seq_normal ?_
      first | refine w_cond rfl (fun hI2 => ?_) (fun hI2 => ?_) | refine w_condB rfl (fun hI2 => ?_) (fun hI2 => ?_)
      · have hno : ¬ mayO z12 = true := fun q => by rw [if_pos q] at hI2; exact hI2 rfl
        refine w_seq ?_
        refine w_region ?_
        refine w_o rfl rfl rfl (op_move rfl ?_)
        refine w_o rfl rfl rfl (op_assign rfl ?_)
        refine w_o rfl rfl rfl (op_assign rfl ?_)
        refine w_end ?_
        refine seq_normal ?_
        refine w_ret ?_
        refine seq_ret ?_
        refine block_ret ?_
        refine seq_ret ?_
        refine loop_ret ?_
        refine block_ret ?_
        refine seq_ret ?_
        rw [if_neg hno]
        exact ret_ret rfl sel_ (k2 fun q => hno (q z12 (List.mem_of_getElem? h12)))
      · have hyes : mayO z12 = true := Classical.byContradiction fun q => by rw [if_neg q] at hI2; exact hI2 (by decide)
        have hlen := bytesL_len hyes
        refine w_skip ?_
        refine seq_normal ?_
        refine w_region ?_
        refine w_o rfl rfl rfl (op_move rfl ?_)
        refine w_o rfl rfl rfl (op_loadA agg_31 siz_31 rfl rfl el_ ?_)
        refine w_o rfl rfl rfl (op_call rfl rfl rfl ?_)
        refine bytes_w hyes fun t2 ht2 => ?_
        have hs2 : t2.size ≤ 1000030 := by
          have e := congrArg List.length ht2
          rw [bl_len] at e
          omega
        refine w_o rfl rfl rfl (op_stradd rfl rfl (by omega) ?_)
        refine w_o rfl rfl rfl (op_assign rfl ?_)
        refine w_end ?_
        refine block_normal ?_
        refine seq_normal ?_
        refine w_region ?_
        refine w_o rfl rfl rfl (op_addi rfl rfl (by omega) (by omega) ?_)
        refine w_o rfl rfl rfl (op_move rfl ?_)
        refine w_end ?_
        exact loop_normal (k' := l.length - (i + 1)) (by omega) ⟨i + 1, t ++ t2, by omega, (fun o ho => by
          rw [List.take_add_one, h12] at ho
          rcases List.mem_append.1 ho with q | q
          · exact hm o q
          · have : o = z12 := by simpa using q
            rw [this]; exact hyes), by rw [bl_append, hbt, ht2, textL_snoc l i z12 h12], by rw [ByteArray.size_append]; omega, rfl, rfl, rfl⟩ env_ sel_
    · refine w_exit ?_
      refine seq_exit ?_
      refine loop_exit ?_
      refine block_hit rfl ?_
      refine seq_normal ?_
      refine w_seq ?_
      refine w_region ?_
      refine w_o rfl rfl rfl (op_move rfl ?_)
      refine w_o rfl rfl rfl (op_assign rfl ?_)
      refine w_o rfl rfl rfl (op_assign rfl ?_)
      refine w_end ?_
      refine seq_normal ?_
      refine w_ret ?_
      have hi' : i = l.length := by omega
      rw [hi', List.take_length] at hm hbt
      exact ret_ret rfl sel_ (k1 hm t hbt)
end Go.Proofs.Ytigkfladgdknbaa.AM.B
