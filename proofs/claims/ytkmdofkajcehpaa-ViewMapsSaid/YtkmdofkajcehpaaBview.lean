/- What view's functions answer. -/
import Derived.Test.YtkmdofkajcehpaaAX
import Derived.Test.YtkmdofkajcehpaaBshowref
import Derived.Test.YtkmdofkajcehpaaQShowCols2
set_option linter.unusedVariables false
set_option linter.unusedSimpArgs false
set_option maxRecDepth 10000
set_option maxHeartbeats 4000000
namespace Go.Proofs.Ytkmdofkajcehpaa.AM.B
open Go Go.RowKit
theorem IndexFuncD_w {H : Hyp} {K : V → Hyp → Prop} {c : Cell} {l : List (DC)} {p : DC → Bool} {g : Nat} {caps : List (Nat × Nat)} (h : Sl H 100 5 c l.length (l.flatMap encD)) (hl : l.length ≤ 1000000000)
    (hg : ∀ x ∈ l, ∀ (H0 : Hyp) (K' : V → Hyp → Prop), Sel H0 H → K' (vB (p x)) H0 → CallW Try.prog Xs g ([.one (.agg (encD x))] ++ caps.map fun p => ptrV p.1 p.2) H0 K')
    (k : K (vI (idxF p l)) H) : CallW Try.prog Xs 108 [.one (.c c), .one (.c (.fn g caps))] H K := by
  refine call_of (n := 19) (fun _ => rfl) Try.func108 rfl rfl ?_
  refine w_seq ?_
  refine w_region ?_
  refine w_o rfl rfl rfl (op_assign rfl ?_)
  refine w_end ?_
  refine seq_normal ?_
  refine w_seq ?_
  refine w_seq ?_
  refine w_region ?_
  refine w_o rfl rfl rfl (op_move rfl ?_)
  refine w_o rfl rfl rfl (op_lenC und_24 rfl (by first | exact ⟨rfl, fun s e => by cases e⟩ | exact Sl.lenC (by assumption) | (refine Own.lenT (by assumption) ?_ ?_ <;> first | exact fun _ => rfl | decide)) ?_)
  refine w_o rfl rfl rfl (op_move rfl ?_)
  refine w_end ?_
  refine seq_normal ?_
  refine w_block ?_
  refine w_loop (fun m e H' => ∃ (i : Nat), i ≤ l.length ∧ m = l.length - i ∧ (∀ j x, j < i → l[j]? = some x → p x = false) ∧ H = H' ∧ e = [(0, .one (.c c)), (1, .one (.c (.fn g caps))), (7, vI (l.length : Nat)), (8, vI (i : Nat))]) ?_ ?_
  · exact ⟨_, _, _, ⟨0, Nat.zero_le _, rfl, fun j x hj => absurd hj (Nat.not_lt_zero _), rfl, rfl⟩, env_, sel_⟩
  · rintro m e H' ⟨i, hi, rfl, hp, rfl, rfl⟩
    refine w_seq ?_
    refine w_region ?_
    refine w_o rfl rfl rfl (op_lt rfl rfl ?_)
    refine w_end ?_
    refine seq_normal ?_
    refine w_seq ?_
    first | refine w_cond rfl (fun hI1 => ?_) (fun hI1 => ?_) | refine w_condB rfl (fun hI1 => ?_) (fun hI1 => ?_)
    · refine w_skip ?_
      refine seq_normal ?_
      refine w_seq ?_
      refine w_block ?_
      refine w_seq ?_
      refine w_region ?_
      refine w_o rfl rfl rfl (op_move rfl ?_)
      refine w_o rfl rfl rfl (op_assign rfl ?_)
      refine w_end ?_
      refine seq_normal ?_
      refine w_seq ?_
      refine w_region ?_
      refine w_o rfl rfl rfl (op_move rfl ?_)
      refine w_o rfl rfl rfl (op_move rfl ?_)
      refine w_o rfl rfl rfl (op_move rfl ?_)
      refine w_o rfl rfl rfl (op_indexT (enc := encD) und_24 siz_100 rfl rfl (by first | assumption | (repeat (first | assumption | apply Sl.cons | apply Sl.app))) (fun _ => rfl) rfl (by omega) fun b14 o14 z14 h14 e14 => ?_)
      refine w_o rfl rfl rfl (op_loadA agg_100 siz_100 rfl rfl el_ ?_)
      refine w_o rfl rfl rfl (op_call rfl rfl rfl ?_)
      refine hg z14 (List.mem_of_getElem? h14) _ _ (.refl _) ?_
      refine w_end ?_
      refine seq_normal ?_
      first | refine w_cond rfl (fun hI2 => ?_) (fun hI2 => ?_) | refine w_condB rfl (fun hI2 => ?_) (fun hI2 => ?_)
      · refine w_seq ?_
        refine w_region ?_
        refine w_o rfl rfl rfl (op_move rfl ?_)
        refine w_o rfl rfl rfl (op_assign rfl ?_)
        refine w_end ?_
        refine seq_normal ?_
        refine w_ret ?_
        refine block_ret ?_
        refine seq_ret ?_
        refine loop_ret ?_
        refine block_ret ?_
        refine seq_ret ?_
        rw [idxF_at h14 hI2 hp] at k
        exact ret_ret rfl (.refl _) k
      · refine w_skip ?_
        refine block_normal ?_
        refine seq_normal ?_
        refine w_region ?_
        refine w_o rfl rfl rfl (op_addi rfl rfl (by omega) (by omega) ?_)
        refine w_o rfl rfl rfl (op_move rfl ?_)
        refine w_end ?_
        refine loop_normal (k' := l.length - (i + 1)) (by omega) ⟨i + 1, by omega, rfl, ?_, rfl, rfl⟩ env_ sel_
        intro j x hj hx
        by_cases e : j = i
        · subst e; rw [h14] at hx; cases hx; exact hI2
        · exact hp j x (by omega) hx
    · refine w_exit ?_
      refine seq_exit ?_
      refine loop_exit ?_
      refine block_hit rfl ?_
      refine seq_normal ?_
      refine w_seq ?_
      refine w_region ?_
      refine w_o rfl rfl rfl (op_assign rfl ?_)
      refine w_end ?_
      refine seq_normal ?_
      refine w_ret ?_
      rw [idxF_no (fun x hx => by
        obtain ⟨j, hj⟩ := List.getElem?_of_mem hx
        exact hp j x (by have := (List.getElem?_eq_some_iff.1 hj).1; omega) hj)] at k
      exact ret_ret rfl (.refl _) k
def promptC (l : List Sign) : List DC := l.flatMap fun s => cellsV s (-1)
/-- The cells of a line's signs, from a number on. -/
def lineC : Int → List Sign → List DC
  | _, [] => []
  | i, s :: l => cellsV s i ++ lineC (i + 1) l
def viewC (p l : List Sign) : List DC := promptC p ++ lineC 0 l
theorem promptC_take {l : List Sign} {j : Nat} {s : Sign} (h : l[j]? = some s) : promptC (l.take (j + 1)) = promptC (l.take j) ++ cellsV s (-1) := by
  unfold promptC; rw [List.take_add_one, h]; simp
theorem lineC_take : ∀ {l : List Sign} {j : Nat} {s : Sign} (i : Int), l[j]? = some s → lineC i (l.take (j + 1)) = lineC i (l.take j) ++ cellsV s (i + j)
  | [], j, s, i, h => by simp at h
  | a :: l, 0, s, i, h => by simp at h; subst h; simp [lineC]
  | a :: l, j + 1, s, i, h => by
    have := lineC_take (l := l) (j := j) (i + 1) (by simpa using h)
    simp only [List.take_succ_cons, lineC, List.append_assoc]
    rw [this, show i + 1 + (j : Int) = i + ((j + 1 : Nat) : Int) by omega]
theorem promptC_len (l : List Sign) : (promptC l).length ≤ 10 * l.length := by
  unfold promptC
  induction l with
  | nil => simp
  | cons s l ih => have := cellsV_len s (-1); simp only [List.flatMap_cons, List.length_append, List.length_cons]; omega
theorem lineC_len : ∀ (i : Int) (l : List Sign), (lineC i l).length ≤ 10 * l.length
  | _, [] => by simp [lineC]
  | i, s :: l => by have h1 := cellsV_len s i; have h2 := lineC_len (i + 1) l; simp only [lineC, List.length_append, List.length_cons]; omega
theorem promptC_take_len (l : List Sign) (j : Nat) : (promptC (l.take j)).length ≤ 10 * l.length := by
  have := promptC_len (l.take j); rw [List.length_take] at this; omega
theorem lineC_take_len (i : Int) (l : List Sign) (j : Nat) : (lineC i (l.take j)).length ≤ 10 * l.length := by
  have := lineC_len i (l.take j); rw [List.length_take] at this; omega
theorem viewOf_w {H : Hyp} {K : V → Hyp → Prop} {c c' : Cell} {p l : List Sign} (h : Sl H 23 2 c p.length (p.flatMap encS)) (h' : Sl H 23 2 c' l.length (l.flatMap encS)) (hp : p.length ≤ 1000) (hl : l.length ≤ 1000)
    (k1 : (p.all rightS && l.all rightS) = false → K (.tup [.c .nils, .c (.int .i64 2)]) H)
    (k2 : (p.all rightS && l.all rightS) = true → ∀ c N, Own 100 5 c ((viewC p l).flatMap encD) N → K (.tup [.c c, .c (.int .i64 0)]) (N ++ H)) : CallW Try.prog Xs 33 [.one (.c c), .one (.c c')] H K := by
  refine call_of (n := 44) (fun _ => rfl) Try.func33 rfl rfl ?_
  refine w_seq ?_
  refine w_region ?_
  refine w_o rfl rfl rfl (op_assign rfl ?_)
  refine w_o rfl rfl rfl (op_assign rfl ?_)
  refine w_end ?_
  refine seq_normal ?_
  refine w_seq ?_
  refine w_seq ?_
  refine w_region ?_
  refine w_o rfl rfl rfl (op_move rfl ?_)
  refine w_o rfl rfl rfl (op_call rfl rfl rfl ?_)
  refine signCheck_w h (by omega) ?_
  refine w_o rfl rfl rfl (op_ne rfl rfl ?_)
  refine w_o rfl rfl rfl (op_move rfl ?_)
  first | refine w_known (t := 14) rfl (fun g14 => ?_) (fun g14 => ?_) | refine w_knownB (t := 14) rfl (fun g14 => ?_) (fun g14 => ?_)
  · have hp0 : p.all rightS = false := by cases hh : p.all rightS; rfl; simp [hh] at g14
    have hr : (p.all rightS && l.all rightS) = false := by rw [hp0]; rfl
    refine w_u rfl rfl rfl rfl rfl rfl ?_
    refine w_u rfl rfl rfl rfl rfl rfl ?_
    refine w_u rfl rfl rfl rfl rfl rfl ?_
    refine w_o rfl rfl rfl (op_pick rfl rfl rfl ?_)
    refine w_end ?_
    refine seq_normal ?_
    refine w_condT rfl ?_
    refine w_seq ?_
    refine w_region ?_
    refine w_o rfl rfl rfl (op_assign rfl ?_)
    refine w_o rfl rfl rfl (op_assign rfl ?_)
    refine w_end ?_
    refine seq_normal ?_
    refine w_ret ?_
    refine seq_ret ?_
    exact ret_ret rfl sel_ (k1 hr)
  · have hp1 : p.all rightS = true := by cases hh : p.all rightS; simp [hh] at g14; rfl
    refine w_og rfl rfl rfl rfl rfl (op_move rfl ?_)
    refine w_og rfl rfl rfl rfl rfl (op_call rfl rfl rfl ?_)
    refine signCheck_w h' (by omega) ?_
    refine w_og rfl rfl rfl rfl rfl (op_ne rfl rfl ?_)
    refine w_o rfl rfl rfl (op_pick rfl rfl rfl ?_)
    refine w_end ?_
    refine seq_normal ?_
    first | refine w_cond rfl (fun hI1 => ?_) (fun hI1 => ?_) | refine w_condB rfl (fun hI1 => ?_) (fun hI1 => ?_)
    · have hr : (p.all rightS && l.all rightS) = false := by cases hh : l.all rightS; simp; simp [hh] at hI1
      refine w_seq ?_
      refine w_region ?_
      refine w_o rfl rfl rfl (op_assign rfl ?_)
      refine w_o rfl rfl rfl (op_assign rfl ?_)
      refine w_end ?_
      refine seq_normal ?_
      refine w_ret ?_
      refine seq_ret ?_
      exact ret_ret rfl sel_ (k1 hr)
    · have hr : (p.all rightS && l.all rightS) = true := by rw [hp1]; cases hh : l.all rightS; simp [hh] at hI1; rfl
      refine w_skip ?_
      refine seq_normal ?_
      refine w_seq ?_
      refine w_region ?_
      refine w_o rfl rfl rfl (op_assign rfl ?_)
      refine w_end ?_
      refine seq_normal ?_
      refine w_seq ?_
      refine w_seq ?_
      refine w_region ?_
      refine w_o rfl rfl rfl (op_move rfl ?_)
      refine w_o rfl rfl rfl (op_lenC und_36 rfl h.lenC ?_)
      refine w_o rfl rfl rfl (op_move rfl ?_)
      refine w_end ?_
      refine seq_normal ?_
      refine w_block ?_
      refine w_loop (fun m e H' => ∃ (i : Nat) (cc : Cell) (N : Hyp), i ≤ p.length ∧ m = p.length - i ∧ Own 100 5 cc ((promptC (p.take i)).flatMap encD) N ∧ H' = N ++ H ∧ e = [(1, .one (.c c')), (6, .one (.c cc)), (19, .one (.c c)), (20, vI (p.length : Nat)), (21, vI (i : Nat))]) ?_ ?_
      · exact ⟨_, _, _, ⟨0, .nils, [], Nat.zero_le _, rfl, .nil, rfl, rfl⟩, env_, sel_⟩
      · rintro m e H' ⟨i, cc, N, hi, rfl, hO, rfl, rfl⟩
        have hle := promptC_take_len p i
        refine w_seq ?_
        refine w_region ?_
        refine w_o rfl rfl rfl (op_lt rfl rfl ?_)
        refine w_end ?_
        refine seq_normal ?_
        refine w_seq ?_
        first | refine w_cond rfl (fun hI2 => ?_) (fun hI2 => ?_) | refine w_condB rfl (fun hI2 => ?_) (fun hI2 => ?_)
        · refine w_skip ?_
          refine seq_normal ?_
          refine w_seq ?_
          refine w_block ?_
          refine w_seq ?_
          refine w_region ?_
          refine w_o rfl rfl rfl (op_indexT (enc := encS) und_36 siz_23 rfl rfl h.app (fun _ => rfl) rfl (by omega) fun b23 o23 z23 h23 e23 => ?_)
          refine w_o rfl rfl rfl (op_loadA agg_23 siz_23 rfl rfl el_ ?_)
          refine w_o rfl rfl rfl (op_alloc zer_23 fun b8 => ?_)
          refine w_on rfl rfl (op_store siz_23 rfl rfl rfl (by (repeat (first | exact Pick.head _ _ _ | apply Pick.tail | apply Pick.app)); first | done | fail) (Nat.le_of_ble_eq_true rfl) rfl ?_)
          refine w_end ?_
          refine seq_normal ?_
          refine w_region ?_
          refine w_o rfl rfl rfl (op_move rfl ?_)
          refine w_o rfl rfl rfl (op_loadA agg_23 siz_23 rfl rfl el_ ?_)
          refine w_o rfl rfl rfl (op_call rfl rfl rfl ?_)
          refine Cells_w fun c27 N27 o27 => ?_
          have hle2 := cellsV_len z23 (-1)
          refine w_o rfl rfl rfl (op_appendT (xs := promptC (p.take i)) (ys := cellsV z23 (-1)) (enc := encD) elm_24 inf_100 zer_100 (by decide) und_24 rfl rfl hO (fun _ => rfl) (by (repeat (first | exact PickL.front _ _ | exact PickL.nil _ | apply PickL.skip | apply PickL.skipL)); first | done | fail) (Own.slT o27 (fun _ => rfl) (by decide) subs_) (by omega) fun c28 N28 h28 => ?_)
          refine w_o rfl rfl rfl (op_assign rfl ?_)
          refine w_end ?_
          refine block_normal ?_
          refine seq_normal ?_
          refine w_region ?_
          refine w_o rfl rfl rfl (op_addi rfl rfl (by omega) (by omega) ?_)
          refine w_o rfl rfl rfl (op_move rfl ?_)
          refine w_end ?_
          rw [← promptC_take h23] at h28
          exact loop_normal (k' := p.length - (i + 1)) (by omega) ⟨i + 1, c28, N28, by omega, rfl, h28, rfl, rfl⟩ env_ sel_
        · have hi' : i = p.length := by omega
          subst hi'
          rw [List.take_length] at hO hle
          refine w_exit ?_
          refine seq_exit ?_
          refine loop_exit ?_
          refine block_hit rfl ?_
          refine seq_normal ?_
          refine w_seq ?_
          refine w_seq ?_
          refine w_region ?_
          refine w_o rfl rfl rfl (op_move rfl ?_)
          refine w_o rfl rfl rfl (op_lenC und_36 rfl h'.lenC ?_)
          refine w_o rfl rfl rfl (op_move rfl ?_)
          refine w_end ?_
          refine seq_normal ?_
          refine w_block ?_
          refine w_loop (fun m e H' => ∃ (i : Nat) (cc : Cell) (N : Hyp), i ≤ l.length ∧ m = l.length - i ∧ Own 100 5 cc ((promptC p ++ lineC 0 (l.take i)).flatMap encD) N ∧ H' = N ++ H ∧ e = [(6, .one (.c cc)), (30, .one (.c c')), (31, vI (l.length : Nat)), (32, vI (i : Nat))]) ?_ ?_
          · exact ⟨_, _, _, ⟨0, cc, N, Nat.zero_le _, rfl, by rw [List.take_zero]; simpa only [lineC, List.append_nil] using hO, rfl, rfl⟩, env_, sel_⟩
          · rintro m e H' ⟨i, cc, N, hi, rfl, hO, rfl, rfl⟩
            have hle3 := lineC_take_len 0 l i
            refine w_seq ?_
            refine w_region ?_
            refine w_o rfl rfl rfl (op_lt rfl rfl ?_)
            refine w_end ?_
            refine seq_normal ?_
            refine w_seq ?_
            first | refine w_cond rfl (fun hI3 => ?_) (fun hI3 => ?_) | refine w_condB rfl (fun hI3 => ?_) (fun hI3 => ?_)
            · refine w_skip ?_
              refine seq_normal ?_
              refine w_seq ?_
              refine w_block ?_
              refine w_seq ?_
              refine w_region ?_
              refine w_o rfl rfl rfl (op_move rfl ?_)
              refine w_o rfl rfl rfl (op_indexT (enc := encS) und_36 siz_23 rfl rfl h'.app (fun _ => rfl) rfl (by omega) fun b35 o35 z35 h35 e35 => ?_)
              refine w_o rfl rfl rfl (op_loadA agg_23 siz_23 rfl rfl el_ ?_)
              refine w_o rfl rfl rfl (op_alloc zer_23 fun b10 => ?_)
              refine w_o rfl rfl rfl (op_assign rfl ?_)
              refine w_on rfl rfl (op_store siz_23 rfl rfl rfl (by (repeat (first | exact Pick.head _ _ _ | apply Pick.tail | apply Pick.app)); first | done | fail) (Nat.le_of_ble_eq_true rfl) rfl ?_)
              refine w_end ?_
              refine seq_normal ?_
              refine w_region ?_
              refine w_o rfl rfl rfl (op_move rfl ?_)
              refine w_o rfl rfl rfl (op_loadA agg_23 siz_23 rfl rfl el_ ?_)
              refine w_o rfl rfl rfl (op_move rfl ?_)
              refine w_o rfl rfl rfl (op_call rfl rfl rfl ?_)
              refine Cells_w fun c40 N40 o40 => ?_
              have hle4 := cellsV_len z35 (i : Int)
              refine w_o rfl rfl rfl (op_appendT (xs := promptC p ++ lineC 0 (l.take i)) (ys := cellsV z35 (i : Int)) (enc := encD) elm_24 inf_100 zer_100 (by decide) und_24 rfl rfl hO (fun _ => rfl) (by (repeat (first | exact PickL.front _ _ | exact PickL.nil _ | apply PickL.skip | apply PickL.skipL)); first | done | fail) (Own.slT o40 (fun _ => rfl) (by decide) subs_) (by rw [List.length_append]; omega) fun c41 N41 h41 => ?_)
              refine w_o rfl rfl rfl (op_assign rfl ?_)
              refine w_end ?_
              refine block_normal ?_
              refine seq_normal ?_
              refine w_region ?_
              refine w_o rfl rfl rfl (op_addi rfl rfl (by omega) (by omega) ?_)
              refine w_o rfl rfl rfl (op_move rfl ?_)
              refine w_end ?_
              have ht := lineC_take 0 h35
              rw [Int.zero_add] at ht
              rw [List.append_assoc, ← ht] at h41
              exact loop_normal (k' := l.length - (i + 1)) (by omega) ⟨i + 1, c41, N41, by omega, rfl, h41, rfl, rfl⟩ env_ sel_
            · have hi' : i = l.length := by omega
              subst hi'
              rw [List.take_length] at hO
              refine w_exit ?_
              refine seq_exit ?_
              refine loop_exit ?_
              refine block_hit rfl ?_
              refine seq_normal ?_
              refine w_seq ?_
              refine w_region ?_
              refine w_o rfl rfl rfl (op_move rfl ?_)
              refine w_o rfl rfl rfl (op_assign rfl ?_)
              refine w_o rfl rfl rfl (op_assign rfl ?_)
              refine w_end ?_
              refine seq_normal ?_
              refine w_ret ?_
              exact ret_ret rfl sel_ (k2 hr _ _ hO)
theorem viewCols_w {H : Hyp} {K : V → Hyp → Prop} {c : Cell} {l : List Sign} (h : Sl H 23 2 c l.length (l.flatMap encS)) (hl : l.length ≤ 1000) (k : K (vI ((promptC l).length : Nat)) H) : CallW Try.prog Xs 36 [.one (.c c)] H K := by
  refine call_of (n := 19) (fun _ => rfl) Try.func36 rfl rfl ?_
  refine w_seq ?_
  refine w_region ?_
  refine w_o rfl rfl rfl (op_assign rfl ?_)
  refine w_end ?_
  refine seq_normal ?_
  refine w_seq ?_
  refine w_region ?_
  refine w_o rfl rfl rfl (op_assign rfl ?_)
  refine w_end ?_
  refine seq_normal ?_
  refine w_seq ?_
  refine w_seq ?_
  refine w_region ?_
  refine w_o rfl rfl rfl (op_move rfl ?_)
  refine w_o rfl rfl rfl (op_lenC und_36 rfl h.lenC ?_)
  refine w_o rfl rfl rfl (op_move rfl ?_)
  refine w_end ?_
  refine seq_normal ?_
  refine w_block ?_
  refine w_loop (fun m e H' => ∃ (i : Nat), i ≤ l.length ∧ m = l.length - i ∧ H = H' ∧ e = [(3, vI ((promptC (l.take i)).length : Nat)), (6, .one (.c c)), (7, vI (l.length : Nat)), (8, vI (i : Nat))]) ?_ ?_
  · exact ⟨_, _, _, ⟨0, Nat.zero_le _, rfl, rfl, rfl⟩, env_, sel_⟩
  · rintro m e H' ⟨i, hi, rfl, rfl, rfl⟩
    have hle := promptC_take_len l i
    refine w_seq ?_
    refine w_region ?_
    refine w_o rfl rfl rfl (op_lt rfl rfl ?_)
    refine w_end ?_
    refine seq_normal ?_
    refine w_seq ?_
    first | refine w_cond rfl (fun hI1 => ?_) (fun hI1 => ?_) | refine w_condB rfl (fun hI1 => ?_) (fun hI1 => ?_)
    · refine w_skip ?_
      refine seq_normal ?_
      refine w_seq ?_
      refine w_block ?_
      refine w_seq ?_
      refine w_region ?_
      refine w_o rfl rfl rfl (op_indexT (enc := encS) und_36 siz_23 rfl rfl h (fun _ => rfl) rfl (by omega) fun b10 o10 z10 h10 e10 => ?_)
      refine w_o rfl rfl rfl (op_loadA agg_23 siz_23 rfl rfl el_ ?_)
      refine w_o rfl rfl rfl (op_alloc zer_23 fun b5 => ?_)
      refine w_on rfl rfl (op_store siz_23 rfl rfl rfl (by (repeat (first | exact Pick.head _ _ _ | apply Pick.tail | apply Pick.app)); first | done | fail) (Nat.le_of_ble_eq_true rfl) rfl ?_)
      refine w_end ?_
      refine seq_normal ?_
      refine w_region ?_
      refine w_o rfl rfl rfl (op_move rfl ?_)
      refine w_o rfl rfl rfl (op_fieldAddr fa_23_0 rfl ?_)
      refine w_o rfl rfl rfl (op_loadF agg_3 rfl el_ rfl ?_)
      refine w_o rfl rfl rfl (op_call rfl rfl rfl ?_)
      refine show_Cols_sw (Go.Proofs.Ytkmdofkajcehpaa.P.show_Cols.at z10.f0 100 (by decide)) ?_
      have hle2 := cellsV_len z10 (-1)
      have hc : Go.Proofs.Ytkmdofkajcehpaa.P.colsV z10.f0 = ((cellsV z10 (-1)).length : Int) := (cellsV_cols z10 (-1)).symm
      rw [hc]
      refine w_o rfl rfl rfl (op_addi rfl rfl (by omega) (by omega) ?_)
      refine w_o rfl rfl rfl (op_assign rfl ?_)
      refine w_end ?_
      refine block_normal ?_
      refine seq_normal ?_
      refine w_region ?_
      refine w_o rfl rfl rfl (op_addi rfl rfl (by omega) (by omega) ?_)
      refine w_o rfl rfl rfl (op_move rfl ?_)
      refine w_end ?_
      have e1 : ((promptC (l.take (i + 1))).length : Int) = ((promptC (l.take i)).length : Int) + ((cellsV z10 (-1)).length : Int) := by rw [promptC_take h10, List.length_append]; omega
      exact loop_normal (k' := l.length - (i + 1)) (by omega) ⟨i + 1, by omega, rfl, rfl, rfl⟩ (by rw [e1]; exact env_) sel_
    · refine w_exit ?_
      refine seq_exit ?_
      refine loop_exit ?_
      refine block_hit rfl ?_
      refine seq_normal ?_
      refine w_seq ?_
      refine w_region ?_
      refine w_o rfl rfl rfl (op_move rfl ?_)
      refine w_o rfl rfl rfl (op_assign rfl ?_)
      refine w_end ?_
      refine seq_normal ?_
      refine w_ret ?_
      have hi' : i = l.length := by omega
      subst hi'
      rw [List.take_length]
      exact ret_ret rfl sel_ k
theorem First1_w {H : Hyp} {K : V → Hyp → Prop} {x : DC} {b : Nat} {i : Int} (hb : El H b 0 [.int .i64 i]) (k : K (vB (decide (x.f2 ≥ i))) H) : CallW Try.prog Xs 109 [.one (.agg (encD x)), ptrV b 0] H K := by
  refine call_of (n := 8) (fun _ => rfl) Try.func109 rfl rfl ?_
  refine w_seq ?_
  refine w_region ?_
  refine w_o rfl rfl rfl (op_box rfl fun b2 => ?_)
  refine w_o rfl rfl rfl (op_assign rfl ?_)
  refine w_end ?_
  refine seq_normal ?_
  refine w_seq ?_
  refine w_region ?_
  refine w_o rfl rfl rfl (op_fieldAddr fa_100_2 rfl ?_)
  refine w_o rfl rfl rfl (op_loadF agg_3 rfl el_ rfl ?_)
  refine w_o rfl rfl rfl (op_load1 agg_3 rfl el_ ?_)
  refine w_o rfl rfl rfl (op_ge rfl rfl ?_)
  refine w_o rfl rfl rfl (op_assign rfl ?_)
  refine w_end ?_
  refine seq_normal ?_
  refine w_ret ?_
  exact ret_ret rfl sel_ k
/-- How many cells come ahead of a number's. -/
def firstN (l : List DC) (i : Int) : Nat := (l.takeWhile fun x => decide (x.f2 < i)).length
theorem firstN_le (l : List DC) (i : Int) : firstN l i ≤ l.length := by
  unfold firstN
  induction l with
  | nil => simp
  | cons x l ih => simp only [List.takeWhile]; split <;> simp <;> omega
theorem firstN_idx (l : List DC) (i : Int) : idxF (fun x : DC => decide (x.f2 ≥ i)) l = if firstN l i = l.length then -1 else (firstN l i : Int) := by
  have key : ∀ (l : List DC) (j : Nat) (x : DC), j < firstN l i → l[j]? = some x → x.f2 < i := by
    intro l
    induction l with
    | nil => intro j x h; simp [firstN] at h
    | cons y l ih =>
      intro j x h hx
      unfold firstN at h
      simp only [List.takeWhile] at h
      split at h
      · rename_i hy
        cases j with
        | zero => simp at hx; subst hx; simpa using hy
        | succ j => exact ih j x (by unfold firstN; simp at h; omega) (by simpa using hx)
      · simp at h
  have key2 : ∀ (l : List DC) (x : DC), l[firstN l i]? = some x → ¬ x.f2 < i := by
    intro l
    induction l with
    | nil => intro x h; simp at h
    | cons y l ih =>
      intro x h
      unfold firstN at h
      simp only [List.takeWhile] at h
      split at h
      · exact ih x (by unfold firstN; simpa using h)
      · rename_i hy; simp at h; subst h; simpa using hy
  have hle := firstN_le l i
  by_cases e : firstN l i = l.length
  · rw [if_pos e]
    refine idxF_no fun x hx => ?_
    obtain ⟨j, hj⟩ := List.getElem?_of_mem hx
    have := key l j x (by have := (List.getElem?_eq_some_iff.1 hj).1; omega) hj
    exact decide_eq_false (by omega)
  · rw [if_neg e]
    have hx : l[firstN l i]? = some l[firstN l i] := List.getElem?_eq_getElem (by omega)
    refine idxF_at hx (decide_eq_true (by have := key2 l _ hx; omega)) fun j y hj hy => ?_
    have := key l j y hj hy
    exact decide_eq_false (by omega)
theorem viewFirst_w {H : Hyp} {K : V → Hyp → Prop} {c : Cell} {l : List DC} {i : Int} (h : Sl H 100 5 c l.length (l.flatMap encD)) (hl : l.length ≤ 1000000) (k : K (vI (firstN l i : Nat)) H) : CallW Try.prog Xs 37 [.one (.c c), vI i] H K := by
  have hix := firstN_idx l i
  have hle := firstN_le l i
  refine call_of (n := 14) (fun _ => rfl) Try.func37 rfl rfl ?_
  refine w_seq ?_
  refine w_region ?_
  refine w_o rfl rfl rfl (op_box rfl fun b3 => ?_)
  refine w_o rfl rfl rfl (op_assign rfl ?_)
  refine w_end ?_
  refine seq_normal ?_
  refine w_seq ?_
  refine w_region ?_
  refine w_o rfl rfl rfl (op_move rfl ?_)
  refine w_o rfl rfl rfl (op_makeFunc rfl ?_)
  refine w_o rfl rfl rfl (op_call rfl rfl rfl ?_)
  refine IndexFuncD_w (p := fun x => decide (x.f2 ≥ i)) (caps := [(b3, 0)]) h.cons (by omega) (fun x _ H0 K' hs k' => First1_w (El.sel (El.row mem_) hs) k') ?_
  refine w_o rfl rfl rfl (op_assign rfl ?_)
  refine w_end ?_
  refine seq_normal ?_
  refine w_seq ?_
  refine w_seq ?_
  refine w_region ?_
  refine w_o rfl rfl rfl (op_move rfl ?_)
  refine w_o rfl rfl rfl (op_lt rfl rfl ?_)
  refine w_end ?_
  refine seq_normal ?_
  first | refine w_cond rfl (fun hI1 => ?_) (fun hI1 => ?_) | refine w_condB rfl (fun hI1 => ?_) (fun hI1 => ?_)
  · refine w_seq ?_
    refine w_region ?_
    refine w_o rfl rfl rfl (op_move rfl ?_)
    refine w_o rfl rfl rfl (op_lenC und_24 rfl h.lenC ?_)
    refine w_o rfl rfl rfl (op_assign rfl ?_)
    refine w_end ?_
    refine seq_normal ?_
    refine w_ret ?_
    refine seq_ret ?_
    have e : firstN l i = l.length := by
      by_cases q : firstN l i = l.length
      · exact q
      · rw [if_neg q] at hix; omega
    rw [e] at k
    exact ret_ret rfl sel_ k
  · refine w_skip ?_
    refine seq_normal ?_
    refine w_seq ?_
    refine w_region ?_
    refine w_o rfl rfl rfl (op_move rfl ?_)
    refine w_o rfl rfl rfl (op_assign rfl ?_)
    refine w_end ?_
    refine seq_normal ?_
    refine w_ret ?_
    have e : idxF (fun x : DC => decide (x.f2 ≥ i)) l = (firstN l i : Int) := by
      by_cases q : firstN l i = l.length
      · rw [if_pos q] at hix; omega
      · rw [if_neg q] at hix; exact hix
    rw [← e] at k
    exact ret_ret rfl sel_ k
theorem viewOwn_w {H : Hyp} {K : V → Hyp → Prop} {c : Cell} {l : List DC} {j : Nat} {z : DC} (h : Sl H 100 5 c l.length (l.flatMap encD)) (hl : l.length ≤ 1000000) (hz : l[j]? = some z) (k : K (vI z.f2) H) : CallW Try.prog Xs 38 [.one (.c c), vI (j : Nat)] H K := by
  have hj : j < l.length := (List.getElem?_eq_some_iff.1 hz).1
  refine call_of (n := 34) (fun _ => rfl) Try.func38 rfl rfl ?_
  refine w_seq ?_
  refine w_region ?_
  refine w_o rfl rfl rfl (op_assign rfl ?_)
  refine w_end ?_
  refine seq_normal ?_
  refine w_seq ?_
  refine w_block ?_
  refine w_seq ?_
  refine w_region ?_
  refine w_o rfl rfl rfl (op_move rfl ?_)
  refine w_o rfl rfl rfl (op_lenC und_24 rfl h.lenC ?_)
  refine w_o rfl rfl rfl (op_eq rfl rfl ?_)
  refine w_o rfl rfl rfl (op_assign rfl ?_)
  refine w_end ?_
  refine seq_normal ?_
  refine w_condN rfl (by omega) ?_
  refine w_seq ?_
  refine w_region ?_
  refine w_o rfl rfl rfl (op_move rfl ?_)
  refine w_o rfl rfl rfl (op_lt rfl rfl ?_)
  refine w_o rfl rfl rfl (op_assign rfl ?_)
  refine w_end ?_
  refine seq_normal ?_
  refine w_condN rfl (by omega) ?_
  refine w_seq ?_
  refine w_region ?_
  refine w_o rfl rfl rfl (op_move rfl ?_)
  refine w_o rfl rfl rfl (op_move rfl ?_)
  refine w_o rfl rfl rfl (op_lenC und_24 rfl h.lenC ?_)
  refine w_o rfl rfl rfl (op_ge rfl rfl ?_)
  refine w_o rfl rfl rfl (op_assign rfl ?_)
  refine w_end ?_
  refine seq_normal ?_
  refine w_condN rfl (by omega) ?_
  refine w_skip ?_
  refine block_normal ?_
  refine seq_normal ?_
  refine w_seq ?_
  refine w_region ?_
  refine w_o rfl rfl rfl (op_move rfl ?_)
  refine w_o rfl rfl rfl (op_move rfl ?_)
  refine w_o rfl rfl rfl (op_indexT (enc := encD) und_24 siz_100 rfl rfl h (fun _ => rfl) rfl (by omega) fun b31 o31 z31 h31 e31 => ?_)
  refine w_o rfl rfl rfl (op_fieldAddr fa_100_2 rfl ?_)
  refine w_o rfl rfl rfl (op_loadF agg_3 rfl el_ rfl ?_)
  refine w_o rfl rfl rfl (op_assign rfl ?_)
  refine w_end ?_
  refine seq_normal ?_
  refine w_ret ?_
  obtain rfl : z31 = z := by rw [h31] at hz; exact Option.some.inj hz
  exact ret_ret rfl sel_ k
end Go.Proofs.Ytkmdofkajcehpaa.AM.B
