/- What view's functions answer. -/
import Derived.Test.YtkmdofkajcehpaaAX
import Derived.Test.YtkmdofkajcehpaaBshowref
import Derived.Test.YtkmdofkajcehpaaQShowCols2
set_option linter.unusedVariables false
set_option linter.unusedSimpArgs false
set_option maxRecDepth 10000
set_option maxHeartbeats 4000000
namespace Go.Proofs.Ytkmdofkajcehpaa.AM.B
open Go Go.RowKit
def promptC (l : List Sign) : List DC := l.flatMap fun s => cellsV s (-1)
/-- The cells of a line's signs, from a number on. -/
def lineC : Int → List Sign → List DC
  | _, [] => []
  | i, s :: l => cellsV s i ++ lineC (i + 1) l
def viewC (p l : List Sign) : List DC := promptC p ++ lineC 0 l
theorem promptC_take {l : List Sign} {j : Nat} {s : Sign} (h : l[j]? = some s) : promptC (l.take (j + 1)) = promptC (l.take j) ++ cellsV s (-1) := by
  unfold promptC; rw [List.take_add_one, h]; simp
theorem lineC_take : ∀ {l : List Sign} {j : Nat} {s : Sign} (i : Int), l[j]? = some s → lineC i (l.take (j + 1)) = lineC i (l.take j) ++ cellsV s (i + j)
  | [], j, s, i, h => by simp at h
  | a :: l, 0, s, i, h => by simp at h; subst h; simp [lineC]
  | a :: l, j + 1, s, i, h => by
    have := lineC_take (l := l) (j := j) (i + 1) (by simpa using h)
    simp only [List.take_succ_cons, lineC, List.append_assoc]
    rw [this, show i + 1 + (j : Int) = i + ((j + 1 : Nat) : Int) by omega]
theorem promptC_len (l : List Sign) : (promptC l).length ≤ 10 * l.length := by
  unfold promptC
  induction l with
  | nil => simp
  | cons s l ih => have := cellsV_len s (-1); simp only [List.flatMap_cons, List.length_append, List.length_cons]; omega
theorem lineC_len : ∀ (i : Int) (l : List Sign), (lineC i l).length ≤ 10 * l.length
  | _, [] => by simp [lineC]
  | i, s :: l => by have h1 := cellsV_len s i; have h2 := lineC_len (i + 1) l; simp only [lineC, List.length_append, List.length_cons]; omega
theorem promptC_take_len (l : List Sign) (j : Nat) : (promptC (l.take j)).length ≤ 10 * l.length := by
  have := promptC_len (l.take j); rw [List.length_take] at this; omega
theorem lineC_take_len (i : Int) (l : List Sign) (j : Nat) : (lineC i (l.take j)).length ≤ 10 * l.length := by
  have := lineC_len i (l.take j); rw [List.length_take] at this; omega
theorem viewOf_w {H : Hyp} {K : V → Hyp → Prop} {c c' : Cell} {p l : List Sign} (h : Sl H 23 2 c p.length (p.flatMap encS)) (h' : Sl H 23 2 c' l.length (l.flatMap encS)) (hp : p.length ≤ 1000) (hl : l.length ≤ 1000)
    (k1 : (p.all rightS && l.all rightS) = false → K (.tup [.c .nils, .c (.int .i64 2)]) H)
    (k2 : (p.all rightS && l.all rightS) = true → ∀ c N, Own 100 5 c ((viewC p l).flatMap encD) N → K (.tup [.c c, .c (.int .i64 0)]) (N ++ H)) : CallW Try.prog Xs 33 [.one (.c c), .one (.c c')] H K := by
  refine call_of (n := 44) (fun _ => rfl) Try.func33 rfl rfl ?_
  refine w_seq ?_
  refine w_region ?_
  refine w_o rfl rfl rfl (op_assign rfl ?_)
  refine w_o rfl rfl rfl (op_assign rfl ?_)
  refine w_end ?_
  refine seq_normal ?_
  refine w_seq ?_
  refine w_seq ?_
  refine w_region ?_
  refine w_o rfl rfl rfl (op_move rfl ?_)
  refine w_o rfl rfl rfl (op_call rfl rfl rfl ?_)
  refine signCheck_w h (by omega) ?_
  refine w_o rfl rfl rfl (op_ne rfl rfl ?_)
  refine w_o rfl rfl rfl (op_move rfl ?_)
  first | refine w_known (t := 14) rfl (fun g14 => ?_) (fun g14 => ?_) | refine w_knownB (t := 14) rfl (fun g14 => ?_) (fun g14 => ?_)
  · have hp0 : p.all rightS = false := by cases hh : p.all rightS; rfl; simp [hh] at g14
    have hr : (p.all rightS && l.all rightS) = false := by rw [hp0]; rfl
    refine w_u rfl rfl rfl rfl rfl rfl ?_
    refine w_u rfl rfl rfl rfl rfl rfl ?_
    refine w_u rfl rfl rfl rfl rfl rfl ?_
    refine w_o rfl rfl rfl (op_pick rfl rfl rfl ?_)
    refine w_end ?_
    refine seq_normal ?_
    refine w_condT rfl ?_
    refine w_seq ?_
    refine w_region ?_
    refine w_o rfl rfl rfl (op_assign rfl ?_)
    refine w_o rfl rfl rfl (op_assign rfl ?_)
    refine w_end ?_
    refine seq_normal ?_
    refine w_ret ?_
    refine seq_ret ?_
    exact ret_ret rfl sel_ (k1 hr)
  · have hp1 : p.all rightS = true := by cases hh : p.all rightS; simp [hh] at g14; rfl
    refine w_og rfl rfl rfl rfl rfl (op_move rfl ?_)
    refine w_og rfl rfl rfl rfl rfl (op_call rfl rfl rfl ?_)
    refine signCheck_w h' (by omega) ?_
    refine w_og rfl rfl rfl rfl rfl (op_ne rfl rfl ?_)
    refine w_o rfl rfl rfl (op_pick rfl rfl rfl ?_)
    refine w_end ?_
    refine seq_normal ?_
    first | refine w_cond rfl (fun hI1 => ?_) (fun hI1 => ?_) | refine w_condB rfl (fun hI1 => ?_) (fun hI1 => ?_)
    · have hr : (p.all rightS && l.all rightS) = false := by cases hh : l.all rightS; simp; simp [hh] at hI1
      refine w_seq ?_
      refine w_region ?_
      refine w_o rfl rfl rfl (op_assign rfl ?_)
      refine w_o rfl rfl rfl (op_assign rfl ?_)
      refine w_end ?_
      refine seq_normal ?_
      refine w_ret ?_
      refine seq_ret ?_
      exact ret_ret rfl sel_ (k1 hr)
    · have hr : (p.all rightS && l.all rightS) = true := by rw [hp1]; cases hh : l.all rightS; simp [hh] at hI1; rfl
      refine w_skip ?_
      refine seq_normal ?_
      refine w_seq ?_
      refine w_region ?_
      refine w_o rfl rfl rfl (op_assign rfl ?_)
      refine w_end ?_
      refine seq_normal ?_
      refine w_seq ?_
      refine w_seq ?_
      refine w_region ?_
      refine w_o rfl rfl rfl (op_move rfl ?_)
      refine w_o rfl rfl rfl (op_lenC und_36 rfl h.lenC ?_)
      refine w_o rfl rfl rfl (op_move rfl ?_)
      refine w_end ?_
      refine seq_normal ?_
      refine w_block ?_
      refine w_loop (fun m e H' => ∃ (i : Nat) (cc : Cell) (N : Hyp), i ≤ p.length ∧ m = p.length - i ∧ Own 100 5 cc ((promptC (p.take i)).flatMap encD) N ∧ H' = N ++ H ∧ e = [(1, .one (.c c')), (6, .one (.c cc)), (19, .one (.c c)), (20, vI (p.length : Nat)), (21, vI (i : Nat))]) ?_ ?_
      · exact ⟨_, _, _, ⟨0, .nils, [], Nat.zero_le _, rfl, .nil, rfl, rfl⟩, env_, sel_⟩
      · rintro m e H' ⟨i, cc, N, hi, rfl, hO, rfl, rfl⟩
        have hle := promptC_take_len p i
        refine w_seq ?_
        refine w_region ?_
        refine w_o rfl rfl rfl (op_lt rfl rfl ?_)
        refine w_end ?_
        refine seq_normal ?_
        refine w_seq ?_
        first | refine w_cond rfl (fun hI2 => ?_) (fun hI2 => ?_) | refine w_condB rfl (fun hI2 => ?_) (fun hI2 => ?_)
        · refine w_skip ?_
          refine seq_normal ?_
          refine w_seq ?_
          refine w_block ?_
          refine w_seq ?_
          refine w_region ?_
          refine w_o rfl rfl rfl (op_indexT (enc := encS) und_36 siz_23 rfl rfl h.app (fun _ => rfl) rfl (by omega) fun b23 o23 z23 h23 e23 => ?_)
          refine w_o rfl rfl rfl (op_loadA agg_23 siz_23 rfl rfl el_ ?_)
          refine w_o rfl rfl rfl (op_alloc zer_23 fun b8 => ?_)
          refine w_on rfl rfl (op_store siz_23 rfl rfl rfl (by (repeat (first | exact Pick.head _ _ _ | apply Pick.tail | apply Pick.app)); first | done | fail) (Nat.le_of_ble_eq_true rfl) rfl ?_)
          refine w_end ?_
          refine seq_normal ?_
          refine w_region ?_
          refine w_o rfl rfl rfl (op_move rfl ?_)
          refine w_o rfl rfl rfl (op_loadA agg_23 siz_23 rfl rfl el_ ?_)
          refine w_o rfl rfl rfl (op_call rfl rfl rfl ?_)
          refine Cells_w fun c27 N27 o27 => ?_
          have hle2 := cellsV_len z23 (-1)
          refine w_o rfl rfl rfl (op_appendT (xs := promptC (p.take i)) (ys := cellsV z23 (-1)) (enc := encD) elm_24 inf_100 zer_100 (by decide) und_24 rfl rfl hO (fun _ => rfl) (by (repeat (first | exact PickL.front _ _ | exact PickL.nil _ | apply PickL.skip | apply PickL.skipL)); first | done | fail) (Own.slT o27 (fun _ => rfl) (by decide) subs_) (by omega) fun c28 N28 h28 => ?_)
          refine w_o rfl rfl rfl (op_assign rfl ?_)
          refine w_end ?_
          refine block_normal ?_
          refine seq_normal ?_
          refine w_region ?_
          refine w_o rfl rfl rfl (op_addi rfl rfl (by omega) (by omega) ?_)
          refine w_o rfl rfl rfl (op_move rfl ?_)
          refine w_end ?_
          rw [← promptC_take h23] at h28
          exact loop_normal (k' := p.length - (i + 1)) (by omega) ⟨i + 1, c28, N28, by omega, rfl, h28, rfl, rfl⟩ env_ sel_
        · have hi' : i = p.length := by omega
          subst hi'
          rw [List.take_length] at hO hle
          refine w_exit ?_
          refine seq_exit ?_
          refine loop_exit ?_
          refine block_hit rfl ?_
          refine seq_normal ?_
          refine w_seq ?_
          refine w_seq ?_
          refine w_region ?_
          refine w_o rfl rfl rfl (op_move rfl ?_)
          refine w_o rfl rfl rfl (op_lenC und_36 rfl h'.lenC ?_)
          refine w_o rfl rfl rfl (op_move rfl ?_)
          refine w_end ?_
          refine seq_normal ?_
          refine w_block ?_
          refine w_loop (fun m e H' => ∃ (i : Nat) (cc : Cell) (N : Hyp), i ≤ l.length ∧ m = l.length - i ∧ Own 100 5 cc ((promptC p ++ lineC 0 (l.take i)).flatMap encD) N ∧ H' = N ++ H ∧ e = [(6, .one (.c cc)), (30, .one (.c c')), (31, vI (l.length : Nat)), (32, vI (i : Nat))]) ?_ ?_
          · exact ⟨_, _, _, ⟨0, cc, N, Nat.zero_le _, rfl, by rw [List.take_zero]; simpa only [lineC, List.append_nil] using hO, rfl, rfl⟩, env_, sel_⟩
          · rintro m e H' ⟨i, cc, N, hi, rfl, hO, rfl, rfl⟩
            have hle3 := lineC_take_len 0 l i
            refine w_seq ?_
            refine w_region ?_
            refine w_o rfl rfl rfl (op_lt rfl rfl ?_)
            refine w_end ?_
            refine seq_normal ?_
            refine w_seq ?_
            first | refine w_cond rfl (fun hI3 => ?_) (fun hI3 => ?_) | refine w_condB rfl (fun hI3 => ?_) (fun hI3 => ?_)
            · refine w_skip ?_
              refine seq_normal ?_
              refine w_seq ?_
              refine w_block ?_
              refine w_seq ?_
              refine w_region ?_
              refine w_o rfl rfl rfl (op_move rfl ?_)
              refine w_o rfl rfl rfl (op_indexT (enc := encS) und_36 siz_23 rfl rfl h'.app (fun _ => rfl) rfl (by omega) fun b35 o35 z35 h35 e35 => ?_)
              refine w_o rfl rfl rfl (op_loadA agg_23 siz_23 rfl rfl el_ ?_)
              refine w_o rfl rfl rfl (op_alloc zer_23 fun b10 => ?_)
              refine w_o rfl rfl rfl (op_assign rfl ?_)
              refine w_on rfl rfl (op_store siz_23 rfl rfl rfl (by (repeat (first | exact Pick.head _ _ _ | apply Pick.tail | apply Pick.app)); first | done | fail) (Nat.le_of_ble_eq_true rfl) rfl ?_)
              refine w_end ?_
              refine seq_normal ?_
              refine w_region ?_
              refine w_o rfl rfl rfl (op_move rfl ?_)
              refine w_o rfl rfl rfl (op_loadA agg_23 siz_23 rfl rfl el_ ?_)
              refine w_o rfl rfl rfl (op_move rfl ?_)
              refine w_o rfl rfl rfl (op_call rfl rfl rfl ?_)
              refine Cells_w fun c40 N40 o40 => ?_
              have hle4 := cellsV_len z35 (i : Int)
              refine w_o rfl rfl rfl (op_appendT (xs := promptC p ++ lineC 0 (l.take i)) (ys := cellsV z35 (i : Int)) (enc := encD) elm_24 inf_100 zer_100 (by decide) und_24 rfl rfl hO (fun _ => rfl) (by (repeat (first | exact PickL.front _ _ | exact PickL.nil _ | apply PickL.skip | apply PickL.skipL)); first | done | fail) (Own.slT o40 (fun _ => rfl) (by decide) subs_) (by rw [List.length_append]; omega) fun c41 N41 h41 => ?_)
              refine w_o rfl rfl rfl (op_assign rfl ?_)
              refine w_end ?_
              refine block_normal ?_
              refine seq_normal ?_
              refine w_region ?_
              refine w_o rfl rfl rfl (op_addi rfl rfl (by omega) (by omega) ?_)
              refine w_o rfl rfl rfl (op_move rfl ?_)
              refine w_end ?_
              have ht := lineC_take 0 h35
              rw [Int.zero_add] at ht
              rw [List.append_assoc, ← ht] at h41
              exact loop_normal (k' := l.length - (i + 1)) (by omega) ⟨i + 1, c41, N41, by omega, rfl, h41, rfl, rfl⟩ env_ sel_
            · have hi' : i = l.length := by omega
              subst hi'
              rw [List.take_length] at hO
              refine w_exit ?_
              refine seq_exit ?_
              refine loop_exit ?_
              refine block_hit rfl ?_
              refine seq_normal ?_
              refine w_seq ?_
              refine w_region ?_
              refine w_o rfl rfl rfl (op_move rfl ?_)
              refine w_o rfl rfl rfl (op_assign rfl ?_)
              refine w_o rfl rfl rfl (op_assign rfl ?_)
              refine w_end ?_
              refine seq_normal ?_
              refine w_ret ?_
              exact ret_ret rfl sel_ (k2 hr _ _ hO)
theorem refViewOf_w {H : Hyp} {K : V → Hyp → Prop} {c c' : Cell} {p l : List Sign} (h : Sl H 23 2 c p.length (p.flatMap encS)) (h' : Sl H 23 2 c' l.length (l.flatMap encS)) (hp : p.length ≤ 1000) (hl : l.length ≤ 1000)
    (k : ∀ c N, Own 100 5 c ((viewC p l).flatMap encD) N → K (.one (.c c)) (N ++ H)) : CallW Try.prog Xs 35 [.one (.c c), .one (.c c')] H K := by
  refine call_of (n := 36) (fun _ => rfl) Try.func35 rfl rfl ?_
  refine w_seq ?_
  refine w_region ?_
  refine w_o rfl rfl rfl (op_assign rfl ?_)
  refine w_end ?_
  refine seq_normal ?_
  refine w_seq ?_
  refine w_region ?_
  refine w_o rfl rfl rfl (op_assign rfl ?_)
  refine w_end ?_
  refine seq_normal ?_
  refine w_seq ?_
  refine w_seq ?_
  refine w_region ?_
  refine w_o rfl rfl rfl (op_assign rfl ?_)
  refine w_end ?_
  refine seq_normal ?_
  refine w_block ?_
  refine w_loop (fun m e H' => ∃ (i : Nat) (cc : Cell) (N : Hyp), i ≤ p.length ∧ m = p.length - i ∧ Own 100 5 cc ((promptC (p.take i)).flatMap encD) N ∧ H' = N ++ H ∧ e = [(0, .one (.c c)), (1, .one (.c c')), (5, .one (.c cc)), (6, vI (i : Nat))]) ?_ ?_
  · exact ⟨_, _, _, ⟨0, .nils, [], Nat.zero_le _, rfl, .nil, rfl, rfl⟩, env_, sel_⟩
  · rintro m e H' ⟨i, cc, N, hi, rfl, hO, rfl, rfl⟩
    have hle := promptC_take_len p i
    refine w_seq ?_
    refine w_seq ?_
    refine w_region ?_
    refine w_o rfl rfl rfl (op_move rfl ?_)
    refine w_o rfl rfl rfl (op_move rfl ?_)
    refine w_o rfl rfl rfl (op_lenC und_36 rfl h.lenC ?_)
    refine w_o rfl rfl rfl (op_lt rfl rfl ?_)
    refine w_end ?_
    refine seq_normal ?_
    first | refine w_cond rfl (fun hI1 => ?_) (fun hI1 => ?_) | refine w_condB rfl (fun hI1 => ?_) (fun hI1 => ?_)
    · refine w_skip ?_
      refine seq_normal ?_
      refine w_seq ?_
      refine w_block ?_
      refine w_region ?_
      refine w_o rfl rfl rfl (op_move rfl ?_)
      refine w_o rfl rfl rfl (op_move rfl ?_)
      refine w_o rfl rfl rfl (op_move rfl ?_)
      refine w_o rfl rfl rfl (op_indexT (enc := encS) und_36 siz_23 rfl rfl h.app (fun _ => rfl) rfl (by omega) fun b17 o17 z17 h17 e17 => ?_)
      refine w_o rfl rfl rfl (op_loadA agg_23 siz_23 rfl rfl el_ ?_)
      refine w_o rfl rfl rfl (op_call rfl rfl rfl ?_)
      refine refCells_w fun c19 N19 o19 => ?_
      have hle2 := cellsV_len z17 (-1)
      refine w_o rfl rfl rfl (op_appendT (xs := promptC (p.take i)) (ys := cellsV z17 (-1)) (enc := encD) elm_24 inf_100 zer_100 (by decide) und_24 rfl rfl hO (fun _ => rfl) (by (repeat (first | exact PickL.front _ _ | exact PickL.nil _ | apply PickL.skip | apply PickL.skipL)); first | done | fail) (Own.slT o19 (fun _ => rfl) (by decide) subs_) (by omega) fun c20 N20 h20 => ?_)
      refine w_o rfl rfl rfl (op_assign rfl ?_)
      refine w_end ?_
      refine block_normal ?_
      refine seq_normal ?_
      refine w_region ?_
      refine w_o rfl rfl rfl (op_move rfl ?_)
      refine w_o rfl rfl rfl (op_addi rfl rfl (by omega) (by omega) ?_)
      refine w_o rfl rfl rfl (op_assign rfl ?_)
      refine w_end ?_
      rw [← promptC_take h17] at h20
      exact loop_normal (k' := p.length - (i + 1)) (by omega) ⟨i + 1, c20, N20, by omega, rfl, h20, rfl, rfl⟩ env_ sel_
    · have hi' : i = p.length := by omega
      subst hi'
      rw [List.take_length] at hO hle
      refine w_exit ?_
      refine seq_exit ?_
      refine loop_exit ?_
      refine block_hit rfl ?_
      refine seq_normal ?_
      refine w_seq ?_
      refine w_seq ?_
      refine w_region ?_
      refine w_o rfl rfl rfl (op_assign rfl ?_)
      refine w_end ?_
      refine seq_normal ?_
      refine w_block ?_
      refine w_loop (fun m e H' => ∃ (i : Nat) (cc : Cell) (N : Hyp), i ≤ l.length ∧ m = l.length - i ∧ Own 100 5 cc ((promptC p ++ lineC 0 (l.take i)).flatMap encD) N ∧ H' = N ++ H ∧ e = [(1, .one (.c c')), (5, .one (.c cc)), (7, vI (i : Nat))]) ?_ ?_
      · exact ⟨_, _, _, ⟨0, cc, N, Nat.zero_le _, rfl, by rw [List.take_zero]; simpa only [lineC, List.append_nil] using hO, rfl, rfl⟩, env_, sel_⟩
      · rintro m e H' ⟨i, cc, N, hi, rfl, hO, rfl, rfl⟩
        have hle3 := lineC_take_len 0 l i
        refine w_seq ?_
        refine w_seq ?_
        refine w_region ?_
        refine w_o rfl rfl rfl (op_move rfl ?_)
        refine w_o rfl rfl rfl (op_move rfl ?_)
        refine w_o rfl rfl rfl (op_lenC und_36 rfl h'.lenC ?_)
        refine w_o rfl rfl rfl (op_lt rfl rfl ?_)
        refine w_end ?_
        refine seq_normal ?_
        first | refine w_cond rfl (fun hI2 => ?_) (fun hI2 => ?_) | refine w_condB rfl (fun hI2 => ?_) (fun hI2 => ?_)
        · refine w_skip ?_
          refine seq_normal ?_
          refine w_seq ?_
          refine w_block ?_
          refine w_region ?_
          refine w_o rfl rfl rfl (op_move rfl ?_)
          refine w_o rfl rfl rfl (op_move rfl ?_)
          refine w_o rfl rfl rfl (op_move rfl ?_)
          refine w_o rfl rfl rfl (op_indexT (enc := encS) und_36 siz_23 rfl rfl h'.app (fun _ => rfl) rfl (by omega) fun b30 o30 z30 h30 e30 => ?_)
          refine w_o rfl rfl rfl (op_loadA agg_23 siz_23 rfl rfl el_ ?_)
          refine w_o rfl rfl rfl (op_move rfl ?_)
          refine w_o rfl rfl rfl (op_call rfl rfl rfl ?_)
          refine refCells_w fun c33 N33 o33 => ?_
          have hle4 := cellsV_len z30 (i : Int)
          refine w_o rfl rfl rfl (op_appendT (xs := promptC p ++ lineC 0 (l.take i)) (ys := cellsV z30 (i : Int)) (enc := encD) elm_24 inf_100 zer_100 (by decide) und_24 rfl rfl hO (fun _ => rfl) (by (repeat (first | exact PickL.front _ _ | exact PickL.nil _ | apply PickL.skip | apply PickL.skipL)); first | done | fail) (Own.slT o33 (fun _ => rfl) (by decide) subs_) (by rw [List.length_append]; omega) fun c34 N34 h34 => ?_)
          refine w_o rfl rfl rfl (op_assign rfl ?_)
          refine w_end ?_
          refine block_normal ?_
          refine seq_normal ?_
          refine w_region ?_
          refine w_o rfl rfl rfl (op_move rfl ?_)
          refine w_o rfl rfl rfl (op_addi rfl rfl (by omega) (by omega) ?_)
          refine w_o rfl rfl rfl (op_assign rfl ?_)
          refine w_end ?_
          have ht := lineC_take 0 h30
          rw [Int.zero_add] at ht
          rw [List.append_assoc, ← ht] at h34
          exact loop_normal (k' := l.length - (i + 1)) (by omega) ⟨i + 1, c34, N34, by omega, rfl, h34, rfl, rfl⟩ env_ sel_
        · have hi' : i = l.length := by omega
          subst hi'
          rw [List.take_length] at hO
          refine w_exit ?_
          refine seq_exit ?_
          refine loop_exit ?_
          refine block_hit rfl ?_
          refine seq_normal ?_
          refine w_seq ?_
          refine w_region ?_
          refine w_o rfl rfl rfl (op_move rfl ?_)
          refine w_o rfl rfl rfl (op_assign rfl ?_)
          refine w_end ?_
          refine seq_normal ?_
          refine w_ret ?_
          exact ret_ret rfl sel_ (k _ _ hO)
theorem viewCols_w {H : Hyp} {K : V → Hyp → Prop} {c : Cell} {l : List Sign} (h : Sl H 23 2 c l.length (l.flatMap encS)) (hl : l.length ≤ 1000) (k : K (vI ((promptC l).length : Nat)) H) : CallW Try.prog Xs 36 [.one (.c c)] H K := by
  refine call_of (n := 19) (fun _ => rfl) Try.func36 rfl rfl ?_
  refine w_seq ?_
  refine w_region ?_
  refine w_o rfl rfl rfl (op_assign rfl ?_)
  refine w_end ?_
  refine seq_normal ?_
  refine w_seq ?_
  refine w_region ?_
  refine w_o rfl rfl rfl (op_assign rfl ?_)
  refine w_end ?_
  refine seq_normal ?_
  refine w_seq ?_
  refine w_seq ?_
  refine w_region ?_
  refine w_o rfl rfl rfl (op_move rfl ?_)
  refine w_o rfl rfl rfl (op_lenC und_36 rfl h.lenC ?_)
  refine w_o rfl rfl rfl (op_move rfl ?_)
  refine w_end ?_
  refine seq_normal ?_
  refine w_block ?_
  refine w_loop (fun m e H' => ∃ (i : Nat), i ≤ l.length ∧ m = l.length - i ∧ H = H' ∧ e = [(3, vI ((promptC (l.take i)).length : Nat)), (6, .one (.c c)), (7, vI (l.length : Nat)), (8, vI (i : Nat))]) ?_ ?_
  · exact ⟨_, _, _, ⟨0, Nat.zero_le _, rfl, rfl, rfl⟩, env_, sel_⟩
  · rintro m e H' ⟨i, hi, rfl, rfl, rfl⟩
    have hle := promptC_take_len l i
    refine w_seq ?_
    refine w_region ?_
    refine w_o rfl rfl rfl (op_lt rfl rfl ?_)
    refine w_end ?_
    refine seq_normal ?_
    refine w_seq ?_
    first | refine w_cond rfl (fun hI1 => ?_) (fun hI1 => ?_) | refine w_condB rfl (fun hI1 => ?_) (fun hI1 => ?_)
    · refine w_skip ?_
      refine seq_normal ?_
      refine w_seq ?_
      refine w_block ?_
      refine w_seq ?_
      refine w_region ?_
      refine w_o rfl rfl rfl (op_indexT (enc := encS) und_36 siz_23 rfl rfl h (fun _ => rfl) rfl (by omega) fun b10 o10 z10 h10 e10 => ?_)
      refine w_o rfl rfl rfl (op_loadA agg_23 siz_23 rfl rfl el_ ?_)
      refine w_o rfl rfl rfl (op_alloc zer_23 fun b5 => ?_)
      refine w_on rfl rfl (op_store siz_23 rfl rfl rfl (by (repeat (first | exact Pick.head _ _ _ | apply Pick.tail | apply Pick.app)); first | done | fail) (Nat.le_of_ble_eq_true rfl) rfl ?_)
      refine w_end ?_
      refine seq_normal ?_
      refine w_region ?_
      refine w_o rfl rfl rfl (op_move rfl ?_)
      refine w_o rfl rfl rfl (op_fieldAddr fa_23_0 rfl ?_)
      refine w_o rfl rfl rfl (op_loadF agg_3 rfl el_ rfl ?_)
      refine w_o rfl rfl rfl (op_call rfl rfl rfl ?_)
      refine show_Cols_sw (Go.Proofs.Ytkmdofkajcehpaa.P.show_Cols.at z10.f0 100 (by decide)) ?_
      have hle2 := cellsV_len z10 (-1)
      have hc : Go.Proofs.Ytkmdofkajcehpaa.P.colsV z10.f0 = ((cellsV z10 (-1)).length : Int) := (cellsV_cols z10 (-1)).symm
      rw [hc]
      refine w_o rfl rfl rfl (op_addi rfl rfl (by omega) (by omega) ?_)
      refine w_o rfl rfl rfl (op_assign rfl ?_)
      refine w_end ?_
      refine block_normal ?_
      refine seq_normal ?_
      refine w_region ?_
      refine w_o rfl rfl rfl (op_addi rfl rfl (by omega) (by omega) ?_)
      refine w_o rfl rfl rfl (op_move rfl ?_)
      refine w_end ?_
      have e1 : ((promptC (l.take (i + 1))).length : Int) = ((promptC (l.take i)).length : Int) + ((cellsV z10 (-1)).length : Int) := by rw [promptC_take h10, List.length_append]; omega
      exact loop_normal (k' := l.length - (i + 1)) (by omega) ⟨i + 1, by omega, rfl, rfl, rfl⟩ (by rw [e1]; exact env_) sel_
    · refine w_exit ?_
      refine seq_exit ?_
      refine loop_exit ?_
      refine block_hit rfl ?_
      refine seq_normal ?_
      refine w_seq ?_
      refine w_region ?_
      refine w_o rfl rfl rfl (op_move rfl ?_)
      refine w_o rfl rfl rfl (op_assign rfl ?_)
      refine w_end ?_
      refine seq_normal ?_
      refine w_ret ?_
      have hi' : i = l.length := by omega
      subst hi'
      rw [List.take_length]
      exact ret_ret rfl sel_ k
end Go.Proofs.Ytkmdofkajcehpaa.AM.B
