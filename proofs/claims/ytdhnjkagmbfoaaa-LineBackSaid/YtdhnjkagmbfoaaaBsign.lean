/- What sign's functions answer, and its reference's. -/
import Derived.Test.YtdhnjkagmbfoaaaAX
import Derived.Test.YtdhnjkagmbfoaaaP0
set_option linter.unusedVariables false
set_option linter.unusedSimpArgs false
set_option maxRecDepth 10000
set_option maxHeartbeats 4000000
namespace Go.Proofs.Ytdhnjkagmbfoaaa.AM.B
open Go Go.RowKit
abbrev Sign := Go.Proofs.Ytdhnjkagmbfoaaa.P.S39
instance : DecidableEq Sign := fun a b => decidable_of_iff (a.f0 = b.f0 ∧ a.f1 = b.f1) ⟨fun h => by cases a; cases b; simp at h; simp [h.1, h.2], fun h => by rw [h]; exact ⟨rfl, rfl⟩⟩
def encS (x : Sign) : List Cell := [.int .i64 x.f0, .int .i64 x.f1]
theorem rdA_39 : RdA Try.prog 39 2 (layFlat encS) (fun x => (Lit.int .i64 x.f0).wf = true ∧ (Lit.int .i64 x.f1).wf = true) :=
  rdA_map (lay := layIso (layPair (layFlat fun n => [.int .i64 n]) (layFlat fun n => [.int .i64 n])) (fun x : Sign => (x.f0, x.f1))) (fun H x cs h => by
    obtain ⟨c1, c2, rfl, h1, h2⟩ := h
    simp only [layFlat] at h1 h2
    rw [h1, h2]; rfl) (fun _ h => h) (rdA_iso (fun x => ⟨x.1, x.2⟩) (fun _ => rfl) (rdA_struct Try.underlying39 (by kernel_rfl) (rdAL_cons rfl (by kernel_rfl) (layFlat_mono _) (rdA_int und_3) (rdAL_one rfl (by kernel_rfl) (rdA_int und_3)))))
theorem CloneS_w {H : Hyp} {K : V → Hyp → Prop} {c : Cell} {l : List (Sign)} (h : Sl H 39 2 c l.length (l.flatMap encS)) (hl : l.length * 16 ≤ 16777216)
    (k : ∀ c' N, Own 39 2 c' (l.flatMap encS) N → K (.one (.c c')) (N ++ H)) : CallW Try.prog Xs 36 [.one (.c c)] H K := by
  refine call_of (n := 8) (fun _ => rfl) Try.func36 rfl rfl ?_
  refine w_seq ?_
  refine w_region ?_
  refine w_o rfl rfl rfl (op_assign rfl ?_)
  refine w_end ?_
  refine seq_normal ?_
  refine w_seq ?_
  refine w_seq ?_
  refine w_region ?_
  refine w_o rfl rfl rfl (op_move rfl ?_)
  refine w_o rfl rfl rfl (op_eqNil und_22 rfl rfl (by first | exact ⟨rfl, fun s e => by cases e⟩ | exact Sl.lenC (by assumption) | (refine Own.lenT (by assumption) ?_ ?_ <;> first | exact fun _ => rfl | decide)) ?_)
  refine w_end ?_
  refine seq_normal ?_
  first | refine w_cond rfl (fun hI1 => ?_) (fun hI1 => ?_) | refine w_condB rfl (fun hI1 => ?_) (fun hI1 => ?_)
  · obtain ⟨rfl, h0⟩ := h.isNil hI1
    have h1 : l = [] := List.length_eq_zero_iff.1 h0
    subst h1
    refine w_seq ?_
    refine w_region ?_
    refine w_o rfl rfl rfl (op_assign rfl ?_)
    refine w_end ?_
    refine seq_normal ?_
    refine w_ret ?_
    refine seq_ret ?_
    exact ret_ret rfl (.refl _) (k _ _ .nil)
  · refine w_skip ?_
    refine seq_normal ?_
    refine w_seq ?_
    refine w_region ?_
    refine w_o rfl rfl rfl (op_buildSlice rfl (bsl_22 _ _ _ (rfl : _ = some []) rfl (by decide)) fun b5 => ?_)
    refine w_o rfl rfl rfl (op_move rfl ?_)
    refine w_o rfl rfl rfl (op_appendT (xs := []) (enc := encS) elm_22 inf_39 zer_39 (by decide) und_22 rfl rfl (.row _ 0 [] rfl) (fun _ => rfl) (PickL.front [_] _) (by first | assumption | (repeat (first | assumption | apply Sl.cons | apply Sl.app))) (by simpa using hl) fun c' N' hO => ?_)
    refine w_o rfl rfl rfl (op_assign rfl ?_)
    refine w_end ?_
    refine seq_normal ?_
    refine w_ret ?_
    exact ret_ret rfl (.refl _) (k _ _ hO)
theorem IndexFuncS_w {H : Hyp} {K : V → Hyp → Prop} {c : Cell} {l : List (Sign)} {p : Sign → Bool} {g : Nat} {caps : List (Nat × Nat)} (h : Sl H 39 2 c l.length (l.flatMap encS)) (hl : l.length ≤ 1000000000)
    (hg : ∀ x ∈ l, ∀ (H0 : Hyp) (K' : V → Hyp → Prop), Sel H0 H → K' (vB (p x)) H0 → CallW Try.prog Xs g ([.one (.agg (encS x))] ++ caps.map fun p => ptrV p.1 p.2) H0 K')
    (k : K (vI (idxF p l)) H) : CallW Try.prog Xs 75 [.one (.c c), .one (.c (.fn g caps))] H K := by
  refine call_of (n := 19) (fun _ => rfl) Try.func75 rfl rfl ?_
  refine w_seq ?_
  refine w_region ?_
  refine w_o rfl rfl rfl (op_assign rfl ?_)
  refine w_end ?_
  refine seq_normal ?_
  refine w_seq ?_
  refine w_seq ?_
  refine w_region ?_
  refine w_o rfl rfl rfl (op_move rfl ?_)
  refine w_o rfl rfl rfl (op_lenC und_22 rfl (by first | exact ⟨rfl, fun s e => by cases e⟩ | exact Sl.lenC (by assumption) | (refine Own.lenT (by assumption) ?_ ?_ <;> first | exact fun _ => rfl | decide)) ?_)
  refine w_o rfl rfl rfl (op_move rfl ?_)
  refine w_end ?_
  refine seq_normal ?_
  refine w_block ?_
  refine w_loop (fun m e H' => ∃ (i : Nat), i ≤ l.length ∧ m = l.length - i ∧ (∀ j x, j < i → l[j]? = some x → p x = false) ∧ H = H' ∧ e = [(0, .one (.c c)), (1, .one (.c (.fn g caps))), (7, vI (l.length : Nat)), (8, vI (i : Nat))]) ?_ ?_
  · exact ⟨_, _, _, ⟨0, Nat.zero_le _, rfl, fun j x hj => absurd hj (Nat.not_lt_zero _), rfl, rfl⟩, env_, sel_⟩
  · rintro m e H' ⟨i, hi, rfl, hp, rfl, rfl⟩
    refine w_seq ?_
    refine w_region ?_
    refine w_o rfl rfl rfl (op_lt rfl rfl ?_)
    refine w_end ?_
    refine seq_normal ?_
    refine w_seq ?_
    first | refine w_cond rfl (fun hI1 => ?_) (fun hI1 => ?_) | refine w_condB rfl (fun hI1 => ?_) (fun hI1 => ?_)
    · refine w_skip ?_
      refine seq_normal ?_
      refine w_seq ?_
      refine w_block ?_
      refine w_seq ?_
      refine w_region ?_
      refine w_o rfl rfl rfl (op_move rfl ?_)
      refine w_o rfl rfl rfl (op_assign rfl ?_)
      refine w_end ?_
      refine seq_normal ?_
      refine w_seq ?_
      refine w_region ?_
      refine w_o rfl rfl rfl (op_move rfl ?_)
      refine w_o rfl rfl rfl (op_move rfl ?_)
      refine w_o rfl rfl rfl (op_move rfl ?_)
      refine w_o rfl rfl rfl (op_indexT (enc := encS) und_22 siz_39 rfl rfl (by first | assumption | (repeat (first | assumption | apply Sl.cons | apply Sl.app))) (fun _ => rfl) rfl (by omega) fun b14 o14 z14 h14 e14 => ?_)
      refine w_o rfl rfl rfl (op_loadA agg_39 siz_39 rfl rfl el_ ?_)
      refine w_o rfl rfl rfl (op_call rfl rfl rfl ?_)
      refine hg z14 (List.mem_of_getElem? h14) _ _ (.refl _) ?_
      refine w_end ?_
      refine seq_normal ?_
      first | refine w_cond rfl (fun hI2 => ?_) (fun hI2 => ?_) | refine w_condB rfl (fun hI2 => ?_) (fun hI2 => ?_)
      · refine w_seq ?_
        refine w_region ?_
        refine w_o rfl rfl rfl (op_move rfl ?_)
        refine w_o rfl rfl rfl (op_assign rfl ?_)
        refine w_end ?_
        refine seq_normal ?_
        refine w_ret ?_
        refine block_ret ?_
        refine seq_ret ?_
        refine loop_ret ?_
        refine block_ret ?_
        refine seq_ret ?_
        rw [idxF_at h14 hI2 hp] at k
        exact ret_ret rfl (.refl _) k
      · refine w_skip ?_
        refine block_normal ?_
        refine seq_normal ?_
        refine w_region ?_
        refine w_o rfl rfl rfl (op_addi rfl rfl (by omega) (by omega) ?_)
        refine w_o rfl rfl rfl (op_move rfl ?_)
        refine w_end ?_
        refine loop_normal (k' := l.length - (i + 1)) (by omega) ⟨i + 1, by omega, rfl, ?_, rfl, rfl⟩ env_ sel_
        intro j x hj hx
        by_cases e : j = i
        · subst e; rw [h14] at hx; cases hx; exact hI2
        · exact hp j x (by omega) hx
    · refine w_exit ?_
      refine seq_exit ?_
      refine loop_exit ?_
      refine block_hit rfl ?_
      refine seq_normal ?_
      refine w_seq ?_
      refine w_region ?_
      refine w_o rfl rfl rfl (op_assign rfl ?_)
      refine w_end ?_
      refine seq_normal ?_
      refine w_ret ?_
      rw [idxF_no (fun x hx => by
        obtain ⟨j, hj⟩ := List.getElem?_of_mem hx
        exact hp j x (by have := (List.getElem?_eq_some_iff.1 hj).1; omega) hj)] at k
      exact ret_ret rfl (.refl _) k
theorem ContainsFuncS_w {H : Hyp} {K : V → Hyp → Prop} {c : Cell} {l : List (Sign)} {p : Sign → Bool} {g : Nat} {caps : List (Nat × Nat)} (h : Sl H 39 2 c l.length (l.flatMap encS)) (hl : l.length ≤ 1000000000)
    (hg : ∀ x ∈ l, ∀ (H0 : Hyp) (K' : V → Hyp → Prop), Sel H0 H → K' (vB (p x)) H0 → CallW Try.prog Xs g ([.one (.agg (encS x))] ++ caps.map fun p => ptrV p.1 p.2) H0 K')
    (k : K (vB (l.any p)) H) : CallW Try.prog Xs 63 [.one (.c c), .one (.c (.fn g caps))] H K := by
  refine call_of (n := 9) (fun _ => rfl) Try.func63 rfl rfl ?_
  refine w_seq ?_
  refine w_region ?_
  refine w_o rfl rfl rfl (op_assign rfl ?_)
  refine w_end ?_
  refine seq_normal ?_
  refine w_seq ?_
  refine w_region ?_
  refine w_o rfl rfl rfl (op_move rfl ?_)
  refine w_o rfl rfl rfl (op_move rfl ?_)
  refine w_o rfl rfl rfl (op_call rfl rfl rfl ?_)
  refine IndexFuncS_w h hl hg ?_
  refine w_o rfl rfl rfl (op_ge rfl rfl ?_)
  refine w_o rfl rfl rfl (op_assign rfl ?_)
  refine w_end ?_
  refine seq_normal ?_
  refine w_ret ?_
  rw [← idxF_ge0] at k
  exact ret_ret rfl (.refl _) k
theorem GrowS_w {H : Hyp} {K : V → Hyp → Prop} {m : Nat} (hl : m * 16 ≤ 16777216)
    (k : ∀ c N room, OwnR 39 2 c [] room N → room.length = m * 2 → K (.one (.c c)) (N ++ H)) : CallW Try.prog Xs 51 [.one (.c .nils), vI (m : Nat)] H K := by
  refine call_of (n := 27) (fun _ => rfl) Try.func51 rfl rfl ?_
  refine w_seq ?_
  refine w_region ?_
  refine w_o rfl rfl rfl (op_assign rfl ?_)
  refine w_end ?_
  refine seq_normal ?_
  refine w_seq ?_
  refine w_seq ?_
  refine w_region ?_
  refine w_o rfl rfl rfl (op_move rfl ?_)
  refine w_o rfl rfl rfl (op_lt rfl rfl ?_)
  refine w_end ?_
  refine seq_normal ?_
  refine w_condN rfl (by omega) ?_
  refine w_skip ?_
  refine seq_normal ?_
  refine w_seq ?_
  refine w_seq ?_
  refine w_region ?_
  refine w_o rfl rfl rfl (op_move rfl ?_)
  refine w_o rfl rfl rfl (op_move rfl ?_)
  refine w_o rfl rfl rfl (op_capNil und_22 rfl ?_)
  refine w_o rfl rfl rfl (op_move rfl ?_)
  refine w_o rfl rfl rfl (op_lenC und_22 rfl (by first | exact ⟨rfl, fun s e => by cases e⟩ | exact Sl.lenC (by assumption) | (refine Own.lenT (by assumption) ?_ ?_ <;> first | exact fun _ => rfl | decide)) ?_)
  refine w_o rfl rfl rfl (op_subi rfl rfl (by decide) (by decide) ?_)
  refine w_o rfl rfl rfl (op_subi rfl rfl (by omega) (by omega) ?_)
  refine w_o rfl rfl rfl (op_assign rfl ?_)
  refine w_end ?_
  refine seq_normal ?_
  refine w_seq ?_
  refine w_region ?_
  refine w_o rfl rfl rfl (op_move rfl ?_)
  refine w_o rfl rfl rfl (op_gt rfl rfl ?_)
  refine w_end ?_
  refine seq_normal ?_
  first | refine w_cond rfl (fun hI2 => ?_) (fun hI2 => ?_) | refine w_condB rfl (fun hI2 => ?_) (fun hI2 => ?_)
  · have hm : ((m : Int) - (0 - ((0 : Nat) : Int))).toNat = m := by omega
    refine w_region ?_
    refine w_o rfl rfl rfl (op_move rfl ?_)
    refine w_o rfl rfl rfl (op_move rfl ?_)
    refine w_o rfl rfl rfl (op_capNil und_22 rfl ?_)
    refine w_o rfl rfl rfl (op_sliceNil elm_22 siz_39 rfl rfl rfl ?_)
    refine w_o rfl rfl rfl (op_move rfl ?_)
    refine w_o rfl rfl rfl (op_appendN elm_22 inf_39 zer_39 (by decide) und_3 rfl rfl (by omega) (by omega) fun b22 => ?_)
    refine w_o rfl rfl rfl (op_move rfl ?_)
    refine w_o rfl rfl rfl (op_lenC und_22 rfl (by first | exact ⟨rfl, fun s e => by cases e⟩ | exact Sl.lenC (by assumption) | (refine Own.lenT (by assumption) ?_ ?_ <;> first | exact fun _ => rfl | decide)) ?_)
    refine w_o rfl rfl rfl (op_sliceE elm_22 siz_39 (by decide) rfl (List.Mem.head _) rfl (by rw [repeatC_length]; simp only [List.length_cons, List.length_nil]; omega) rfl rfl (by decide) (by decide) (by omega) (.inr rfl) ?_)
    refine w_o rfl rfl rfl (op_assign rfl ?_)
    refine w_end ?_
    refine seq_normal ?_
    refine w_seq ?_
    refine w_region ?_
    refine w_o rfl rfl rfl (op_move rfl ?_)
    refine w_o rfl rfl rfl (op_assign rfl ?_)
    refine w_end ?_
    refine seq_normal ?_
    refine w_ret ?_
    first
      | (refine ret_ret rfl (.refl _) (k _ [_] _ (.row _ 0 [] _ rfl) ?_)
         rw [repeatC_length, hm]; rfl)
      | (have h0 : m = 0 := by omega
         subst h0
         exact ret_ret rfl (.refl _) (k _ [] _ .nil rfl))
  · refine w_skip ?_
    refine seq_normal ?_
    refine w_seq ?_
    refine w_region ?_
    refine w_o rfl rfl rfl (op_move rfl ?_)
    refine w_o rfl rfl rfl (op_assign rfl ?_)
    refine w_end ?_
    refine seq_normal ?_
    refine w_ret ?_
    first
      | (refine ret_ret rfl (.refl _) (k _ [_] _ (.row _ 0 [] _ rfl) ?_)
         rw [repeatC_length, hm]; rfl)
      | (have h0 : m = 0 := by omega
         subst h0
         exact ret_ret rfl (.refl _) (k _ [] _ .nil rfl))
theorem ConcatS_w {H : Hyp} {K : V → Hyp → Prop} {c : Cell} {cs : List Cell} {ll : List (List (Sign))} (h : Sl H 22 1 c cs.length (cs.flatMap encC)) (hs : ∀ (i : Nat) (c' : Cell) (l : List (Sign)), cs[i]? = some c' → ll[i]? = some l → Sl H 39 2 c' l.length (l.flatMap encS)) (hcl : cs.length = ll.length) (hn : cs.length ≤ 1000000) (hl : ll.flatten.length * 16 ≤ 16777216)
    (k : ∀ c' N, Own 39 2 c' (ll.flatten.flatMap encS) N → K (.one (.c c')) (N ++ H)) : CallW Try.prog Xs 31 [.one (.c c)] H K := by
  refine call_of (n := 36) (fun _ => rfl) Try.func31 rfl rfl ?_
  refine w_seq ?_
  refine w_region ?_
  refine w_o rfl rfl rfl (op_assign rfl ?_)
  refine w_end ?_
  refine seq_normal ?_
  refine w_seq ?_
  refine w_region ?_
  refine w_o rfl rfl rfl (op_assign rfl ?_)
  refine w_end ?_
  refine seq_normal ?_
  refine w_seq ?_
  refine w_seq ?_
  refine w_region ?_
  refine w_o rfl rfl rfl (op_move rfl ?_)
  refine w_o rfl rfl rfl (op_lenC und_67 rfl (by first | exact ⟨rfl, fun s e => by cases e⟩ | exact Sl.lenC (by assumption) | (refine Own.lenT (by assumption) ?_ ?_ <;> first | exact fun _ => rfl | decide)) ?_)
  refine w_o rfl rfl rfl (op_move rfl ?_)
  refine w_end ?_
  refine seq_normal ?_
  refine w_block ?_
  refine w_loop (fun m e H' => ∃ (i s : Nat), i ≤ cs.length ∧ m = cs.length - i ∧ s = (ll.take i).flatten.length ∧ H = H' ∧ e = [(0, .one (.c c)), (3, vI (s : Nat)), (9, .one (.c c)), (10, vI (cs.length : Nat)), (11, vI (i : Nat))]) ?_ ?_
  · exact ⟨_, _, _, ⟨0, 0, Nat.zero_le _, rfl, rfl, rfl, rfl⟩, env_, sel_⟩
  · rintro m e H' ⟨i, s, hi, rfl, hs0, rfl, rfl⟩
    have hle0 := flatten_take_le ll i
    refine w_seq ?_
    refine w_region ?_
    refine w_o rfl rfl rfl (op_lt rfl rfl ?_)
    refine w_end ?_
    refine seq_normal ?_
    refine w_seq ?_
    first | refine w_cond rfl (fun hI1 => ?_) (fun hI1 => ?_) | refine w_condB rfl (fun hI1 => ?_) (fun hI1 => ?_)
    · refine w_skip ?_
      refine seq_normal ?_
      refine w_seq ?_
      refine w_block ?_
      refine w_seq ?_
      refine w_region ?_
      refine w_o rfl rfl rfl (op_indexT und_67 siz_22 rfl rfl h (fun _ => rfl) rfl (by omega) fun b13 o13 z13 h13 e13 => ?_)
      obtain ⟨l13, hl13⟩ : ∃ l, ll[i]? = some l := ⟨_, List.getElem?_eq_getElem (by omega)⟩
      have hz13 := hs i z13 l13 h13 hl13
      have ht13 := flatten_take hl13
      have hle13 := flatten_take_le ll (i + 1)
      rw [ht13, List.length_append] at hle13
      refine w_o rfl rfl rfl (op_load1 agg_22 rfl el_ ?_)
      refine w_o rfl rfl rfl (op_assign rfl ?_)
      refine w_end ?_
      refine seq_normal ?_
      refine w_seq ?_
      refine w_region ?_
      refine w_o rfl rfl rfl (op_move rfl ?_)
      refine w_o rfl rfl rfl (op_move rfl ?_)
      refine w_o rfl rfl rfl (op_lenC und_22 rfl (by first | exact ⟨rfl, fun s e => by cases e⟩ | exact Sl.lenC (by assumption) | (refine Own.lenT (by assumption) ?_ ?_ <;> first | exact fun _ => rfl | decide)) ?_)
      refine w_o rfl rfl rfl (op_addi rfl rfl (by omega) (by omega) ?_)
      refine w_o rfl rfl rfl (op_assign rfl ?_)
      refine w_end ?_
      refine seq_normal ?_
      refine w_seq ?_
      refine w_region ?_
      refine w_o rfl rfl rfl (op_move rfl ?_)
      refine w_o rfl rfl rfl (op_lt rfl rfl ?_)
      refine w_end ?_
      refine seq_normal ?_
      refine w_condN rfl (by omega) ?_
      refine w_skip ?_
      refine block_normal ?_
      refine seq_normal ?_
      refine w_region ?_
      refine w_o rfl rfl rfl (op_addi rfl rfl (by omega) (by omega) ?_)
      refine w_o rfl rfl rfl (op_move rfl ?_)
      refine w_end ?_
      exact loop_normal (k' := cs.length - (i + 1)) (by omega) ⟨i + 1, s + l13.length, by omega, rfl, by rw [ht13, List.length_append, hs0], rfl, rfl⟩ env_ sel_
    · refine w_exit ?_
      refine seq_exit ?_
      refine loop_exit ?_
      refine block_hit rfl ?_
      refine seq_normal ?_
      refine w_seq ?_
      refine w_region ?_
      refine w_o rfl rfl rfl (op_move rfl ?_)
      refine w_o rfl rfl rfl (op_call rfl rfl rfl ?_)
      have hi2 : i = ll.length := by omega
      subst hi2
      rw [List.take_length] at hs0
      subst hs0
      refine GrowS_w hl fun cG NG roomG hG hroomG => ?_
      refine w_o rfl rfl rfl (op_assign rfl ?_)
      refine w_end ?_
      refine seq_normal ?_
      refine w_seq ?_
      refine w_seq ?_
      refine w_region ?_
      refine w_o rfl rfl rfl (op_move rfl ?_)
      refine w_o rfl rfl rfl (op_lenC und_67 rfl (by first | exact ⟨rfl, fun s e => by cases e⟩ | exact Sl.lenC (by assumption) | (refine Own.lenT (by assumption) ?_ ?_ <;> first | exact fun _ => rfl | decide)) ?_)
      refine w_o rfl rfl rfl (op_move rfl ?_)
      refine w_end ?_
      refine seq_normal ?_
      refine w_block ?_
      refine w_loop (fun m e H' => ∃ (i : Nat) (c' : Cell) (N : Hyp) (room : List Cell), i ≤ cs.length ∧ m = cs.length - i ∧ OwnR 39 2 c' ((ll.take i).flatten.flatMap encS) room N ∧ room.length = (ll.flatten.length - (ll.take i).flatten.length) * 2 ∧ H' = N ++ H ∧ e = [(6, .one (.c c')), (25, .one (.c c)), (26, vI (cs.length : Nat)), (27, vI (i : Nat))]) ?_ ?_
      · exact ⟨_, _, _, ⟨0, _, _, _, Nat.zero_le _, rfl, hG, by simpa using hroomG, rfl, rfl⟩, env_, sel_⟩
      · rintro m e H' ⟨i, c', N, room, hi, rfl, hO, hroom, rfl, rfl⟩
        refine w_seq ?_
        refine w_region ?_
        refine w_o rfl rfl rfl (op_lt rfl rfl ?_)
        refine w_end ?_
        refine seq_normal ?_
        refine w_seq ?_
        first | refine w_cond rfl (fun hI3 => ?_) (fun hI3 => ?_) | refine w_condB rfl (fun hI3 => ?_) (fun hI3 => ?_)
        · refine w_skip ?_
          refine seq_normal ?_
          refine w_seq ?_
          refine w_block ?_
          refine w_seq ?_
          refine w_region ?_
          refine w_o rfl rfl rfl (op_indexT und_67 siz_22 rfl rfl h.app (fun _ => rfl) rfl (by omega) fun b29 o29 z29 h29 e29 => ?_)
          obtain ⟨l29, hl29⟩ : ∃ l, ll[i]? = some l := ⟨_, List.getElem?_eq_getElem (by omega)⟩
          have hz29 := (hs i z29 l29 h29 hl29).app (N := N)
          have ht29 := flatten_take hl29
          have hle29 := flatten_take_le ll (i + 1)
          rw [ht29, List.length_append] at hle29
          refine w_o rfl rfl rfl (op_load1 agg_22 rfl el_ ?_)
          refine w_o rfl rfl rfl (op_assign rfl ?_)
          refine w_end ?_
          refine seq_normal ?_
          refine w_region ?_
          refine w_o rfl rfl rfl (op_move rfl ?_)
          refine w_o rfl rfl rfl (op_move rfl ?_)
          refine w_o rfl rfl rfl (op_appendR (enc := encS) elm_22 inf_39 zer_39 (by decide) und_22 rfl rfl hO (fun _ => rfl) (by (repeat (first | exact PickL.front _ _ | exact PickL.nil _ | apply PickL.skip | apply PickL.skipL)); first | done | fail) hz29 (by omega) (by omega) fun c33 N33 r33 h33 hr33 => ?_)
          refine w_o rfl rfl rfl (op_assign rfl ?_)
          refine w_end ?_
          refine block_normal ?_
          refine seq_normal ?_
          refine w_region ?_
          refine w_o rfl rfl rfl (op_addi rfl rfl (by omega) (by omega) ?_)
          refine w_o rfl rfl rfl (op_move rfl ?_)
          refine w_end ?_
          rw [← ht29] at h33
          exact loop_normal (k' := cs.length - (i + 1)) (by omega) ⟨i + 1, c33, N33, r33, by omega, rfl, h33, by rw [ht29, List.length_append]; omega, rfl, rfl⟩ env_ sel_
        · refine w_exit ?_
          refine seq_exit ?_
          refine loop_exit ?_
          refine block_hit rfl ?_
          refine seq_normal ?_
          refine w_seq ?_
          refine w_region ?_
          refine w_o rfl rfl rfl (op_move rfl ?_)
          refine w_o rfl rfl rfl (op_assign rfl ?_)
          refine w_end ?_
          refine seq_normal ?_
          refine w_ret ?_
          have hi3 : i = ll.length := by omega
          subst hi3
          rw [List.take_length] at hO hroom
          have hr0 : room = [] := List.length_eq_zero_iff.1 (by omega)
          subst hr0
          exact ret_ret rfl (.refl _) (k _ _ hO.own)
/-! ### What may be -/
def pointV (v : Int) : Bool := decide (0 ≤ v ∧ v ≤ 1114111 ∧ (v < 55296 ∨ 57343 < v))
def rightV (v : Int) : Bool := pointV v || decide (1114240 ≤ v ∧ v ≤ 1114367)
def rightS (x : Sign) : Bool := rightV x.f0 && decide (0 ≤ x.f1 ∧ x.f1 ≤ 5)
theorem point_w {H : Hyp} {K : V → Hyp → Prop} {v : Int} (k : K (vB (pointV v)) H) : CallW Try.prog Xs 60 [vI v] H K := by
  refine call_of (n := 17) (fun _ => rfl) Try.func60 rfl rfl ?_
  refine w_seq ?_
  refine w_region ?_
  refine w_o rfl rfl rfl (op_assign rfl ?_)
  refine w_end ?_
  refine seq_normal ?_
  refine w_seq ?_
  refine w_region ?_
  refine w_o rfl rfl rfl (op_move rfl ?_)
  refine w_o rfl rfl rfl (op_ge rfl rfl ?_)
  refine w_o rfl rfl rfl (op_move rfl ?_)
  first | refine w_known (t := 5) rfl (fun g5 => ?_) (fun g5 => ?_) | refine w_knownB (t := 5) rfl (fun g5 => ?_) (fun g5 => ?_)
  · refine w_og rfl rfl rfl rfl rfl (op_move rfl ?_)
    refine w_og rfl rfl rfl rfl rfl (op_le rfl rfl ?_)
    refine w_o rfl rfl rfl (op_pick rfl rfl rfl ?_)
    refine w_o rfl rfl rfl (op_move rfl ?_)
    first | refine w_known (t := 9) rfl (fun g9 => ?_) (fun g9 => ?_) | refine w_knownB (t := 9) rfl (fun g9 => ?_) (fun g9 => ?_)
    · refine w_og rfl rfl rfl rfl rfl (op_move rfl ?_)
      refine w_og rfl rfl rfl rfl rfl (op_lt rfl rfl ?_)
      refine w_og rfl rfl rfl rfl rfl (op_move rfl ?_)
      first | refine w_known (t := 12) rfl (fun g12 => ?_) (fun g12 => ?_) | refine w_knownB (t := 12) rfl (fun g12 => ?_) (fun g12 => ?_)
      · refine w_u rfl rfl rfl rfl rfl rfl ?_
        refine w_u rfl rfl rfl rfl rfl rfl ?_
        refine w_og rfl rfl rfl rfl rfl (op_pick rfl rfl rfl ?_)
        refine w_o rfl rfl rfl (op_pick rfl rfl rfl ?_)
        refine w_o rfl rfl rfl (op_assign rfl ?_)
        refine w_end ?_
        refine seq_normal ?_
        refine w_ret ?_
        exact ret_bool rfl sel_ (by rw [Bool.eq_iff_iff]; simp [pointV] <;> omega) k
      · refine w_og rfl rfl rfl rfl rfl (op_move rfl ?_)
        refine w_og rfl rfl rfl rfl rfl (op_gt rfl rfl ?_)
        refine w_og rfl rfl rfl rfl rfl (op_pick rfl rfl rfl ?_)
        refine w_o rfl rfl rfl (op_pick rfl rfl rfl ?_)
        refine w_o rfl rfl rfl (op_assign rfl ?_)
        refine w_end ?_
        refine seq_normal ?_
        refine w_ret ?_
        exact ret_bool rfl sel_ (by rw [Bool.eq_iff_iff]; simp [pointV] <;> omega) k
    · refine w_u rfl rfl rfl rfl rfl rfl ?_
      refine w_u rfl rfl rfl rfl rfl rfl ?_
      refine w_u rfl rfl rfl rfl rfl rfl ?_
      refine w_u rfl rfl rfl rfl rfl rfl ?_
      refine w_u rfl rfl rfl rfl rfl rfl ?_
      refine w_u rfl rfl rfl rfl rfl rfl ?_
      refine w_o rfl rfl rfl (op_pick rfl rfl rfl ?_)
      refine w_o rfl rfl rfl (op_assign rfl ?_)
      refine w_end ?_
      refine seq_normal ?_
      refine w_ret ?_
      exact ret_bool rfl sel_ (by rw [Bool.eq_iff_iff]; simp [pointV] <;> omega) k
  · refine w_u rfl rfl rfl rfl rfl rfl ?_
    refine w_u rfl rfl rfl rfl rfl rfl ?_
    refine w_o rfl rfl rfl (op_pick rfl rfl rfl ?_)
    refine w_o rfl rfl rfl (op_move rfl ?_)
    refine w_u rfl rfl rfl rfl rfl rfl ?_
    refine w_u rfl rfl rfl rfl rfl rfl ?_
    refine w_u rfl rfl rfl rfl rfl rfl ?_
    refine w_u rfl rfl rfl rfl rfl rfl ?_
    refine w_u rfl rfl rfl rfl rfl rfl ?_
    refine w_u rfl rfl rfl rfl rfl rfl ?_
    refine w_o rfl rfl rfl (op_pick rfl rfl rfl ?_)
    refine w_o rfl rfl rfl (op_assign rfl ?_)
    refine w_end ?_
    refine seq_normal ?_
    refine w_ret ?_
    exact ret_bool rfl sel_ (by rw [Bool.eq_iff_iff]; simp [pointV] <;> omega) k
theorem Right_w {H : Hyp} {K : V → Hyp → Prop} {v : Int} (k : K (vB (rightV v)) H) : CallW Try.prog Xs 62 [vI v] H K := by
  refine call_of (n := 13) (fun _ => rfl) Try.func62 rfl rfl ?_
  refine w_seq ?_
  refine w_region ?_
  refine w_o rfl rfl rfl (op_assign rfl ?_)
  refine w_end ?_
  refine seq_normal ?_
  refine w_seq ?_
  refine w_region ?_
  refine w_o rfl rfl rfl (op_move rfl ?_)
  refine w_o rfl rfl rfl (op_call rfl rfl rfl ?_)
  refine point_w ?_
  refine w_o rfl rfl rfl (op_move rfl ?_)
  first | refine w_known (t := 5) rfl (fun g5 => ?_) (fun g5 => ?_) | refine w_knownB (t := 5) rfl (fun g5 => ?_) (fun g5 => ?_)
  · refine w_u rfl rfl rfl rfl rfl rfl ?_
    refine w_u rfl rfl rfl rfl rfl rfl ?_
    refine w_u rfl rfl rfl rfl rfl rfl ?_
    refine w_u rfl rfl rfl rfl rfl rfl ?_
    refine w_u rfl rfl rfl rfl rfl rfl ?_
    refine w_u rfl rfl rfl rfl rfl rfl ?_
    refine w_o rfl rfl rfl (op_pick rfl rfl rfl ?_)
    refine w_o rfl rfl rfl (op_assign rfl ?_)
    refine w_end ?_
    refine seq_normal ?_
    refine w_ret ?_
    exact ret_bool rfl sel_ (by rw [Bool.eq_iff_iff]; simp [rightV, pointV] <;> omega) k
  · refine w_og rfl rfl rfl rfl rfl (op_move rfl ?_)
    refine w_og rfl rfl rfl rfl rfl (op_ge rfl rfl ?_)
    refine w_og rfl rfl rfl rfl rfl (op_move rfl ?_)
    first | refine w_known (t := 8) rfl (fun g8 => ?_) (fun g8 => ?_) | refine w_knownB (t := 8) rfl (fun g8 => ?_) (fun g8 => ?_)
    · refine w_og rfl rfl rfl rfl rfl (op_move rfl ?_)
      refine w_og rfl rfl rfl rfl rfl (op_le rfl rfl ?_)
      refine w_og rfl rfl rfl rfl rfl (op_pick rfl rfl rfl ?_)
      refine w_o rfl rfl rfl (op_pick rfl rfl rfl ?_)
      refine w_o rfl rfl rfl (op_assign rfl ?_)
      refine w_end ?_
      refine seq_normal ?_
      refine w_ret ?_
      exact ret_bool rfl sel_ (by rw [Bool.eq_iff_iff]; simp [rightV, pointV] <;> omega) k
    · refine w_u rfl rfl rfl rfl rfl rfl ?_
      refine w_u rfl rfl rfl rfl rfl rfl ?_
      refine w_og rfl rfl rfl rfl rfl (op_pick rfl rfl rfl ?_)
      refine w_o rfl rfl rfl (op_pick rfl rfl rfl ?_)
      refine w_o rfl rfl rfl (op_assign rfl ?_)
      refine w_end ?_
      refine seq_normal ?_
      refine w_ret ?_
      exact ret_bool rfl sel_ (by rw [Bool.eq_iff_iff]; simp [rightV, pointV] <;> omega) k
theorem R02Right_w {H : Hyp} {K : V → Hyp → Prop} {v : Int} (k : K (vB (rightV v)) H) : CallW Try.prog Xs 58 [vI v] H K := by
  refine call_of (n := 23) (fun _ => rfl) Try.func58 rfl rfl ?_
  refine w_seq ?_
  refine w_region ?_
  refine w_o rfl rfl rfl (op_assign rfl ?_)
  refine w_end ?_
  refine seq_normal ?_
  refine w_seq ?_
  refine w_seq ?_
  refine w_region ?_
  refine w_o rfl rfl rfl (op_move rfl ?_)
  refine w_o rfl rfl rfl (op_ge rfl rfl ?_)
  refine w_o rfl rfl rfl (op_move rfl ?_)
  first | refine w_known (t := 5) rfl (fun g5 => ?_) (fun g5 => ?_) | refine w_knownB (t := 5) rfl (fun g5 => ?_) (fun g5 => ?_)
  · refine w_og rfl rfl rfl rfl rfl (op_move rfl ?_)
    refine w_og rfl rfl rfl rfl rfl (op_lt rfl rfl ?_)
    refine w_o rfl rfl rfl (op_pick rfl rfl rfl ?_)
    refine w_o rfl rfl rfl (op_move rfl ?_)
    first | refine w_known (t := 9) rfl (fun g9 => ?_) (fun g9 => ?_) | refine w_knownB (t := 9) rfl (fun g9 => ?_) (fun g9 => ?_)
    · refine w_u rfl rfl rfl rfl rfl rfl ?_
      refine w_u rfl rfl rfl rfl rfl rfl ?_
      refine w_u rfl rfl rfl rfl rfl rfl ?_
      refine w_u rfl rfl rfl rfl rfl rfl ?_
      refine w_u rfl rfl rfl rfl rfl rfl ?_
      refine w_u rfl rfl rfl rfl rfl rfl ?_
      refine w_o rfl rfl rfl (op_pick rfl rfl rfl ?_)
      refine w_end ?_
      refine seq_normal ?_
      refine w_condT rfl ?_
      refine w_seq ?_
      refine w_region ?_
      refine w_o rfl rfl rfl (op_assign rfl ?_)
      refine w_end ?_
      refine seq_normal ?_
      refine w_ret ?_
      refine seq_ret ?_
      exact ret_bool rfl sel_ (by rw [Bool.eq_iff_iff]; simp [rightV, pointV] <;> omega) k
    · refine w_og rfl rfl rfl rfl rfl (op_move rfl ?_)
      refine w_og rfl rfl rfl rfl rfl (op_gt rfl rfl ?_)
      refine w_og rfl rfl rfl rfl rfl (op_move rfl ?_)
      first | refine w_known (t := 12) rfl (fun g12 => ?_) (fun g12 => ?_) | refine w_knownB (t := 12) rfl (fun g12 => ?_) (fun g12 => ?_)
      · refine w_og rfl rfl rfl rfl rfl (op_move rfl ?_)
        refine w_og rfl rfl rfl rfl rfl (op_le rfl rfl ?_)
        refine w_og rfl rfl rfl rfl rfl (op_pick rfl rfl rfl ?_)
        refine w_o rfl rfl rfl (op_pick rfl rfl rfl ?_)
        refine w_end ?_
        refine seq_normal ?_
        first | refine w_cond rfl (fun hI1 => ?_) (fun hI1 => ?_) | refine w_condB rfl (fun hI1 => ?_) (fun hI1 => ?_)
        · refine w_seq ?_
          refine w_region ?_
          refine w_o rfl rfl rfl (op_assign rfl ?_)
          refine w_end ?_
          refine seq_normal ?_
          refine w_ret ?_
          refine seq_ret ?_
          exact ret_bool rfl sel_ (by rw [Bool.eq_iff_iff]; simp [rightV, pointV] <;> omega) k
        · refine w_skip ?_
          refine seq_normal ?_
          refine w_seq ?_
          refine w_region ?_
          refine w_o rfl rfl rfl (op_move rfl ?_)
          refine w_o rfl rfl rfl (op_ge rfl rfl ?_)
          refine w_o rfl rfl rfl (op_move rfl ?_)
          first | refine w_known (t := 19) rfl (fun g19 => ?_) (fun g19 => ?_) | refine w_knownB (t := 19) rfl (fun g19 => ?_) (fun g19 => ?_)
          · refine w_og rfl rfl rfl rfl rfl (op_move rfl ?_)
            refine w_og rfl rfl rfl rfl rfl (op_le rfl rfl ?_)
            refine w_o rfl rfl rfl (op_pick rfl rfl rfl ?_)
            refine w_o rfl rfl rfl (op_assign rfl ?_)
            refine w_end ?_
            refine seq_normal ?_
            refine w_ret ?_
            exact ret_bool rfl sel_ (by rw [Bool.eq_iff_iff]; simp [rightV, pointV] <;> omega) k
          · refine w_u rfl rfl rfl rfl rfl rfl ?_
            refine w_u rfl rfl rfl rfl rfl rfl ?_
            refine w_o rfl rfl rfl (op_pick rfl rfl rfl ?_)
            refine w_o rfl rfl rfl (op_assign rfl ?_)
            refine w_end ?_
            refine seq_normal ?_
            refine w_ret ?_
            exact ret_bool rfl sel_ (by rw [Bool.eq_iff_iff]; simp [rightV, pointV] <;> omega) k
      · refine w_u rfl rfl rfl rfl rfl rfl ?_
        refine w_u rfl rfl rfl rfl rfl rfl ?_
        refine w_og rfl rfl rfl rfl rfl (op_pick rfl rfl rfl ?_)
        refine w_o rfl rfl rfl (op_pick rfl rfl rfl ?_)
        refine w_end ?_
        refine seq_normal ?_
        refine w_condF rfl ?_
        refine w_skip ?_
        refine seq_normal ?_
        refine w_seq ?_
        refine w_region ?_
        refine w_o rfl rfl rfl (op_move rfl ?_)
        refine w_o rfl rfl rfl (op_ge rfl rfl ?_)
        refine w_o rfl rfl rfl (op_move rfl ?_)
        first | refine w_known (t := 19) rfl (fun g19 => ?_) (fun g19 => ?_) | refine w_knownB (t := 19) rfl (fun g19 => ?_) (fun g19 => ?_)
        · refine w_og rfl rfl rfl rfl rfl (op_move rfl ?_)
          refine w_og rfl rfl rfl rfl rfl (op_le rfl rfl ?_)
          refine w_o rfl rfl rfl (op_pick rfl rfl rfl ?_)
          refine w_o rfl rfl rfl (op_assign rfl ?_)
          refine w_end ?_
          refine seq_normal ?_
          refine w_ret ?_
          exact ret_bool rfl sel_ (by rw [Bool.eq_iff_iff]; simp [rightV, pointV] <;> omega) k
        · refine w_u rfl rfl rfl rfl rfl rfl ?_
          refine w_u rfl rfl rfl rfl rfl rfl ?_
          refine w_o rfl rfl rfl (op_pick rfl rfl rfl ?_)
          refine w_o rfl rfl rfl (op_assign rfl ?_)
          refine w_end ?_
          refine seq_normal ?_
          refine w_ret ?_
          exact ret_bool rfl sel_ (by rw [Bool.eq_iff_iff]; simp [rightV, pointV] <;> omega) k
  · refine w_u rfl rfl rfl rfl rfl rfl ?_
    refine w_u rfl rfl rfl rfl rfl rfl ?_
    refine w_o rfl rfl rfl (op_pick rfl rfl rfl ?_)
    refine w_o rfl rfl rfl (op_move rfl ?_)
    refine w_og rfl rfl rfl rfl rfl (op_move rfl ?_)
    refine w_og rfl rfl rfl rfl rfl (op_gt rfl rfl ?_)
    refine w_og rfl rfl rfl rfl rfl (op_move rfl ?_)
    first | refine w_known (t := 12) rfl (fun g12 => ?_) (fun g12 => ?_) | refine w_knownB (t := 12) rfl (fun g12 => ?_) (fun g12 => ?_)
    · refine w_og rfl rfl rfl rfl rfl (op_move rfl ?_)
      refine w_og rfl rfl rfl rfl rfl (op_le rfl rfl ?_)
      refine w_og rfl rfl rfl rfl rfl (op_pick rfl rfl rfl ?_)
      refine w_o rfl rfl rfl (op_pick rfl rfl rfl ?_)
      refine w_end ?_
      refine seq_normal ?_
      first | refine w_cond rfl (fun hI1 => ?_) (fun hI1 => ?_) | refine w_condB rfl (fun hI1 => ?_) (fun hI1 => ?_)
      · refine w_seq ?_
        refine w_region ?_
        refine w_o rfl rfl rfl (op_assign rfl ?_)
        refine w_end ?_
        refine seq_normal ?_
        refine w_ret ?_
        refine seq_ret ?_
        exact ret_bool rfl sel_ (by rw [Bool.eq_iff_iff]; simp [rightV, pointV] <;> omega) k
      · refine w_skip ?_
        refine seq_normal ?_
        refine w_seq ?_
        refine w_region ?_
        refine w_o rfl rfl rfl (op_move rfl ?_)
        refine w_o rfl rfl rfl (op_ge rfl rfl ?_)
        refine w_o rfl rfl rfl (op_move rfl ?_)
        first | refine w_known (t := 19) rfl (fun g19 => ?_) (fun g19 => ?_) | refine w_knownB (t := 19) rfl (fun g19 => ?_) (fun g19 => ?_)
        · refine w_og rfl rfl rfl rfl rfl (op_move rfl ?_)
          refine w_og rfl rfl rfl rfl rfl (op_le rfl rfl ?_)
          refine w_o rfl rfl rfl (op_pick rfl rfl rfl ?_)
          refine w_o rfl rfl rfl (op_assign rfl ?_)
          refine w_end ?_
          refine seq_normal ?_
          refine w_ret ?_
          exact ret_bool rfl sel_ (by rw [Bool.eq_iff_iff]; simp [rightV, pointV] <;> omega) k
        · refine w_u rfl rfl rfl rfl rfl rfl ?_
          refine w_u rfl rfl rfl rfl rfl rfl ?_
          refine w_o rfl rfl rfl (op_pick rfl rfl rfl ?_)
          refine w_o rfl rfl rfl (op_assign rfl ?_)
          refine w_end ?_
          refine seq_normal ?_
          refine w_ret ?_
          exact ret_bool rfl sel_ (by rw [Bool.eq_iff_iff]; simp [rightV, pointV] <;> omega) k
    · refine w_u rfl rfl rfl rfl rfl rfl ?_
      refine w_u rfl rfl rfl rfl rfl rfl ?_
      refine w_og rfl rfl rfl rfl rfl (op_pick rfl rfl rfl ?_)
      refine w_o rfl rfl rfl (op_pick rfl rfl rfl ?_)
      refine w_end ?_
      refine seq_normal ?_
      refine w_condF rfl ?_
      refine w_skip ?_
      refine seq_normal ?_
      refine w_seq ?_
      refine w_region ?_
      refine w_o rfl rfl rfl (op_move rfl ?_)
      refine w_o rfl rfl rfl (op_ge rfl rfl ?_)
      refine w_o rfl rfl rfl (op_move rfl ?_)
      first | refine w_known (t := 19) rfl (fun g19 => ?_) (fun g19 => ?_) | refine w_knownB (t := 19) rfl (fun g19 => ?_) (fun g19 => ?_)
      · refine w_og rfl rfl rfl rfl rfl (op_move rfl ?_)
        refine w_og rfl rfl rfl rfl rfl (op_le rfl rfl ?_)
        refine w_o rfl rfl rfl (op_pick rfl rfl rfl ?_)
        refine w_o rfl rfl rfl (op_assign rfl ?_)
        refine w_end ?_
        refine seq_normal ?_
        refine w_ret ?_
        exact ret_bool rfl sel_ (by rw [Bool.eq_iff_iff]; simp [rightV, pointV] <;> omega) k
      · refine w_u rfl rfl rfl rfl rfl rfl ?_
        refine w_u rfl rfl rfl rfl rfl rfl ?_
        refine w_o rfl rfl rfl (op_pick rfl rfl rfl ?_)
        refine w_o rfl rfl rfl (op_assign rfl ?_)
        refine w_end ?_
        refine seq_normal ?_
        refine w_ret ?_
        exact ret_bool rfl sel_ (by rw [Bool.eq_iff_iff]; simp [rightV, pointV] <;> omega) k
theorem signRight_w {H : Hyp} {K : V → Hyp → Prop} {x : Sign} (k : K (vB (rightS x)) H) : CallW Try.prog Xs 65 [.one (.agg (encS x))] H K := by
  refine call_of (n := 16) (fun _ => rfl) Try.func65 rfl rfl ?_
  refine w_seq ?_
  refine w_region ?_
  refine w_o rfl rfl rfl (op_box rfl fun b1 => ?_)
  refine w_o rfl rfl rfl (op_assign rfl ?_)
  refine w_end ?_
  refine seq_normal ?_
  refine w_seq ?_
  refine w_region ?_
  refine w_o rfl rfl rfl (op_fieldAddr fa_39_0 rfl ?_)
  refine w_o rfl rfl rfl (op_loadF agg_3 rfl el_ rfl ?_)
  refine w_o rfl rfl rfl (op_call rfl rfl rfl ?_)
  refine Right_w ?_
  refine w_o rfl rfl rfl (op_move rfl ?_)
  first | refine w_known (t := 6) rfl (fun g6 => ?_) (fun g6 => ?_) | refine w_knownB (t := 6) rfl (fun g6 => ?_) (fun g6 => ?_)
  · refine w_og rfl rfl rfl rfl rfl (op_fieldAddr fa_39_1 rfl ?_)
    refine w_og rfl rfl rfl rfl rfl (op_loadF agg_3 rfl el_ rfl ?_)
    refine w_og rfl rfl rfl rfl rfl (op_ge rfl rfl ?_)
    refine w_o rfl rfl rfl (op_pick rfl rfl rfl ?_)
    refine w_o rfl rfl rfl (op_move rfl ?_)
    first | refine w_known (t := 11) rfl (fun g11 => ?_) (fun g11 => ?_) | refine w_knownB (t := 11) rfl (fun g11 => ?_) (fun g11 => ?_)
    · refine w_og rfl rfl rfl rfl rfl (op_fieldAddr fa_39_1 rfl ?_)
      refine w_og rfl rfl rfl rfl rfl (op_loadF agg_3 rfl el_ rfl ?_)
      refine w_og rfl rfl rfl rfl rfl (op_le rfl rfl ?_)
      refine w_o rfl rfl rfl (op_pick rfl rfl rfl ?_)
      refine w_o rfl rfl rfl (op_assign rfl ?_)
      refine w_end ?_
      refine seq_normal ?_
      refine w_ret ?_
      exact ret_bool rfl sel_ (by rw [Bool.eq_iff_iff]; simp [rightS, *] <;> omega) k
    · refine w_u rfl rfl rfl rfl rfl rfl ?_
      refine w_u rfl rfl rfl rfl rfl rfl ?_
      refine w_u rfl rfl rfl rfl rfl rfl ?_
      refine w_o rfl rfl rfl (op_pick rfl rfl rfl ?_)
      refine w_o rfl rfl rfl (op_assign rfl ?_)
      refine w_end ?_
      refine seq_normal ?_
      refine w_ret ?_
      exact ret_bool rfl sel_ (by rw [Bool.eq_iff_iff]; simp [rightS, *] <;> omega) k
  · refine w_u rfl rfl rfl rfl rfl rfl ?_
    refine w_u rfl rfl rfl rfl rfl rfl ?_
    refine w_u rfl rfl rfl rfl rfl rfl ?_
    refine w_o rfl rfl rfl (op_pick rfl rfl rfl ?_)
    refine w_o rfl rfl rfl (op_move rfl ?_)
    refine w_u rfl rfl rfl rfl rfl rfl ?_
    refine w_u rfl rfl rfl rfl rfl rfl ?_
    refine w_u rfl rfl rfl rfl rfl rfl ?_
    refine w_o rfl rfl rfl (op_pick rfl rfl rfl ?_)
    refine w_o rfl rfl rfl (op_assign rfl ?_)
    refine w_end ?_
    refine seq_normal ?_
    refine w_ret ?_
    exact ret_bool rfl sel_ (by rw [Bool.eq_iff_iff]; simp [rightS, *] <;> omega) k
theorem R04Right_w {H : Hyp} {K : V → Hyp → Prop} {x : Sign} (k : K (vB (rightS x)) H) : CallW Try.prog Xs 39 [.one (.agg (encS x))] H K := by
  refine call_of (n := 16) (fun _ => rfl) Try.func39 rfl rfl ?_
  refine w_seq ?_
  refine w_region ?_
  refine w_o rfl rfl rfl (op_box rfl fun b1 => ?_)
  refine w_o rfl rfl rfl (op_assign rfl ?_)
  refine w_end ?_
  refine seq_normal ?_
  refine w_seq ?_
  refine w_region ?_
  refine w_o rfl rfl rfl (op_fieldAddr fa_39_0 rfl ?_)
  refine w_o rfl rfl rfl (op_loadF agg_3 rfl el_ rfl ?_)
  refine w_o rfl rfl rfl (op_call rfl rfl rfl ?_)
  refine R02Right_w ?_
  refine w_o rfl rfl rfl (op_move rfl ?_)
  first | refine w_known (t := 6) rfl (fun g6 => ?_) (fun g6 => ?_) | refine w_knownB (t := 6) rfl (fun g6 => ?_) (fun g6 => ?_)
  · refine w_og rfl rfl rfl rfl rfl (op_fieldAddr fa_39_1 rfl ?_)
    refine w_og rfl rfl rfl rfl rfl (op_loadF agg_3 rfl el_ rfl ?_)
    refine w_og rfl rfl rfl rfl rfl (op_ge rfl rfl ?_)
    refine w_o rfl rfl rfl (op_pick rfl rfl rfl ?_)
    refine w_o rfl rfl rfl (op_move rfl ?_)
    first | refine w_known (t := 11) rfl (fun g11 => ?_) (fun g11 => ?_) | refine w_knownB (t := 11) rfl (fun g11 => ?_) (fun g11 => ?_)
    · refine w_og rfl rfl rfl rfl rfl (op_fieldAddr fa_39_1 rfl ?_)
      refine w_og rfl rfl rfl rfl rfl (op_loadF agg_3 rfl el_ rfl ?_)
      refine w_og rfl rfl rfl rfl rfl (op_le rfl rfl ?_)
      refine w_o rfl rfl rfl (op_pick rfl rfl rfl ?_)
      refine w_o rfl rfl rfl (op_assign rfl ?_)
      refine w_end ?_
      refine seq_normal ?_
      refine w_ret ?_
      exact ret_bool rfl sel_ (by rw [Bool.eq_iff_iff]; simp [rightS, *] <;> omega) k
    · refine w_u rfl rfl rfl rfl rfl rfl ?_
      refine w_u rfl rfl rfl rfl rfl rfl ?_
      refine w_u rfl rfl rfl rfl rfl rfl ?_
      refine w_o rfl rfl rfl (op_pick rfl rfl rfl ?_)
      refine w_o rfl rfl rfl (op_assign rfl ?_)
      refine w_end ?_
      refine seq_normal ?_
      refine w_ret ?_
      exact ret_bool rfl sel_ (by rw [Bool.eq_iff_iff]; simp [rightS, *] <;> omega) k
  · refine w_u rfl rfl rfl rfl rfl rfl ?_
    refine w_u rfl rfl rfl rfl rfl rfl ?_
    refine w_u rfl rfl rfl rfl rfl rfl ?_
    refine w_o rfl rfl rfl (op_pick rfl rfl rfl ?_)
    refine w_o rfl rfl rfl (op_move rfl ?_)
    refine w_u rfl rfl rfl rfl rfl rfl ?_
    refine w_u rfl rfl rfl rfl rfl rfl ?_
    refine w_u rfl rfl rfl rfl rfl rfl ?_
    refine w_o rfl rfl rfl (op_pick rfl rfl rfl ?_)
    refine w_o rfl rfl rfl (op_assign rfl ?_)
    refine w_end ?_
    refine seq_normal ?_
    refine w_ret ?_
    exact ret_bool rfl sel_ (by rw [Bool.eq_iff_iff]; simp [rightS, *] <;> omega) k
theorem signCheck1_w {H : Hyp} {K : V → Hyp → Prop} {x : Sign} (k : K (vB (!rightS x)) H) : CallW Try.prog Xs 64 [.one (.agg (encS x))] H K := by
  refine call_of (n := 6) (fun _ => rfl) Try.func64 rfl rfl ?_
  refine w_seq ?_
  refine w_region ?_
  refine w_o rfl rfl rfl (op_box rfl fun b1 => ?_)
  refine w_o rfl rfl rfl (op_assign rfl ?_)
  refine w_end ?_
  refine seq_normal ?_
  refine w_seq ?_
  refine w_region ?_
  refine w_o rfl rfl rfl (op_loadA agg_39 siz_39 rfl rfl el_ ?_)
  refine w_o rfl rfl rfl (op_call rfl rfl rfl ?_)
  refine signRight_w ?_
  refine w_o rfl rfl rfl (op_not rfl ?_)
  refine w_o rfl rfl rfl (op_assign rfl ?_)
  refine w_end ?_
  refine seq_normal ?_
  refine w_ret ?_
  exact ret_bool rfl sel_ rfl k
theorem signCheck_w {H : Hyp} {K : V → Hyp → Prop} {c : Cell} {l : List Sign} (h : Sl H 39 2 c l.length (l.flatMap encS)) (hl : l.length ≤ 1000000) (k : K (vI (if l.all rightS then 0 else 2)) H) : CallW Try.prog Xs 43 [.one (.c c)] H K := by
  refine call_of (n := 5) (fun _ => rfl) Try.func43 rfl rfl ?_
  refine w_seq ?_
  refine w_region ?_
  refine w_o rfl rfl rfl (op_assign rfl ?_)
  refine w_end ?_
  refine seq_normal ?_
  refine w_seq ?_
  refine w_seq ?_
  refine w_region ?_
  refine w_o rfl rfl rfl (op_move rfl ?_)
  refine w_o rfl rfl rfl (op_call rfl rfl rfl ?_)
  refine ContainsFuncS_w (p := fun x => !rightS x) (caps := []) h (by omega) (fun x _ H0 K' hs k' => signCheck1_w k') ?_
  refine w_end ?_
  refine seq_normal ?_
  first | refine w_cond rfl (fun hI1 => ?_) (fun hI1 => ?_) | refine w_condB rfl (fun hI1 => ?_) (fun hI1 => ?_)
  · refine w_seq ?_
    refine w_region ?_
    refine w_o rfl rfl rfl (op_assign rfl ?_)
    refine w_end ?_
    refine seq_normal ?_
    refine w_ret ?_
    refine seq_ret ?_
    have e : l.all rightS = !(l.any fun x => !rightS x) := by simp [List.all_eq_not_any_not]
    rw [e] at k
    exact ret_int rfl sel_ (by simp [*]) k
  · refine w_skip ?_
    refine seq_normal ?_
    refine w_seq ?_
    refine w_region ?_
    refine w_o rfl rfl rfl (op_assign rfl ?_)
    refine w_end ?_
    refine seq_normal ?_
    refine w_ret ?_
    have e : l.all rightS = !(l.any fun x => !rightS x) := by simp [List.all_eq_not_any_not]
    rw [e] at k
    exact ret_int rfl sel_ (by simp [*]) k
theorem R04All_w {H : Hyp} {K : V → Hyp → Prop} {c : Cell} {l : List Sign} (h : Sl H 39 2 c l.length (l.flatMap encS)) (hl : l.length ≤ 1000000) (k : K (vB (l.all rightS)) H) : CallW Try.prog Xs 21 [.one (.c c)] H K := by
  refine call_of (n := 16) (fun _ => rfl) Try.func21 rfl rfl ?_
  refine w_seq ?_
  refine w_region ?_
  refine w_o rfl rfl rfl (op_assign rfl ?_)
  refine w_end ?_
  refine seq_normal ?_
  refine w_seq ?_
  refine w_seq ?_
  refine w_region ?_
  refine w_o rfl rfl rfl (op_assign rfl ?_)
  refine w_end ?_
  refine seq_normal ?_
  refine w_block ?_
  refine w_loop (fun m e H' => ∃ (i : Nat), i ≤ l.length ∧ m = l.length - i ∧ (∀ (j : Nat) (x : Sign), j < i → l[j]? = some x → rightS x = true) ∧ H = H' ∧ e = [(0, .one (.c c)), (3, vI (i : Nat))]) ?_ ?_
  · exact ⟨_, _, _, ⟨0, Nat.zero_le _, rfl, fun j x hj => absurd hj (Nat.not_lt_zero _), rfl, rfl⟩, env_, sel_⟩
  · rintro m e H' ⟨i, hi, rfl, hp, rfl, rfl⟩
    refine w_seq ?_
    refine w_seq ?_
    refine w_region ?_
    refine w_o rfl rfl rfl (op_move rfl ?_)
    refine w_o rfl rfl rfl (op_move rfl ?_)
    refine w_o rfl rfl rfl (op_lenC und_22 rfl (by first | exact ⟨rfl, fun s e => by cases e⟩ | exact Sl.lenC (by assumption) | (refine Own.lenT (by assumption) ?_ ?_ <;> first | exact fun _ => rfl | decide)) ?_)
    refine w_o rfl rfl rfl (op_lt rfl rfl ?_)
    refine w_end ?_
    refine seq_normal ?_
    first | refine w_cond rfl (fun hI1 => ?_) (fun hI1 => ?_) | refine w_condB rfl (fun hI1 => ?_) (fun hI1 => ?_)
    · refine w_skip ?_
      refine seq_normal ?_
      refine w_seq ?_
      refine w_block ?_
      refine w_seq ?_
      refine w_region ?_
      refine w_o rfl rfl rfl (op_move rfl ?_)
      refine w_o rfl rfl rfl (op_move rfl ?_)
      refine w_o rfl rfl rfl (op_indexT (enc := encS) und_22 siz_39 rfl rfl (by first | assumption | (repeat (first | assumption | apply Sl.cons | apply Sl.app))) (fun _ => rfl) rfl (by omega) fun b12 o12 z12 h12 e12 => ?_)
      refine w_o rfl rfl rfl (op_loadA agg_39 siz_39 rfl rfl el_ ?_)
      refine w_o rfl rfl rfl (op_call rfl rfl rfl ?_)
      refine R04Right_w (x := z12) ?_
      refine w_o rfl rfl rfl (op_not rfl ?_)
      refine w_end ?_
      refine seq_normal ?_
      first | refine w_cond rfl (fun hI2 => ?_) (fun hI2 => ?_) | refine w_condB rfl (fun hI2 => ?_) (fun hI2 => ?_)
      · refine w_seq ?_
        refine w_region ?_
        refine w_o rfl rfl rfl (op_assign rfl ?_)
        refine w_end ?_
        refine seq_normal ?_
        refine w_ret ?_
        refine block_ret ?_
        refine seq_ret ?_
        refine loop_ret ?_
        refine block_ret ?_
        refine seq_ret ?_
        have e : l.all rightS = false := by
          rw [List.all_eq_false]
          exact ⟨z12, List.mem_of_getElem? h12, by simpa using hI2⟩
        exact ret_bool rfl sel_ e.symm k
      · refine w_skip ?_
        refine block_normal ?_
        refine seq_normal ?_
        refine w_region ?_
        refine w_o rfl rfl rfl (op_move rfl ?_)
        refine w_o rfl rfl rfl (op_addi rfl rfl (by omega) (by omega) ?_)
        refine w_o rfl rfl rfl (op_assign rfl ?_)
        refine w_end ?_
        refine loop_normal (k' := l.length - (i + 1)) (by omega) ⟨i + 1, by omega, rfl, ?_, rfl, rfl⟩ env_ sel_
        intro j x hj hx
        by_cases e : j = i
        · subst e; rw [h12] at hx; cases hx; simpa using hI2
        · exact hp j x (by omega) hx
    · refine w_exit ?_
      refine seq_exit ?_
      refine loop_exit ?_
      refine block_hit rfl ?_
      refine seq_normal ?_
      refine w_seq ?_
      refine w_region ?_
      refine w_o rfl rfl rfl (op_assign rfl ?_)
      refine w_end ?_
      refine seq_normal ?_
      refine w_ret ?_
      have e : l.all rightS = true := by
        rw [List.all_eq_true]
        intro x hx
        obtain ⟨j, hj⟩ := List.getElem?_of_mem hx
        exact hp j x (by have := (List.getElem?_eq_some_iff.1 hj).1; omega) hj
      exact ret_bool rfl sel_ e.symm k
theorem R04Same_w {H : Hyp} {K : V → Hyp → Prop} {c c' : Cell} {l l' : List Sign} (h : Sl H 39 2 c l.length (l.flatMap encS)) (h' : Sl H 39 2 c' l'.length (l'.flatMap encS)) (hl : l.length ≤ 1000000) (k : K (vB (decide (l = l'))) H) : CallW Try.prog Xs 20 [.one (.c c), .one (.c c')] H K := by
  refine call_of (n := 26) (fun _ => rfl) Try.func20 rfl rfl ?_
  refine w_seq ?_
  refine w_region ?_
  refine w_o rfl rfl rfl (op_assign rfl ?_)
  refine w_end ?_
  refine seq_normal ?_
  refine w_seq ?_
  refine w_seq ?_
  refine w_region ?_
  refine w_o rfl rfl rfl (op_move rfl ?_)
  refine w_o rfl rfl rfl (op_lenC und_22 rfl h.lenC ?_)
  refine w_o rfl rfl rfl (op_move rfl ?_)
  refine w_o rfl rfl rfl (op_lenC und_22 rfl h'.lenC ?_)
  refine w_o rfl rfl rfl (op_ne rfl rfl ?_)
  refine w_end ?_
  refine seq_normal ?_
  first | refine w_cond rfl (fun hI1 => ?_) (fun hI1 => ?_) | refine w_condB rfl (fun hI1 => ?_) (fun hI1 => ?_)
  · have hne : ¬ (l = l') := fun q => hI1 (by rw [q])
    refine w_seq ?_
    refine w_region ?_
    refine w_o rfl rfl rfl (op_assign rfl ?_)
    refine w_end ?_
    refine seq_normal ?_
    refine w_ret ?_
    refine seq_ret ?_
    exact ret_bool rfl sel_ (decide_eq_false hne).symm k
  · have heq : l.length = l'.length := by omega
    refine w_skip ?_
    refine seq_normal ?_
    refine w_seq ?_
    refine w_seq ?_
    refine w_region ?_
    refine w_o rfl rfl rfl (op_assign rfl ?_)
    refine w_end ?_
    refine seq_normal ?_
    refine w_block ?_
    refine w_loop (fun m e H' => ∃ (i : Nat), i ≤ l.length ∧ m = l.length - i ∧ (∀ (j : Nat), j < i → l[j]? = l'[j]?) ∧ H = H' ∧ e = [(0, .one (.c c)), (1, .one (.c c')), (5, vI (i : Nat))]) ?_ ?_
    · exact ⟨_, _, _, ⟨0, Nat.zero_le _, rfl, fun j hj => absurd hj (Nat.not_lt_zero _), rfl, rfl⟩, env_, sel_⟩
    · rintro m e H' ⟨i, hi, rfl, hp, rfl, rfl⟩
      refine w_seq ?_
      refine w_seq ?_
      refine w_region ?_
      refine w_o rfl rfl rfl (op_move rfl ?_)
      refine w_o rfl rfl rfl (op_move rfl ?_)
      refine w_o rfl rfl rfl (op_lenC und_22 rfl h.lenC ?_)
      refine w_o rfl rfl rfl (op_lt rfl rfl ?_)
      refine w_end ?_
      refine seq_normal ?_
      first | refine w_cond rfl (fun hI2 => ?_) (fun hI2 => ?_) | refine w_condB rfl (fun hI2 => ?_) (fun hI2 => ?_)
      · refine w_skip ?_
        refine seq_normal ?_
        refine w_seq ?_
        refine w_block ?_
        refine w_seq ?_
        refine w_draw (by decide +kernel) (by decide +kernel) ?_
        refine w_d rfl rfl rfl (op_move rfl ?_)
        refine w_d rfl rfl rfl (op_move rfl ?_)
        refine w_d rfl rfl rfl (op_indexT und_22 siz_39 rfl rfl h (fun _ => rfl) rfl (by omega) fun b19 o19 z19 h19 e19 => ?_)
        refine w_d rfl rfl rfl (op_loadA agg_39 siz_39 rfl rfl el_ ?_)
        refine w_d rfl rfl rfl (op_move rfl ?_)
        refine w_d rfl rfl rfl (op_move rfl ?_)
        refine w_d rfl rfl rfl (op_indexT und_22 siz_39 rfl rfl h' (fun _ => rfl) rfl (by omega) fun b23 o23 z23 h23 e23 => ?_)
        refine w_d rfl rfl rfl (op_loadA agg_39 siz_39 rfl rfl el_ ?_)
        refine w_d rfl rfl rfl (op_nes_39 rfl rfl ?_)
        refine w_end ?_
        refine seq_normal ?_
        first | refine w_cond rfl (fun hI3 => ?_) (fun hI3 => ?_) | refine w_condB rfl (fun hI3 => ?_) (fun hI3 => ?_)
        · refine w_seq ?_
          refine w_region ?_
          refine w_o rfl rfl rfl (op_assign rfl ?_)
          refine w_end ?_
          refine seq_normal ?_
          refine w_ret ?_
          refine block_ret ?_
          refine seq_ret ?_
          refine loop_ret ?_
          refine block_ret ?_
          refine seq_ret ?_
          have hne : ¬ (l = l') := by
            intro q
            subst q
            rw [h19] at h23; cases h23
            simp at hI3
          exact ret_bool rfl sel_ (decide_eq_false hne).symm k
        · refine w_skip ?_
          refine block_normal ?_
          refine seq_normal ?_
          refine w_region ?_
          refine w_o rfl rfl rfl (op_move rfl ?_)
          refine w_o rfl rfl rfl (op_addi rfl rfl (by omega) (by omega) ?_)
          refine w_o rfl rfl rfl (op_assign rfl ?_)
          refine w_end ?_
          refine loop_normal (k' := l.length - (i + 1)) (by omega) ⟨i + 1, by omega, rfl, ?_, rfl, rfl⟩ env_ sel_
          intro j hj
          by_cases e : j = i
          · subst e
            rw [h19, h23]
            have : z19 = z23 := by
              simp only [Bool.not_eq_false', Bool.and_eq_true, beq_iff_eq] at hI3
              cases z19; cases z23; simp at hI3; simp [hI3.1, hI3.2]
            rw [this]
          · exact hp j (by omega)
      · refine w_exit ?_
        refine seq_exit ?_
        refine loop_exit ?_
        refine block_hit rfl ?_
        refine seq_normal ?_
        refine w_seq ?_
        refine w_region ?_
        refine w_o rfl rfl rfl (op_assign rfl ?_)
        refine w_end ?_
        refine seq_normal ?_
        refine w_ret ?_
        have he : l = l' := by
          apply List.ext_getElem?
          intro j
          by_cases e : j < i
          · exact hp j e
          · rw [List.getElem?_eq_none (by omega), List.getElem?_eq_none (by omega)]
        exact ret_bool rfl sel_ (decide_eq_true he).symm k
theorem R04Join_w {H : Hyp} {K : V → Hyp → Prop} {c c' : Cell} {l l' : List Sign} (h : Sl H 39 2 c l.length (l.flatMap encS)) (h' : Sl H 39 2 c' l'.length (l'.flatMap encS)) (hl : l.length + l'.length ≤ 1000000)
    (k : ∀ c' N, Own 39 2 c' ((l ++ l').flatMap encS) N → K (.one (.c c')) (N ++ H)) : CallW Try.prog Xs 13 [.one (.c c), .one (.c c')] H K := by
  refine call_of (n := 10) (fun _ => rfl) Try.func13 rfl rfl ?_
  refine w_seq ?_
  refine w_region ?_
  refine w_o rfl rfl rfl (op_assign rfl ?_)
  refine w_end ?_
  refine seq_normal ?_
  refine w_seq ?_
  refine w_region ?_
  refine w_o rfl rfl rfl (op_buildSlice rfl (bsl_22 _ _ _ (rfl : _ = some []) rfl (by decide)) fun b5 => ?_)
  refine w_o rfl rfl rfl (op_move rfl ?_)
  refine w_o rfl rfl rfl (op_appendT (xs := []) (enc := encS) elm_22 inf_39 zer_39 (by decide) und_22 rfl rfl (.row _ 0 [] rfl) (fun _ => rfl) (PickL.front [_] _) (Sl.cons h) (by simp only [List.length_nil]; omega) fun c7 N7 h7 => ?_)
  refine w_o rfl rfl rfl (op_move rfl ?_)
  refine w_o rfl rfl rfl (op_appendT (xs := [] ++ l) (enc := encS) elm_22 inf_39 zer_39 (by decide) und_22 rfl rfl h7 (fun _ => rfl) (PickL.front _ _) (Sl.app h') (by simp only [List.nil_append]; omega) fun c9 N9 h9 => ?_)
  refine w_o rfl rfl rfl (op_assign rfl ?_)
  refine w_end ?_
  refine seq_normal ?_
  refine w_ret ?_
  exact ret_ret rfl (.refl _) (k _ _ h9)
end Go.Proofs.Ytdhnjkagmbfoaaa.AM.B
