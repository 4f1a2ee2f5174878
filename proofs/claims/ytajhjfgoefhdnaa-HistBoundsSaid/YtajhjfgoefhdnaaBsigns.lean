/- Which signs may be: what sign's functions answer, and its reference's. -/
import Derived.Test.YtajhjfgoefhdnaaAX
import Derived.Test.YtajhjfgoefhdnaaBrights
import Derived.Test.YtajhjfgoefhdnaaP0
set_option linter.unusedVariables false
set_option linter.unusedSimpArgs false
set_option maxRecDepth 10000
set_option maxHeartbeats 4000000
namespace Go.Proofs.Ytajhjfgoefhdnaa.AM.B
open Go Go.RowKit
abbrev Sign := Go.Proofs.Ytajhjfgoefhdnaa.P.S46
instance : DecidableEq Sign := fun a b => decidable_of_iff (a.f0 = b.f0 ∧ a.f1 = b.f1) ⟨fun h => by cases a; cases b; simp at h; simp [h.1, h.2], fun h => by rw [h]; exact ⟨rfl, rfl⟩⟩
def encS (x : Sign) : List Cell := [.int .i64 x.f0, .int .i64 x.f1]
theorem rdA_46 : RdA Try.prog 46 2 (layFlat encS) (fun x => (Lit.int .i64 x.f0).wf = true ∧ (Lit.int .i64 x.f1).wf = true) :=
  rdA_map (lay := layIso (layPair (layFlat fun n => [.int .i64 n]) (layFlat fun n => [.int .i64 n])) (fun x : Sign => (x.f0, x.f1))) (fun H x cs h => by
    obtain ⟨c1, c2, rfl, h1, h2⟩ := h
    simp only [layFlat] at h1 h2
    rw [h1, h2]; rfl) (fun _ h => h) (rdA_iso (fun x => ⟨x.1, x.2⟩) (fun _ => rfl) (rdA_struct Try.underlying46 (by kernel_rfl) (rdAL_cons rfl (by kernel_rfl) (layFlat_mono _) (rdA_int und_3) (rdAL_one rfl (by kernel_rfl) (rdA_int und_3)))))
theorem IndexFuncS_w {H : Hyp} {K : V → Hyp → Prop} {c : Cell} {l : List (Sign)} {p : Sign → Bool} {g : Nat} {caps : List (Nat × Nat)} (h : Sl H 46 2 c l.length (l.flatMap encS)) (hl : l.length ≤ 1000000000)
    (hg : ∀ x ∈ l, ∀ (H0 : Hyp) (K' : V → Hyp → Prop), Sel H0 H → K' (vB (p x)) H0 → CallW Try.prog Xs g ([.one (.agg (encS x))] ++ caps.map fun p => ptrV p.1 p.2) H0 K')
    (k : K (vI (idxF p l)) H) : CallW Try.prog Xs 42 [.one (.c c), .one (.c (.fn g caps))] H K := by
  refine call_of (n := 19) (fun _ => rfl) Try.func42 rfl rfl ?_
  refine w_seq ?_
  refine w_region ?_
  refine w_o rfl rfl rfl (op_assign rfl ?_)
  refine w_end ?_
  refine seq_normal ?_
  refine w_seq ?_
  refine w_seq ?_
  refine w_region ?_
  refine w_o rfl rfl rfl (op_move rfl ?_)
  refine w_o rfl rfl rfl (op_lenC und_28 rfl (by first | exact ⟨rfl, fun s e => by cases e⟩ | exact Sl.lenC (by assumption) | (refine Own.lenT (by assumption) ?_ ?_ <;> first | exact fun _ => rfl | decide)) ?_)
  refine w_o rfl rfl rfl (op_move rfl ?_)
  refine w_end ?_
  refine seq_normal ?_
  refine w_block ?_
  refine w_loop (fun m e H' => ∃ (i : Nat), i ≤ l.length ∧ m = l.length - i ∧ (∀ j x, j < i → l[j]? = some x → p x = false) ∧ H = H' ∧ e = [(0, .one (.c c)), (1, .one (.c (.fn g caps))), (7, vI (l.length : Nat)), (8, vI (i : Nat))]) ?_ ?_
  · exact ⟨_, _, _, ⟨0, Nat.zero_le _, rfl, fun j x hj => absurd hj (Nat.not_lt_zero _), rfl, rfl⟩, env_, sel_⟩
  · rintro m e H' ⟨i, hi, rfl, hp, rfl, rfl⟩
    refine w_seq ?_
    refine w_region ?_
    refine w_o rfl rfl rfl (op_lt rfl rfl ?_)
    refine w_end ?_
    refine seq_normal ?_
    refine w_seq ?_
    first | refine w_cond rfl (fun hI1 => ?_) (fun hI1 => ?_) | refine w_condB rfl (fun hI1 => ?_) (fun hI1 => ?_)
    · refine w_skip ?_
      refine seq_normal ?_
      refine w_seq ?_
      refine w_block ?_
      refine w_seq ?_
      refine w_region ?_
      refine w_o rfl rfl rfl (op_move rfl ?_)
      refine w_o rfl rfl rfl (op_assign rfl ?_)
      refine w_end ?_
      refine seq_normal ?_
      refine w_seq ?_
      refine w_region ?_
      refine w_o rfl rfl rfl (op_move rfl ?_)
      refine w_o rfl rfl rfl (op_move rfl ?_)
      refine w_o rfl rfl rfl (op_move rfl ?_)
      refine w_o rfl rfl rfl (op_indexT (enc := encS) und_28 siz_46 rfl rfl (by first | assumption | (repeat (first | assumption | apply Sl.cons | apply Sl.app))) (fun _ => rfl) rfl (by omega) fun b14 o14 z14 h14 e14 => ?_)
      refine w_o rfl rfl rfl (op_loadA agg_46 siz_46 rfl rfl el_ ?_)
      refine w_o rfl rfl rfl (op_call rfl rfl rfl ?_)
      refine hg z14 (List.mem_of_getElem? h14) _ _ (.refl _) ?_
      refine w_end ?_
      refine seq_normal ?_
      first | refine w_cond rfl (fun hI2 => ?_) (fun hI2 => ?_) | refine w_condB rfl (fun hI2 => ?_) (fun hI2 => ?_)
      · refine w_seq ?_
        refine w_region ?_
        refine w_o rfl rfl rfl (op_move rfl ?_)
        refine w_o rfl rfl rfl (op_assign rfl ?_)
        refine w_end ?_
        refine seq_normal ?_
        refine w_ret ?_
        refine block_ret ?_
        refine seq_ret ?_
        refine loop_ret ?_
        refine block_ret ?_
        refine seq_ret ?_
        rw [idxF_at h14 hI2 hp] at k
        exact ret_ret rfl (.refl _) k
      · refine w_skip ?_
        refine block_normal ?_
        refine seq_normal ?_
        refine w_region ?_
        refine w_o rfl rfl rfl (op_addi rfl rfl (by omega) (by omega) ?_)
        refine w_o rfl rfl rfl (op_move rfl ?_)
        refine w_end ?_
        refine loop_normal (k' := l.length - (i + 1)) (by omega) ⟨i + 1, by omega, rfl, ?_, rfl, rfl⟩ env_ sel_
        intro j x hj hx
        by_cases e : j = i
        · subst e; rw [h14] at hx; cases hx; exact hI2
        · exact hp j x (by omega) hx
    · refine w_exit ?_
      refine seq_exit ?_
      refine loop_exit ?_
      refine block_hit rfl ?_
      refine seq_normal ?_
      refine w_seq ?_
      refine w_region ?_
      refine w_o rfl rfl rfl (op_assign rfl ?_)
      refine w_end ?_
      refine seq_normal ?_
      refine w_ret ?_
      rw [idxF_no (fun x hx => by
        obtain ⟨j, hj⟩ := List.getElem?_of_mem hx
        exact hp j x (by have := (List.getElem?_eq_some_iff.1 hj).1; omega) hj)] at k
      exact ret_ret rfl (.refl _) k
theorem ContainsFuncS_w {H : Hyp} {K : V → Hyp → Prop} {c : Cell} {l : List (Sign)} {p : Sign → Bool} {g : Nat} {caps : List (Nat × Nat)} (h : Sl H 46 2 c l.length (l.flatMap encS)) (hl : l.length ≤ 1000000000)
    (hg : ∀ x ∈ l, ∀ (H0 : Hyp) (K' : V → Hyp → Prop), Sel H0 H → K' (vB (p x)) H0 → CallW Try.prog Xs g ([.one (.agg (encS x))] ++ caps.map fun p => ptrV p.1 p.2) H0 K')
    (k : K (vB (l.any p)) H) : CallW Try.prog Xs 32 [.one (.c c), .one (.c (.fn g caps))] H K := by
  refine call_of (n := 9) (fun _ => rfl) Try.func32 rfl rfl ?_
  refine w_seq ?_
  refine w_region ?_
  refine w_o rfl rfl rfl (op_assign rfl ?_)
  refine w_end ?_
  refine seq_normal ?_
  refine w_seq ?_
  refine w_region ?_
  refine w_o rfl rfl rfl (op_move rfl ?_)
  refine w_o rfl rfl rfl (op_move rfl ?_)
  refine w_o rfl rfl rfl (op_call rfl rfl rfl ?_)
  refine IndexFuncS_w h hl hg ?_
  refine w_o rfl rfl rfl (op_ge rfl rfl ?_)
  refine w_o rfl rfl rfl (op_assign rfl ?_)
  refine w_end ?_
  refine seq_normal ?_
  refine w_ret ?_
  rw [← idxF_ge0] at k
  exact ret_ret rfl (.refl _) k
def rightS (x : Sign) : Bool := rightV x.f0 && decide (0 ≤ x.f1 ∧ x.f1 ≤ 5)
theorem signRight_w {H : Hyp} {K : V → Hyp → Prop} {x : Sign} (k : K (vB (rightS x)) H) : CallW Try.prog Xs 34 [.one (.agg (encS x))] H K := by
  refine call_of (n := 16) (fun _ => rfl) Try.func34 rfl rfl ?_
  refine w_seq ?_
  refine w_region ?_
  refine w_o rfl rfl rfl (op_box rfl fun b1 => ?_)
  refine w_o rfl rfl rfl (op_assign rfl ?_)
  refine w_end ?_
  refine seq_normal ?_
  refine w_seq ?_
  refine w_region ?_
  refine w_o rfl rfl rfl (op_fieldAddr fa_46_0 rfl ?_)
  refine w_o rfl rfl rfl (op_loadF agg_3 rfl el_ rfl ?_)
  refine w_o rfl rfl rfl (op_call rfl rfl rfl ?_)
  refine Right_w ?_
  refine w_o rfl rfl rfl (op_move rfl ?_)
  first | refine w_known (t := 6) rfl (fun g6 => ?_) (fun g6 => ?_) | refine w_knownB (t := 6) rfl (fun g6 => ?_) (fun g6 => ?_)
  · refine w_og rfl rfl rfl rfl rfl (op_fieldAddr fa_46_1 rfl ?_)
    refine w_og rfl rfl rfl rfl rfl (op_loadF agg_3 rfl el_ rfl ?_)
    refine w_og rfl rfl rfl rfl rfl (op_ge rfl rfl ?_)
    refine w_o rfl rfl rfl (op_pick rfl rfl rfl ?_)
    refine w_o rfl rfl rfl (op_move rfl ?_)
    first | refine w_known (t := 11) rfl (fun g11 => ?_) (fun g11 => ?_) | refine w_knownB (t := 11) rfl (fun g11 => ?_) (fun g11 => ?_)
    · refine w_og rfl rfl rfl rfl rfl (op_fieldAddr fa_46_1 rfl ?_)
      refine w_og rfl rfl rfl rfl rfl (op_loadF agg_3 rfl el_ rfl ?_)
      refine w_og rfl rfl rfl rfl rfl (op_le rfl rfl ?_)
      refine w_o rfl rfl rfl (op_pick rfl rfl rfl ?_)
      refine w_o rfl rfl rfl (op_assign rfl ?_)
      refine w_end ?_
      refine seq_normal ?_
      refine w_ret ?_
      exact ret_bool rfl sel_ (by rw [Bool.eq_iff_iff]; simp [rightS, *] <;> omega) k
    · refine w_u rfl rfl rfl rfl rfl rfl ?_
      refine w_u rfl rfl rfl rfl rfl rfl ?_
      refine w_u rfl rfl rfl rfl rfl rfl ?_
      refine w_o rfl rfl rfl (op_pick rfl rfl rfl ?_)
      refine w_o rfl rfl rfl (op_assign rfl ?_)
      refine w_end ?_
      refine seq_normal ?_
      refine w_ret ?_
      exact ret_bool rfl sel_ (by rw [Bool.eq_iff_iff]; simp [rightS, *] <;> omega) k
  · refine w_u rfl rfl rfl rfl rfl rfl ?_
    refine w_u rfl rfl rfl rfl rfl rfl ?_
    refine w_u rfl rfl rfl rfl rfl rfl ?_
    refine w_o rfl rfl rfl (op_pick rfl rfl rfl ?_)
    refine w_o rfl rfl rfl (op_move rfl ?_)
    refine w_u rfl rfl rfl rfl rfl rfl ?_
    refine w_u rfl rfl rfl rfl rfl rfl ?_
    refine w_u rfl rfl rfl rfl rfl rfl ?_
    refine w_o rfl rfl rfl (op_pick rfl rfl rfl ?_)
    refine w_o rfl rfl rfl (op_assign rfl ?_)
    refine w_end ?_
    refine seq_normal ?_
    refine w_ret ?_
    exact ret_bool rfl sel_ (by rw [Bool.eq_iff_iff]; simp [rightS, *] <;> omega) k
theorem signCheck1_w {H : Hyp} {K : V → Hyp → Prop} {x : Sign} (k : K (vB (!rightS x)) H) : CallW Try.prog Xs 33 [.one (.agg (encS x))] H K := by
  refine call_of (n := 6) (fun _ => rfl) Try.func33 rfl rfl ?_
  refine w_seq ?_
  refine w_region ?_
  refine w_o rfl rfl rfl (op_box rfl fun b1 => ?_)
  refine w_o rfl rfl rfl (op_assign rfl ?_)
  refine w_end ?_
  refine seq_normal ?_
  refine w_seq ?_
  refine w_region ?_
  refine w_o rfl rfl rfl (op_loadA agg_46 siz_46 rfl rfl el_ ?_)
  refine w_o rfl rfl rfl (op_call rfl rfl rfl ?_)
  refine signRight_w ?_
  refine w_o rfl rfl rfl (op_not rfl ?_)
  refine w_o rfl rfl rfl (op_assign rfl ?_)
  refine w_end ?_
  refine seq_normal ?_
  refine w_ret ?_
  exact ret_bool rfl sel_ rfl k
theorem signCheck_w {H : Hyp} {K : V → Hyp → Prop} {c : Cell} {l : List Sign} (h : Sl H 46 2 c l.length (l.flatMap encS)) (hl : l.length ≤ 1000000) (k : K (vI (if l.all rightS then 0 else 2)) H) : CallW Try.prog Xs 20 [.one (.c c)] H K := by
  refine call_of (n := 5) (fun _ => rfl) Try.func20 rfl rfl ?_
  refine w_seq ?_
  refine w_region ?_
  refine w_o rfl rfl rfl (op_assign rfl ?_)
  refine w_end ?_
  refine seq_normal ?_
  refine w_seq ?_
  refine w_seq ?_
  refine w_region ?_
  refine w_o rfl rfl rfl (op_move rfl ?_)
  refine w_o rfl rfl rfl (op_call rfl rfl rfl ?_)
  refine ContainsFuncS_w (p := fun x => !rightS x) (caps := []) h (by omega) (fun x _ H0 K' hs k' => signCheck1_w k') ?_
  refine w_end ?_
  refine seq_normal ?_
  first | refine w_cond rfl (fun hI1 => ?_) (fun hI1 => ?_) | refine w_condB rfl (fun hI1 => ?_) (fun hI1 => ?_)
  · refine w_seq ?_
    refine w_region ?_
    refine w_o rfl rfl rfl (op_assign rfl ?_)
    refine w_end ?_
    refine seq_normal ?_
    refine w_ret ?_
    refine seq_ret ?_
    have e : l.all rightS = !(l.any fun x => !rightS x) := by simp [List.all_eq_not_any_not]
    rw [e] at k
    exact ret_int rfl sel_ (by simp [*]) k
  · refine w_skip ?_
    refine seq_normal ?_
    refine w_seq ?_
    refine w_region ?_
    refine w_o rfl rfl rfl (op_assign rfl ?_)
    refine w_end ?_
    refine seq_normal ?_
    refine w_ret ?_
    have e : l.all rightS = !(l.any fun x => !rightS x) := by simp [List.all_eq_not_any_not]
    rw [e] at k
    exact ret_int rfl sel_ (by simp [*]) k
end Go.Proofs.Ytajhjfgoefhdnaa.AM.B
