/- What key's functions answer, over the abstract machine: checks and names. -/
import Derived.Test.YteghmemcikiblaaAX
import Derived.Test.YteghmemcikiblaaButfenc
import Derived.Test.YteghmemcikiblaaP0
import Derived.Test.YteghmemcikiblaaQHexes
set_option linter.unusedVariables false
set_option linter.unusedSimpArgs false
set_option maxRecDepth 10000
set_option maxHeartbeats 4000000
namespace Go.Proofs.Yteghmemcikiblaa.AM.B
open Go Go.RowKit
abbrev KeyS := Go.Proofs.Yteghmemcikiblaa.P.S23
def encK (x : KeyS) : List Cell := [.int .i64 x.f0, .int .i64 x.f1, .str x.f2, .bool x.f3]
abbrev NamedS := Go.Proofs.Yteghmemcikiblaa.P.S40
def encN (x : NamedS) : List Cell := [.int .i64 x.f0, .int .i64 x.f1, .str x.f2, .str x.f3]
theorem IndexFuncN_w {H : Hyp} {K : V → Hyp → Prop} {c : Cell} {l : List (NamedS)} {p : NamedS → Bool} {g : Nat} {caps : List (Nat × Nat)} (h : Sl H 40 4 c l.length (l.flatMap encN)) (hl : l.length ≤ 1000000000)
    (hg : ∀ x ∈ l, ∀ (H0 : Hyp) (K' : V → Hyp → Prop), Sel H0 H → K' (vB (p x)) H0 → CallW Try.prog Xs g ([.one (.agg (encN x))] ++ caps.map fun p => ptrV p.1 p.2) H0 K')
    (k : K (vI (idxF p l)) H) : CallW Try.prog Xs 41 [.one (.c c), .one (.c (.fn g caps))] H K := by
  refine call_of (n := 19) (fun _ => rfl) Try.func41 rfl rfl ?_
  refine w_seq ?_
  refine w_region ?_
  refine w_o rfl rfl rfl (op_assign rfl ?_)
  refine w_end ?_
  refine seq_normal ?_
  refine w_seq ?_
  refine w_seq ?_
  refine w_region ?_
  refine w_o rfl rfl rfl (op_move rfl ?_)
  refine w_o rfl rfl rfl (op_lenC und_61 rfl (by first | exact ⟨rfl, fun s e => by cases e⟩ | exact Sl.lenC (by assumption) | (refine Own.lenT (by assumption) ?_ ?_ <;> first | exact fun _ => rfl | decide)) ?_)
  refine w_o rfl rfl rfl (op_move rfl ?_)
  refine w_end ?_
  refine seq_normal ?_
  refine w_block ?_
  refine w_loop (fun m e H' => ∃ (i : Nat), i ≤ l.length ∧ m = l.length - i ∧ (∀ j x, j < i → l[j]? = some x → p x = false) ∧ H = H' ∧ e = [(0, .one (.c c)), (1, .one (.c (.fn g caps))), (7, vI (l.length : Nat)), (8, vI (i : Nat))]) ?_ ?_
  · exact ⟨_, _, _, ⟨0, Nat.zero_le _, rfl, fun j x hj => absurd hj (Nat.not_lt_zero _), rfl, rfl⟩, env_, sel_⟩
  · rintro m e H' ⟨i, hi, rfl, hp, rfl, rfl⟩
    refine w_seq ?_
    refine w_region ?_
    refine w_o rfl rfl rfl (op_lt rfl rfl ?_)
    refine w_end ?_
    refine seq_normal ?_
    refine w_seq ?_
    first | refine w_cond rfl (fun hI1 => ?_) (fun hI1 => ?_) | refine w_condB rfl (fun hI1 => ?_) (fun hI1 => ?_)
    · refine w_skip ?_
      refine seq_normal ?_
      refine w_seq ?_
      refine w_block ?_
      refine w_seq ?_
      refine w_region ?_
      refine w_o rfl rfl rfl (op_move rfl ?_)
      refine w_o rfl rfl rfl (op_assign rfl ?_)
      refine w_end ?_
      refine seq_normal ?_
      refine w_seq ?_
      refine w_region ?_
      refine w_o rfl rfl rfl (op_move rfl ?_)
      refine w_o rfl rfl rfl (op_move rfl ?_)
      refine w_o rfl rfl rfl (op_move rfl ?_)
      refine w_o rfl rfl rfl (op_indexT (enc := encN) und_61 siz_40 rfl rfl (by first | assumption | (repeat (first | assumption | apply Sl.cons | apply Sl.app))) (fun _ => rfl) rfl (by omega) fun b14 o14 z14 h14 e14 => ?_)
      refine w_o rfl rfl rfl (op_loadA agg_40 siz_40 rfl rfl el_ ?_)
      refine w_o rfl rfl rfl (op_call rfl rfl rfl ?_)
      refine hg z14 (List.mem_of_getElem? h14) _ _ (.refl _) ?_
      refine w_end ?_
      refine seq_normal ?_
      first | refine w_cond rfl (fun hI2 => ?_) (fun hI2 => ?_) | refine w_condB rfl (fun hI2 => ?_) (fun hI2 => ?_)
      · refine w_seq ?_
        refine w_region ?_
        refine w_o rfl rfl rfl (op_move rfl ?_)
        refine w_o rfl rfl rfl (op_assign rfl ?_)
        refine w_end ?_
        refine seq_normal ?_
        refine w_ret ?_
        refine block_ret ?_
        refine seq_ret ?_
        refine loop_ret ?_
        refine block_ret ?_
        refine seq_ret ?_
        rw [idxF_at h14 hI2 hp] at k
        exact ret_ret rfl (.refl _) k
      · refine w_skip ?_
        refine block_normal ?_
        refine seq_normal ?_
        refine w_region ?_
        refine w_o rfl rfl rfl (op_addi rfl rfl (by omega) (by omega) ?_)
        refine w_o rfl rfl rfl (op_move rfl ?_)
        refine w_end ?_
        refine loop_normal (k' := l.length - (i + 1)) (by omega) ⟨i + 1, by omega, rfl, ?_, rfl, rfl⟩ env_ sel_
        intro j x hj hx
        by_cases e : j = i
        · subst e; rw [h14] at hx; cases hx; exact hI2
        · exact hp j x (by omega) hx
    · refine w_exit ?_
      refine seq_exit ?_
      refine loop_exit ?_
      refine block_hit rfl ?_
      refine seq_normal ?_
      refine w_seq ?_
      refine w_region ?_
      refine w_o rfl rfl rfl (op_assign rfl ?_)
      refine w_end ?_
      refine seq_normal ?_
      refine w_ret ?_
      rw [idxF_no (fun x hx => by
        obtain ⟨j, hj⟩ := List.getElem?_of_mem hx
        exact hp j x (by have := (List.getElem?_eq_some_iff.1 hj).1; omega) hj)] at k
      exact ret_ret rfl (.refl _) k
section
variable {P : Program} {X : Spec} {e : Env} {H : Hyp} {K : V → Hyp → Prop}
/-- A result of many cells, that lies in memory. -/
theorem ret_cellA {a t b o n : Nat} {cs : List Cell} {H' : Hyp} (ha : Env.get e a = some (ptrV b o)) (ht : aggT P t = some true) (hn : sizeT P t = some n) (hl : cs.length = n) (hE : El H b o cs) (hs : Sel H H') (hk : K (.one (.agg cs)) H') : retPost P [.cell a t] K .ret e H := by
  intro fr s h1 h2
  refine ⟨[.agg cs], ?_, H', h2.sel hs, hk⟩
  have hr := hE.read h2
  rw [hl] at hr
  simp only [resultsA, h1 a _ ha, xLoad, ht, hn, ptrV, hr]; rfl
theorem ret_cellA2 {a t b o n t2 : Nat} {cs : List Cell} {v2 : V1} {H' : Hyp} (ha : Env.get e a = some (ptrV b o)) (ht : aggT P t = some true) (hn : sizeT P t = some n) (hl : cs.length = n) (hE : El H b o cs) (h2 : Env.get e t2 = some (.one v2)) (hs : Sel H H') (hk : K (.tup [.agg cs, v2]) H') : retPost P [.cell a t, .tmp t2] K .ret e H := by
  intro fr s h1 hq
  refine ⟨[.agg cs, v2], ?_, H', hq.sel hs, hk⟩
  have hr := hE.read hq
  rw [hl] at hr
  simp only [resultsA, h1 a _ ha, h1 t2 _ h2, xLoad, ht, hn, ptrV, hr]; rfl
end
/-! ### The table -/
def tableV : List NamedS := [⟨4, 13, ⟨#[82, 69, 84]⟩, ⟨#[13]⟩⟩, ⟨4, 10, ⟨#[76, 70, 68]⟩, ⟨#[10]⟩⟩, ⟨5, 0, ⟨#[69, 83, 67]⟩, ⟨#[27]⟩⟩, ⟨6, 0, ⟨#[68, 69, 76]⟩, ⟨#[127]⟩⟩, ⟨7, 0, ⟨#[85, 80]⟩, ⟨#[27, 91, 65]⟩⟩, ⟨8, 0, ⟨#[68, 79, 87, 78]⟩, ⟨#[27, 91, 66]⟩⟩, ⟨9, 0, ⟨#[82, 73, 71, 72, 84]⟩, ⟨#[27, 91, 67]⟩⟩, ⟨10, 0, ⟨#[76, 69, 70, 84]⟩, ⟨#[27, 91, 68]⟩⟩, ⟨11, 0, ⟨#[72, 79, 77, 69]⟩, ⟨#[27, 91, 72]⟩⟩, ⟨12, 0, ⟨#[69, 78, 68]⟩, ⟨#[27, 91, 70]⟩⟩, ⟨13, 0, ⟨#[68, 69, 76, 69, 84, 69]⟩, ⟨#[27, 91, 51, 126]⟩⟩, ⟨14, 0, ⟨#[80, 71, 85, 80]⟩, ⟨#[27, 91, 53, 126]⟩⟩, ⟨14, 1, ⟨#[80, 71, 68, 78]⟩, ⟨#[27, 91, 54, 126]⟩⟩]
theorem table_w {H : Hyp} {K : V → Hyp → Prop} (k : ∀ c N, Own 40 4 c (tableV.flatMap encN) N → K (.one (.c c)) (N ++ H)) : CallW Try.prog Xs 40 [] H K := by
  refine call_of (n := 15) (fun _ => rfl) Try.func40 rfl rfl ?_
  refine w_seq ?_
  refine w_region ?_
  refine w_o rfl rfl rfl (op_assign rfl ?_)
  refine w_end ?_
  refine seq_normal ?_
  refine w_seq ?_
  refine w_region ?_
  refine w_o rfl rfl rfl (op_build rfl ((bld_40 _).trans (rfl : _ = some [_, _, _, _])) ?_)
  refine w_o rfl rfl rfl (op_build rfl ((bld_40 _).trans (rfl : _ = some [_, _, _, _])) ?_)
  refine w_o rfl rfl rfl (op_build rfl ((bld_40 _).trans (rfl : _ = some [_, _, _, _])) ?_)
  refine w_o rfl rfl rfl (op_build rfl ((bld_40 _).trans (rfl : _ = some [_, _, _, _])) ?_)
  refine w_o rfl rfl rfl (op_build rfl ((bld_40 _).trans (rfl : _ = some [_, _, _, _])) ?_)
  refine w_o rfl rfl rfl (op_build rfl ((bld_40 _).trans (rfl : _ = some [_, _, _, _])) ?_)
  refine w_o rfl rfl rfl (op_build rfl ((bld_40 _).trans (rfl : _ = some [_, _, _, _])) ?_)
  refine w_o rfl rfl rfl (op_build rfl ((bld_40 _).trans (rfl : _ = some [_, _, _, _])) ?_)
  refine w_o rfl rfl rfl (op_build rfl ((bld_40 _).trans (rfl : _ = some [_, _, _, _])) ?_)
  refine w_o rfl rfl rfl (op_build rfl ((bld_40 _).trans (rfl : _ = some [_, _, _, _])) ?_)
  refine w_o rfl rfl rfl (op_build rfl ((bld_40 _).trans (rfl : _ = some [_, _, _, _])) ?_)
  refine w_o rfl rfl rfl (op_build rfl ((bld_40 _).trans (rfl : _ = some [_, _, _, _])) ?_)
  refine w_o rfl rfl rfl (op_build rfl ((bld_40 _).trans (rfl : _ = some [_, _, _, _])) ?_)
  refine w_o rfl rfl rfl (op_buildSlice rfl (bsl_61 _ _ _ (rfl : _ = some [_, _, _, _, _, _, _, _, _, _, _, _, _, _, _, _, _, _, _, _, _, _, _, _, _, _, _, _, _, _, _, _, _, _, _, _, _, _, _, _, _, _, _, _, _, _, _, _, _, _, _, _]) rfl (by decide)) fun b14 => ?_)
  refine w_o rfl rfl rfl (op_assign rfl ?_)
  refine w_end ?_
  refine seq_normal ?_
  refine w_ret ?_
  exact ret_ret rfl sel_ (k (.sl b14 0 13 (.lim 0)) [(b14, .row true 40 4 (tableV.flatMap encN))] (Own.row b14 13 _ rfl))
theorem idxF_find {α : Type} (p : α → Bool) (l : List α) : (idxF p l = -1 ∧ l.find? p = none) ∨ ∃ i : Nat, idxF p l = (i : Int) ∧ i < l.length ∧ l[i]? = l.find? p := by
  cases h : l.find? p with
  | none =>
    left
    refine ⟨idxF_no fun x hx => ?_, rfl⟩
    have := List.find?_eq_none.1 h x hx
    simpa using this
  | some x =>
    right
    obtain ⟨hp, i, hi, hx, hj⟩ := List.find?_eq_some_iff_getElem.1 h
    refine ⟨i, idxF_at (List.getElem?_eq_some_iff.2 ⟨hi, hx⟩) hp fun j y h1 h2 => ?_, hi, List.getElem?_eq_some_iff.2 ⟨hi, hx⟩⟩
    obtain ⟨h3, h4⟩ := List.getElem?_eq_some_iff.1 h2
    have := hj j h1
    rw [h4] at this
    simpa using this
theorem any_find {α : Type} (p : α → Bool) (l : List α) : l.any p = (l.find? p).isSome := by
  induction l with
  | nil => rfl
  | cons x l ih => simp only [List.any_cons, List.find?_cons]; cases p x <;> simp [ih]
/-- What is found in the table. -/
def foundV (p : NamedS → Bool) : NamedS := (tableV.find? p).getD ⟨0, 0, ⟨#[]⟩, ⟨#[]⟩⟩
theorem find_w {H : Hyp} {K : V → Hyp → Prop} {p : NamedS → Bool} {g : Nat} {caps : List (Nat × Nat)}
    (hg : ∀ x ∈ tableV, ∀ (H0 : Hyp) (K' : V → Hyp → Prop), Sel H0 H → K' (vB (p x)) H0 → CallW Try.prog Xs g ([.one (.agg (encN x))] ++ caps.map fun p => ptrV p.1 p.2) H0 K')
    (k : K (.tup [.agg (encN (foundV p)), .c (.bool (tableV.any p))]) H) : CallW Try.prog Xs 29 [.one (.c (.fn g caps))] H K := by
  have hf := idxF_find p tableV
  have ha := any_find p tableV
  refine call_of (n := 17) (fun _ => rfl) Try.func29 rfl rfl ?_
  refine w_seq ?_
  refine w_region ?_
  refine w_o rfl rfl rfl (op_alloc zer_40 fun b2 => ?_)
  refine w_o rfl rfl rfl (op_assign rfl ?_)
  refine w_end ?_
  refine seq_normal ?_
  refine w_seq ?_
  refine w_region ?_
  refine w_o rfl rfl rfl (op_call rfl rfl rfl ?_)
  refine table_w fun c6 N6 o6 => ?_
  refine w_o rfl rfl rfl (op_assign rfl ?_)
  refine w_end ?_
  refine seq_normal ?_
  refine w_seq ?_
  refine w_region ?_
  refine w_o rfl rfl rfl (op_move rfl ?_)
  refine w_o rfl rfl rfl (op_move rfl ?_)
  refine w_o rfl rfl rfl (op_call rfl rfl rfl ?_)
  refine IndexFuncN_w (l := tableV) (p := p) (caps := caps) (Own.slT o6 (fun _ => rfl) (by decide) subs_) (by decide) (fun x hx H0 K' hs k' => hg x hx H0 K' (hs.trans sel_) k') ?_
  refine w_o rfl rfl rfl (op_assign rfl ?_)
  refine w_end ?_
  refine seq_normal ?_
  refine w_seq ?_
  refine w_seq ?_
  refine w_region ?_
  refine w_o rfl rfl rfl (op_move rfl ?_)
  refine w_o rfl rfl rfl (op_lt rfl rfl ?_)
  refine w_end ?_
  refine seq_normal ?_
  first | refine w_cond rfl (fun hI1 => ?_) (fun hI1 => ?_) | refine w_condB rfl (fun hI1 => ?_) (fun hI1 => ?_)
  · refine w_seq ?_
    refine w_region ?_
    refine w_o rfl rfl rfl (op_build rfl ((bld_40 _).trans (rfl : _ = some [_, _, _, _])) ?_)
    refine w_on rfl rfl (op_store siz_40 rfl rfl rfl (by (repeat (first | exact Pick.head _ _ _ | apply Pick.tail | apply Pick.app)); first | done | fail) (Nat.le_of_ble_eq_true rfl) rfl ?_)
    refine w_o rfl rfl rfl (op_assign rfl ?_)
    refine w_end ?_
    refine seq_normal ?_
    refine w_ret ?_
    refine seq_ret ?_
    have e1 : tableV.find? p = none := by
      rcases hf with ⟨_, h⟩ | ⟨i, h, _⟩
      · exact h
      · omega
    rw [e1] at ha
    have e2 : foundV p = ⟨0, 0, ⟨#[]⟩, ⟨#[]⟩⟩ := by unfold foundV; rw [e1]; rfl
    rw [ha, e2] at k
    exact ret_cellA2 rfl agg_40 siz_40 rfl el_ rfl sel_ k
  · obtain ⟨i, hi1, hi2, hi3⟩ : ∃ i : Nat, idxF p tableV = (i : Int) ∧ i < tableV.length ∧ tableV[i]? = tableV.find? p := by
      rcases hf with ⟨h, _⟩ | h
      · omega
      · exact h
    refine w_skip ?_
    refine seq_normal ?_
    refine w_seq ?_
    refine w_region ?_
    refine w_o rfl rfl rfl (op_move rfl ?_)
    refine w_o rfl rfl rfl (op_move rfl ?_)
    refine w_o rfl rfl rfl (op_indexT (xs := tableV) (enc := encN) (j := i) und_61 siz_40 rfl rfl (Own.slT o6 (fun _ => rfl) (by decide) subs_) (fun _ => rfl) hi1 (by omega) fun b15 o15 z15 h15 e15 => ?_)
    refine w_o rfl rfl rfl (op_loadA agg_40 siz_40 rfl rfl el_ ?_)
    refine w_on rfl rfl (op_store siz_40 rfl rfl rfl (by (repeat (first | exact Pick.head _ _ _ | apply Pick.tail | apply Pick.app)); first | done | fail) (Nat.le_of_ble_eq_true rfl) rfl ?_)
    refine w_o rfl rfl rfl (op_assign rfl ?_)
    refine w_end ?_
    refine seq_normal ?_
    refine w_ret ?_
    rw [hi3] at h15
    have e2 : foundV p = z15 := by unfold foundV; rw [h15]; rfl
    rw [ha, h15, e2] at k
    exact ret_cellA2 rfl agg_40 siz_40 rfl el_ rfl sel_ k
def ofP (x : KeyS) (n : NamedS) : Bool := decide (n.f0 = x.f0) && decide (n.f1 = x.f1)
theorem of1_w {H : Hyp} {K : V → Hyp → Prop} {x : KeyS} {n : NamedS} {b : Nat} (hb : El H b 0 (encK x)) (k : K (vB (ofP x n)) H) : CallW Try.prog Xs 30 [.one (.agg (encN n)), ptrV b 0] H K := by
  refine call_of (n := 16) (fun _ => rfl) Try.func30 rfl rfl ?_
  refine w_seq ?_
  refine w_region ?_
  refine w_o rfl rfl rfl (op_box rfl fun b2 => ?_)
  refine w_o rfl rfl rfl (op_assign rfl ?_)
  refine w_end ?_
  refine seq_normal ?_
  refine w_seq ?_
  refine w_region ?_
  refine w_o rfl rfl rfl (op_fieldAddr fa_40_0 rfl ?_)
  refine w_o rfl rfl rfl (op_loadF agg_3 rfl el_ rfl ?_)
  refine w_o rfl rfl rfl (op_fieldAddr fa_23_0 rfl ?_)
  refine w_o rfl rfl rfl (op_loadF agg_3 rfl el_ rfl ?_)
  refine w_o rfl rfl rfl (op_eq rfl rfl ?_)
  refine w_o rfl rfl rfl (op_move rfl ?_)
  first | refine w_known (t := 9) rfl (fun g9 => ?_) (fun g9 => ?_) | refine w_knownB (t := 9) rfl (fun g9 => ?_) (fun g9 => ?_)
  · refine w_og rfl rfl rfl rfl rfl (op_fieldAddr fa_40_1 rfl ?_)
    refine w_og rfl rfl rfl rfl rfl (op_loadF agg_3 rfl el_ rfl ?_)
    refine w_og rfl rfl rfl rfl rfl (op_fieldAddr fa_23_1 rfl ?_)
    refine w_og rfl rfl rfl rfl rfl (op_loadF agg_3 rfl el_ rfl ?_)
    refine w_og rfl rfl rfl rfl rfl (op_eq rfl rfl ?_)
    refine w_o rfl rfl rfl (op_pick rfl rfl rfl ?_)
    refine w_o rfl rfl rfl (op_assign rfl ?_)
    refine w_end ?_
    refine seq_normal ?_
    refine w_ret ?_
    exact ret_bool rfl sel_ (by rw [Bool.eq_iff_iff]; simp [ofP, *]) k
  · refine w_u rfl rfl rfl rfl rfl rfl ?_
    refine w_u rfl rfl rfl rfl rfl rfl ?_
    refine w_u rfl rfl rfl rfl rfl rfl ?_
    refine w_u rfl rfl rfl rfl rfl rfl ?_
    refine w_u rfl rfl rfl rfl rfl rfl ?_
    refine w_o rfl rfl rfl (op_pick rfl rfl rfl ?_)
    refine w_o rfl rfl rfl (op_assign rfl ?_)
    refine w_end ?_
    refine seq_normal ?_
    refine w_ret ?_
    exact ret_bool rfl sel_ (by rw [Bool.eq_iff_iff]; simp [ofP, *]) k
theorem of_w {H : Hyp} {K : V → Hyp → Prop} {x : KeyS} (k : K (.tup [.agg (encN (foundV (ofP x))), .c (.bool (tableV.any (ofP x)))]) H) : CallW Try.prog Xs 18 [.one (.agg (encK x))] H K := by
  refine call_of (n := 8) (fun _ => rfl) Try.func18 rfl rfl ?_
  refine w_seq ?_
  refine w_region ?_
  refine w_o rfl rfl rfl (op_box rfl fun b1 => ?_)
  refine w_o rfl rfl rfl (op_alloc zer_40 fun b2 => ?_)
  refine w_o rfl rfl rfl (op_assign rfl ?_)
  refine w_end ?_
  refine seq_normal ?_
  refine w_seq ?_
  refine w_region ?_
  refine w_o rfl rfl rfl (op_makeFunc rfl ?_)
  refine w_o rfl rfl rfl (op_call rfl rfl rfl ?_)
  refine find_w (p := ofP x) (caps := [(b1, 0)]) (fun n _ H0 K' hs k' => of1_w (El.sel (El.row mem_) hs) k') ?_
  refine w_o rfl rfl rfl (op_extract rfl rfl ?_)
  refine w_o rfl rfl rfl (op_extract rfl rfl ?_)
  refine w_on rfl rfl (op_store siz_40 rfl rfl rfl (by (repeat (first | exact Pick.head _ _ _ | apply Pick.tail | apply Pick.app)); first | done | fail) (Nat.le_of_ble_eq_true rfl) rfl ?_)
  refine w_o rfl rfl rfl (op_assign rfl ?_)
  refine w_end ?_
  refine seq_normal ?_
  refine w_ret ?_
  exact ret_cellA2 rfl agg_40 siz_40 rfl el_ rfl sel_ k
def controlV (v : Int) : Bool := decide (0 ≤ v ∧ v < 32 ∧ v ≠ 10 ∧ v ≠ 13 ∧ v ≠ 27)
theorem control_w {H : Hyp} {K : V → Hyp → Prop} {v : Int} (k : K (vB (controlV v)) H) : CallW Try.prog Xs 22 [vI v] H K := by
  refine call_of (n := 21) (fun _ => rfl) Try.func22 rfl rfl ?_
  refine w_seq ?_
  refine w_region ?_
  refine w_o rfl rfl rfl (op_assign rfl ?_)
  refine w_end ?_
  refine seq_normal ?_
  refine w_seq ?_
  refine w_region ?_
  refine w_o rfl rfl rfl (op_move rfl ?_)
  refine w_o rfl rfl rfl (op_ge rfl rfl ?_)
  refine w_o rfl rfl rfl (op_move rfl ?_)
  first | refine w_known (t := 5) rfl (fun g5 => ?_) (fun g5 => ?_) | refine w_knownB (t := 5) rfl (fun g5 => ?_) (fun g5 => ?_)
  · refine w_og rfl rfl rfl rfl rfl (op_move rfl ?_)
    refine w_og rfl rfl rfl rfl rfl (op_lt rfl rfl ?_)
    refine w_o rfl rfl rfl (op_pick rfl rfl rfl ?_)
    refine w_o rfl rfl rfl (op_move rfl ?_)
    first | refine w_known (t := 9) rfl (fun g9 => ?_) (fun g9 => ?_) | refine w_knownB (t := 9) rfl (fun g9 => ?_) (fun g9 => ?_)
    · refine w_og rfl rfl rfl rfl rfl (op_move rfl ?_)
      refine w_og rfl rfl rfl rfl rfl (op_ne rfl rfl ?_)
      refine w_o rfl rfl rfl (op_pick rfl rfl rfl ?_)
      refine w_o rfl rfl rfl (op_move rfl ?_)
      first | refine w_known (t := 13) rfl (fun g13 => ?_) (fun g13 => ?_) | refine w_knownB (t := 13) rfl (fun g13 => ?_) (fun g13 => ?_)
      · refine w_og rfl rfl rfl rfl rfl (op_move rfl ?_)
        refine w_og rfl rfl rfl rfl rfl (op_ne rfl rfl ?_)
        refine w_o rfl rfl rfl (op_pick rfl rfl rfl ?_)
        refine w_o rfl rfl rfl (op_move rfl ?_)
        first | refine w_known (t := 17) rfl (fun g17 => ?_) (fun g17 => ?_) | refine w_knownB (t := 17) rfl (fun g17 => ?_) (fun g17 => ?_)
        · refine w_og rfl rfl rfl rfl rfl (op_move rfl ?_)
          refine w_og rfl rfl rfl rfl rfl (op_ne rfl rfl ?_)
          refine w_o rfl rfl rfl (op_pick rfl rfl rfl ?_)
          refine w_o rfl rfl rfl (op_assign rfl ?_)
          refine w_end ?_
          refine seq_normal ?_
          refine w_ret ?_
          exact ret_bool rfl sel_ (by rw [Bool.eq_iff_iff]; simp [controlV] <;> omega) k
        · refine w_u rfl rfl rfl rfl rfl rfl ?_
          refine w_u rfl rfl rfl rfl rfl rfl ?_
          refine w_o rfl rfl rfl (op_pick rfl rfl rfl ?_)
          refine w_o rfl rfl rfl (op_assign rfl ?_)
          refine w_end ?_
          refine seq_normal ?_
          refine w_ret ?_
          exact ret_bool rfl sel_ (by rw [Bool.eq_iff_iff]; simp [controlV] <;> omega) k
      · refine w_u rfl rfl rfl rfl rfl rfl ?_
        refine w_u rfl rfl rfl rfl rfl rfl ?_
        refine w_o rfl rfl rfl (op_pick rfl rfl rfl ?_)
        refine w_o rfl rfl rfl (op_move rfl ?_)
        refine w_u rfl rfl rfl rfl rfl rfl ?_
        refine w_u rfl rfl rfl rfl rfl rfl ?_
        refine w_o rfl rfl rfl (op_pick rfl rfl rfl ?_)
        refine w_o rfl rfl rfl (op_assign rfl ?_)
        refine w_end ?_
        refine seq_normal ?_
        refine w_ret ?_
        exact ret_bool rfl sel_ (by rw [Bool.eq_iff_iff]; simp [controlV] <;> omega) k
    · refine w_u rfl rfl rfl rfl rfl rfl ?_
      refine w_u rfl rfl rfl rfl rfl rfl ?_
      refine w_o rfl rfl rfl (op_pick rfl rfl rfl ?_)
      refine w_o rfl rfl rfl (op_move rfl ?_)
      refine w_u rfl rfl rfl rfl rfl rfl ?_
      refine w_u rfl rfl rfl rfl rfl rfl ?_
      refine w_o rfl rfl rfl (op_pick rfl rfl rfl ?_)
      refine w_o rfl rfl rfl (op_move rfl ?_)
      refine w_u rfl rfl rfl rfl rfl rfl ?_
      refine w_u rfl rfl rfl rfl rfl rfl ?_
      refine w_o rfl rfl rfl (op_pick rfl rfl rfl ?_)
      refine w_o rfl rfl rfl (op_assign rfl ?_)
      refine w_end ?_
      refine seq_normal ?_
      refine w_ret ?_
      exact ret_bool rfl sel_ (by rw [Bool.eq_iff_iff]; simp [controlV] <;> omega) k
  · refine w_u rfl rfl rfl rfl rfl rfl ?_
    refine w_u rfl rfl rfl rfl rfl rfl ?_
    refine w_o rfl rfl rfl (op_pick rfl rfl rfl ?_)
    refine w_o rfl rfl rfl (op_move rfl ?_)
    refine w_u rfl rfl rfl rfl rfl rfl ?_
    refine w_u rfl rfl rfl rfl rfl rfl ?_
    refine w_o rfl rfl rfl (op_pick rfl rfl rfl ?_)
    refine w_o rfl rfl rfl (op_move rfl ?_)
    refine w_u rfl rfl rfl rfl rfl rfl ?_
    refine w_u rfl rfl rfl rfl rfl rfl ?_
    refine w_o rfl rfl rfl (op_pick rfl rfl rfl ?_)
    refine w_o rfl rfl rfl (op_move rfl ?_)
    refine w_u rfl rfl rfl rfl rfl rfl ?_
    refine w_u rfl rfl rfl rfl rfl rfl ?_
    refine w_o rfl rfl rfl (op_pick rfl rfl rfl ?_)
    refine w_o rfl rfl rfl (op_assign rfl ?_)
    refine w_end ?_
    refine seq_normal ?_
    refine w_ret ?_
    exact ret_bool rfl sel_ (by rw [Bool.eq_iff_iff]; simp [controlV] <;> omega) k
theorem refControl_w {H : Hyp} {K : V → Hyp → Prop} {v : Int} (k : K (vB (controlV v)) H) : CallW Try.prog Xs 20 [vI v] H K := by
  refine call_of (n := 21) (fun _ => rfl) Try.func20 rfl rfl ?_
  refine w_seq ?_
  refine w_region ?_
  refine w_o rfl rfl rfl (op_assign rfl ?_)
  refine w_end ?_
  refine seq_normal ?_
  refine w_seq ?_
  refine w_region ?_
  refine w_o rfl rfl rfl (op_move rfl ?_)
  refine w_o rfl rfl rfl (op_ge rfl rfl ?_)
  refine w_o rfl rfl rfl (op_move rfl ?_)
  first | refine w_known (t := 5) rfl (fun g5 => ?_) (fun g5 => ?_) | refine w_knownB (t := 5) rfl (fun g5 => ?_) (fun g5 => ?_)
  · refine w_og rfl rfl rfl rfl rfl (op_move rfl ?_)
    refine w_og rfl rfl rfl rfl rfl (op_le rfl rfl ?_)
    refine w_o rfl rfl rfl (op_pick rfl rfl rfl ?_)
    refine w_o rfl rfl rfl (op_move rfl ?_)
    first | refine w_known (t := 9) rfl (fun g9 => ?_) (fun g9 => ?_) | refine w_knownB (t := 9) rfl (fun g9 => ?_) (fun g9 => ?_)
    · refine w_og rfl rfl rfl rfl rfl (op_move rfl ?_)
      refine w_og rfl rfl rfl rfl rfl (op_ne rfl rfl ?_)
      refine w_o rfl rfl rfl (op_pick rfl rfl rfl ?_)
      refine w_o rfl rfl rfl (op_move rfl ?_)
      first | refine w_known (t := 13) rfl (fun g13 => ?_) (fun g13 => ?_) | refine w_knownB (t := 13) rfl (fun g13 => ?_) (fun g13 => ?_)
      · refine w_og rfl rfl rfl rfl rfl (op_move rfl ?_)
        refine w_og rfl rfl rfl rfl rfl (op_ne rfl rfl ?_)
        refine w_o rfl rfl rfl (op_pick rfl rfl rfl ?_)
        refine w_o rfl rfl rfl (op_move rfl ?_)
        first | refine w_known (t := 17) rfl (fun g17 => ?_) (fun g17 => ?_) | refine w_knownB (t := 17) rfl (fun g17 => ?_) (fun g17 => ?_)
        · refine w_og rfl rfl rfl rfl rfl (op_move rfl ?_)
          refine w_og rfl rfl rfl rfl rfl (op_ne rfl rfl ?_)
          refine w_o rfl rfl rfl (op_pick rfl rfl rfl ?_)
          refine w_o rfl rfl rfl (op_assign rfl ?_)
          refine w_end ?_
          refine seq_normal ?_
          refine w_ret ?_
          exact ret_bool rfl sel_ (by rw [Bool.eq_iff_iff]; simp [controlV] <;> omega) k
        · refine w_u rfl rfl rfl rfl rfl rfl ?_
          refine w_u rfl rfl rfl rfl rfl rfl ?_
          refine w_o rfl rfl rfl (op_pick rfl rfl rfl ?_)
          refine w_o rfl rfl rfl (op_assign rfl ?_)
          refine w_end ?_
          refine seq_normal ?_
          refine w_ret ?_
          exact ret_bool rfl sel_ (by rw [Bool.eq_iff_iff]; simp [controlV] <;> omega) k
      · refine w_u rfl rfl rfl rfl rfl rfl ?_
        refine w_u rfl rfl rfl rfl rfl rfl ?_
        refine w_o rfl rfl rfl (op_pick rfl rfl rfl ?_)
        refine w_o rfl rfl rfl (op_move rfl ?_)
        refine w_u rfl rfl rfl rfl rfl rfl ?_
        refine w_u rfl rfl rfl rfl rfl rfl ?_
        refine w_o rfl rfl rfl (op_pick rfl rfl rfl ?_)
        refine w_o rfl rfl rfl (op_assign rfl ?_)
        refine w_end ?_
        refine seq_normal ?_
        refine w_ret ?_
        exact ret_bool rfl sel_ (by rw [Bool.eq_iff_iff]; simp [controlV] <;> omega) k
    · refine w_u rfl rfl rfl rfl rfl rfl ?_
      refine w_u rfl rfl rfl rfl rfl rfl ?_
      refine w_o rfl rfl rfl (op_pick rfl rfl rfl ?_)
      refine w_o rfl rfl rfl (op_move rfl ?_)
      refine w_u rfl rfl rfl rfl rfl rfl ?_
      refine w_u rfl rfl rfl rfl rfl rfl ?_
      refine w_o rfl rfl rfl (op_pick rfl rfl rfl ?_)
      refine w_o rfl rfl rfl (op_move rfl ?_)
      refine w_u rfl rfl rfl rfl rfl rfl ?_
      refine w_u rfl rfl rfl rfl rfl rfl ?_
      refine w_o rfl rfl rfl (op_pick rfl rfl rfl ?_)
      refine w_o rfl rfl rfl (op_assign rfl ?_)
      refine w_end ?_
      refine seq_normal ?_
      refine w_ret ?_
      exact ret_bool rfl sel_ (by rw [Bool.eq_iff_iff]; simp [controlV] <;> omega) k
  · refine w_u rfl rfl rfl rfl rfl rfl ?_
    refine w_u rfl rfl rfl rfl rfl rfl ?_
    refine w_o rfl rfl rfl (op_pick rfl rfl rfl ?_)
    refine w_o rfl rfl rfl (op_move rfl ?_)
    refine w_u rfl rfl rfl rfl rfl rfl ?_
    refine w_u rfl rfl rfl rfl rfl rfl ?_
    refine w_o rfl rfl rfl (op_pick rfl rfl rfl ?_)
    refine w_o rfl rfl rfl (op_move rfl ?_)
    refine w_u rfl rfl rfl rfl rfl rfl ?_
    refine w_u rfl rfl rfl rfl rfl rfl ?_
    refine w_o rfl rfl rfl (op_pick rfl rfl rfl ?_)
    refine w_o rfl rfl rfl (op_move rfl ?_)
    refine w_u rfl rfl rfl rfl rfl rfl ?_
    refine w_u rfl rfl rfl rfl rfl rfl ?_
    refine w_o rfl rfl rfl (op_pick rfl rfl rfl ?_)
    refine w_o rfl rfl rfl (op_assign rfl ?_)
    refine w_end ?_
    refine seq_normal ?_
    refine w_ret ?_
    exact ret_bool rfl sel_ (by rw [Bool.eq_iff_iff]; simp [controlV] <;> omega) k
/-- Which values a kind of key may have. -/
def rightK (x : KeyS) : Bool := if x.f0 = 1 then rightV x.f1 && decide (32 ≤ x.f1 ∧ x.f1 ≠ 127) else if x.f0 = 2 then controlV x.f1 else if x.f0 = 3 then controlV x.f1 || decide (32 ≤ x.f1 ∧ x.f1 ≤ 127) else tableV.any (ofP x)
def mayV (x : KeyS) : Bool := if x.f0 = 15 then decide (x.f1 = 0 ∧ x.f2.size ≤ 65536) else rightK x && decide (x.f2 = ⟨#[]⟩) && !x.f3
theorem Check_w {H : Hyp} {K : V → Hyp → Prop} {x : KeyS} (k : K (vI (if mayV x then 0 else 2)) H) : CallW Try.prog Xs 9 [.one (.agg (encK x))] H K := by
  refine call_of (n := 68) (fun _ => rfl) Try.func9 rfl rfl ?_
  refine w_seq ?_
  refine w_region ?_
  refine w_o rfl rfl rfl (op_box rfl fun b1 => ?_)
  refine w_o rfl rfl rfl (op_assign rfl ?_)
  refine w_end ?_
  refine seq_normal ?_
  refine w_seq ?_
  refine w_region ?_
  refine w_o rfl rfl rfl (op_assign rfl ?_)
  refine w_end ?_
  refine seq_normal ?_
  refine w_cut (fun e H' => ∃ b : Bool, x.f0 ≠ 15 ∧ b = rightK x ∧ H' = (b1, .row true 23 1 (encK x)) :: H ∧ e = [(1, ptrV b1 0), (3, vB b)]) ?_ ?_
  · refine w_seq ?_
    refine w_region ?_
    refine w_o rfl rfl rfl (op_fieldAddr fa_23_0 rfl ?_)
    refine w_o rfl rfl rfl (op_loadF agg_3 rfl el_ rfl ?_)
    refine w_end ?_
    refine seq_normal ?_
    refine w_block ?_
    refine w_seq ?_
    refine w_region ?_
    refine w_o rfl rfl rfl (op_eq rfl rfl ?_)
    refine w_o rfl rfl rfl (op_assign rfl ?_)
    refine w_end ?_
    refine seq_normal ?_
    first | refine w_cond rfl (fun hI1 => ?_) (fun hI1 => ?_) | refine w_condB rfl (fun hI1 => ?_) (fun hI1 => ?_)
    · refine w_region ?_
      refine w_o rfl rfl rfl (op_fieldAddr fa_23_1 rfl ?_)
      refine w_o rfl rfl rfl (op_loadF agg_3 rfl el_ rfl ?_)
      refine w_o rfl rfl rfl (op_call rfl rfl rfl ?_)
      refine Right_w ?_
      refine w_o rfl rfl rfl (op_move rfl ?_)
      first | refine w_known (t := 16) rfl (fun g16 => ?_) (fun g16 => ?_) | refine w_knownB (t := 16) rfl (fun g16 => ?_) (fun g16 => ?_)
      · refine w_og rfl rfl rfl rfl rfl (op_fieldAddr fa_23_1 rfl ?_)
        refine w_og rfl rfl rfl rfl rfl (op_loadF agg_3 rfl el_ rfl ?_)
        refine w_og rfl rfl rfl rfl rfl (op_ge rfl rfl ?_)
        refine w_o rfl rfl rfl (op_pick rfl rfl rfl ?_)
        refine w_o rfl rfl rfl (op_move rfl ?_)
        first | refine w_known (t := 21) rfl (fun g21 => ?_) (fun g21 => ?_) | refine w_knownB (t := 21) rfl (fun g21 => ?_) (fun g21 => ?_)
        · refine w_og rfl rfl rfl rfl rfl (op_fieldAddr fa_23_1 rfl ?_)
          refine w_og rfl rfl rfl rfl rfl (op_loadF agg_3 rfl el_ rfl ?_)
          refine w_og rfl rfl rfl rfl rfl (op_ne rfl rfl ?_)
          refine w_o rfl rfl rfl (op_pick rfl rfl rfl ?_)
          refine w_o rfl rfl rfl (op_assign rfl ?_)
          refine w_end ?_
          refine block_normal ?_
          refine mid_normal (e' := [(1, ptrV b1 0), (3, vB _)]) ⟨_, by omega, ?_, rfl, rfl⟩ env_ sel_
          first
            | (unfold rightK; simp only [*, if_true, if_false, Int.reduceEq, reduceIte]; done)
            | (rw [Bool.eq_iff_iff]; unfold rightK controlV; simp [*] <;> omega)
            | (rw [Bool.eq_iff_iff]; unfold rightK controlV; simp [*]; done)
        · refine w_u rfl rfl rfl rfl rfl rfl ?_
          refine w_u rfl rfl rfl rfl rfl rfl ?_
          refine w_u rfl rfl rfl rfl rfl rfl ?_
          refine w_o rfl rfl rfl (op_pick rfl rfl rfl ?_)
          refine w_o rfl rfl rfl (op_assign rfl ?_)
          refine w_end ?_
          refine block_normal ?_
          refine mid_normal (e' := [(1, ptrV b1 0), (3, vB _)]) ⟨_, by omega, ?_, rfl, rfl⟩ env_ sel_
          first
            | (unfold rightK; simp only [*, if_true, if_false, Int.reduceEq, reduceIte]; done)
            | (rw [Bool.eq_iff_iff]; unfold rightK controlV; simp [*] <;> omega)
            | (rw [Bool.eq_iff_iff]; unfold rightK controlV; simp [*]; done)
      · refine w_u rfl rfl rfl rfl rfl rfl ?_
        refine w_u rfl rfl rfl rfl rfl rfl ?_
        refine w_u rfl rfl rfl rfl rfl rfl ?_
        refine w_o rfl rfl rfl (op_pick rfl rfl rfl ?_)
        refine w_o rfl rfl rfl (op_move rfl ?_)
        refine w_u rfl rfl rfl rfl rfl rfl ?_
        refine w_u rfl rfl rfl rfl rfl rfl ?_
        refine w_u rfl rfl rfl rfl rfl rfl ?_
        refine w_o rfl rfl rfl (op_pick rfl rfl rfl ?_)
        refine w_o rfl rfl rfl (op_assign rfl ?_)
        refine w_end ?_
        refine block_normal ?_
        refine mid_normal (e' := [(1, ptrV b1 0), (3, vB _)]) ⟨_, by omega, ?_, rfl, rfl⟩ env_ sel_
        first
          | (unfold rightK; simp only [*, if_true, if_false, Int.reduceEq, reduceIte]; done)
          | (rw [Bool.eq_iff_iff]; unfold rightK controlV; simp [*] <;> omega)
          | (rw [Bool.eq_iff_iff]; unfold rightK controlV; simp [*]; done)
    · refine w_seq ?_
      refine w_region ?_
      refine w_o rfl rfl rfl (op_eq rfl rfl ?_)
      refine w_o rfl rfl rfl (op_assign rfl ?_)
      refine w_end ?_
      refine seq_normal ?_
      first | refine w_cond rfl (fun hI2 => ?_) (fun hI2 => ?_) | refine w_condB rfl (fun hI2 => ?_) (fun hI2 => ?_)
      · refine w_region ?_
        refine w_o rfl rfl rfl (op_fieldAddr fa_23_1 rfl ?_)
        refine w_o rfl rfl rfl (op_loadF agg_3 rfl el_ rfl ?_)
        refine w_o rfl rfl rfl (op_call rfl rfl rfl ?_)
        refine control_w ?_
        refine w_o rfl rfl rfl (op_assign rfl ?_)
        refine w_end ?_
        refine block_normal ?_
        refine mid_normal (e' := [(1, ptrV b1 0), (3, vB _)]) ⟨_, by omega, ?_, rfl, rfl⟩ env_ sel_
        first
          | (unfold rightK; simp only [*, if_true, if_false, Int.reduceEq, reduceIte]; done)
          | (rw [Bool.eq_iff_iff]; unfold rightK controlV; simp [*] <;> omega)
          | (rw [Bool.eq_iff_iff]; unfold rightK controlV; simp [*]; done)
      · refine w_seq ?_
        refine w_region ?_
        refine w_o rfl rfl rfl (op_eq rfl rfl ?_)
        refine w_o rfl rfl rfl (op_assign rfl ?_)
        refine w_end ?_
        refine seq_normal ?_
        first | refine w_cond rfl (fun hI3 => ?_) (fun hI3 => ?_) | refine w_condB rfl (fun hI3 => ?_) (fun hI3 => ?_)
        · refine w_region ?_
          refine w_o rfl rfl rfl (op_fieldAddr fa_23_1 rfl ?_)
          refine w_o rfl rfl rfl (op_loadF agg_3 rfl el_ rfl ?_)
          refine w_o rfl rfl rfl (op_call rfl rfl rfl ?_)
          refine control_w ?_
          refine w_o rfl rfl rfl (op_move rfl ?_)
          first | refine w_known (t := 36) rfl (fun g36 => ?_) (fun g36 => ?_) | refine w_knownB (t := 36) rfl (fun g36 => ?_) (fun g36 => ?_)
          · refine w_u rfl rfl rfl rfl rfl rfl ?_
            refine w_u rfl rfl rfl rfl rfl rfl ?_
            refine w_u rfl rfl rfl rfl rfl rfl ?_
            refine w_u rfl rfl rfl rfl rfl rfl ?_
            refine w_u rfl rfl rfl rfl rfl rfl ?_
            refine w_u rfl rfl rfl rfl rfl rfl ?_
            refine w_u rfl rfl rfl rfl rfl rfl ?_
            refine w_u rfl rfl rfl rfl rfl rfl ?_
            refine w_o rfl rfl rfl (op_pick rfl rfl rfl ?_)
            refine w_o rfl rfl rfl (op_assign rfl ?_)
            refine w_end ?_
            refine block_normal ?_
            refine mid_normal (e' := [(1, ptrV b1 0), (3, vB _)]) ⟨_, by omega, ?_, rfl, rfl⟩ env_ sel_
            first
              | (unfold rightK; simp only [*, if_true, if_false, Int.reduceEq, reduceIte]; done)
              | (rw [Bool.eq_iff_iff]; unfold rightK controlV; simp [*] <;> omega)
              | (rw [Bool.eq_iff_iff]; unfold rightK controlV; simp [*]; done)
          · refine w_og rfl rfl rfl rfl rfl (op_fieldAddr fa_23_1 rfl ?_)
            refine w_og rfl rfl rfl rfl rfl (op_loadF agg_3 rfl el_ rfl ?_)
            refine w_og rfl rfl rfl rfl rfl (op_ge rfl rfl ?_)
            refine w_og rfl rfl rfl rfl rfl (op_move rfl ?_)
            first | refine w_known (t := 40) rfl (fun g40 => ?_) (fun g40 => ?_) | refine w_knownB (t := 40) rfl (fun g40 => ?_) (fun g40 => ?_)
            · refine w_og rfl rfl rfl rfl rfl (op_fieldAddr fa_23_1 rfl ?_)
              refine w_og rfl rfl rfl rfl rfl (op_loadF agg_3 rfl el_ rfl ?_)
              refine w_og rfl rfl rfl rfl rfl (op_le rfl rfl ?_)
              refine w_og rfl rfl rfl rfl rfl (op_pick rfl rfl rfl ?_)
              refine w_o rfl rfl rfl (op_pick rfl rfl rfl ?_)
              refine w_o rfl rfl rfl (op_assign rfl ?_)
              refine w_end ?_
              refine block_normal ?_
              refine mid_normal (e' := [(1, ptrV b1 0), (3, vB _)]) ⟨_, by omega, ?_, rfl, rfl⟩ env_ sel_
              first
                | (unfold rightK; simp only [*, if_true, if_false, Int.reduceEq, reduceIte]; done)
                | (rw [Bool.eq_iff_iff]; unfold rightK controlV; simp [*] <;> omega)
                | (rw [Bool.eq_iff_iff]; unfold rightK controlV; simp [*]; done)
            · refine w_u rfl rfl rfl rfl rfl rfl ?_
              refine w_u rfl rfl rfl rfl rfl rfl ?_
              refine w_u rfl rfl rfl rfl rfl rfl ?_
              refine w_og rfl rfl rfl rfl rfl (op_pick rfl rfl rfl ?_)
              refine w_o rfl rfl rfl (op_pick rfl rfl rfl ?_)
              refine w_o rfl rfl rfl (op_assign rfl ?_)
              refine w_end ?_
              refine block_normal ?_
              refine mid_normal (e' := [(1, ptrV b1 0), (3, vB _)]) ⟨_, by omega, ?_, rfl, rfl⟩ env_ sel_
              first
                | (unfold rightK; simp only [*, if_true, if_false, Int.reduceEq, reduceIte]; done)
                | (rw [Bool.eq_iff_iff]; unfold rightK controlV; simp [*] <;> omega)
                | (rw [Bool.eq_iff_iff]; unfold rightK controlV; simp [*]; done)
        · refine w_seq ?_
          refine w_region ?_
          refine w_o rfl rfl rfl (op_eq rfl rfl ?_)
          refine w_o rfl rfl rfl (op_assign rfl ?_)
          refine w_end ?_
          refine seq_normal ?_
          first | refine w_cond rfl (fun hI4 => ?_) (fun hI4 => ?_) | refine w_condB rfl (fun hI4 => ?_) (fun hI4 => ?_)
          · refine w_seq ?_
            refine w_seq ?_
            refine w_region ?_
            refine w_o rfl rfl rfl (op_fieldAddr fa_23_1 rfl ?_)
            refine w_o rfl rfl rfl (op_loadF agg_3 rfl el_ rfl ?_)
            refine w_o rfl rfl rfl (op_ne rfl rfl ?_)
            refine w_o rfl rfl rfl (op_move rfl ?_)
            first | refine w_known (t := 51) rfl (fun g51 => ?_) (fun g51 => ?_) | refine w_knownB (t := 51) rfl (fun g51 => ?_) (fun g51 => ?_)
            · refine w_u rfl rfl rfl rfl rfl rfl ?_
              refine w_u rfl rfl rfl rfl rfl rfl ?_
              refine w_u rfl rfl rfl rfl rfl rfl ?_
              refine w_u rfl rfl rfl rfl rfl rfl ?_
              refine w_o rfl rfl rfl (op_pick rfl rfl rfl ?_)
              refine w_end ?_
              refine seq_normal ?_
              refine w_condT rfl ?_
              refine w_seq ?_
              refine w_region ?_
              refine w_o rfl rfl rfl (op_assign rfl ?_)
              refine w_end ?_
              refine seq_normal ?_
              refine w_ret ?_
              refine seq_ret ?_
              refine block_ret ?_
              refine mid_ret ?_
              rw [show mayV x = false by unfold mayV; rw [if_pos hI4]; exact decide_eq_false (by rintro ⟨a, b⟩; first | exact absurd a g51 | omega)] at k
              exact ret_ret rfl sel_ k
            · refine w_og rfl rfl rfl rfl rfl (op_fieldAddr fa_23_2 rfl ?_)
              refine w_og rfl rfl rfl rfl rfl (op_loadF agg_9 rfl el_ rfl ?_)
              refine w_og rfl rfl rfl rfl rfl (op_lenS und_9 rfl ?_)
              refine w_og rfl rfl rfl rfl rfl (op_gt rfl rfl ?_)
              refine w_o rfl rfl rfl (op_pick rfl rfl rfl ?_)
              refine w_end ?_
              refine seq_normal ?_
              first | refine w_cond rfl (fun hI5 => ?_) (fun hI5 => ?_) | refine w_condB rfl (fun hI5 => ?_) (fun hI5 => ?_)
              · refine w_seq ?_
                refine w_region ?_
                refine w_o rfl rfl rfl (op_assign rfl ?_)
                refine w_end ?_
                refine seq_normal ?_
                refine w_ret ?_
                refine seq_ret ?_
                refine block_ret ?_
                refine mid_ret ?_
                rw [show mayV x = false by unfold mayV; rw [if_pos hI4]; exact decide_eq_false (by rintro ⟨a, b⟩; first | exact absurd a g51 | omega)] at k
                exact ret_ret rfl sel_ k
              · refine w_skip ?_
                refine seq_normal ?_
                refine w_seq ?_
                refine w_region ?_
                refine w_o rfl rfl rfl (op_assign rfl ?_)
                refine w_end ?_
                refine seq_normal ?_
                refine w_ret ?_
                refine block_ret ?_
                refine mid_ret ?_
                rw [show mayV x = true by unfold mayV; rw [if_pos hI4]; exact decide_eq_true (by omega)] at k
                exact ret_ret rfl sel_ k
          · refine w_region ?_
            refine w_o rfl rfl rfl (op_loadA agg_23 siz_23 rfl rfl el_ ?_)
            refine w_o rfl rfl rfl (op_call rfl rfl rfl ?_)
            refine of_w ?_
            refine w_o rfl rfl rfl (op_move rfl ?_)
            refine w_o rfl rfl rfl (op_extract rfl rfl ?_)
            refine w_o rfl rfl rfl (op_extract rfl rfl ?_)
            refine w_o rfl rfl rfl (op_assign rfl ?_)
            refine w_end ?_
            refine block_normal ?_
            refine mid_normal (e' := [(1, ptrV b1 0), (3, vB _)]) ⟨_, by omega, ?_, rfl, rfl⟩ env_ sel_
            first
              | (unfold rightK; simp only [*, if_true, if_false, Int.reduceEq, reduceIte]; done)
              | (rw [Bool.eq_iff_iff]; unfold rightK controlV; simp [*] <;> omega)
              | (rw [Bool.eq_iff_iff]; unfold rightK controlV; simp [*]; done)
  · rintro e H' ⟨b, h15, rfl, rfl, rfl⟩
    refine w_seq ?_
    refine w_seq ?_
    refine w_region ?_
    refine w_o rfl rfl rfl (op_move rfl ?_)
    refine w_o rfl rfl rfl (op_not rfl ?_)
    refine w_o rfl rfl rfl (op_move rfl ?_)
    first | refine w_known (t := 59) rfl (fun g59 => ?_) (fun g59 => ?_) | refine w_knownB (t := 59) rfl (fun g59 => ?_) (fun g59 => ?_)
    · refine w_u rfl rfl rfl rfl rfl rfl ?_
      refine w_u rfl rfl rfl rfl rfl rfl ?_
      refine w_u rfl rfl rfl rfl rfl rfl ?_
      refine w_o rfl rfl rfl (op_pick rfl rfl rfl ?_)
      refine w_o rfl rfl rfl (op_move rfl ?_)
      refine w_u rfl rfl rfl rfl rfl rfl ?_
      refine w_u rfl rfl rfl rfl rfl rfl ?_
      refine w_o rfl rfl rfl (op_pick rfl rfl rfl ?_)
      refine w_end ?_
      refine seq_normal ?_
      refine w_condT rfl ?_
      refine w_seq ?_
      refine w_region ?_
      refine w_o rfl rfl rfl (op_assign rfl ?_)
      refine w_end ?_
      refine seq_normal ?_
      refine w_ret ?_
      refine seq_ret ?_
      exact ret_int rfl sel_ (by unfold mayV; rw [if_neg h15]; cases hr : rightK x <;> cases h3 : x.f3 <;> simp_all) k
    · refine w_og rfl rfl rfl rfl rfl (op_fieldAddr fa_23_2 rfl ?_)
      refine w_og rfl rfl rfl rfl rfl (op_loadF agg_9 rfl el_ rfl ?_)
      refine w_og rfl rfl rfl rfl rfl (op_strne rfl rfl ?_)
      refine w_o rfl rfl rfl (op_pick rfl rfl rfl ?_)
      refine w_o rfl rfl rfl (op_move rfl ?_)
      first | refine w_known (t := 64) rfl (fun g64 => ?_) (fun g64 => ?_) | refine w_knownB (t := 64) rfl (fun g64 => ?_) (fun g64 => ?_)
      · refine w_u rfl rfl rfl rfl rfl rfl ?_
        refine w_u rfl rfl rfl rfl rfl rfl ?_
        refine w_o rfl rfl rfl (op_pick rfl rfl rfl ?_)
        refine w_end ?_
        refine seq_normal ?_
        refine w_condT rfl ?_
        refine w_seq ?_
        refine w_region ?_
        refine w_o rfl rfl rfl (op_assign rfl ?_)
        refine w_end ?_
        refine seq_normal ?_
        refine w_ret ?_
        refine seq_ret ?_
        exact ret_int rfl sel_ (by unfold mayV; rw [if_neg h15]; cases hr : rightK x <;> cases h3 : x.f3 <;> simp_all) k
      · refine w_og rfl rfl rfl rfl rfl (op_fieldAddr fa_23_3 rfl ?_)
        refine w_og rfl rfl rfl rfl rfl (op_loadF agg_4 rfl el_ rfl ?_)
        refine w_o rfl rfl rfl (op_pick rfl rfl rfl ?_)
        refine w_end ?_
        refine seq_normal ?_
        first | refine w_cond rfl (fun hI6 => ?_) (fun hI6 => ?_) | refine w_condB rfl (fun hI6 => ?_) (fun hI6 => ?_)
        · refine w_seq ?_
          refine w_region ?_
          refine w_o rfl rfl rfl (op_assign rfl ?_)
          refine w_end ?_
          refine seq_normal ?_
          refine w_ret ?_
          refine seq_ret ?_
          exact ret_int rfl sel_ (by unfold mayV; rw [if_neg h15]; cases hr : rightK x <;> cases h3 : x.f3 <;> simp_all) k
        · refine w_skip ?_
          refine seq_normal ?_
          refine w_seq ?_
          refine w_region ?_
          refine w_o rfl rfl rfl (op_assign rfl ?_)
          refine w_end ?_
          refine seq_normal ?_
          refine w_ret ?_
          exact ret_int rfl sel_ (by unfold mayV; rw [if_neg h15]; cases hr : rightK x <;> cases h3 : x.f3 <;> simp_all) k
end Go.Proofs.Yteghmemcikiblaa.AM.B
