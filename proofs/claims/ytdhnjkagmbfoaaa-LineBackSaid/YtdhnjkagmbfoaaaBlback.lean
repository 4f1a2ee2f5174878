/- What is cut, and letters that change. -/
import Derived.Test.YtdhnjkagmbfoaaaAX
import Derived.Test.YtdhnjkagmbfoaaaBoffer1
set_option linter.unusedVariables false
set_option linter.unusedSimpArgs false
set_option maxRecDepth 10000
set_option maxHeartbeats 4000000
namespace Go.Proofs.Ytdhnjkagmbfoaaa.AM.B
open Go Go.RowKit
/-- Two places of a line, the lesser one first. -/
def lowP (n : Nat) (p q : Int) : Int := min (min (max p 0) (n : Nat)) (min (max q 0) (n : Nat))
def highP (n : Nat) (p q : Int) : Int := max (min (max p 0) (n : Nat)) (min (max q 0) (n : Nat))
theorem lowP_in (n : Nat) (p q : Int) : 0 ≤ lowP n p q ∧ lowP n p q ≤ highP n p q ∧ highP n p q ≤ n := by
  unfold lowP highP; omega
theorem places2_w {H H1 : Hyp} {K : V → Hyp → Prop} {c : Cell} {l : List Sign} {a p q : Int} (h : Sl H1 39 2 c l.length (l.flatMap encS)) (hs : ∀ y ∈ H1, y ∈ H)
    (k : K (.tup [.c (.int .i64 (lowP l.length p q)), .c (.int .i64 (highP l.length p q))]) H) : CallW Try.prog Xs 35 [lineV c a, vI p, vI q] H K := places_w h hs k
theorem Cut_w {H H1 : Hyp} {K : V → Hyp → Prop} {c : Cell} {l : List Sign} {a p q : Int} (h : Sl H1 39 2 c l.length (l.flatMap encS)) (hs : ∀ y ∈ H1, y ∈ H) (hl : l.length ≤ 1000)
    (k : ∀ c1 c2 N1 N2 at', Own 39 2 c1 ((seg l ((0 : Nat) : Int) (lowP l.length p q) ++ seg l (highP l.length p q) ((l.length : Nat) : Int)).flatMap encS) N1 → Own 39 2 c2 ((seg l (lowP l.length p q) (highP l.length p q)).flatMap encS) N2 → K (.tup [.agg [c1, .int .i64 at'], .c c2]) (N2 ++ (N1 ++ H))) : CallW Try.prog Xs 14 [lineV c a, vI p, vI q] H K := by
  have hH := h.sub hs
  have hp := lowP_in l.length p q
  have hg := lowP_in l.length a ((l.length : Nat) : Int)
  refine call_of (n := 61) (fun _ => rfl) Try.func14 rfl rfl ?_
  refine w_seq ?_
  refine w_region ?_
  refine w_o rfl rfl rfl (op_box rfl fun b3 => ?_)
  refine w_o rfl rfl rfl (op_alloc zer_24 fun b6 => ?_)
  refine w_o rfl rfl rfl (op_assign rfl ?_)
  refine w_end ?_
  refine seq_normal ?_
  refine w_seq ?_
  refine w_region ?_
  refine w_o rfl rfl rfl (op_loadA agg_24 siz_24 rfl rfl el_ ?_)
  refine w_o rfl rfl rfl (op_move rfl ?_)
  refine w_o rfl rfl rfl (op_move rfl ?_)
  refine w_o rfl rfl rfl (op_call rfl rfl rfl ?_)
  refine places2_w (p := p) (q := q) hH subs_ ?_
  refine w_o rfl rfl rfl (op_move rfl ?_)
  refine w_o rfl rfl rfl (op_extract rfl rfl ?_)
  refine w_o rfl rfl rfl (op_extract rfl rfl ?_)
  refine w_o rfl rfl rfl (op_assign rfl ?_)
  refine w_o rfl rfl rfl (op_assign rfl ?_)
  refine w_end ?_
  refine seq_normal ?_
  refine w_seq ?_
  refine w_region ?_
  refine w_o rfl rfl rfl (op_loadA agg_24 siz_24 rfl rfl el_ ?_)
  refine w_o rfl rfl rfl (op_fieldAddr fa_24_1 rfl ?_)
  refine w_o rfl rfl rfl (op_loadF agg_3 rfl el_ rfl ?_)
  refine w_o rfl rfl rfl (op_fieldAddr fa_24_0 rfl ?_)
  refine w_o rfl rfl rfl (op_loadF agg_22 rfl el_ rfl ?_)
  refine w_o rfl rfl rfl (op_lenC und_22 rfl h.lenC ?_)
  refine w_o rfl rfl rfl (op_call rfl rfl rfl ?_)
  refine places2_w (p := a) (q := ((l.length : Nat) : Int)) hH subs_ ?_
  generalize lowP l.length p q = f at *
  generalize highP l.length p q = t at *
  generalize lowP l.length a ((l.length : Nat) : Int) = g0 at *
  generalize highP l.length a ((l.length : Nat) : Int) = g1 at *
  have m1 := seg_len l ((0 : Nat) : Int) f
  have m2 := seg_len l t ((l.length : Nat) : Int)
  have m3 := seg_len l f t
  refine w_o rfl rfl rfl (op_move rfl ?_)
  refine w_o rfl rfl rfl (op_extract rfl rfl ?_)
  refine w_o rfl rfl rfl (op_extract rfl rfl ?_)
  refine w_o rfl rfl rfl (op_assign rfl ?_)
  refine w_o rfl rfl rfl (op_assign rfl ?_)
  refine w_end ?_
  refine seq_normal ?_
  refine w_seq ?_
  refine w_block ?_
  refine w_seq ?_
  refine w_region ?_
  refine w_o rfl rfl rfl (op_move rfl ?_)
  refine w_o rfl rfl rfl (op_move rfl ?_)
  refine w_o rfl rfl rfl (op_gt rfl rfl ?_)
  refine w_o rfl rfl rfl (op_assign rfl ?_)
  refine w_end ?_
  refine seq_normal ?_
  first | refine w_cond rfl (fun hI1 => ?_) (fun hI1 => ?_) | refine w_condB rfl (fun hI1 => ?_) (fun hI1 => ?_)
  · refine w_region ?_
    refine w_o rfl rfl rfl (op_move rfl ?_)
    refine w_o rfl rfl rfl (op_move rfl ?_)
    refine w_o rfl rfl rfl (op_move rfl ?_)
    refine w_o rfl rfl rfl (op_subi rfl rfl (by omega) (by omega) ?_)
    refine w_o rfl rfl rfl (op_subi rfl rfl (by omega) (by omega) ?_)
    refine w_o rfl rfl rfl (op_assign rfl ?_)
    refine w_end ?_
    refine block_normal ?_
    refine seq_normal ?_
    refine w_seq ?_
    refine w_drawF ((b3, .row true 24 1 [c, .int .i64 a]) :: H) sel_ (by decide +kernel) (by decide +kernel) ?_
    refine f_b (guard_none rfl) rfl rfl rfl rfl (op_fieldAddr fa_24_0 rfl ?_)
    refine f_a (guard_none rfl) rfl rfl rfl (by decide +kernel) (op_loadF agg_22 rfl el_ rfl ?_)
    refine f_b (guard_none rfl) rfl rfl rfl rfl (op_move rfl ?_)
    refine f_a (guard_none rfl) rfl rfl rfl (by decide +kernel) (op_sliceU (enc := encS) (xs := l) elm_22 siz_39 (by decide) rfl hH subs_ (fun _ => rfl) rfl rfl (by omega) (by omega) (by omega) fun c46 h46 => ?_)
    refine f_b (guard_none rfl) rfl rfl rfl rfl (op_fieldAddr fa_24_0 rfl ?_)
    refine f_a (guard_none rfl) rfl rfl rfl (by decide +kernel) (op_loadF agg_22 rfl el_ rfl ?_)
    refine f_b (guard_none rfl) rfl rfl rfl rfl (op_move rfl ?_)
    refine f_a (guard_none rfl) rfl rfl rfl (by decide +kernel) (op_sliceU (enc := encS) (xs := l) elm_22 siz_39 (by decide) rfl hH subs_ (fun _ => rfl) rfl rfl (by omega) (by omega) (by omega) fun c50 h50 => ?_)
    refine f_m (guard_none rfl) rfl rfl rfl (op_buildSlice rfl (bsl_67 _ _ _ (rfl : _ = some [_, _]) rfl (by decide)) fun b51 => ?_)
    refine ⟨sel_, ?_⟩
    refine f_m (guard_none rfl) rfl rfl rfl (op_call rfl rfl rfl ?_)
    refine ConcatS_w (cs := [c46, c50]) (ll := [seg l ((0 : Nat) : Int) f, seg l t ((l.length : Nat) : Int)]) (Sl.of_row (own := true) mem_ rfl) (fun i c' l' x y => ?_) rfl (by simp) ?_ fun c52 N52 h52 => ?_
    · match i with
      | 0 => simp at x y; subst x; subst y; exact h46.sub subs_
      | 1 => simp at x y; subst x; subst y; exact h50.sub subs_
      | i + 2 => simp at x
    · simp only [List.flatten_cons, List.flatten_nil, List.length_append, List.length_nil]
      omega
    have e52 : [seg l ((0 : Nat) : Int) f, seg l t ((l.length : Nat) : Int)].flatten = seg l ((0 : Nat) : Int) f ++ seg l t ((l.length : Nat) : Int) := by
      simp only [List.flatten_cons, List.flatten_nil, List.append_nil]
    rw [e52] at h52
    refine ⟨sel_, ?_⟩
    refine f_b (guard_none rfl) rfl rfl rfl rfl (op_move rfl ?_)
    refine f_b (guard_none rfl) rfl rfl rfl rfl (op_build rfl ((bld_24 _).trans (rfl : _ = some [_, _])) ?_)
    refine f_b (guard_none rfl) rfl rfl rfl rfl (op_fieldAddr fa_24_0 rfl ?_)
    refine f_l (guard_none rfl) rfl rfl rfl sel_ (op_loadF agg_22 rfl el_ rfl rfl) ?_
    refine f_b (guard_none rfl) rfl rfl rfl rfl (op_move rfl ?_)
    refine f_b (guard_none rfl) rfl rfl rfl rfl (op_move rfl ?_)
    refine f_sliceT (enc := encS) (xs := l) (guard_none rfl) rfl rfl rfl sel_ elm_22 siz_39 (by decide) rfl hH (fun y hy => List.Mem.tail _ hy) (fun _ => rfl) rfl rfl (by omega) (by omega) (by omega) fun c59 h59 => ?_
    have h59' : Sl H 39 2 c59 (seg l f t).length ((seg l f t).flatMap encS) := h59
    refine f_m (guard_none rfl) rfl rfl rfl (op_call rfl rfl rfl ?_)
    refine CloneS_w (l := seg l f t) (h59'.sub subs_) (by omega) fun c60 N60 h60 => ?_
    refine ⟨sel_, ?_⟩
    refine f_wn (guard_none rfl) rfl rfl rfl (op_store siz_24 rfl rfl rfl (by (repeat (first | exact Pick.head _ _ _ | apply Pick.tail | apply Pick.app)); first | done | fail) (Nat.le_of_ble_eq_true rfl) rfl ?_)
    refine f_b (guard_none rfl) rfl rfl rfl rfl (op_assign rfl ?_)
    refine f_end ?_
    refine seq_normal ?_
    refine w_ret ?_
    exact ret_cellL rfl agg_24 siz_24 rfl (El.row mem_) rfl sel_ (k _ _ _ _ _ h52 h60)
  · refine w_seq ?_
    refine w_region ?_
    refine w_o rfl rfl rfl (op_move rfl ?_)
    refine w_o rfl rfl rfl (op_move rfl ?_)
    refine w_o rfl rfl rfl (op_gt rfl rfl ?_)
    refine w_o rfl rfl rfl (op_assign rfl ?_)
    refine w_end ?_
    refine seq_normal ?_
    first | refine w_cond rfl (fun hI2 => ?_) (fun hI2 => ?_) | refine w_condB rfl (fun hI2 => ?_) (fun hI2 => ?_)
    · refine w_region ?_
      refine w_o rfl rfl rfl (op_move rfl ?_)
      refine w_o rfl rfl rfl (op_assign rfl ?_)
      refine w_end ?_
      refine block_normal ?_
      refine seq_normal ?_
      refine w_seq ?_
      refine w_drawF ((b3, .row true 24 1 [c, .int .i64 a]) :: H) sel_ (by decide +kernel) (by decide +kernel) ?_
      refine f_b (guard_none rfl) rfl rfl rfl rfl (op_fieldAddr fa_24_0 rfl ?_)
      refine f_a (guard_none rfl) rfl rfl rfl (by decide +kernel) (op_loadF agg_22 rfl el_ rfl ?_)
      refine f_b (guard_none rfl) rfl rfl rfl rfl (op_move rfl ?_)
      refine f_a (guard_none rfl) rfl rfl rfl (by decide +kernel) (op_sliceU (enc := encS) (xs := l) elm_22 siz_39 (by decide) rfl hH subs_ (fun _ => rfl) rfl rfl (by omega) (by omega) (by omega) fun c46 h46 => ?_)
      refine f_b (guard_none rfl) rfl rfl rfl rfl (op_fieldAddr fa_24_0 rfl ?_)
      refine f_a (guard_none rfl) rfl rfl rfl (by decide +kernel) (op_loadF agg_22 rfl el_ rfl ?_)
      refine f_b (guard_none rfl) rfl rfl rfl rfl (op_move rfl ?_)
      refine f_a (guard_none rfl) rfl rfl rfl (by decide +kernel) (op_sliceU (enc := encS) (xs := l) elm_22 siz_39 (by decide) rfl hH subs_ (fun _ => rfl) rfl rfl (by omega) (by omega) (by omega) fun c50 h50 => ?_)
      refine f_m (guard_none rfl) rfl rfl rfl (op_buildSlice rfl (bsl_67 _ _ _ (rfl : _ = some [_, _]) rfl (by decide)) fun b51 => ?_)
      refine ⟨sel_, ?_⟩
      refine f_m (guard_none rfl) rfl rfl rfl (op_call rfl rfl rfl ?_)
      refine ConcatS_w (cs := [c46, c50]) (ll := [seg l ((0 : Nat) : Int) f, seg l t ((l.length : Nat) : Int)]) (Sl.of_row (own := true) mem_ rfl) (fun i c' l' x y => ?_) rfl (by simp) ?_ fun c52 N52 h52 => ?_
      · match i with
        | 0 => simp at x y; subst x; subst y; exact h46.sub subs_
        | 1 => simp at x y; subst x; subst y; exact h50.sub subs_
        | i + 2 => simp at x
      · simp only [List.flatten_cons, List.flatten_nil, List.length_append, List.length_nil]
        omega
      have e52 : [seg l ((0 : Nat) : Int) f, seg l t ((l.length : Nat) : Int)].flatten = seg l ((0 : Nat) : Int) f ++ seg l t ((l.length : Nat) : Int) := by
        simp only [List.flatten_cons, List.flatten_nil, List.append_nil]
      rw [e52] at h52
      refine ⟨sel_, ?_⟩
      refine f_b (guard_none rfl) rfl rfl rfl rfl (op_move rfl ?_)
      refine f_b (guard_none rfl) rfl rfl rfl rfl (op_build rfl ((bld_24 _).trans (rfl : _ = some [_, _])) ?_)
      refine f_b (guard_none rfl) rfl rfl rfl rfl (op_fieldAddr fa_24_0 rfl ?_)
      refine f_l (guard_none rfl) rfl rfl rfl sel_ (op_loadF agg_22 rfl el_ rfl rfl) ?_
      refine f_b (guard_none rfl) rfl rfl rfl rfl (op_move rfl ?_)
      refine f_b (guard_none rfl) rfl rfl rfl rfl (op_move rfl ?_)
      refine f_sliceT (enc := encS) (xs := l) (guard_none rfl) rfl rfl rfl sel_ elm_22 siz_39 (by decide) rfl hH (fun y hy => List.Mem.tail _ hy) (fun _ => rfl) rfl rfl (by omega) (by omega) (by omega) fun c59 h59 => ?_
      have h59' : Sl H 39 2 c59 (seg l f t).length ((seg l f t).flatMap encS) := h59
      refine f_m (guard_none rfl) rfl rfl rfl (op_call rfl rfl rfl ?_)
      refine CloneS_w (l := seg l f t) (h59'.sub subs_) (by omega) fun c60 N60 h60 => ?_
      refine ⟨sel_, ?_⟩
      refine f_wn (guard_none rfl) rfl rfl rfl (op_store siz_24 rfl rfl rfl (by (repeat (first | exact Pick.head _ _ _ | apply Pick.tail | apply Pick.app)); first | done | fail) (Nat.le_of_ble_eq_true rfl) rfl ?_)
      refine f_b (guard_none rfl) rfl rfl rfl rfl (op_assign rfl ?_)
      refine f_end ?_
      refine seq_normal ?_
      refine w_ret ?_
      exact ret_cellL rfl agg_24 siz_24 rfl (El.row mem_) rfl sel_ (k _ _ _ _ _ h52 h60)
    · refine w_skip ?_
      refine block_normal ?_
      refine seq_normal ?_
      refine w_seq ?_
      refine w_drawF ((b3, .row true 24 1 [c, .int .i64 a]) :: H) sel_ (by decide +kernel) (by decide +kernel) ?_
      refine f_b (guard_none rfl) rfl rfl rfl rfl (op_fieldAddr fa_24_0 rfl ?_)
      refine f_a (guard_none rfl) rfl rfl rfl (by decide +kernel) (op_loadF agg_22 rfl el_ rfl ?_)
      refine f_b (guard_none rfl) rfl rfl rfl rfl (op_move rfl ?_)
      refine f_a (guard_none rfl) rfl rfl rfl (by decide +kernel) (op_sliceU (enc := encS) (xs := l) elm_22 siz_39 (by decide) rfl hH subs_ (fun _ => rfl) rfl rfl (by omega) (by omega) (by omega) fun c46 h46 => ?_)
      refine f_b (guard_none rfl) rfl rfl rfl rfl (op_fieldAddr fa_24_0 rfl ?_)
      refine f_a (guard_none rfl) rfl rfl rfl (by decide +kernel) (op_loadF agg_22 rfl el_ rfl ?_)
      refine f_b (guard_none rfl) rfl rfl rfl rfl (op_move rfl ?_)
      refine f_a (guard_none rfl) rfl rfl rfl (by decide +kernel) (op_sliceU (enc := encS) (xs := l) elm_22 siz_39 (by decide) rfl hH subs_ (fun _ => rfl) rfl rfl (by omega) (by omega) (by omega) fun c50 h50 => ?_)
      refine f_m (guard_none rfl) rfl rfl rfl (op_buildSlice rfl (bsl_67 _ _ _ (rfl : _ = some [_, _]) rfl (by decide)) fun b51 => ?_)
      refine ⟨sel_, ?_⟩
      refine f_m (guard_none rfl) rfl rfl rfl (op_call rfl rfl rfl ?_)
      refine ConcatS_w (cs := [c46, c50]) (ll := [seg l ((0 : Nat) : Int) f, seg l t ((l.length : Nat) : Int)]) (Sl.of_row (own := true) mem_ rfl) (fun i c' l' x y => ?_) rfl (by simp) ?_ fun c52 N52 h52 => ?_
      · match i with
        | 0 => simp at x y; subst x; subst y; exact h46.sub subs_
        | 1 => simp at x y; subst x; subst y; exact h50.sub subs_
        | i + 2 => simp at x
      · simp only [List.flatten_cons, List.flatten_nil, List.length_append, List.length_nil]
        omega
      have e52 : [seg l ((0 : Nat) : Int) f, seg l t ((l.length : Nat) : Int)].flatten = seg l ((0 : Nat) : Int) f ++ seg l t ((l.length : Nat) : Int) := by
        simp only [List.flatten_cons, List.flatten_nil, List.append_nil]
      rw [e52] at h52
      refine ⟨sel_, ?_⟩
      refine f_b (guard_none rfl) rfl rfl rfl rfl (op_move rfl ?_)
      refine f_b (guard_none rfl) rfl rfl rfl rfl (op_build rfl ((bld_24 _).trans (rfl : _ = some [_, _])) ?_)
      refine f_b (guard_none rfl) rfl rfl rfl rfl (op_fieldAddr fa_24_0 rfl ?_)
      refine f_l (guard_none rfl) rfl rfl rfl sel_ (op_loadF agg_22 rfl el_ rfl rfl) ?_
      refine f_b (guard_none rfl) rfl rfl rfl rfl (op_move rfl ?_)
      refine f_b (guard_none rfl) rfl rfl rfl rfl (op_move rfl ?_)
      refine f_sliceT (enc := encS) (xs := l) (guard_none rfl) rfl rfl rfl sel_ elm_22 siz_39 (by decide) rfl hH (fun y hy => List.Mem.tail _ hy) (fun _ => rfl) rfl rfl (by omega) (by omega) (by omega) fun c59 h59 => ?_
      have h59' : Sl H 39 2 c59 (seg l f t).length ((seg l f t).flatMap encS) := h59
      refine f_m (guard_none rfl) rfl rfl rfl (op_call rfl rfl rfl ?_)
      refine CloneS_w (l := seg l f t) (h59'.sub subs_) (by omega) fun c60 N60 h60 => ?_
      refine ⟨sel_, ?_⟩
      refine f_wn (guard_none rfl) rfl rfl rfl (op_store siz_24 rfl rfl rfl (by (repeat (first | exact Pick.head _ _ _ | apply Pick.tail | apply Pick.app)); first | done | fail) (Nat.le_of_ble_eq_true rfl) rfl ?_)
      refine f_b (guard_none rfl) rfl rfl rfl rfl (op_assign rfl ?_)
      refine f_end ?_
      refine seq_normal ?_
      refine w_ret ?_
      exact ret_cellL rfl agg_24 siz_24 rfl (El.row mem_) rfl sel_ (k _ _ _ _ _ h52 h60)
/-! ### Letters -/
def upV (v : Int) : Int := if 97 ≤ v ∧ v ≤ 122 then v - 32 else v
def lowV (v : Int) : Int := if 65 ≤ v ∧ v ≤ 90 then v + 32 else v
theorem up_up (v : Int) : upV (upV v) = upV v := by unfold upV; repeat' split
                                                    all_goals omega
theorem up_low (v : Int) : upV (lowV v) = upV v := by unfold upV lowV; repeat' split
                                                      all_goals omega
section
variable {H : Hyp} {K : V → Hyp → Prop} {v : Int}
theorem great_w (hv : -1000000000 ≤ v ∧ v ≤ 1000000000) (k : K (vI (upV v)) H) : CallW Try.prog Xs 56 [vI v] H K := by
  refine call_of (n := 12) (fun _ => rfl) Try.func56 rfl rfl ?_
  refine w_seq ?_
  refine w_region ?_
  refine w_o rfl rfl rfl (op_assign rfl ?_)
  refine w_end ?_
  refine seq_normal ?_
  refine w_seq ?_
  refine w_seq ?_
  refine w_region ?_
  refine w_o rfl rfl rfl (op_move rfl ?_)
  refine w_o rfl rfl rfl (op_ge rfl rfl ?_)
  refine w_o rfl rfl rfl (op_move rfl ?_)
  first | refine w_known (t := 5) rfl (fun g5 => ?_) (fun g5 => ?_) | refine w_knownB (t := 5) rfl (fun g5 => ?_) (fun g5 => ?_)
  · refine w_og rfl rfl rfl rfl rfl (op_move rfl ?_)
    refine w_og rfl rfl rfl rfl rfl (op_le rfl rfl ?_)
    refine w_o rfl rfl rfl (op_pick rfl rfl rfl ?_)
    refine w_end ?_
    refine seq_normal ?_
    first | refine w_cond rfl (fun hI1 => ?_) (fun hI1 => ?_) | refine w_condB rfl (fun hI1 => ?_) (fun hI1 => ?_)
    · rw [show upV v = v - 32 by unfold upV; rw [if_pos (by omega)]] at k
      refine w_seq ?_
      refine w_region ?_
      refine w_o rfl rfl rfl (op_move rfl ?_)
      refine w_o rfl rfl rfl (op_subi rfl rfl (by omega) (by omega) ?_)
      refine w_o rfl rfl rfl (op_assign rfl ?_)
      refine w_end ?_
      refine seq_normal ?_
      refine w_ret ?_
      refine seq_ret ?_
      exact ret_ret rfl sel_ k
    · refine w_skip ?_
      refine seq_normal ?_
      refine w_seq ?_
      refine w_region ?_
      refine w_o rfl rfl rfl (op_move rfl ?_)
      refine w_o rfl rfl rfl (op_assign rfl ?_)
      refine w_end ?_
      refine seq_normal ?_
      refine w_ret ?_
      rw [show upV v = v by unfold upV; rw [if_neg (by omega)]] at k
      exact ret_ret rfl sel_ k
  · refine w_u rfl rfl rfl rfl rfl rfl ?_
    refine w_u rfl rfl rfl rfl rfl rfl ?_
    refine w_o rfl rfl rfl (op_pick rfl rfl rfl ?_)
    refine w_end ?_
    refine seq_normal ?_
    refine w_condF rfl ?_
    refine w_skip ?_
    refine seq_normal ?_
    refine w_seq ?_
    refine w_region ?_
    refine w_o rfl rfl rfl (op_move rfl ?_)
    refine w_o rfl rfl rfl (op_assign rfl ?_)
    refine w_end ?_
    refine seq_normal ?_
    refine w_ret ?_
    rw [show upV v = v by unfold upV; rw [if_neg (by omega)]] at k
    exact ret_ret rfl sel_ k
theorem small_w (hv : -1000000000 ≤ v ∧ v ≤ 1000000000) (k : K (vI (lowV v)) H) : CallW Try.prog Xs 57 [vI v] H K := by
  refine call_of (n := 12) (fun _ => rfl) Try.func57 rfl rfl ?_
  refine w_seq ?_
  refine w_region ?_
  refine w_o rfl rfl rfl (op_assign rfl ?_)
  refine w_end ?_
  refine seq_normal ?_
  refine w_seq ?_
  refine w_seq ?_
  refine w_region ?_
  refine w_o rfl rfl rfl (op_move rfl ?_)
  refine w_o rfl rfl rfl (op_ge rfl rfl ?_)
  refine w_o rfl rfl rfl (op_move rfl ?_)
  first | refine w_known (t := 5) rfl (fun g5 => ?_) (fun g5 => ?_) | refine w_knownB (t := 5) rfl (fun g5 => ?_) (fun g5 => ?_)
  · refine w_og rfl rfl rfl rfl rfl (op_move rfl ?_)
    refine w_og rfl rfl rfl rfl rfl (op_le rfl rfl ?_)
    refine w_o rfl rfl rfl (op_pick rfl rfl rfl ?_)
    refine w_end ?_
    refine seq_normal ?_
    first | refine w_cond rfl (fun hI1 => ?_) (fun hI1 => ?_) | refine w_condB rfl (fun hI1 => ?_) (fun hI1 => ?_)
    · rw [show lowV v = v + 32 by unfold lowV; rw [if_pos (by omega)]] at k
      refine w_seq ?_
      refine w_region ?_
      refine w_o rfl rfl rfl (op_move rfl ?_)
      refine w_o rfl rfl rfl (op_addi rfl rfl (by omega) (by omega) ?_)
      refine w_o rfl rfl rfl (op_assign rfl ?_)
      refine w_end ?_
      refine seq_normal ?_
      refine w_ret ?_
      refine seq_ret ?_
      exact ret_ret rfl sel_ k
    · refine w_skip ?_
      refine seq_normal ?_
      refine w_seq ?_
      refine w_region ?_
      refine w_o rfl rfl rfl (op_move rfl ?_)
      refine w_o rfl rfl rfl (op_assign rfl ?_)
      refine w_end ?_
      refine seq_normal ?_
      refine w_ret ?_
      rw [show lowV v = v by unfold lowV; rw [if_neg (by omega)]] at k
      exact ret_ret rfl sel_ k
  · refine w_u rfl rfl rfl rfl rfl rfl ?_
    refine w_u rfl rfl rfl rfl rfl rfl ?_
    refine w_o rfl rfl rfl (op_pick rfl rfl rfl ?_)
    refine w_end ?_
    refine seq_normal ?_
    refine w_condF rfl ?_
    refine w_skip ?_
    refine seq_normal ?_
    refine w_seq ?_
    refine w_region ?_
    refine w_o rfl rfl rfl (op_move rfl ?_)
    refine w_o rfl rfl rfl (op_assign rfl ?_)
    refine w_end ?_
    refine seq_normal ?_
    refine w_ret ?_
    rw [show lowV v = v by unfold lowV; rw [if_neg (by omega)]] at k
    exact ret_ret rfl sel_ k
theorem Letter_w (hv : -1000000000 ≤ v ∧ v ≤ 1000000000) (k : K (vI (upV v)) H) : CallW Try.prog Xs 19 [vI v, vB true] H K := by
  refine call_of (n := 29) (fun _ => rfl) Try.func19 rfl rfl ?_
  refine w_seq ?_
  refine w_region ?_
  refine w_o rfl rfl rfl (op_assign rfl ?_)
  refine w_end ?_
  refine seq_normal ?_
  refine w_seq ?_
  refine w_seq ?_
  refine w_region ?_
  refine w_o rfl rfl rfl (op_move rfl ?_)
  refine w_o rfl rfl rfl (op_move rfl ?_)
  first | refine w_known (t := 6) rfl (fun g6 => ?_) (fun g6 => ?_) | refine w_knownB (t := 6) rfl (fun g6 => ?_) (fun g6 => ?_)
  · refine w_og rfl rfl rfl rfl rfl (op_move rfl ?_)
    refine w_og rfl rfl rfl rfl rfl (op_ge rfl rfl ?_)
    refine w_o rfl rfl rfl (op_pick rfl rfl rfl ?_)
    refine w_o rfl rfl rfl (op_move rfl ?_)
    first | refine w_known (t := 10) rfl (fun g10 => ?_) (fun g10 => ?_) | refine w_knownB (t := 10) rfl (fun g10 => ?_) (fun g10 => ?_)
    · refine w_og rfl rfl rfl rfl rfl (op_move rfl ?_)
      refine w_og rfl rfl rfl rfl rfl (op_le rfl rfl ?_)
      refine w_o rfl rfl rfl (op_pick rfl rfl rfl ?_)
      refine w_end ?_
      refine seq_normal ?_
      first | refine w_cond rfl (fun hI1 => ?_) (fun hI1 => ?_) | refine w_condB rfl (fun hI1 => ?_) (fun hI1 => ?_)
      · rw [show upV v = v - 32 by unfold upV; rw [if_pos (by omega)]] at k
        refine w_seq ?_
        refine w_region ?_
        refine w_o rfl rfl rfl (op_move rfl ?_)
        refine w_o rfl rfl rfl (op_subi rfl rfl (by omega) (by omega) ?_)
        refine w_o rfl rfl rfl (op_assign rfl ?_)
        refine w_end ?_
        refine seq_normal ?_
        refine w_ret ?_
        refine seq_ret ?_
        exact ret_ret rfl sel_ k
      · refine w_skip ?_
        refine seq_normal ?_
        refine w_seq ?_
        refine w_seq ?_
        refine w_region ?_
        refine w_o rfl rfl rfl (op_move rfl ?_)
        refine w_o rfl rfl rfl (op_not rfl ?_)
        refine w_o rfl rfl rfl (op_move rfl ?_)
        first | refine w_known (t := 18) rfl (fun g18 => ?_) (fun g18 => ?_) | refine w_knownB (t := 18) rfl (fun g18 => ?_) (fun g18 => ?_)
        · cases g18 --closed
        · refine w_u rfl rfl rfl rfl rfl rfl ?_
          refine w_u rfl rfl rfl rfl rfl rfl ?_
          refine w_o rfl rfl rfl (op_pick rfl rfl rfl ?_)
          refine w_o rfl rfl rfl (op_move rfl ?_)
          refine w_u rfl rfl rfl rfl rfl rfl ?_
          refine w_u rfl rfl rfl rfl rfl rfl ?_
          refine w_o rfl rfl rfl (op_pick rfl rfl rfl ?_)
          refine w_end ?_
          refine seq_normal ?_
          refine w_condF rfl ?_
          refine w_skip ?_
          refine seq_normal ?_
          refine w_seq ?_
          refine w_region ?_
          refine w_o rfl rfl rfl (op_move rfl ?_)
          refine w_o rfl rfl rfl (op_assign rfl ?_)
          refine w_end ?_
          refine seq_normal ?_
          refine w_ret ?_
          rw [show upV v = v by unfold upV; rw [if_neg (by omega)]] at k
          exact ret_ret rfl sel_ k
    · refine w_u rfl rfl rfl rfl rfl rfl ?_
      refine w_u rfl rfl rfl rfl rfl rfl ?_
      refine w_o rfl rfl rfl (op_pick rfl rfl rfl ?_)
      refine w_end ?_
      refine seq_normal ?_
      refine w_condF rfl ?_
      refine w_skip ?_
      refine seq_normal ?_
      refine w_seq ?_
      refine w_seq ?_
      refine w_region ?_
      refine w_o rfl rfl rfl (op_move rfl ?_)
      refine w_o rfl rfl rfl (op_not rfl ?_)
      refine w_o rfl rfl rfl (op_move rfl ?_)
      first | refine w_known (t := 18) rfl (fun g18 => ?_) (fun g18 => ?_) | refine w_knownB (t := 18) rfl (fun g18 => ?_) (fun g18 => ?_)
      · cases g18 --closed
      · refine w_u rfl rfl rfl rfl rfl rfl ?_
        refine w_u rfl rfl rfl rfl rfl rfl ?_
        refine w_o rfl rfl rfl (op_pick rfl rfl rfl ?_)
        refine w_o rfl rfl rfl (op_move rfl ?_)
        refine w_u rfl rfl rfl rfl rfl rfl ?_
        refine w_u rfl rfl rfl rfl rfl rfl ?_
        refine w_o rfl rfl rfl (op_pick rfl rfl rfl ?_)
        refine w_end ?_
        refine seq_normal ?_
        refine w_condF rfl ?_
        refine w_skip ?_
        refine seq_normal ?_
        refine w_seq ?_
        refine w_region ?_
        refine w_o rfl rfl rfl (op_move rfl ?_)
        refine w_o rfl rfl rfl (op_assign rfl ?_)
        refine w_end ?_
        refine seq_normal ?_
        refine w_ret ?_
        rw [show upV v = v by unfold upV; rw [if_neg (by omega)]] at k
        exact ret_ret rfl sel_ k
  · cases g6 --closed
end
theorem of_w {H : Hyp} {K : V → Hyp → Prop} {c : Cell} {l : List Sign} {b : Nat} {i : Int} (h : Sl H 39 2 c l.length (l.flatMap encS)) (hb : El H b 0 [c]) (hi : i < l.length) (k : ∀ r, K (vB r) H) : CallW Try.prog Xs 54 [vI i, ptrV b 0] H K := by
  refine call_of (n := 15) (fun _ => rfl) Try.func54 rfl rfl ?_
  refine w_seq ?_
  refine w_region ?_
  refine w_o rfl rfl rfl (op_assign rfl ?_)
  refine w_end ?_
  refine seq_normal ?_
  refine w_seq ?_
  refine w_region ?_
  refine w_o rfl rfl rfl (op_move rfl ?_)
  refine w_o rfl rfl rfl (op_ge rfl rfl ?_)
  refine w_o rfl rfl rfl (op_move rfl ?_)
  first | refine w_known (t := 6) rfl (fun g6 => ?_) (fun g6 => ?_) | refine w_knownB (t := 6) rfl (fun g6 => ?_) (fun g6 => ?_)
  · refine w_og rfl rfl rfl rfl rfl (op_load1 agg_22 rfl el_ ?_)
    refine w_og rfl rfl rfl rfl rfl (op_move rfl ?_)
    refine w_og rfl rfl rfl rfl rfl (op_indexT (enc := encS) (xs := l) (j := i.toNat) und_22 siz_39 rfl rfl h (fun _ => rfl) (by omega) (by omega) fun b9 o9 z9 h9 e9 => ?_)
    refine w_og rfl rfl rfl rfl rfl (op_fieldAddr fa_39_0 rfl ?_)
    refine w_og rfl rfl rfl rfl rfl (op_loadF agg_3 rfl el_ rfl ?_)
    refine w_og rfl rfl rfl rfl rfl (op_call rfl rfl rfl ?_)
    refine word_Kind_sw (Go.Proofs.Ytdhnjkagmbfoaaa.P.kind_both _).1 ?_
    refine w_og rfl rfl rfl rfl rfl (op_eq rfl rfl ?_)
    refine w_o rfl rfl rfl (op_pick rfl rfl rfl ?_)
    refine w_o rfl rfl rfl (op_assign rfl ?_)
    refine w_end ?_
    refine seq_normal ?_
    refine w_ret ?_
    exact ret_ret rfl sel_ (k _)
  · refine w_u rfl rfl rfl rfl rfl rfl ?_
    refine w_u rfl rfl rfl rfl rfl rfl ?_
    refine w_u rfl rfl rfl rfl rfl rfl ?_
    refine w_u rfl rfl rfl rfl rfl rfl ?_
    refine w_u rfl rfl rfl rfl rfl rfl ?_
    refine w_u rfl rfl rfl rfl rfl rfl ?_
    refine w_u rfl rfl rfl rfl rfl rfl ?_
    refine w_o rfl rfl rfl (op_pick rfl rfl rfl ?_)
    refine w_o rfl rfl rfl (op_assign rfl ?_)
    refine w_end ?_
    refine seq_normal ?_
    refine w_ret ?_
    exact ret_ret rfl sel_ (k _)
theorem casedI_w {H : Hyp} {K : V → Hyp → Prop} {c : Cell} {l : List Sign} {b1 b2 b3 : Nat} {i : Nat} {how : Int} {x : Sign} (h : Sl H 39 2 c l.length (l.flatMap encS)) (hb1 : El H b1 0 [c]) (hb2 : El H b2 0 [.int .i64 how]) (hb3 : El H b3 0 [.fn 54 [(b1, 0)]]) (hx : l[i]? = some x) (hv : -1000000000 ≤ x.f0 ∧ x.f0 ≤ 1000000000) (hl : l.length ≤ 1000)
    (k : ∀ v', upV v' = upV x.f0 → K (vI v') H) : CallW Try.prog Xs 55 [vI (i : Nat), ptrV b1 0, ptrV b2 0, ptrV b3 0] H K := by
  have hil : i < l.length := (List.getElem?_eq_some_iff.1 hx).1
  refine call_of (n := 43) (fun _ => rfl) Try.func55 rfl rfl ?_
  refine w_seq ?_
  refine w_region ?_
  refine w_o rfl rfl rfl (op_assign rfl ?_)
  refine w_end ?_
  refine seq_normal ?_
  refine w_seq ?_
  refine w_region ?_
  refine w_o rfl rfl rfl (op_load1 agg_22 rfl el_ ?_)
  refine w_o rfl rfl rfl (op_move rfl ?_)
  refine w_o rfl rfl rfl (op_indexT (enc := encS) (xs := l) (j := i) und_22 siz_39 rfl rfl h (fun _ => rfl) rfl (by omega) fun b9 o9 z9 h9 e9 => ?_)
  rw [hx] at h9
  cases h9
  refine w_o rfl rfl rfl (op_fieldAddr fa_39_0 rfl ?_)
  refine w_o rfl rfl rfl (op_loadF agg_3 rfl el_ rfl ?_)
  refine w_o rfl rfl rfl (op_assign rfl ?_)
  refine w_end ?_
  refine seq_normal ?_
  refine w_seq ?_
  refine w_block ?_
  refine w_seq ?_
  refine w_region ?_
  refine w_o rfl rfl rfl (op_load1 agg_3 rfl el_ ?_)
  refine w_o rfl rfl rfl (op_eq rfl rfl ?_)
  refine w_o rfl rfl rfl (op_move rfl ?_)
  first | refine w_known (t := 15) rfl (fun g15 => ?_) (fun g15 => ?_) | refine w_knownB (t := 15) rfl (fun g15 => ?_) (fun g15 => ?_)
  · refine w_u rfl rfl rfl rfl rfl rfl ?_
    refine w_u rfl rfl rfl rfl rfl rfl ?_
    refine w_u rfl rfl rfl rfl rfl rfl ?_
    refine w_u rfl rfl rfl rfl rfl rfl ?_
    refine w_u rfl rfl rfl rfl rfl rfl ?_
    refine w_u rfl rfl rfl rfl rfl rfl ?_
    refine w_u rfl rfl rfl rfl rfl rfl ?_
    refine w_u rfl rfl rfl rfl rfl rfl ?_
    refine w_u rfl rfl rfl rfl rfl rfl ?_
    refine w_u rfl rfl rfl rfl rfl rfl ?_
    refine w_u rfl rfl rfl rfl rfl rfl ?_
    refine w_u rfl rfl rfl rfl rfl rfl ?_
    refine w_u rfl rfl rfl rfl rfl rfl ?_
    refine w_u rfl rfl rfl rfl rfl rfl ?_
    refine w_o rfl rfl rfl (op_pick rfl rfl rfl ?_)
    refine w_o rfl rfl rfl (op_assign rfl ?_)
    refine w_end ?_
    refine seq_normal ?_
    refine w_condT rfl ?_
    refine w_seq ?_
    refine w_region ?_
    refine w_o rfl rfl rfl (op_move rfl ?_)
    refine w_o rfl rfl rfl (op_call rfl rfl rfl ?_)
    refine great_w hv ?_
    refine w_o rfl rfl rfl (op_assign rfl ?_)
    refine w_end ?_
    refine seq_normal ?_
    refine w_ret ?_
    refine block_ret ?_
    refine seq_ret ?_
    exact ret_ret rfl sel_ (k _ (up_up _))
  · refine w_og rfl rfl rfl rfl rfl (op_load1 agg_3 rfl el_ ?_)
    refine w_og rfl rfl rfl rfl rfl (op_eq rfl rfl ?_)
    refine w_og rfl rfl rfl rfl rfl (op_move rfl ?_)
    first | refine w_known (t := 18) rfl (fun g18 => ?_) (fun g18 => ?_) | refine w_knownB (t := 18) rfl (fun g18 => ?_) (fun g18 => ?_)
    · refine w_og rfl rfl rfl rfl rfl (op_load1 agg_65 rfl el_ ?_)
      refine w_og rfl rfl rfl rfl rfl (op_move rfl ?_)
      refine w_og rfl rfl rfl rfl rfl (op_call rfl rfl rfl ?_)
      refine of_w h hb1 (by omega) fun r1 => ?_
      refine w_og rfl rfl rfl rfl rfl (op_pick rfl rfl rfl ?_)
      refine w_og rfl rfl rfl rfl rfl (op_move rfl ?_)
      first | refine w_known (t := 23) rfl (fun g23 => ?_) (fun g23 => ?_) | refine w_knownB (t := 23) rfl (fun g23 => ?_) (fun g23 => ?_)
      · refine w_og rfl rfl rfl rfl rfl (op_load1 agg_65 rfl el_ ?_)
        refine w_og rfl rfl rfl rfl rfl (op_move rfl ?_)
        refine w_og rfl rfl rfl rfl rfl (op_subi rfl rfl (by omega) (by omega) ?_)
        refine w_og rfl rfl rfl rfl rfl (op_call rfl rfl rfl ?_)
        refine of_w h hb1 (by omega) fun r2 => ?_
        refine w_og rfl rfl rfl rfl rfl (op_not rfl ?_)
        refine w_og rfl rfl rfl rfl rfl (op_pick rfl rfl rfl ?_)
        refine w_o rfl rfl rfl (op_pick rfl rfl rfl ?_)
        refine w_o rfl rfl rfl (op_assign rfl ?_)
        refine w_end ?_
        refine seq_normal ?_
        first | refine w_cond rfl (fun hI1 => ?_) (fun hI1 => ?_) | refine w_condB rfl (fun hI1 => ?_) (fun hI1 => ?_)
        · refine w_seq ?_
          refine w_region ?_
          refine w_o rfl rfl rfl (op_move rfl ?_)
          refine w_o rfl rfl rfl (op_call rfl rfl rfl ?_)
          refine great_w hv ?_
          refine w_o rfl rfl rfl (op_assign rfl ?_)
          refine w_end ?_
          refine seq_normal ?_
          refine w_ret ?_
          refine block_ret ?_
          refine seq_ret ?_
          exact ret_ret rfl sel_ (k _ (up_up _))
        · refine w_seq ?_
          refine w_region ?_
          refine w_o rfl rfl rfl (op_load1 agg_3 rfl el_ ?_)
          refine w_o rfl rfl rfl (op_eq rfl rfl ?_)
          refine w_o rfl rfl rfl (op_move rfl ?_)
          first | refine w_known (t := 36) rfl (fun g36 => ?_) (fun g36 => ?_) | refine w_knownB (t := 36) rfl (fun g36 => ?_) (fun g36 => ?_)
          · refine w_u rfl rfl rfl rfl rfl rfl ?_
            refine w_u rfl rfl rfl rfl rfl rfl ?_
            refine w_o rfl rfl rfl (op_pick rfl rfl rfl ?_)
            refine w_o rfl rfl rfl (op_assign rfl ?_)
            refine w_end ?_
            refine seq_normal ?_
            refine w_condT rfl ?_
            refine w_seq ?_
            refine w_region ?_
            refine w_o rfl rfl rfl (op_move rfl ?_)
            refine w_o rfl rfl rfl (op_call rfl rfl rfl ?_)
            refine small_w hv ?_
            refine w_o rfl rfl rfl (op_assign rfl ?_)
            refine w_end ?_
            refine seq_normal ?_
            refine w_ret ?_
            refine block_ret ?_
            refine seq_ret ?_
            exact ret_ret rfl sel_ (k _ (up_low _))
          · refine w_og rfl rfl rfl rfl rfl (op_load1 agg_3 rfl el_ ?_)
            refine w_og rfl rfl rfl rfl rfl (op_eq rfl rfl ?_)
            refine w_o rfl rfl rfl (op_pick rfl rfl rfl ?_)
            refine w_o rfl rfl rfl (op_assign rfl ?_)
            refine w_end ?_
            refine seq_normal ?_
            first | refine w_cond rfl (fun hI2 => ?_) (fun hI2 => ?_) | refine w_condB rfl (fun hI2 => ?_) (fun hI2 => ?_)
            · refine w_seq ?_
              refine w_region ?_
              refine w_o rfl rfl rfl (op_move rfl ?_)
              refine w_o rfl rfl rfl (op_call rfl rfl rfl ?_)
              refine small_w hv ?_
              refine w_o rfl rfl rfl (op_assign rfl ?_)
              refine w_end ?_
              refine seq_normal ?_
              refine w_ret ?_
              refine block_ret ?_
              refine seq_ret ?_
              exact ret_ret rfl sel_ (k _ (up_low _))
            · refine w_skip ?_
              refine block_normal ?_
              refine seq_normal ?_
              refine w_seq ?_
              refine w_region ?_
              refine w_o rfl rfl rfl (op_move rfl ?_)
              refine w_o rfl rfl rfl (op_assign rfl ?_)
              refine w_end ?_
              refine seq_normal ?_
              refine w_ret ?_
              exact ret_ret rfl sel_ (k _ rfl)
      · refine w_u rfl rfl rfl rfl rfl rfl ?_
        refine w_u rfl rfl rfl rfl rfl rfl ?_
        refine w_u rfl rfl rfl rfl rfl rfl ?_
        refine w_u rfl rfl rfl rfl rfl rfl ?_
        refine w_u rfl rfl rfl rfl rfl rfl ?_
        refine w_og rfl rfl rfl rfl rfl (op_pick rfl rfl rfl ?_)
        refine w_o rfl rfl rfl (op_pick rfl rfl rfl ?_)
        refine w_o rfl rfl rfl (op_assign rfl ?_)
        refine w_end ?_
        refine seq_normal ?_
        refine w_condF rfl ?_
        refine w_seq ?_
        refine w_region ?_
        refine w_o rfl rfl rfl (op_load1 agg_3 rfl el_ ?_)
        refine w_o rfl rfl rfl (op_eq rfl rfl ?_)
        refine w_o rfl rfl rfl (op_move rfl ?_)
        first | refine w_known (t := 36) rfl (fun g36 => ?_) (fun g36 => ?_) | refine w_knownB (t := 36) rfl (fun g36 => ?_) (fun g36 => ?_)
        · refine w_u rfl rfl rfl rfl rfl rfl ?_
          refine w_u rfl rfl rfl rfl rfl rfl ?_
          refine w_o rfl rfl rfl (op_pick rfl rfl rfl ?_)
          refine w_o rfl rfl rfl (op_assign rfl ?_)
          refine w_end ?_
          refine seq_normal ?_
          refine w_condT rfl ?_
          refine w_seq ?_
          refine w_region ?_
          refine w_o rfl rfl rfl (op_move rfl ?_)
          refine w_o rfl rfl rfl (op_call rfl rfl rfl ?_)
          refine small_w hv ?_
          refine w_o rfl rfl rfl (op_assign rfl ?_)
          refine w_end ?_
          refine seq_normal ?_
          refine w_ret ?_
          refine block_ret ?_
          refine seq_ret ?_
          exact ret_ret rfl sel_ (k _ (up_low _))
        · refine w_og rfl rfl rfl rfl rfl (op_load1 agg_3 rfl el_ ?_)
          refine w_og rfl rfl rfl rfl rfl (op_eq rfl rfl ?_)
          refine w_o rfl rfl rfl (op_pick rfl rfl rfl ?_)
          refine w_o rfl rfl rfl (op_assign rfl ?_)
          refine w_end ?_
          refine seq_normal ?_
          first | refine w_cond rfl (fun hI2 => ?_) (fun hI2 => ?_) | refine w_condB rfl (fun hI2 => ?_) (fun hI2 => ?_)
          · refine w_seq ?_
            refine w_region ?_
            refine w_o rfl rfl rfl (op_move rfl ?_)
            refine w_o rfl rfl rfl (op_call rfl rfl rfl ?_)
            refine small_w hv ?_
            refine w_o rfl rfl rfl (op_assign rfl ?_)
            refine w_end ?_
            refine seq_normal ?_
            refine w_ret ?_
            refine block_ret ?_
            refine seq_ret ?_
            exact ret_ret rfl sel_ (k _ (up_low _))
          · refine w_skip ?_
            refine block_normal ?_
            refine seq_normal ?_
            refine w_seq ?_
            refine w_region ?_
            refine w_o rfl rfl rfl (op_move rfl ?_)
            refine w_o rfl rfl rfl (op_assign rfl ?_)
            refine w_end ?_
            refine seq_normal ?_
            refine w_ret ?_
            exact ret_ret rfl sel_ (k _ rfl)
    · refine w_u rfl rfl rfl rfl rfl rfl ?_
      refine w_u rfl rfl rfl rfl rfl rfl ?_
      refine w_u rfl rfl rfl rfl rfl rfl ?_
      refine w_og rfl rfl rfl rfl rfl (op_pick rfl rfl rfl ?_)
      refine w_og rfl rfl rfl rfl rfl (op_move rfl ?_)
      refine w_u rfl rfl rfl rfl rfl rfl ?_
      refine w_u rfl rfl rfl rfl rfl rfl ?_
      refine w_u rfl rfl rfl rfl rfl rfl ?_
      refine w_u rfl rfl rfl rfl rfl rfl ?_
      refine w_u rfl rfl rfl rfl rfl rfl ?_
      refine w_og rfl rfl rfl rfl rfl (op_pick rfl rfl rfl ?_)
      refine w_o rfl rfl rfl (op_pick rfl rfl rfl ?_)
      refine w_o rfl rfl rfl (op_assign rfl ?_)
      refine w_end ?_
      refine seq_normal ?_
      refine w_condF rfl ?_
      refine w_seq ?_
      refine w_region ?_
      refine w_o rfl rfl rfl (op_load1 agg_3 rfl el_ ?_)
      refine w_o rfl rfl rfl (op_eq rfl rfl ?_)
      refine w_o rfl rfl rfl (op_move rfl ?_)
      first | refine w_known (t := 36) rfl (fun g36 => ?_) (fun g36 => ?_) | refine w_knownB (t := 36) rfl (fun g36 => ?_) (fun g36 => ?_)
      · refine w_u rfl rfl rfl rfl rfl rfl ?_
        refine w_u rfl rfl rfl rfl rfl rfl ?_
        refine w_o rfl rfl rfl (op_pick rfl rfl rfl ?_)
        refine w_o rfl rfl rfl (op_assign rfl ?_)
        refine w_end ?_
        refine seq_normal ?_
        refine w_condT rfl ?_
        refine w_seq ?_
        refine w_region ?_
        refine w_o rfl rfl rfl (op_move rfl ?_)
        refine w_o rfl rfl rfl (op_call rfl rfl rfl ?_)
        refine small_w hv ?_
        refine w_o rfl rfl rfl (op_assign rfl ?_)
        refine w_end ?_
        refine seq_normal ?_
        refine w_ret ?_
        refine block_ret ?_
        refine seq_ret ?_
        exact ret_ret rfl sel_ (k _ (up_low _))
      · refine w_og rfl rfl rfl rfl rfl (op_load1 agg_3 rfl el_ ?_)
        refine w_og rfl rfl rfl rfl rfl (op_eq rfl rfl ?_)
        refine w_o rfl rfl rfl (op_pick rfl rfl rfl ?_)
        refine w_o rfl rfl rfl (op_assign rfl ?_)
        refine w_end ?_
        refine seq_normal ?_
        first | refine w_cond rfl (fun hI2 => ?_) (fun hI2 => ?_) | refine w_condB rfl (fun hI2 => ?_) (fun hI2 => ?_)
        · refine w_seq ?_
          refine w_region ?_
          refine w_o rfl rfl rfl (op_move rfl ?_)
          refine w_o rfl rfl rfl (op_call rfl rfl rfl ?_)
          refine small_w hv ?_
          refine w_o rfl rfl rfl (op_assign rfl ?_)
          refine w_end ?_
          refine seq_normal ?_
          refine w_ret ?_
          refine block_ret ?_
          refine seq_ret ?_
          exact ret_ret rfl sel_ (k _ (up_low _))
        · refine w_skip ?_
          refine block_normal ?_
          refine seq_normal ?_
          refine w_seq ?_
          refine w_region ?_
          refine w_o rfl rfl rfl (op_move rfl ?_)
          refine w_o rfl rfl rfl (op_assign rfl ?_)
          refine w_end ?_
          refine seq_normal ?_
          refine w_ret ?_
          exact ret_ret rfl sel_ (k _ rfl)
theorem cased_w {H : Hyp} {K : V → Hyp → Prop} {c : Cell} {how : Int} (k : ∀ b1 b2 b3 N, El N b1 0 [c] → El N b2 0 [.int .i64 how] → El N b3 0 [.fn 54 [(b1, 0)]] → K (.one (.c (.fn 55 [(b1, 0), (b2, 0), (b3, 0)]))) (N ++ H)) : CallW Try.prog Xs 38 [.one (.c c), vI how] H K := by
  refine call_of (n := 8) (fun _ => rfl) Try.func38 rfl rfl ?_
  refine w_seq ?_
  refine w_region ?_
  refine w_o rfl rfl rfl (op_box rfl fun b2 => ?_)
  refine w_o rfl rfl rfl (op_box rfl fun b3 => ?_)
  refine w_o rfl rfl rfl (op_assign rfl ?_)
  refine w_end ?_
  refine seq_normal ?_
  refine w_seq ?_
  refine w_region ?_
  refine w_o rfl rfl rfl (op_makeFunc rfl ?_)
  refine w_o rfl rfl rfl (op_alloc zer_65 fun b5 => ?_)
  refine w_on rfl rfl (op_store siz_65 rfl rfl rfl (by (repeat (first | exact Pick.head _ _ _ | apply Pick.tail | apply Pick.app)); first | done | fail) (Nat.le_of_ble_eq_true rfl) rfl ?_)
  refine w_end ?_
  refine seq_normal ?_
  refine w_seq ?_
  refine w_region ?_
  refine w_o rfl rfl rfl (op_makeFunc rfl ?_)
  refine w_o rfl rfl rfl (op_assign rfl ?_)
  refine w_end ?_
  refine seq_normal ?_
  refine w_ret ?_
  exact ret_ret rfl sel_ (k b2 b3 b5 [(b5, _), (b3, _), (b2, _)] (El.row (List.Mem.tail _ (List.Mem.tail _ (List.Mem.head _)))) (El.row (List.Mem.tail _ (List.Mem.head _))) (El.row (List.Mem.head _)))
theorem splice_f0 {v : Int} : ∀ {r : List Sign} {i : Nat} {y : Sign}, r[i]? = some y → splice (r.flatMap encS) (i * 2) [.int .i64 v] = (r.set i ⟨v, y.f1⟩).flatMap encS
  | [], i, y, h => by simp at h
  | x :: r, 0, y, h => by
    simp at h
    subst h
    simp [splice, encS, List.flatMap_cons]
  | x :: r, i + 1, y, h => by
    have ih := splice_f0 (v := v) (r := r) (i := i) (y := y) (by simpa using h)
    simp only [List.set_cons_succ, List.flatMap_cons]
    rw [← ih]
    unfold splice
    rw [show (i + 1) * 2 = (encS x).length + i * 2 by show (i + 1) * 2 = 2 + i * 2; omega, List.take_append, List.take_of_length_le (by omega), Nat.add_sub_cancel_left, Nat.add_assoc, ← List.drop_drop, List.drop_left]
    simp only [List.append_assoc]
/-- The same labels, and the same letters. -/
def AlikeS (r l : List Sign) : Prop := r.length = l.length ∧ ∀ (j : Nat) (y x : Sign), r[j]? = some y → l[j]? = some x → y.f1 = x.f1 ∧ upV y.f0 = upV x.f0
theorem alike_set {r l : List Sign} {i : Nat} {y x : Sign} {v : Int} (h : AlikeS r l) (hy : r[i]? = some y) (hx : l[i]? = some x) (hv : upV v = upV x.f0) : AlikeS (r.set i ⟨v, y.f1⟩) l := by
  refine ⟨by rw [List.length_set]; exact h.1, fun j a b ha hb => ?_⟩
  by_cases e : i = j
  · subst e
    rw [List.getElem?_set_self (List.getElem?_eq_some_iff.1 hy).1] at ha
    cases ha
    rw [hx] at hb; cases hb
    exact ⟨(h.2 i y x hy hx).1, hv⟩
  · rw [List.getElem?_set_ne e] at ha
    exact h.2 j a b ha hb
theorem Case_w {H H1 : Hyp} {K : V → Hyp → Prop} {c : Cell} {l : List Sign} {a to_ how : Int} (h : Sl H1 39 2 c l.length (l.flatMap encS)) (hs : ∀ y ∈ H1, y ∈ H) (hl : l.length ≤ 1000) (hv : ∀ x ∈ l, -1000000000 ≤ x.f0 ∧ x.f0 ≤ 1000000000)
    (k : ∀ c' N e' r, Own 39 2 c' (r.flatMap encS) N → AlikeS r l → K (lineV c' e') (N ++ H)) : CallW Try.prog Xs 18 [lineV c a, vI to_, vI how] H K := by
  have hH := h.sub hs
  have hp := lowP_in l.length a to_
  refine call_of (n := 44) (fun _ => rfl) Try.func18 rfl rfl ?_
  refine w_seq ?_
  refine w_region ?_
  refine w_o rfl rfl rfl (op_box rfl fun b3 => ?_)
  refine w_o rfl rfl rfl (op_alloc zer_24 fun b6 => ?_)
  refine w_end ?_
  refine seq_normal ?_
  refine w_seq ?_
  refine w_region ?_
  refine w_o rfl rfl rfl (op_loadA agg_24 siz_24 rfl rfl el_ ?_)
  refine w_o rfl rfl rfl (op_fieldAddr fa_24_1 rfl ?_)
  refine w_o rfl rfl rfl (op_loadF agg_3 rfl el_ rfl ?_)
  refine w_o rfl rfl rfl (op_move rfl ?_)
  refine w_o rfl rfl rfl (op_call rfl rfl rfl ?_)
  refine places2_w (p := a) (q := to_) hH subs_ ?_
  generalize lowP l.length a to_ = f at *
  generalize highP l.length a to_ = t at *
  refine w_o rfl rfl rfl (op_move rfl ?_)
  refine w_o rfl rfl rfl (op_extract rfl rfl ?_)
  refine w_o rfl rfl rfl (op_extract rfl rfl ?_)
  refine w_o rfl rfl rfl (op_assign rfl ?_)
  refine w_o rfl rfl rfl (op_assign rfl ?_)
  refine w_end ?_
  refine seq_normal ?_
  refine w_seq ?_
  refine w_region ?_
  refine w_o rfl rfl rfl (op_fieldAddr fa_24_0 rfl ?_)
  refine w_o rfl rfl rfl (op_loadF agg_22 rfl el_ rfl ?_)
  refine w_o rfl rfl rfl (op_call rfl rfl rfl ?_)
  refine CloneS_w (l := l) (hH.sub subs_) (by omega) fun c22 N22 h22 => ?_
  refine w_o rfl rfl rfl (op_move rfl ?_)
  refine w_o rfl rfl rfl (op_build rfl ((bld_24 _).trans (rfl : _ = some [_, _])) ?_)
  refine w_o rfl rfl rfl (op_alloc zer_24 fun b9 => ?_)
  refine w_on rfl rfl (op_store siz_24 rfl rfl rfl (by (repeat (first | exact Pick.head _ _ _ | apply Pick.tail | apply Pick.app)); first | done | fail) (Nat.le_of_ble_eq_true rfl) rfl ?_)
  refine w_end ?_
  refine seq_normal ?_
  refine w_seq ?_
  refine w_region ?_
  refine w_o rfl rfl rfl (op_fieldAddr fa_24_0 rfl ?_)
  refine w_o rfl rfl rfl (op_loadF agg_22 rfl el_ rfl ?_)
  refine w_o rfl rfl rfl (op_move rfl ?_)
  refine w_o rfl rfl rfl (op_call rfl rfl rfl ?_)
  refine cased_w fun k1 k2 k3 N28 q1 q2 q3 => ?_
  refine w_o rfl rfl rfl (op_assign rfl ?_)
  refine w_end ?_
  refine seq_normal ?_
  refine w_seq ?_
  refine w_seq ?_
  refine w_region ?_
  refine w_o rfl rfl rfl (op_move rfl ?_)
  refine w_o rfl rfl rfl (op_assign rfl ?_)
  refine w_end ?_
  refine seq_normal ?_
  refine w_block ?_
  refine w_loop (fun q e H' => ∃ (i : Int) (c9 : Cell) (r : List Sign) (Nr : Hyp), f ≤ i ∧ q = (t - i).toNat ∧ Own 39 2 c9 (r.flatMap encS) Nr ∧ AlikeS r l ∧ H' = (b9, .row true 24 1 [c9, .int .i64 t]) :: (Nr ++ (N28 ++ ((b6, .row true 24 1 [.nils, .int .i64 0]) :: H))) ∧ e = [(6, ptrV b6 0), (8, vI t), (9, ptrV b9 0), (10, .one (.c (.fn 55 [(k1, 0), (k2, 0), (k3, 0)]))), (11, vI i)]) ?_ ?_
  · exact ⟨_, _, _, ⟨f, c22, l, N22, by omega, rfl, h22, ⟨rfl, fun j y x hy hx => by rw [hy] at hx; cases hx; exact ⟨rfl, rfl⟩⟩, rfl, rfl⟩, env_, sel_⟩
  · rintro q e H' ⟨i, c9, r, Nr, hi, rfl, hO, hal, rfl, rfl⟩
    refine w_seq ?_
    refine w_seq ?_
    refine w_region ?_
    refine w_o rfl rfl rfl (op_move rfl ?_)
    refine w_o rfl rfl rfl (op_move rfl ?_)
    refine w_o rfl rfl rfl (op_lt rfl rfl ?_)
    refine w_end ?_
    refine seq_normal ?_
    first | refine w_cond rfl (fun hI1 => ?_) (fun hI1 => ?_) | refine w_condB rfl (fun hI1 => ?_) (fun hI1 => ?_)
    · obtain ⟨n, rfl⟩ : ∃ n : Nat, i = (n : Int) := ⟨i.toNat, by omega⟩
      have hnl : n < l.length := by omega
      have hrl := hal.1
      obtain ⟨bo, lo, rfl, rfl, hlo⟩ := hO.row_of (by rw [flatMap_len (enc := encS) (n := 2) (fun _ => rfl)]; omega)
      have hlo2 : lo = l.length := by rw [flatMap_len (enc := encS) (n := 2) (fun _ => rfl)] at hlo; omega
      obtain ⟨x, hx⟩ : ∃ x, l[n]? = some x := ⟨_, List.getElem?_eq_getElem hnl⟩
      obtain ⟨y, hy⟩ : ∃ y, r[n]? = some y := ⟨_, List.getElem?_eq_getElem (by omega)⟩
      refine w_skip ?_
      refine seq_normal ?_
      refine w_seq ?_
      refine w_block ?_
      refine w_drawF ((b9, .row true 24 1 [.sl bo 0 lo (.lim 0), .int .i64 t]) :: (bo, .row true 39 2 (r.flatMap encS)) :: (N28 ++ ((b6, .row true 24 1 [.nils, .int .i64 0]) :: H))) sel_ (by decide +kernel) (by decide +kernel) ?_
      refine f_b (guard_none rfl) rfl rfl rfl rfl (op_fieldAddr fa_24_0 rfl ?_)
      refine f_l (guard_none rfl) rfl rfl rfl sel_ (op_loadF agg_22 rfl el_ rfl rfl) ?_
      refine f_b (guard_none rfl) rfl rfl rfl rfl (op_move rfl ?_)
      refine f_b (guard_none rfl) rfl rfl rfl rfl (op_move rfl ?_)
      refine f_b (guard_none rfl) rfl rfl rfl rfl (op_move rfl ?_)
      refine f_m (guard_none rfl) rfl rfl rfl (op_call rfl rfl rfl ?_)
      refine casedI_w (l := l) (x := x) (i := n) (hH.sub subs_) (q1.sub subs_) (q2.sub subs_) (q3.sub subs_) hx (hv x (List.mem_of_getElem? hx)) hl fun v' hv' => ?_
      refine ⟨sel_, ?_⟩
      refine f_b (guard_none rfl) rfl rfl rfl rfl (op_indexE und_22 siz_39 rfl rfl (by omega) (by omega) ?_)
      refine f_b (guard_none rfl) rfl rfl rfl rfl (op_fieldAddr fa_39_0 rfl ?_)
      refine f_wn (guard_none rfl) rfl rfl rfl (op_store (cells' := (r.set n ⟨v', y.f1⟩).flatMap encS) siz_3 rfl rfl rfl (by (repeat (first | exact Pick.head _ _ _ | apply Pick.tail | apply Pick.app)); first | done | fail) (by rw [flatMap_len (enc := encS) (n := 2) (fun _ => rfl)]; show 0 + ((n : Nat) : Int).toNat * 2 + 0 + 1 ≤ _; omega) (by show splice _ (0 + ((n : Nat) : Int).toNat * 2 + 0) _ = _; rw [show 0 + ((n : Nat) : Int).toNat * 2 + 0 = n * 2 by omega]; exact splice_f0 hy) ?_)
      refine f_end ?_
      refine block_normal ?_
      refine seq_normal ?_
      refine w_region ?_
      refine w_o rfl rfl rfl (op_move rfl ?_)
      refine w_o rfl rfl rfl (op_addi rfl rfl (by omega) (by omega) ?_)
      refine w_o rfl rfl rfl (op_assign rfl ?_)
      refine w_end ?_
      exact loop_normal (k' := (t - (((n : Nat) : Int) + 1)).toNat) (by omega) ⟨((n : Nat) : Int) + 1, .sl bo 0 lo (.lim 0), r.set n ⟨v', y.f1⟩, [(bo, .row true 39 2 ((r.set n ⟨v', y.f1⟩).flatMap encS))], by omega, rfl, .row bo lo _ (by rw [flatMap_len (enc := encS) (n := 2) (fun _ => rfl), List.length_set]; omega), alike_set hal hy hx hv', rfl, rfl⟩ env_ sel_
    · refine w_exit ?_
      refine seq_exit ?_
      refine loop_exit ?_
      refine block_hit rfl ?_
      refine seq_normal ?_
      refine w_seq ?_
      refine w_region ?_
      refine w_o rfl rfl rfl (op_loadA agg_24 siz_24 rfl rfl el_ ?_)
      refine w_on rfl rfl (op_store siz_24 rfl rfl rfl (by (repeat (first | exact Pick.head _ _ _ | apply Pick.tail | apply Pick.app)); first | done | fail) (Nat.le_of_ble_eq_true rfl) rfl ?_)
      refine w_end ?_
      refine seq_normal ?_
      refine w_ret ?_
      exact ret_cellA rfl agg_24 siz_24 (El.row mem_) rfl sel_ (k _ _ _ _ hO hal)
theorem Place_w {H : Hyp} {K : V → Hyp → Prop} {n p : Int} (k : K (vI (min (max p 0) n)) H) : CallW Try.prog Xs 16 [vI n, vI p] H K := by
  refine call_of (n := 9) (fun _ => rfl) Try.func16 rfl rfl ?_
  refine w_seq ?_
  refine w_region ?_
  refine w_o rfl rfl rfl (op_assign rfl ?_)
  refine w_end ?_
  refine seq_normal ?_
  refine w_seq ?_
  refine w_region ?_
  refine w_o rfl rfl rfl (op_move rfl ?_)
  refine w_o rfl rfl rfl (op_call rfl rfl rfl ?_)
  refine High_w ?_
  refine w_o rfl rfl rfl (op_move rfl ?_)
  refine w_o rfl rfl rfl (op_call rfl rfl rfl ?_)
  refine Low_w ?_
  refine w_o rfl rfl rfl (op_assign rfl ?_)
  refine w_end ?_
  refine seq_normal ?_
  refine w_ret ?_
  exact ret_ret rfl sel_ k
end Go.Proofs.Ytdhnjkagmbfoaaa.AM.B
