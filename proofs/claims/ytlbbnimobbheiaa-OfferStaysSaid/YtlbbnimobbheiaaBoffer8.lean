/- An offer is made. -/
import Derived.Test.YtlbbnimobbheiaaAX
import Derived.Test.YtlbbnimobbheiaaBoffer7
set_option linter.unusedVariables false
set_option linter.unusedSimpArgs false
set_option maxRecDepth 10000
set_option maxHeartbeats 4000000
namespace Go.Proofs.Ytlbbnimobbheiaa.AM.B
open Go Go.RowKit
/-- The word of a line. -/
def wordV (l : List Sign) (a : Int) : List Sign := seg l ((fromF l a.toNat : Nat) : Int) a
/-- One candidate more. -/
def offStep (w : List Sign) (L : List (List Sign)) (c : List Sign) : List (List Sign) := if offV w L c then L ++ [withS c 4] else L
/-- What is offered of the first ones. -/
def offP (w : List Sign) (C : List (List Sign)) (i : Nat) : List (List Sign) := (C.take i).foldl (offStep w) []
/-- What is offered. -/
def offL (w : List Sign) (C : List (List Sign)) : List (List Sign) := offP w C C.length
theorem offP_zero (w : List Sign) (C : List (List Sign)) : offP w C 0 = [] := by unfold offP; simp
theorem offP_succ {w : List Sign} {C : List (List Sign)} {i : Nat} {x : List Sign} (hx : C[i]? = some x) : offP w C (i + 1) = offStep w (offP w C i) x := by
  unfold offP
  rw [List.take_add_one, hx, List.foldl_append]
  rfl
theorem offP_yes {w : List Sign} {C : List (List Sign)} {i : Nat} {x : List Sign} (hx : C[i]? = some x) (h : offV w (offP w C i) x = true) : offP w C (i + 1) = offP w C i ++ [withS x 4] := by
  rw [offP_succ hx]; unfold offStep; rw [if_pos h]
theorem offP_no {w : List Sign} {C : List (List Sign)} {i : Nat} {x : List Sign} (hx : C[i]? = some x) (h : offV w (offP w C i) x = false) : offP w C (i + 1) = offP w C i := by
  rw [offP_succ hx]; unfold offStep; rw [if_neg (by rw [h]; decide)]
theorem offStep_len (w : List Sign) (L : List (List Sign)) (c : List Sign) : (offStep w L c).length ≤ L.length + 1 := by
  unfold offStep
  split
  · rw [List.length_append, List.length_singleton]; exact Nat.le_refl _
  · omega
theorem offP_len (w : List Sign) (C : List (List Sign)) : ∀ i, i ≤ C.length → (offP w C i).length ≤ i
  | 0, _ => by rw [offP_zero]; exact Nat.le_refl _
  | i + 1, h => by
    have hx : C[i]? = some C[i] := List.getElem?_eq_getElem (by omega)
    rw [offP_succ hx]
    have h1 := offStep_len w (offP w C i) C[i]
    have h2 := offP_len w C i (by omega)
    omega
/-- What is so of all that is offered. -/
def OffOK (w : List Sign) (L : List (List Sign)) : Prop :=
  (∀ x ∈ L, x.length ≤ 40 ∧ w.length < x.length ∧ beginsI (valsS x) (valsS w) = true ∧ ∀ y ∈ x, y.f1 = 4) ∧ ∀ (i k : Nat) (x y : List Sign), L[i]? = some x → L[k]? = some y → k < i → ¬ y = x
theorem valsS_withS (x : List Sign) (b : Int) : valsS (withS x b) = valsS x := by
  unfold valsS withS; rw [List.map_map]; rfl
theorem offStep_ok {w : List Sign} {L : List (List Sign)} {c : List Sign} (h : OffOK w L) (hc : c.length ≤ 40) : OffOK w (offStep w L c) := by
  unfold offStep
  split
  · rename_i hv
    unfold offV at hv
    simp only [Bool.and_eq_true, decide_eq_true_eq, Bool.not_eq_true', List.any_eq_false] at hv
    obtain ⟨⟨⟨h1, h2, h3⟩, h4⟩, h5⟩ := hv
    refine ⟨fun x hx => ?_, fun i k x y hi hk hik => ?_⟩
    · rcases List.mem_append.1 hx with q | q
      · exact h.1 x q
      · rw [List.mem_singleton] at q
        subst q
        refine ⟨by rw [withS_len]; exact hc, by rw [withS_len]; exact h2, by rw [valsS_withS]; exact h4, fun y hy => ?_⟩
        unfold withS at hy
        rw [List.mem_map] at hy
        obtain ⟨z, _, rfl⟩ := hy
        rfl
    · have hil : i < (L ++ [withS c 4]).length := (List.getElem?_eq_some_iff.1 hi).1
      rw [List.length_append, List.length_singleton] at hil
      rw [List.getElem?_append_left (by omega)] at hk
      rw [List.getElem?_append] at hi
      split at hi
      · exact h.2 i k x y hi hk hik
      · rw [show i - L.length = 0 by omega] at hi
        simp only [List.getElem?_cons_zero, Option.some.injEq] at hi
        subst hi
        rintro rfl
        exact h5 _ (List.mem_of_getElem? hk) (valsS_withS c 4)
  · exact h
theorem offP_ok (w : List Sign) (C : List (List Sign)) (hC : ∀ x ∈ C, x.length ≤ 40) : ∀ i, i ≤ C.length → OffOK w (offP w C i)
  | 0, _ => by rw [offP_zero]; exact ⟨(fun x hx => by cases hx), (fun i k x y hi => by simp at hi)⟩
  | i + 1, h => by
    have hx : C[i]? = some C[i] := List.getElem?_eq_getElem (by omega)
    rw [offP_succ hx]
    exact offStep_ok (offP_ok w C hC i (by omega)) (hC _ (List.mem_of_getElem? hx))
theorem in_snocM {Ni Nc : Hyp} {cs : List Cell} {cc : Cell} {L : List (List Sign)} {x : List Sign} (hcl : cs.length = L.length) (hin : ∀ (j : Nat) (c : Cell) (l : List Sign), cs[j]? = some c → L[j]? = some l → Sl Ni 47 2 c l.length (l.flatMap encS)) (hC : Sl Nc 47 2 cc x.length (x.flatMap encS)) :
    ∀ (j : Nat) (c : Cell) (l : List Sign), (cs ++ [cc])[j]? = some c → (L ++ [x])[j]? = some l → Sl (Nc ++ Ni) 47 2 c l.length (l.flatMap encS) := by
  intro j c2 l2 h h'
  rw [List.getElem?_append] at h h'
  by_cases q : j < L.length
  · rw [if_pos (by omega)] at h
    rw [if_pos q] at h'
    exact (hin j c2 l2 h h').app
  · rw [if_neg (by omega), hcl] at h
    rw [if_neg q] at h'
    have e1 : j - L.length = 0 := by
      rcases Nat.lt_or_ge (j - L.length) 1 with q2 | q2
      · omega
      · rw [List.getElem?_eq_none (by simpa using q2)] at h; cases h
    rw [e1] at h h'
    simp only [List.getElem?_cons_zero, Option.some.injEq] at h h'
    subst h; subst h'
    exact hC.sub fun y hy => List.mem_append_left _ hy
theorem New_w {H : Hyp} {K : V → Hyp → Prop} {c cc : Cell} {l : List Sign} {a : Int} {C : List (List Sign)} (h : Sl H 47 2 c l.length (l.flatMap encS)) (hC : KVo H C cc) (hl : l.length ≤ 1000) (hCl : C.length ≤ 1000) (hCe : ∀ x ∈ C, x.length ≤ 40)
    (k1 : rightL l a = false → K (.tup [.c .nilp, .c (.int .i64 2)]) H) (k2 : rightL l a = true → (offL (wordV l a) C).length = 0 → K (.tup [.c .nilp, .c (.int .i64 7)]) H)
    (k3 : rightL l a = true → (offL (wordV l a) C).length ≠ 0 → ∀ b cx cw cl N, Sl N 47 2 cx l.length (l.flatMap encS) → Sl N 47 2 cw (wordV l a).length ((wordV l a).flatMap encS) → KVo N (offL (wordV l a) C) cl → K (.tup [.c (.ptr b 0), .c (.int .i64 0)]) ((b, offRow cx a cw cl (-1)) :: (N ++ H))) : CallW Try.prog Xs 8 [lineV c a, .one (.c cc)] H K := by
  obtain ⟨cs, g1, g2, g3⟩ := hC
  unfold offRow at k3
  have hwl : (wordV l a).length ≤ l.length := seg_len l _ _
  refine call_of (n := 71) (fun _ => rfl) Try.func8 rfl rfl ?_
  refine w_seq ?_
  refine w_region ?_
  refine w_o rfl rfl rfl (op_box rfl fun b2 => ?_)
  refine w_o rfl rfl rfl (op_assign rfl ?_)
  refine w_o rfl rfl rfl (op_assign rfl ?_)
  refine w_end ?_
  refine seq_normal ?_
  refine w_seq ?_
  refine w_seq ?_
  refine w_region ?_
  refine w_o rfl rfl rfl (op_loadA agg_24 siz_24 rfl rfl el_ ?_)
  refine w_o rfl rfl rfl (op_call rfl rfl rfl ?_)
  refine Right_line_w h subs_ hl ?_
  refine w_o rfl rfl rfl (op_not rfl ?_)
  refine w_end ?_
  refine seq_normal ?_
  first | refine w_cond rfl (fun hI1 => ?_) (fun hI1 => ?_) | refine w_condB rfl (fun hI1 => ?_) (fun hI1 => ?_)
  · refine w_seq ?_
    refine w_region ?_
    refine w_o rfl rfl rfl (op_assign rfl ?_)
    refine w_o rfl rfl rfl (op_assign rfl ?_)
    refine w_end ?_
    refine seq_normal ?_
    refine w_ret ?_
    refine seq_ret ?_
    exact ret_ret rfl sel_ (k1 (by simpa using hI1))
  · have hr : rightL l a = true := by simpa using hI1
    have hra : 0 ≤ a ∧ a ≤ l.length := by
      have := of_decide_eq_true hr; exact ⟨this.1, this.2.1⟩
    have hfr := fromF_le l a.toNat
    refine w_skip ?_
    refine seq_normal ?_
    refine w_seq ?_
    refine w_region ?_
    refine w_o rfl rfl rfl (op_loadA agg_24 siz_24 rfl rfl el_ ?_)
    refine w_o rfl rfl rfl (op_call rfl rfl rfl ?_)
    refine Word_w h subs_ hl (fun _ => ?_) (fun q => by rw [hr] at q; cases q)
    refine w_o rfl rfl rfl (op_move rfl ?_)
    refine w_o rfl rfl rfl (op_extract rfl rfl ?_)
    refine w_o rfl rfl rfl (op_extract rfl rfl ?_)
    refine w_o rfl rfl rfl (op_assign rfl ?_)
    refine w_o rfl rfl rfl (op_assign rfl ?_)
    refine w_end ?_
    refine seq_normal ?_
    refine w_seq ?_
    refine w_drawF ((b2, .row true 24 1 [c, .int .i64 a]) :: H) sel_ (by decide +kernel) (by decide +kernel) ?_
    refine f_b (guard_none rfl) rfl rfl rfl rfl (op_fieldAddr fa_24_0 rfl ?_)
    refine f_a (guard_none rfl) rfl rfl rfl (by decide +kernel) (op_loadF agg_22 rfl el_ rfl ?_)
    refine f_m (guard_none rfl) rfl rfl rfl (op_call rfl rfl rfl ?_)
    refine CloneS_w (l := l) h.cons (by omega) fun c22 N22 h22 => ?_
    refine ⟨sel_, ?_⟩
    refine f_b (guard_none rfl) rfl rfl rfl rfl (op_fieldAddr fa_24_1 rfl ?_)
    refine f_l (guard_none rfl) rfl rfl rfl sel_ (op_loadF agg_3 rfl el_ rfl rfl) ?_
    refine f_b (guard_none rfl) rfl rfl rfl rfl (op_build rfl ((bld_24 _).trans (rfl : _ = some [_, _])) ?_)
    refine f_b (guard_none rfl) rfl rfl rfl rfl (op_fieldAddr fa_24_0 rfl ?_)
    refine f_l (guard_none rfl) rfl rfl rfl sel_ (op_loadF agg_22 rfl el_ rfl rfl) ?_
    refine f_b (guard_none rfl) rfl rfl rfl rfl (op_move rfl ?_)
    refine f_b (guard_none rfl) rfl rfl rfl rfl (op_move rfl ?_)
    refine f_sliceT (enc := encS) (xs := l) (guard_none rfl) rfl rfl rfl sel_ elm_22 siz_47 (by decide) rfl h (fun y hy => List.Mem.tail _ hy) (fun _ => rfl) rfl rfl (by omega) (by omega) (by omega) fun c30 h30 => ?_
    have e30 : (l.drop ((fromF l a.toNat : Nat) : Int).toNat).take (a.toNat - ((fromF l a.toNat : Nat) : Int).toNat) = wordV l a := rfl
    rw [e30] at h30
    refine f_m (guard_none rfl) rfl rfl rfl (op_call rfl rfl rfl ?_)
    refine CloneS_w (l := wordV l a) h30.cons.app (by omega) fun c31 N31 h31 => ?_
    refine ⟨sel_, ?_⟩
    refine f_b (guard_none rfl) rfl rfl rfl rfl (op_build rfl ((bld_54 _).trans (rfl : _ = some [_, _, _, _, _])) ?_)
    refine f_m (guard_none rfl) rfl rfl rfl (op_box rfl fun b33 => ?_)
    refine ⟨sel_, ?_⟩
    refine f_b (guard_none rfl) rfl rfl rfl rfl (op_assign rfl ?_)
    refine f_end ?_
    refine seq_normal ?_
    refine w_seq ?_
    refine w_region ?_
    refine w_o rfl rfl rfl (op_move rfl ?_)
    refine w_o rfl rfl rfl (op_nilCheck rfl ?_)
    refine w_o rfl rfl rfl (op_fieldAddr fa_54_1 rfl ?_)
    refine w_o rfl rfl rfl (op_loadF agg_22 rfl el_ rfl ?_)
    refine w_o rfl rfl rfl (op_call rfl rfl rfl ?_)
    have hX : Sl N22 47 2 c22 l.length (l.flatMap encS) := h22.slT (fun _ => rfl) (by decide) (fun _ q => q)
    have hW : Sl N31 47 2 c31 (wordV l a).length ((wordV l a).flatMap encS) := h31.slT (fun _ => rfl) (by decide) (fun _ q => q)
    refine offered_w (w := wordV l a) (hW.sub subs_) (by omega) fun b1 b3 cv N5 h5 => ?_
    have hV : Sl N5 3 1 cv (valsS (wordV l a)).length ((valsS (wordV l a)).flatMap encI) := h5.slT (fun _ => rfl) (by decide) (fun _ q => q)
    refine w_o rfl rfl rfl (op_assign rfl ?_)
    refine w_end ?_
    refine seq_normal ?_
    refine w_seq ?_
    refine w_seq ?_
    refine w_region ?_
    refine w_o rfl rfl rfl (op_move rfl ?_)
    refine w_o rfl rfl rfl (op_lenC und_25 rfl g1.lenC ?_)
    refine w_o rfl rfl rfl (op_move rfl ?_)
    refine w_end ?_
    refine seq_normal ?_
    refine w_block ?_
    refine w_loop (fun q e H' => ∃ (i : Nat) (co : Cell) (ds : List Cell) (No Ni : Hyp), i ≤ C.length ∧ q = C.length - i ∧ Own 22 1 co (ds.flatMap encC) No ∧ ds.length = (offP (wordV l a) C i).length ∧ (∀ (j : Nat) (c : Cell) (x : List Sign), ds[j]? = some c → (offP (wordV l a) C i)[j]? = some x → Sl Ni 47 2 c x.length (x.flatMap encS)) ∧ H' = (b33, .row true 54 1 [c22, .int .i64 a, c31, co, .int .i64 (-1)]) :: (No ++ (Ni ++ ((b3, .row true 64 1 [cv]) :: (N5 ++ ((b1, .row true 22 1 [c31]) :: (N31 ++ (N22 ++ H))))))) ∧ e = [(8, ptrV b33 0), (9, .one (.c (.fn 43 [(b1, 0), (b3, 0)]))), (39, .one (.c cc)), (40, vI (cs.length : Nat)), (41, vI (i : Nat))]) ?_ ?_
    · exact ⟨_, _, _, ⟨0, .nils, [], [], [], Nat.zero_le _, rfl, .nil, by rw [offP_zero]; rfl, (fun j c x h => by simp at h), rfl, rfl⟩, env_, sel_⟩
    · rintro q e H' ⟨i, co, ds, No, Ni, hi, rfl, hO, hcl, hin, rfl, rfl⟩
      have hpl := offP_len (wordV l a) C i hi
      have hok := offP_ok (wordV l a) C hCe i hi
      refine w_seq ?_
      refine w_region ?_
      refine w_o rfl rfl rfl (op_lt rfl rfl ?_)
      refine w_end ?_
      refine seq_normal ?_
      refine w_seq ?_
      first | refine w_cond rfl (fun hI2 => ?_) (fun hI2 => ?_) | refine w_condB rfl (fun hI2 => ?_) (fun hI2 => ?_)
      · obtain ⟨x, hx⟩ : ∃ x, C[i]? = some x := ⟨_, List.getElem?_eq_getElem (by omega)⟩
        have hxl := hCe x (List.mem_of_getElem? hx)
        refine w_skip ?_
        refine seq_normal ?_
        refine w_seq ?_
        refine w_block ?_
        refine w_seq ?_
        refine w_region ?_
        refine w_o rfl rfl rfl (op_indexT (enc := encC) (xs := cs) (j := i) und_25 siz_22 rfl rfl (g1.sub subs_) (fun _ => rfl) rfl (by omega) fun b43 o43 z43 h43 e43 => ?_)
        refine w_o rfl rfl rfl (op_load1 agg_22 rfl el_ ?_)
        refine w_o rfl rfl rfl (op_assign rfl ?_)
        refine w_end ?_
        refine seq_normal ?_
        refine w_seq ?_
        refine w_region ?_
        refine w_o rfl rfl rfl (op_move rfl ?_)
        refine w_o rfl rfl rfl (op_move rfl ?_)
        refine w_o rfl rfl rfl (op_nilCheck rfl ?_)
        refine w_o rfl rfl rfl (op_fieldAddr fa_54_2 rfl ?_)
        refine w_o rfl rfl rfl (op_loadF agg_25 rfl el_ rfl ?_)
        refine w_o rfl rfl rfl (op_move rfl ?_)
        refine w_o rfl rfl rfl (op_call rfl rfl rfl ?_)
        have hx43 := g3 i z43 x h43 hx
        have hD : Sl No 22 1 co ds.length (ds.flatMap encC) := hO.slT (fun _ => rfl) (by decide) (fun _ q => q)
        refine offered1_w (L := offP (wordV l a) C i) (c := x) (w := wordV l a) ⟨ds, hD.sub subs_, hcl, fun j d z p q => (hin j d z p q).sub subs_⟩ (hx43.sub subs_) (El.row mem_) (hW.sub subs_) (El.row mem_) (hV.sub subs_) (by omega) (by omega) (by omega) (fun y hy => by have := (hok.1 y hy).1; omega) ?_
        refine w_end ?_
        refine seq_normal ?_
        first | refine w_cond rfl (fun hI3 => ?_) (fun hI3 => ?_) | refine w_condB rfl (fun hI3 => ?_) (fun hI3 => ?_)
        · refine w_drawF ((b33, .row true 54 1 [c22, .int .i64 a, c31, co, .int .i64 (-1)]) :: (Ni ++ ((b3, .row true 64 1 [cv]) :: (N5 ++ ((b1, .row true 22 1 [c31]) :: (N31 ++ (N22 ++ H))))))) sel_ (by decide +kernel) (by decide +kernel) ?_
          refine f_b (guard_none rfl) rfl rfl rfl rfl (op_move rfl ?_)
          refine f_b (guard_none rfl) rfl rfl rfl rfl (op_move rfl ?_)
          refine f_b (guard_none rfl) rfl rfl rfl rfl (op_nilCheck rfl ?_)
          refine f_b (guard_none rfl) rfl rfl rfl rfl (op_fieldAddr fa_54_2 rfl ?_)
          refine f_l (guard_none rfl) rfl rfl rfl sel_ (op_loadF agg_25 rfl el_ rfl rfl) ?_
          refine f_b (guard_none rfl) rfl rfl rfl rfl (op_move rfl ?_)
          refine f_m (guard_none rfl) rfl rfl rfl (op_call rfl rfl rfl ?_)
          refine With_w (l := x) (H1 := H) hx43 subs_ (by omega) fun c58 N58 h58 => ?_
          refine ⟨sel_, ?_⟩
          refine f_m (guard_none rfl) rfl rfl rfl (op_buildSlice rfl (bsl_25 _ _ _ (rfl : _ = some [_]) rfl (by decide)) fun b59 => ?_)
          refine ⟨sel_, ?_⟩
          refine f_m (guard_none rfl) rfl rfl rfl (op_append1 (xs := ds) (enc := encC) (z0 := c58) elm_25 inf_22 zer_22 (by decide) und_25 rfl rfl hO (fun _ => rfl) (by (repeat (first | exact PickL.front _ _ | exact PickL.nil _ | apply PickL.skip | apply PickL.skipL)); first | done | fail) rfl (by omega) fun c60 N60 h60 => ?_)
          refine ⟨sel_, ?_⟩
          refine f_b (guard_none rfl) rfl rfl rfl rfl (op_nilCheck rfl ?_)
          refine f_b (guard_none rfl) rfl rfl rfl rfl (op_fieldAddr fa_54_2 rfl ?_)
          refine f_wn (guard_none rfl) rfl rfl rfl (op_store siz_25 rfl rfl rfl (by (repeat (first | exact Pick.head _ _ _ | apply Pick.tail | apply Pick.app)); first | done | fail) (Nat.le_of_ble_eq_true rfl) rfl ?_)
          refine f_end ?_
          refine block_normal ?_
          refine seq_normal ?_
          refine w_region ?_
          refine w_o rfl rfl rfl (op_addi rfl rfl (by omega) (by omega) ?_)
          refine w_o rfl rfl rfl (op_move rfl ?_)
          refine w_end ?_
          first
            | exact loop_normal (k' := C.length - (i + 1)) (by omega) ⟨i + 1, c60, ds ++ [c58], N60, N58 ++ Ni, by omega, rfl, h60, by rw [offP_yes hx hI3, List.length_append, List.length_append, hcl]; rfl, (by rw [offP_yes hx hI3]; exact in_snocM hcl hin (h58.slT (fun _ => rfl) (by decide) (fun _ q => q))), rfl, rfl⟩ env_ sel_
            | exact loop_normal (k' := C.length - (i + 1)) (by omega) ⟨i + 1, co, ds, No, Ni, by omega, rfl, hO, by rw [offP_no hx (by simpa using hI3)]; exact hcl, (by rw [offP_no hx (by simpa using hI3)]; exact hin), rfl, rfl⟩ env_ sel_
        · refine w_skip ?_
          refine block_normal ?_
          refine seq_normal ?_
          refine w_region ?_
          refine w_o rfl rfl rfl (op_addi rfl rfl (by omega) (by omega) ?_)
          refine w_o rfl rfl rfl (op_move rfl ?_)
          refine w_end ?_
          first
            | exact loop_normal (k' := C.length - (i + 1)) (by omega) ⟨i + 1, c60, ds ++ [c58], N60, N58 ++ Ni, by omega, rfl, h60, by rw [offP_yes hx hI3, List.length_append, List.length_append, hcl]; rfl, (by rw [offP_yes hx hI3]; exact in_snocM hcl hin (h58.slT (fun _ => rfl) (by decide) (fun _ q => q))), rfl, rfl⟩ env_ sel_
            | exact loop_normal (k' := C.length - (i + 1)) (by omega) ⟨i + 1, co, ds, No, Ni, by omega, rfl, hO, by rw [offP_no hx (by simpa using hI3)]; exact hcl, (by rw [offP_no hx (by simpa using hI3)]; exact hin), rfl, rfl⟩ env_ sel_
      · refine w_exit ?_
        refine seq_exit ?_
        refine loop_exit ?_
        refine block_hit rfl ?_
        refine seq_normal ?_
        refine w_seq ?_
        refine w_seq ?_
        refine w_region ?_
        refine w_o rfl rfl rfl (op_move rfl ?_)
        refine w_o rfl rfl rfl (op_nilCheck rfl ?_)
        refine w_o rfl rfl rfl (op_fieldAddr fa_54_2 rfl ?_)
        refine w_o rfl rfl rfl (op_loadF agg_25 rfl el_ rfl ?_)
        refine w_o rfl rfl rfl (op_lenC und_25 rfl (by first | exact ⟨rfl, fun s e => by cases e⟩ | exact Sl.lenC (by assumption) | (refine Own.lenT (by assumption) ?_ ?_ <;> first | exact fun _ => rfl | decide)) ?_)
        refine w_o rfl rfl rfl (op_eq rfl rfl ?_)
        refine w_end ?_
        refine seq_normal ?_
        first | refine w_cond rfl (fun hI4 => ?_) (fun hI4 => ?_) | refine w_condB rfl (fun hI4 => ?_) (fun hI4 => ?_)
        · have hi' : i = C.length := by omega
          subst hi'
          refine w_seq ?_
          refine w_region ?_
          refine w_o rfl rfl rfl (op_assign rfl ?_)
          refine w_o rfl rfl rfl (op_assign rfl ?_)
          refine w_end ?_
          refine seq_normal ?_
          refine w_ret ?_
          refine seq_ret ?_
          exact ret_ret rfl sel_ (k2 hr (by show (offP (wordV l a) C C.length).length = 0; omega))
        · have hi' : i = C.length := by omega
          subst hi'
          refine w_skip ?_
          refine seq_normal ?_
          refine w_seq ?_
          refine w_region ?_
          refine w_o rfl rfl rfl (op_move rfl ?_)
          refine w_o rfl rfl rfl (op_assign rfl ?_)
          refine w_o rfl rfl rfl (op_assign rfl ?_)
          refine w_end ?_
          refine seq_normal ?_
          refine w_ret ?_
          have hD : Sl No 22 1 co ds.length (ds.flatMap encC) := hO.slT (fun _ => rfl) (by decide) (fun _ q => q)
          exact ret_ret rfl sel_ (k3 hr (by show (offP (wordV l a) C C.length).length ≠ 0; omega) b33 c22 c31 co (No ++ (Ni ++ (N31 ++ N22))) (hX.sub subs_) (hW.sub subs_) ⟨ds, hD.sub subs_, hcl, fun j d z p q => (hin j d z p q).sub subs_⟩)
end Go.Proofs.Ytlbbnimobbheiaa.AM.B
