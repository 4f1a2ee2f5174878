/- The document's distance; the nearest. -/
import Derived.Test.YtpkdncjopbbbhaaAX
import Derived.Test.YtpkdncjopbbbhaaBstat1
set_option linter.unusedVariables false
set_option linter.unusedSimpArgs false
set_option maxRecDepth 10000
set_option maxHeartbeats 4000000
namespace Go.Proofs.Ytpkdncjopbbbhaa.AM.B
open Go Go.RowKit
section
variable {H : Hyp} {K : V → Hyp → Prop} {a b c : Int}
theorem R01LowS_w (k : K (vI (min a b)) H) : CallW Try.prog Xs 23 [vI a, vI b] H K := by
  refine call_of (n := 10) (fun _ => rfl) Try.func23 rfl rfl ?_
  refine w_seq ?_
  refine w_region ?_
  refine w_o rfl rfl rfl (op_assign rfl ?_)
  refine w_end ?_
  refine seq_normal ?_
  refine w_seq ?_
  refine w_seq ?_
  refine w_region ?_
  refine w_o rfl rfl rfl (op_move rfl ?_)
  refine w_o rfl rfl rfl (op_move rfl ?_)
  refine w_o rfl rfl rfl (op_lt rfl rfl ?_)
  refine w_end ?_
  refine seq_normal ?_
  first | refine w_cond rfl (fun hI1 => ?_) (fun hI1 => ?_) | refine w_condB rfl (fun hI1 => ?_) (fun hI1 => ?_)
  · rw [show min a b = a by omega] at k
    refine w_seq ?_
    refine w_region ?_
    refine w_o rfl rfl rfl (op_move rfl ?_)
    refine w_o rfl rfl rfl (op_assign rfl ?_)
    refine w_end ?_
    refine seq_normal ?_
    refine w_ret ?_
    refine seq_ret ?_
    exact ret_ret rfl sel_ k
  · rw [show min a b = b by omega] at k
    refine w_skip ?_
    refine seq_normal ?_
    refine w_seq ?_
    refine w_region ?_
    refine w_o rfl rfl rfl (op_move rfl ?_)
    refine w_o rfl rfl rfl (op_assign rfl ?_)
    refine w_end ?_
    refine seq_normal ?_
    refine w_ret ?_
    exact ret_ret rfl sel_ k
theorem Least_w (k : K (vI (min a (min b c))) H) : CallW Try.prog Xs 21 [vI a, vI b, vI c] H K := by
  refine call_of (n := 12) (fun _ => rfl) Try.func21 rfl rfl ?_
  refine w_seq ?_
  refine w_region ?_
  refine w_o rfl rfl rfl (op_assign rfl ?_)
  refine w_end ?_
  refine seq_normal ?_
  refine w_seq ?_
  refine w_region ?_
  refine w_o rfl rfl rfl (op_move rfl ?_)
  refine w_o rfl rfl rfl (op_move rfl ?_)
  refine w_o rfl rfl rfl (op_move rfl ?_)
  refine w_o rfl rfl rfl (op_call rfl rfl rfl ?_)
  refine R01LowS_w ?_
  refine w_o rfl rfl rfl (op_call rfl rfl rfl ?_)
  refine R01LowS_w ?_
  refine w_o rfl rfl rfl (op_assign rfl ?_)
  refine w_end ?_
  refine seq_normal ?_
  refine w_ret ?_
  exact ret_ret rfl sel_ k
end
/-- The beginning of a row. -/
def rowF (f : Nat → Int) (k : Nat) : List Int := (List.range k).map f
theorem rowF_len (f : Nat → Int) (k : Nat) : (rowF f k).length = k := by unfold rowF; rw [List.length_map, List.length_range]
theorem rowF_snoc (f : Nat → Int) (k : Nat) : rowF f (k + 1) = rowF f k ++ [f k] := by unfold rowF; rw [List.range_succ, List.map_append]; rfl
theorem rowF_get {f : Nat → Int} {k j : Nat} (h : j < k) : (rowF f k)[j]? = some (f j) := by
  unfold rowF
  rw [List.getElem?_map, List.getElem?_range h]; rfl
theorem rowF_tab (f : Nat → Int) (m : Nat) : rowF f (m + 1) = tab m f := rfl
theorem in_snocT {Ni Nc : Hyp} {cs : List Cell} {cc : Cell} {m i : Nat} {F : Nat → Nat → Int} (hcl : cs.length = i) (hin : ∀ (j : Nat) (c : Cell), cs[j]? = some c → Sl Ni 3 1 c (tab m (F j)).length ((tab m (F j)).flatMap encI)) (hC : Sl Nc 3 1 cc (tab m (F i)).length ((tab m (F i)).flatMap encI)) :
    ∀ (j : Nat) (c : Cell), (cs ++ [cc])[j]? = some c → Sl (Nc ++ Ni) 3 1 c (tab m (F j)).length ((tab m (F j)).flatMap encI) := by
  intro j c2 h
  rw [List.getElem?_append] at h
  by_cases q : j < cs.length
  · rw [if_pos q] at h
    exact (hin j c2 h).app
  · rw [if_neg q] at h
    have e1 : j - cs.length = 0 := by
      rcases Nat.lt_or_ge (j - cs.length) 1 with q2 | q2
      · omega
      · rw [List.getElem?_eq_none (by simpa using q2)] at h; cases h
    rw [e1] at h
    simp only [List.getElem?_cons_zero, Option.some.injEq] at h
    subst h
    rw [show j = i by omega]
    exact hC.sub fun y hy => List.mem_append_left _ hy
theorem R41Distance_w {H H1 H2 : Hyp} {K : V → Hyp → Prop} {c c' : Cell} {a b : List Sign} (h : Sl H1 43 2 c a.length (a.flatMap encS)) (hs : ∀ y ∈ H1, y ∈ H) (h' : Sl H2 43 2 c' b.length (b.flatMap encS)) (hs' : ∀ y ∈ H2, y ∈ H) (hla : a.length ≤ 1000) (hlb : b.length ≤ 1000)
    (k0 : K (vI (lev (valsS a) (valsS b) a.length b.length : Nat)) H) : CallW Try.prog Xs 11 [.one (.c c), .one (.c c')] H K := by
  have hA0 := h.sub hs
  have hB0 := h'.sub hs'
  have hva := fun {i : Nat} {x : Sign} (q : a[i]? = some x) => valsS_at q
  have hvb := fun {i : Nat} {x : Sign} (q : b[i]? = some x) => valsS_at q
  have hlev := fun i k => lev_le (valsS a) (valsS b) i k
  generalize hwv : valsS a = v at *
  generalize hww : valsS b = w at *
  refine call_of (n := 91) (fun _ => rfl) Try.func11 rfl rfl ?_
  refine w_seq ?_
  refine w_region ?_
  refine w_o rfl rfl rfl (op_assign rfl ?_)
  refine w_end ?_
  refine seq_normal ?_
  refine w_seq ?_
  refine w_region ?_
  refine w_o rfl rfl rfl (op_buildSlice rfl (bsl_44 _ _ _ (rfl : _ = some []) rfl (by decide)) fun b10 => ?_)
  refine w_o rfl rfl rfl (op_assign rfl ?_)
  refine w_end ?_
  refine seq_normal ?_
  refine w_seq ?_
  refine w_seq ?_
  refine w_region ?_
  refine w_o rfl rfl rfl (op_assign rfl ?_)
  refine w_end ?_
  refine seq_normal ?_
  refine w_block ?_
  refine w_loop (fun q e H' => ∃ (i : Nat) (co : Cell) (ds : List Cell) (No Ni : Hyp), i ≤ a.length + 1 ∧ q = a.length + 1 - i ∧ Own 29 1 co (ds.flatMap encC) No ∧ ds.length = i ∧ (∀ (j : Nat) (c : Cell), ds[j]? = some c → Sl Ni 3 1 c (tab b.length (fun k => (lev v w j k : Int))).length ((tab b.length (fun k => (lev v w j k : Int))).flatMap encI)) ∧ H' = No ++ (Ni ++ H) ∧ e = [(0, .one (.c c)), (1, .one (.c c')), (5, .one (.c co)), (6, vI (i : Nat))]) ?_ ?_
  · exact ⟨_, _, _, ⟨0, .sl b10 0 0 (.lim 0), [], [(b10, .row true 29 1 [])], [], Nat.zero_le _, rfl, .row b10 0 [] rfl, rfl, (fun j c h => by simp at h), rfl, rfl⟩, env_, sel_⟩
  · rintro q e H' ⟨i, co, ds, No, Ni, hi, rfl, hO, hcl, hin, rfl, rfl⟩
    have hD : Sl No 29 1 co ds.length (ds.flatMap encC) := hO.slT (fun _ => rfl) (by decide) (fun _ q => q)
    refine w_seq ?_
    refine w_seq ?_
    refine w_region ?_
    refine w_o rfl rfl rfl (op_move rfl ?_)
    refine w_o rfl rfl rfl (op_move rfl ?_)
    refine w_o rfl rfl rfl (op_lenC und_22 rfl h.lenC ?_)
    refine w_o rfl rfl rfl (op_le rfl rfl ?_)
    refine w_end ?_
    refine seq_normal ?_
    first | refine w_cond rfl (fun hI1 => ?_) (fun hI1 => ?_) | refine w_condB rfl (fun hI1 => ?_) (fun hI1 => ?_)
    · refine w_skip ?_
      refine seq_normal ?_
      refine w_seq ?_
      refine w_block ?_
      refine w_seq ?_
      refine w_region ?_
      refine w_o rfl rfl rfl (op_buildSlice rfl (bsl_29 _ _ _ (rfl : _ = some []) rfl (by decide)) fun b17 => ?_)
      refine w_o rfl rfl rfl (op_assign rfl ?_)
      refine w_end ?_
      refine seq_normal ?_
      refine w_seq ?_
      refine w_seq ?_
      refine w_region ?_
      refine w_o rfl rfl rfl (op_assign rfl ?_)
      refine w_end ?_
      refine seq_normal ?_
      refine w_block ?_
      refine w_loop (fun q e G' => ∃ (k : Nat) (cr : Cell) (Nr : Hyp), k ≤ b.length + 1 ∧ q = b.length + 1 - k ∧ Own 3 1 cr ((rowF (fun j => (lev v w i j : Int)) k).flatMap encI) Nr ∧ G' = Nr ++ (No ++ (Ni ++ H)) ∧ e = [(0, .one (.c c)), (1, .one (.c c')), (5, .one (.c co)), (6, vI (i : Nat)), (7, .one (.c cr)), (8, vI (k : Nat))]) ?_ ?_
      · exact ⟨_, _, _, ⟨0, .sl b17 0 0 (.lim 0), [(b17, .row true 3 1 [])], Nat.zero_le _, rfl, .row b17 0 [] rfl, rfl, rfl⟩, env_, sel_⟩
      · rintro q e G' ⟨k, cr, Nr, hk, rfl, hR, rfl, rfl⟩
        have hrl := rowF_len (fun j => (lev v w i j : Int)) k
        have hRs : Sl Nr 3 1 cr (rowF (fun j => (lev v w i j : Int)) k).length ((rowF (fun j => (lev v w i j : Int)) k).flatMap encI) := hR.slT (fun _ => rfl) (by decide) (fun _ q => q)
        refine w_seq ?_
        refine w_seq ?_
        refine w_region ?_
        refine w_o rfl rfl rfl (op_move rfl ?_)
        refine w_o rfl rfl rfl (op_move rfl ?_)
        refine w_o rfl rfl rfl (op_lenC und_22 rfl h'.lenC ?_)
        refine w_o rfl rfl rfl (op_le rfl rfl ?_)
        refine w_end ?_
        refine seq_normal ?_
        first | refine w_cond rfl (fun hI2 => ?_) (fun hI2 => ?_) | refine w_condB rfl (fun hI2 => ?_) (fun hI2 => ?_)
        · refine w_skip ?_
          refine seq_normal ?_
          refine w_seq ?_
          refine w_block ?_
          refine w_seq ?_
          refine w_seq ?_
          refine w_region ?_
          refine w_o rfl rfl rfl (op_move rfl ?_)
          refine w_o rfl rfl rfl (op_eq rfl rfl ?_)
          refine w_o rfl rfl rfl (op_move rfl ?_)
          first | refine w_known (t := 26) rfl (fun g26 => ?_) (fun g26 => ?_) | refine w_knownB (t := 26) rfl (fun g26 => ?_) (fun g26 => ?_)
          · have hi0 : i = 0 := by omega
            have hv : ((i : Nat) : Int) + ((k : Nat) : Int) = (lev v w i k : Int) := by subst hi0; rw [lev_0k]; omega
            refine w_u rfl rfl rfl rfl rfl rfl ?_
            refine w_u rfl rfl rfl rfl rfl rfl ?_
            refine w_o rfl rfl rfl (op_pick rfl rfl rfl ?_)
            refine w_end ?_
            refine seq_normal ?_
            refine w_condT rfl ?_
            refine w_seq ?_
            refine w_region ?_
            refine w_o rfl rfl rfl (op_move rfl ?_)
            refine w_o rfl rfl rfl (op_move rfl ?_)
            refine w_o rfl rfl rfl (op_move rfl ?_)
            refine w_o rfl rfl rfl (op_addi rfl rfl (by omega) (by omega) ?_)
            refine w_o rfl rfl rfl (op_buildSlice rfl (bsl_29 _ _ _ (rfl : _ = some [_]) rfl (by decide)) fun b34 => ?_)
            refine w_o rfl rfl rfl (op_append1 (xs := rowF (fun j => (lev v w i j : Int)) k) (enc := encI) (z0 := ((i : Nat) : Int) + ((k : Nat) : Int)) elm_29 inf_3 zer_3 (by decide) und_29 rfl rfl hR (fun _ => rfl) (by (repeat (first | exact PickL.front _ _ | exact PickL.nil _ | apply PickL.skip | apply PickL.skipL)); first | done | fail) rfl (by omega) fun c35 N35 h35 => ?_)
            refine w_o rfl rfl rfl (op_assign rfl ?_)
            refine w_end ?_
            refine seq_normal ?_
            refine w_exit ?_
            refine seq_exit ?_
            refine block_hit rfl ?_
            refine seq_normal ?_
            refine w_region ?_
            refine w_o rfl rfl rfl (op_move rfl ?_)
            refine w_o rfl rfl rfl (op_addi rfl rfl (by omega) (by omega) ?_)
            refine w_o rfl rfl rfl (op_assign rfl ?_)
            refine w_end ?_
            first
              | (rw [hv, ← rowF_snoc (fun j => (lev v w i j : Int)) k] at h35; exact loop_normal (k' := b.length + 1 - (k + 1)) (by omega) ⟨k + 1, c35, N35, by omega, rfl, h35, rfl, rfl⟩ env_ sel_)
              | (rw [hv, ← rowF_snoc (fun j => (lev v w i j : Int)) k] at h77; exact loop_normal (k' := b.length + 1 - (k + 1)) (by omega) ⟨k + 1, c77, N77, by omega, rfl, h77, rfl, rfl⟩ env_ sel_)
          · refine w_og rfl rfl rfl rfl rfl (op_move rfl ?_)
            refine w_og rfl rfl rfl rfl rfl (op_eq rfl rfl ?_)
            refine w_o rfl rfl rfl (op_pick rfl rfl rfl ?_)
            refine w_end ?_
            refine seq_normal ?_
            first | refine w_cond rfl (fun hI3 => ?_) (fun hI3 => ?_) | refine w_condB rfl (fun hI3 => ?_) (fun hI3 => ?_)
            · have hk0 : k = 0 := by omega
              have hv : ((i : Nat) : Int) + ((k : Nat) : Int) = (lev v w i k : Int) := by subst hk0; rw [lev_i0]; omega
              refine w_seq ?_
              refine w_region ?_
              refine w_o rfl rfl rfl (op_move rfl ?_)
              refine w_o rfl rfl rfl (op_move rfl ?_)
              refine w_o rfl rfl rfl (op_move rfl ?_)
              refine w_o rfl rfl rfl (op_addi rfl rfl (by omega) (by omega) ?_)
              refine w_o rfl rfl rfl (op_buildSlice rfl (bsl_29 _ _ _ (rfl : _ = some [_]) rfl (by decide)) fun b34 => ?_)
              refine w_o rfl rfl rfl (op_append1 (xs := rowF (fun j => (lev v w i j : Int)) k) (enc := encI) (z0 := ((i : Nat) : Int) + ((k : Nat) : Int)) elm_29 inf_3 zer_3 (by decide) und_29 rfl rfl hR (fun _ => rfl) (by (repeat (first | exact PickL.front _ _ | exact PickL.nil _ | apply PickL.skip | apply PickL.skipL)); first | done | fail) rfl (by omega) fun c35 N35 h35 => ?_)
              refine w_o rfl rfl rfl (op_assign rfl ?_)
              refine w_end ?_
              refine seq_normal ?_
              refine w_exit ?_
              refine seq_exit ?_
              refine block_hit rfl ?_
              refine seq_normal ?_
              refine w_region ?_
              refine w_o rfl rfl rfl (op_move rfl ?_)
              refine w_o rfl rfl rfl (op_addi rfl rfl (by omega) (by omega) ?_)
              refine w_o rfl rfl rfl (op_assign rfl ?_)
              refine w_end ?_
              first
                | (rw [hv, ← rowF_snoc (fun j => (lev v w i j : Int)) k] at h35; exact loop_normal (k' := b.length + 1 - (k + 1)) (by omega) ⟨k + 1, c35, N35, by omega, rfl, h35, rfl, rfl⟩ env_ sel_)
                | (rw [hv, ← rowF_snoc (fun j => (lev v w i j : Int)) k] at h77; exact loop_normal (k' := b.length + 1 - (k + 1)) (by omega) ⟨k + 1, c77, N77, by omega, rfl, h77, rfl, rfl⟩ env_ sel_)
            · obtain ⟨i', hi'⟩ : ∃ i', i = i' + 1 := ⟨i - 1, by omega⟩
              obtain ⟨k', hk'⟩ : ∃ k', k = k' + 1 := ⟨k - 1, by omega⟩
              have hik := lev_ik v w i' k'
              rw [← hi', ← hk'] at hik
              refine w_skip ?_
              refine seq_normal ?_
              refine w_seq ?_
              refine w_region ?_
              refine w_o rfl rfl rfl (op_move rfl ?_)
              refine w_o rfl rfl rfl (op_move rfl ?_)
              refine w_o rfl rfl rfl (op_subi rfl rfl (by omega) (by omega) ?_)
              refine w_o rfl rfl rfl (op_indexT (enc := encC) (xs := ds) (j := i') und_44 siz_29 rfl rfl (hD.sub subs_) (fun _ => rfl) (by omega) (by omega) fun b39 o39 z39 h39 e39 => ?_)
              have hz39 := hin i' z39 h39
              refine w_o rfl rfl rfl (op_load1 agg_29 rfl el_ ?_)
              refine w_o rfl rfl rfl (op_move rfl ?_)
              refine w_o rfl rfl rfl (op_subi rfl rfl (by omega) (by omega) ?_)
              refine w_o rfl rfl rfl (op_indexT (enc := encI) (xs := tab b.length (fun k => (lev v w i' k : Int))) (j := k') und_29 siz_3 rfl rfl (hz39.sub subs_) (fun _ => rfl) (by omega) (by rw [tab_len]; omega) fun b43 o43 z43 h43 e43 => ?_)
              rw [tab_get (by omega)] at h43
              cases h43
              refine w_o rfl rfl rfl (op_load1 agg_3 rfl el_ ?_)
              refine w_o rfl rfl rfl (op_assign rfl ?_)
              refine w_end ?_
              refine seq_normal ?_
              refine w_seq ?_
              refine w_seq ?_
              refine w_draw (by decide +kernel) (by decide +kernel) ?_
              refine w_d rfl rfl rfl (op_move rfl ?_)
              refine w_d rfl rfl rfl (op_move rfl ?_)
              refine w_d rfl rfl rfl (op_subi rfl rfl (by omega) (by omega) ?_)
              refine w_d rfl rfl rfl (op_indexT (enc := encS) (xs := a) (j := i') und_22 siz_43 rfl rfl (hA0.sub subs_) (fun _ => rfl) (by omega) (by omega) fun b48 o48 z48 h48 e48 => ?_)
              refine w_d rfl rfl rfl (op_fieldAddr fa_43_0 rfl ?_)
              refine w_d rfl rfl rfl (op_loadF agg_3 rfl el_ rfl ?_)
              refine w_d rfl rfl rfl (op_move rfl ?_)
              refine w_d rfl rfl rfl (op_move rfl ?_)
              refine w_d rfl rfl rfl (op_subi rfl rfl (by omega) (by omega) ?_)
              refine w_d rfl rfl rfl (op_indexT (enc := encS) (xs := b) (j := k') und_22 siz_43 rfl rfl (hB0.sub subs_) (fun _ => rfl) (by omega) (by omega) fun b54 o54 z54 h54 e54 => ?_)
              refine w_d rfl rfl rfl (op_fieldAddr fa_43_0 rfl ?_)
              refine w_d rfl rfl rfl (op_loadF agg_3 rfl el_ rfl ?_)
              refine w_d rfl rfl rfl (op_ne rfl rfl ?_)
              refine w_end ?_
              refine seq_normal ?_
              first | refine w_cond rfl (fun hI4 => ?_) (fun hI4 => ?_) | refine w_condB rfl (fun hI4 => ?_) (fun hI4 => ?_)
              · rw [hva h48, hvb h54, if_neg (fun q => hI4 (Option.some.inj q))] at hik
                have hv : (1 : Int) + min ((lev v w i' k' : Nat) : Int) (min ((lev v w i' k : Nat) : Int) ((lev v w i k' : Nat) : Int)) = (lev v w i k : Int) := by omega
                refine w_draw (by decide +kernel) (by decide +kernel) ?_
                refine w_d rfl rfl rfl (op_move rfl ?_)
                refine w_d rfl rfl rfl (op_move rfl ?_)
                refine w_d rfl rfl rfl (op_move rfl ?_)
                refine w_d rfl rfl rfl (op_subi rfl rfl (by omega) (by omega) ?_)
                refine w_d rfl rfl rfl (op_indexT (enc := encC) (xs := ds) (j := i') und_44 siz_29 rfl rfl (hD.sub subs_) (fun _ => rfl) (by omega) (by omega) fun b62 o62 z62 h62 e62 => ?_)
                have hz62 := hin i' z62 h62
                refine w_d rfl rfl rfl (op_load1 agg_29 rfl el_ ?_)
                refine w_d rfl rfl rfl (op_move rfl ?_)
                refine w_d rfl rfl rfl (op_indexT (enc := encI) (xs := tab b.length (fun k => (lev v w i' k : Int))) (j := k) und_29 siz_3 rfl rfl (hz62.sub subs_) (fun _ => rfl) rfl (by rw [tab_len]; omega) fun b65 o65 z65 h65 e65 => ?_)
                rw [tab_get (by omega)] at h65
                cases h65
                refine w_d rfl rfl rfl (op_load1 agg_3 rfl el_ ?_)
                refine w_d rfl rfl rfl (op_move rfl ?_)
                refine w_d rfl rfl rfl (op_move rfl ?_)
                refine w_d rfl rfl rfl (op_subi rfl rfl (by omega) (by omega) ?_)
                refine w_d rfl rfl rfl (op_indexT (enc := encI) (xs := rowF (fun j => (lev v w i j : Int)) k) (j := k') und_29 siz_3 rfl rfl (hRs.sub subs_) (fun _ => rfl) (by omega) (by omega) fun b70 o70 z70 h70 e70 => ?_)
                rw [rowF_get (by omega)] at h70
                cases h70
                refine w_d rfl rfl rfl (op_load1 agg_3 rfl el_ ?_)
                refine w_d rfl rfl rfl (op_call rfl rfl rfl ?_)
                have l0 := hlev i' k'
                have l1 := hlev i' k
                have l2 := hlev i k'
                refine Least_w ?_
                refine w_d rfl rfl rfl (op_addi rfl rfl (by omega) (by omega) ?_)
                refine w_d rfl rfl rfl (op_assign rfl ?_)
                refine w_end ?_
                refine seq_normal ?_
                refine w_region ?_
                refine w_o rfl rfl rfl (op_move rfl ?_)
                refine w_o rfl rfl rfl (op_move rfl ?_)
                refine w_o rfl rfl rfl (op_buildSlice rfl (bsl_29 _ _ _ (rfl : _ = some [_]) rfl (by decide)) fun b76 => ?_)
                refine w_o rfl rfl rfl (op_append1 (xs := rowF (fun j => (lev v w i j : Int)) k) (enc := encI) elm_29 inf_3 zer_3 (by decide) und_29 rfl rfl hR (fun _ => rfl) (by (repeat (first | exact PickL.front _ _ | exact PickL.nil _ | apply PickL.skip | apply PickL.skipL)); first | done | fail) rfl (by omega) fun c77 N77 h77 => ?_)
                refine w_o rfl rfl rfl (op_assign rfl ?_)
                refine w_end ?_
                refine block_normal ?_
                refine seq_normal ?_
                refine w_region ?_
                refine w_o rfl rfl rfl (op_move rfl ?_)
                refine w_o rfl rfl rfl (op_addi rfl rfl (by omega) (by omega) ?_)
                refine w_o rfl rfl rfl (op_assign rfl ?_)
                refine w_end ?_
                first
                  | (rw [hv, ← rowF_snoc (fun j => (lev v w i j : Int)) k] at h35; exact loop_normal (k' := b.length + 1 - (k + 1)) (by omega) ⟨k + 1, c35, N35, by omega, rfl, h35, rfl, rfl⟩ env_ sel_)
                  | (rw [hv, ← rowF_snoc (fun j => (lev v w i j : Int)) k] at h77; exact loop_normal (k' := b.length + 1 - (k + 1)) (by omega) ⟨k + 1, c77, N77, by omega, rfl, h77, rfl, rfl⟩ env_ sel_)
              · rw [hva h48, hvb h54, if_pos (show some z48.f0 = some z54.f0 by rw [show z48.f0 = z54.f0 by omega])] at hik
                have hv : ((lev v w i' k' : Nat) : Int) = (lev v w i k : Int) := by omega
                refine w_skip ?_
                refine seq_normal ?_
                refine w_region ?_
                refine w_o rfl rfl rfl (op_move rfl ?_)
                refine w_o rfl rfl rfl (op_move rfl ?_)
                refine w_o rfl rfl rfl (op_buildSlice rfl (bsl_29 _ _ _ (rfl : _ = some [_]) rfl (by decide)) fun b76 => ?_)
                refine w_o rfl rfl rfl (op_append1 (xs := rowF (fun j => (lev v w i j : Int)) k) (enc := encI) elm_29 inf_3 zer_3 (by decide) und_29 rfl rfl hR (fun _ => rfl) (by (repeat (first | exact PickL.front _ _ | exact PickL.nil _ | apply PickL.skip | apply PickL.skipL)); first | done | fail) rfl (by omega) fun c77 N77 h77 => ?_)
                refine w_o rfl rfl rfl (op_assign rfl ?_)
                refine w_end ?_
                refine block_normal ?_
                refine seq_normal ?_
                refine w_region ?_
                refine w_o rfl rfl rfl (op_move rfl ?_)
                refine w_o rfl rfl rfl (op_addi rfl rfl (by omega) (by omega) ?_)
                refine w_o rfl rfl rfl (op_assign rfl ?_)
                refine w_end ?_
                first
                  | (rw [hv, ← rowF_snoc (fun j => (lev v w i j : Int)) k] at h35; exact loop_normal (k' := b.length + 1 - (k + 1)) (by omega) ⟨k + 1, c35, N35, by omega, rfl, h35, rfl, rfl⟩ env_ sel_)
                  | (rw [hv, ← rowF_snoc (fun j => (lev v w i j : Int)) k] at h77; exact loop_normal (k' := b.length + 1 - (k + 1)) (by omega) ⟨k + 1, c77, N77, by omega, rfl, h77, rfl, rfl⟩ env_ sel_)
        · refine w_exit ?_
          refine seq_exit ?_
          refine loop_exit ?_
          refine block_hit rfl ?_
          refine seq_normal ?_
          refine w_region ?_
          refine w_o rfl rfl rfl (op_move rfl ?_)
          refine w_o rfl rfl rfl (op_move rfl ?_)
          refine w_o rfl rfl rfl (op_buildSlice rfl (bsl_44 _ _ _ (rfl : _ = some [_]) rfl (by decide)) fun b80 => ?_)
          refine w_o rfl rfl rfl (op_append1 (xs := ds) (enc := encC) (z0 := cr) elm_44 inf_29 zer_29 (by decide) und_44 rfl rfl hO (fun _ => rfl) (by (repeat (first | exact PickL.front _ _ | exact PickL.nil _ | apply PickL.skip | apply PickL.skipL)); first | done | fail) rfl (by omega) fun c81 N81 h81 => ?_)
          refine w_o rfl rfl rfl (op_assign rfl ?_)
          refine w_end ?_
          refine block_normal ?_
          refine seq_normal ?_
          refine w_region ?_
          refine w_o rfl rfl rfl (op_move rfl ?_)
          refine w_o rfl rfl rfl (op_addi rfl rfl (by omega) (by omega) ?_)
          refine w_o rfl rfl rfl (op_assign rfl ?_)
          refine w_end ?_
          have hkm : k = b.length + 1 := by omega
          rw [hkm, rowF_tab] at hRs
          exact loop_normal (k' := a.length + 1 - (i + 1)) (by omega) ⟨i + 1, c81, ds ++ [cr], N81, Nr ++ Ni, by omega, rfl, h81, by simp [hcl], in_snocT (F := fun j k => (lev v w j k : Int)) hcl hin hRs, rfl, rfl⟩ env_ sel_
    · refine w_exit ?_
      refine seq_exit ?_
      refine loop_exit ?_
      refine block_hit rfl ?_
      refine seq_normal ?_
      refine w_seq ?_
      refine w_region ?_
      refine w_o rfl rfl rfl (op_move rfl ?_)
      refine w_o rfl rfl rfl (op_move rfl ?_)
      refine w_o rfl rfl rfl (op_lenC und_22 rfl h.lenC ?_)
      refine w_o rfl rfl rfl (op_indexT (enc := encC) (xs := ds) (j := a.length) und_44 siz_29 rfl rfl (hD.sub subs_) (fun _ => rfl) rfl (by omega) fun b85 o85 z85 h85 e85 => ?_)
      have hz85 := hin a.length z85 h85
      refine w_o rfl rfl rfl (op_load1 agg_29 rfl el_ ?_)
      refine w_o rfl rfl rfl (op_move rfl ?_)
      refine w_o rfl rfl rfl (op_lenC und_22 rfl h'.lenC ?_)
      refine w_o rfl rfl rfl (op_indexT (enc := encI) (xs := tab b.length (fun k => (lev v w a.length k : Int))) (j := b.length) und_29 siz_3 rfl rfl (hz85.sub subs_) (fun _ => rfl) rfl (by rw [tab_len]; omega) fun b89 o89 z89 h89 e89 => ?_)
      rw [tab_get (Nat.le_refl _)] at h89
      cases h89
      refine w_o rfl rfl rfl (op_load1 agg_3 rfl el_ ?_)
      refine w_o rfl rfl rfl (op_assign rfl ?_)
      refine w_end ?_
      refine seq_normal ?_
      refine w_ret ?_
      exact ret_ret rfl sel_ k0
/-! ### The nearest -/
def KVs (H : Hyp) (L : List (List Sign)) (c : Cell) : Prop := ∃ cs : List Cell, Sl H 22 1 c cs.length (cs.flatMap encC) ∧ cs.length = L.length ∧ ∀ (i : Nat) (d : Cell) (x : List Sign), cs[i]? = some d → L[i]? = some x → Sl H 43 2 d x.length (x.flatMap encS)
def NearP (x : List Sign) (L : List (List Sign)) (i : Nat) (best at_ : Int) : Prop :=
  (i = 0 ∧ at_ = -1 ∧ best = 0) ∨ ∃ (n : Nat) (y : List Sign), at_ = (n : Int) ∧ n < i ∧ L[n]? = some y ∧ best = (dist x y : Int) ∧ ∀ (j : Nat) (z : List Sign), j < i → L[j]? = some z → dist x y ≤ dist x z ∧ (j < n → dist x y < dist x z)
theorem near_new {x y : List Sign} {L : List (List Sign)} {i : Nat} {best at_ : Int} (h : NearP x L i best at_) (hy : L[i]? = some y) (hb : at_ < 0 ∨ (dist x y : Int) < best) : NearP x L (i + 1) (dist x y : Int) (i : Int) := by
  refine .inr ⟨i, y, rfl, by omega, hy, rfl, fun j z hj hz => ?_⟩
  by_cases e : j = i
  · subst e
    rw [hy] at hz; cases hz
    exact ⟨Nat.le_refl _, fun q => by omega⟩
  · rcases h with ⟨h0, _, _⟩ | ⟨n, w, h1, h2, h3, h4, h5⟩
    · omega
    · have := h5 j z (by omega) hz
      omega
theorem near_old {x y : List Sign} {L : List (List Sign)} {i : Nat} {best at_ : Int} (h : NearP x L i best at_) (hy : L[i]? = some y) (ha : ¬ at_ < 0) (hb : ¬ (dist x y : Int) < best) : NearP x L (i + 1) best at_ := by
  rcases h with ⟨_, h1, _⟩ | ⟨n, w, h1, h2, h3, h4, h5⟩
  · omega
  · refine .inr ⟨n, w, h1, by omega, h3, h4, fun j z hj hz => ?_⟩
    by_cases e : j = i
    · subst e
      rw [hy] at hz; cases hz
      omega
    · exact h5 j z (by omega) hz
theorem Nearest_w {H : Hyp} {K : V → Hyp → Prop} {c cl : Cell} {x : List Sign} {L : List (List Sign)} (h : Sl H 43 2 c x.length (x.flatMap encS)) (hL : KVs H L cl) (hx : x.length ≤ 8796093022208) (hLl : L.length ≤ 1000) (hLe : ∀ y ∈ L, y.length ≤ 8796093022208)
    (k : ∀ at_ : Int, (∃ best, NearP x L L.length best at_) → K (vI at_) H) : CallW Try.prog Xs 14 [.one (.c c), .one (.c cl)] H K := by
  obtain ⟨cs, g1, g2, g3⟩ := hL
  refine call_of (n := 31) (fun _ => rfl) Try.func14 rfl rfl ?_
  refine w_seq ?_
  refine w_region ?_
  refine w_o rfl rfl rfl (op_assign rfl ?_)
  refine w_end ?_
  refine seq_normal ?_
  refine w_seq ?_
  refine w_region ?_
  refine w_o rfl rfl rfl (op_assign rfl ?_)
  refine w_o rfl rfl rfl (op_assign rfl ?_)
  refine w_end ?_
  refine seq_normal ?_
  refine w_seq ?_
  refine w_seq ?_
  refine w_region ?_
  refine w_o rfl rfl rfl (op_move rfl ?_)
  refine w_o rfl rfl rfl (op_lenC und_34 rfl g1.lenC ?_)
  refine w_o rfl rfl rfl (op_move rfl ?_)
  refine w_end ?_
  refine seq_normal ?_
  refine w_block ?_
  refine w_loop (fun q e H' => ∃ (i : Nat) (best at_ : Int), i ≤ L.length ∧ q = L.length - i ∧ NearP x L i best at_ ∧ H = H' ∧ e = [(0, .one (.c c)), (5, vI best), (6, vI at_), (10, .one (.c cl)), (11, vI (cs.length : Nat)), (12, vI (i : Nat))]) ?_ ?_
  · exact ⟨_, _, _, ⟨0, 0, -1, Nat.zero_le _, rfl, .inl ⟨rfl, rfl, rfl⟩, rfl, rfl⟩, env_, sel_⟩
  · rintro q e H' ⟨i, best, at_, hi, rfl, hN, rfl, rfl⟩
    refine w_seq ?_
    refine w_region ?_
    refine w_o rfl rfl rfl (op_lt rfl rfl ?_)
    refine w_end ?_
    refine seq_normal ?_
    refine w_seq ?_
    first | refine w_cond rfl (fun hI1 => ?_) (fun hI1 => ?_) | refine w_condB rfl (fun hI1 => ?_) (fun hI1 => ?_)
    · obtain ⟨y, hy⟩ : ∃ y, L[i]? = some y := ⟨_, List.getElem?_eq_getElem (by omega)⟩
      have hyl := hLe y (List.mem_of_getElem? hy)
      refine w_skip ?_
      refine seq_normal ?_
      refine w_seq ?_
      refine w_block ?_
      refine w_seq ?_
      refine w_region ?_
      refine w_o rfl rfl rfl (op_move rfl ?_)
      refine w_o rfl rfl rfl (op_indexT (enc := encC) (xs := cs) (j := i) und_34 siz_22 rfl rfl g1 (fun _ => rfl) rfl (by omega) fun b15 o15 z15 h15 e15 => ?_)
      refine w_o rfl rfl rfl (op_load1 agg_22 rfl el_ ?_)
      refine w_o rfl rfl rfl (op_assign rfl ?_)
      refine w_o rfl rfl rfl (op_assign rfl ?_)
      refine w_end ?_
      refine seq_normal ?_
      refine w_seq ?_
      refine w_region ?_
      refine w_o rfl rfl rfl (op_move rfl ?_)
      refine w_o rfl rfl rfl (op_move rfl ?_)
      refine w_o rfl rfl rfl (op_call rfl rfl rfl ?_)
      refine Distance_w h (fun y hy => hy) (g3 i z15 y h15 hy) (fun y hy => hy) hx hyl ?_
      rw [show lev (valsS x) (valsS y) x.length y.length = dist x y from rfl]
      refine w_o rfl rfl rfl (op_assign rfl ?_)
      refine w_end ?_
      refine seq_normal ?_
      refine w_seq ?_
      refine w_region ?_
      refine w_o rfl rfl rfl (op_move rfl ?_)
      refine w_o rfl rfl rfl (op_lt rfl rfl ?_)
      refine w_o rfl rfl rfl (op_move rfl ?_)
      first | refine w_known (t := 22) rfl (fun g22 => ?_) (fun g22 => ?_) | refine w_knownB (t := 22) rfl (fun g22 => ?_) (fun g22 => ?_)
      · have hst := near_new hN hy (.inl g22)
        refine w_u rfl rfl rfl rfl rfl rfl ?_
        refine w_u rfl rfl rfl rfl rfl rfl ?_
        refine w_u rfl rfl rfl rfl rfl rfl ?_
        refine w_o rfl rfl rfl (op_pick rfl rfl rfl ?_)
        refine w_end ?_
        refine seq_normal ?_
        refine w_condT rfl ?_
        refine w_region ?_
        refine w_o rfl rfl rfl (op_move rfl ?_)
        refine w_o rfl rfl rfl (op_move rfl ?_)
        refine w_o rfl rfl rfl (op_assign rfl ?_)
        refine w_o rfl rfl rfl (op_assign rfl ?_)
        refine w_end ?_
        refine block_normal ?_
        refine seq_normal ?_
        refine w_region ?_
        refine w_o rfl rfl rfl (op_addi rfl rfl (by omega) (by omega) ?_)
        refine w_o rfl rfl rfl (op_move rfl ?_)
        refine w_end ?_
        first
          | exact loop_normal (k' := L.length - (i + 1)) (by omega) ⟨i + 1, (dist x y : Int), (i : Int), by omega, rfl, hst, rfl, rfl⟩ env_ sel_
          | exact loop_normal (k' := L.length - (i + 1)) (by omega) ⟨i + 1, best, at_, by omega, rfl, hst, rfl, rfl⟩ env_ sel_
      · refine w_og rfl rfl rfl rfl rfl (op_move rfl ?_)
        refine w_og rfl rfl rfl rfl rfl (op_move rfl ?_)
        refine w_og rfl rfl rfl rfl rfl (op_lt rfl rfl ?_)
        refine w_o rfl rfl rfl (op_pick rfl rfl rfl ?_)
        refine w_end ?_
        refine seq_normal ?_
        first | refine w_cond rfl (fun hI2 => ?_) (fun hI2 => ?_) | refine w_condB rfl (fun hI2 => ?_) (fun hI2 => ?_)
        · have hst := near_new hN hy (.inr hI2)
          refine w_region ?_
          refine w_o rfl rfl rfl (op_move rfl ?_)
          refine w_o rfl rfl rfl (op_move rfl ?_)
          refine w_o rfl rfl rfl (op_assign rfl ?_)
          refine w_o rfl rfl rfl (op_assign rfl ?_)
          refine w_end ?_
          refine block_normal ?_
          refine seq_normal ?_
          refine w_region ?_
          refine w_o rfl rfl rfl (op_addi rfl rfl (by omega) (by omega) ?_)
          refine w_o rfl rfl rfl (op_move rfl ?_)
          refine w_end ?_
          first
            | exact loop_normal (k' := L.length - (i + 1)) (by omega) ⟨i + 1, (dist x y : Int), (i : Int), by omega, rfl, hst, rfl, rfl⟩ env_ sel_
            | exact loop_normal (k' := L.length - (i + 1)) (by omega) ⟨i + 1, best, at_, by omega, rfl, hst, rfl, rfl⟩ env_ sel_
        · have hst := near_old hN hy g22 hI2
          refine w_skip ?_
          refine block_normal ?_
          refine seq_normal ?_
          refine w_region ?_
          refine w_o rfl rfl rfl (op_addi rfl rfl (by omega) (by omega) ?_)
          refine w_o rfl rfl rfl (op_move rfl ?_)
          refine w_end ?_
          first
            | exact loop_normal (k' := L.length - (i + 1)) (by omega) ⟨i + 1, (dist x y : Int), (i : Int), by omega, rfl, hst, rfl, rfl⟩ env_ sel_
            | exact loop_normal (k' := L.length - (i + 1)) (by omega) ⟨i + 1, best, at_, by omega, rfl, hst, rfl, rfl⟩ env_ sel_
    · refine w_exit ?_
      refine seq_exit ?_
      refine loop_exit ?_
      refine block_hit rfl ?_
      refine seq_normal ?_
      refine w_seq ?_
      refine w_region ?_
      refine w_o rfl rfl rfl (op_move rfl ?_)
      refine w_o rfl rfl rfl (op_assign rfl ?_)
      refine w_end ?_
      refine seq_normal ?_
      refine w_ret ?_
      have hi1 : i = L.length := by omega
      subst hi1
      exact ret_ret rfl sel_ (k _ ⟨best, hN⟩)
end Go.Proofs.Ytpkdncjopbbbhaa.AM.B
