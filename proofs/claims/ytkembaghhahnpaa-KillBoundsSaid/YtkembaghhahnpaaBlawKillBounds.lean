/- The law KillBounds: it answers true, whatever comes in. -/
import Derived.Test.YtkembaghhahnpaaAX
import Derived.Test.YtkembaghhahnpaaBkill
set_option linter.unusedVariables false
set_option linter.unusedSimpArgs false
set_option maxRecDepth 10000
set_option maxHeartbeats 4000000
namespace Go.Proofs.Ytkembaghhahnpaa.AM.B
open Go Go.RowKit
def encU8 (x : Int) : List Cell := [.int .u8 x]
theorem joinM_ne {L : List (List Sign)} {l : List Sign} {how : Int} (h : l.length ≠ 0) : (joinM L l how).length ≠ 0 := by
  unfold joinM
  split
  · exact h
  · split <;> rw [List.length_append] <;> omega
theorem outM_last (L : List (List Sign)) (l : List Sign) (how : Int) : (outM L l how)[(outM L l how).length - 1]? = some (joinM L l how) := by
  rw [outM_len]
  unfold outM
  split
  · rename_i h
    rw [Nat.add_sub_cancel, List.getElem?_append_right (Nat.le_refl _), Nat.sub_self]
    unfold joinM; rw [if_pos h]; rfl
  · rename_i h
    have h0 : L.length ≠ 0 := fun q => h (.inl q)
    rw [List.getElem?_append_right (by simp), List.length_dropLast, Nat.sub_self]; rfl
theorem pushM_last {L : List (List Sign)} {l : List Sign} {how most : Int} (hm : 1 ≤ most) : 1 ≤ (pushM L l how most).length ∧ (pushM L l how most)[(pushM L l how most).length - 1]? = some (joinM L l how) := by
  have h1 := outM_last L l how
  have h2 : 1 ≤ (outM L l how).length := by rw [outM_len]; split <;> omega
  unfold pushM
  split
  · rename_i h
    refine ⟨by rw [List.length_drop]; omega, ?_⟩
    rw [List.length_drop, List.getElem?_drop, show 1 + ((outM L l how).length - 1 - 1) = (outM L l how).length - 1 by omega]; exact h1
  · exact ⟨h2, h1⟩
theorem pushM_len {L : List (List Sign)} {l : List Sign} {how most : Int} (h : (L.length : Int) ≤ most) (hm : 1 ≤ most) : ((pushM L l how most).length : Int) ≤ most ∧ (pushM L l how most).length ≤ L.length + 1 := by
  have h2 := outM_len L l how
  have h3 : (outM L l how).length ≤ L.length + 1 ∧ 1 ≤ (outM L l how).length := by rw [h2]; split <;> omega
  unfold pushM
  split
  · rw [List.length_drop]; omega
  · omega
theorem outM_mem {L : List (List Sign)} {l t : List Sign} {how : Int} (h : t ∈ outM L l how) : t ∈ L ∨ t = joinM L l how := by
  unfold outM at h
  split at h
  · rename_i q
    rcases List.mem_append.1 h with h | h
    · exact .inl h
    · simp at h; exact .inr (by unfold joinM; rw [if_pos q]; exact h)
  · rcases List.mem_append.1 h with h | h
    · exact .inl (List.dropLast_subset _ h)
    · simp at h; exact .inr h
theorem pushM_mem {L : List (List Sign)} {l t : List Sign} {how most : Int} (h : t ∈ pushM L l how most) : t ∈ L ∨ t = joinM L l how := by
  unfold pushM at h
  split at h
  · exact outM_mem (List.drop_subset _ _ h)
  · exact outM_mem h
theorem joinM_le {L : List (List Sign)} {l : List Sign} {how : Int} {M : Nat} (hM : ∀ t ∈ L, t.length ≤ M) : (joinM L l how).length ≤ M + l.length := by
  unfold joinM
  split
  · omega
  · rename_i q
    have : (lastL L).length ≤ M := hM _ (List.mem_of_getElem? (getLastD_at fun e => q (.inl e)))
    split <;> rw [List.length_append] <;> omega
/-- What was pushed last stands at the new text's end, or at its beginning. -/
theorem joinM_at (L : List (List Sign)) (l : List Sign) (how : Int) : l.length ≤ (joinM L l how).length ∧ ((joinM L l how).drop (if how = 1 then (joinM L l how).length - l.length else 0)).take l.length = l := by
  unfold joinM
  by_cases h : L.length = 0 ∨ how = 0
  · rw [if_pos h]; exact ⟨Nat.le_refl _, by split <;> simp⟩
  · rw [if_neg h]
    by_cases h1 : how = 1
    · simp [h1]
    · simp [h1]
theorem KillBounds_law {H : Hyp} {c0 c1 : Cell} {cs : List Cell} {l : List (List Sign)} {hw : List Int} {a2 : Int} (hl : Sl H 29 1 c0 cs.length (cs.flatMap encC)) (hcl : cs.length = l.length) (hin : ∀ (i : Nat) (d : Cell) (x : List Sign), cs[i]? = some d → l[i]? = some x → Sl H 36 2 d x.length (x.flatMap encS))
    (hh : Sl H 5 1 c1 hw.length (hw.flatMap encU8)) (hhw : hw.length ≤ 1000000000000000) (hw8 : ∀ x ∈ hw, 0 ≤ x ∧ x ≤ 255) (h2 : 0 ≤ a2 ∧ a2 ≤ 255) :
    CallW Try.prog Xs 3 [.one (.c c0), .one (.c c1), .one (.c (.int .u8 a2))] H (fun v _ => v = vB true) := by
  have hq1 : 0 ≤ a2.tmod 60 := Int.tmod_nonneg _ h2.1
  have hq2 : a2.tmod 60 < 60 := Int.tmod_lt_of_pos _ (by decide)
  generalize hq : a2.tmod 60 = q at hq1 hq2
  refine call_of (n := 142) (fun _ => rfl) Try.func3 rfl rfl ?_
  refine w_seq ?_
  refine w_region ?_
  refine w_o rfl rfl rfl (op_assign rfl ?_)
  refine w_end ?_
  refine seq_normal ?_
  refine w_seq ?_
  refine w_seq ?_
  refine w_region ?_
  refine w_o rfl rfl rfl (op_move rfl ?_)
  refine w_o rfl rfl rfl (op_lenC und_22 rfl hl.lenC ?_)
  refine w_o rfl rfl rfl (op_gt rfl rfl ?_)
  refine w_o rfl rfl rfl (op_move rfl ?_)
  first | refine w_known (t := 19) rfl (fun g19 => ?_) (fun g19 => ?_) | refine w_knownB (t := 19) rfl (fun g19 => ?_) (fun g19 => ?_)
  · refine w_u rfl rfl rfl rfl rfl rfl ?_
    refine w_u rfl rfl rfl rfl rfl rfl ?_
    refine w_o rfl rfl rfl (op_pick rfl rfl rfl ?_)
    refine w_end ?_
    refine seq_normal ?_
    refine w_condT rfl ?_
    refine w_seq ?_
    refine w_region ?_
    refine w_o rfl rfl rfl (op_call rfl rfl rfl ?_)
    refine awake_w ?_
    refine w_o rfl rfl rfl (op_assign rfl ?_)
    refine w_end ?_
    refine seq_normal ?_
    refine w_ret ?_
    refine seq_ret ?_
    exact ret_ret rfl (.refl _) rfl
  · refine w_og rfl rfl rfl rfl rfl (op_call rfl rfl rfl ?_)
    refine awake_w ?_
    refine w_og rfl rfl rfl rfl rfl (op_not rfl ?_)
    refine w_o rfl rfl rfl (op_pick rfl rfl rfl ?_)
    refine w_end ?_
    refine seq_normal ?_
    refine w_condF rfl ?_
    refine w_skip ?_
    refine seq_normal ?_
    refine w_seq ?_
    refine w_region ?_
    refine w_o rfl rfl rfl (op_move rfl ?_)
    refine w_o rfl rfl rfl (op_remi rfl rfl (by decide) hq ?_)
    refine w_o rfl rfl rfl (op_convi und_5 und_3 rfl (wrap_i64 (by omega) (by omega)) ?_)
    refine w_o rfl rfl rfl (op_addi rfl rfl (by omega) (by omega) ?_)
    refine w_o rfl rfl rfl (op_call rfl rfl rfl ?_)
    refine New_w (fun h => absurd h (by omega)) (fun _ _ p m => ?_)
    refine w_o rfl rfl rfl (op_move rfl ?_)
    refine w_o rfl rfl rfl (op_extract rfl rfl ?_)
    refine w_o rfl rfl rfl (op_extract rfl rfl ?_)
    refine w_o rfl rfl rfl (op_assign rfl ?_)
    refine w_o rfl rfl rfl (op_assign rfl ?_)
    refine w_end ?_
    refine seq_normal ?_
    refine w_seq ?_
    refine w_seq ?_
    refine w_region ?_
    refine w_o rfl rfl rfl (op_move rfl ?_)
    refine w_o rfl rfl rfl (op_ne rfl rfl ?_)
    refine w_o rfl rfl rfl (op_move rfl ?_)
    first | refine w_known (t := 34) rfl (fun g34 => ?_) (fun g34 => ?_) | refine w_knownB (t := 34) rfl (fun g34 => ?_) (fun g34 => ?_)
    · exact absurd rfl g34 --closed
    · refine w_og rfl rfl rfl rfl rfl (op_move rfl ?_)
      refine w_og rfl rfl rfl rfl rfl (op_nilEq rfl rfl rfl (by simp only [nilKind, und_25]) ?_)
      refine w_o rfl rfl rfl (op_pick rfl rfl rfl ?_)
      refine w_end ?_
      refine seq_normal ?_
      refine w_condF rfl ?_
      refine w_skip ?_
      refine seq_normal ?_
      refine w_seq ?_
      refine w_seq ?_
      refine w_region ?_
      refine w_o rfl rfl rfl (op_assign rfl ?_)
      refine w_end ?_
      refine seq_normal ?_
      refine w_block ?_
      refine w_loop (fun z e H' => ∃ (i clock : Nat) (fr tz hand : Int) (L : List (List Sign)) (es : Ents) (NS : Hyp), i ≤ l.length ∧ z = l.length - i ∧ i ≤ 30 ∧ RingOK L es fr NS ∧ tz = fr + L.length ∧ 0 ≤ fr ∧ fr ≤ i ∧ L.length ≤ i ∧ (L.length : Int) ≤ q + 1 ∧ (∀ t ∈ L, t.length ≤ 60 * i ∧ t.length ≠ 0) ∧ H' = (p, ringRow m fr tz hand (q + 1)) :: (m, .map es clock) :: (NS ++ H) ∧ e = [(0, .one (.c c0)), (1, .one (.c c1)), (2, .one (.c (.int .u8 a2))), (7, ptrV p 0), (9, vI (i : Nat))]) ?_ ?_
      · exact ⟨_, _, _, ⟨0, 0, 0, 0, 0, [], [], [], Nat.zero_le _, rfl, by decide, ⟨rfl, (fun i x h => by simp at h), (fun i x l h => by simp at h)⟩, rfl, by decide, by decide, by decide, by simp; omega, (fun t h => by simp at h), rfl, rfl⟩, (by repeat (first | exact ESub.nil _ | refine ESub.cons rfl ?_)), (by repeat (first | exact Sel.refl _ | refine Sel.assocR ?_ | refine Sel.assocL ?_ | (refine Sel.pickL (by repeat (first | exact PickL.front _ _ | exact PickL.nil _ | apply PickL.skip | apply PickL.skipL)) ?_) | (refine Sel.pick (by repeat (first | exact Pick.head _ _ _ | apply Pick.tail | apply Pick.app)) ?_) | refine Sel.drop _ ?_ | refine Sel.dropL _ ?_))⟩
      · rintro z e H' ⟨i, clock, fr, tz, hand, L, es, NS, hi, rfl, hi30, hr, hto, hf1, hf2, hLi, hLm, hM, rfl, rfl⟩
        have hMl : ∀ t ∈ L, t.length ≤ 60 * i := fun t ht => (hM t ht).1
        refine w_seq ?_
        refine w_seq ?_
        refine w_region ?_
        refine w_o rfl rfl rfl (op_move rfl ?_)
        refine w_o rfl rfl rfl (op_move rfl ?_)
        refine w_o rfl rfl rfl (op_lenC und_22 rfl hl.lenC ?_)
        refine w_o rfl rfl rfl (op_lt rfl rfl ?_)
        refine w_o rfl rfl rfl (op_move rfl ?_)
        first | refine w_known (t := 42) rfl (fun g42 => ?_) (fun g42 => ?_) | refine w_knownB (t := 42) rfl (fun g42 => ?_) (fun g42 => ?_)
        · refine w_og rfl rfl rfl rfl rfl (op_move rfl ?_)
          refine w_og rfl rfl rfl rfl rfl (op_move rfl ?_)
          refine w_og rfl rfl rfl rfl rfl (op_lenC und_23 rfl hh.lenC ?_)
          refine w_og rfl rfl rfl rfl rfl (op_lt rfl rfl ?_)
          refine w_o rfl rfl rfl (op_pick rfl rfl rfl ?_)
          refine w_end ?_
          refine seq_normal ?_
          first | refine w_cond rfl (fun hI3 => ?_) (fun hI3 => ?_) | refine w_condB rfl (fun hI3 => ?_) (fun hI3 => ?_)
          · obtain ⟨lx, hlx⟩ : ∃ x, l[i]? = some x := ⟨_, List.getElem?_eq_getElem (by omega)⟩
            obtain ⟨dx, hdx⟩ : ∃ x, cs[i]? = some x := ⟨_, List.getElem?_eq_getElem (by omega)⟩
            have hsx := hin i dx lx hdx hlx
            refine w_skip ?_
            refine seq_normal ?_
            refine w_seq ?_
            refine w_block ?_
            refine w_seq ?_
            refine w_seq ?_
            refine w_region ?_
            refine w_o rfl rfl rfl (op_move rfl ?_)
            refine w_o rfl rfl rfl (op_move rfl ?_)
            refine w_o rfl rfl rfl (op_indexT (enc := encC) und_22 siz_29 rfl rfl (by first | assumption | (repeat (first | assumption | apply Sl.cons | apply Sl.app))) (fun _ => rfl) rfl (by omega) fun b52 o52 z52 h52 e52 => ?_)
            rw [hdx] at h52; cases h52
            refine w_o rfl rfl rfl (op_load1 agg_29 rfl (by first | assumption | exact El.row (by repeat (first | exact List.Mem.head _ | assumption | apply List.Mem.tail | apply List.mem_append_right)) | (repeat (first | assumption | apply El.cons | apply El.app))) ?_)
            refine w_o rfl rfl rfl (op_lenC und_29 rfl (by first | exact ⟨rfl, fun s e => by cases e⟩ | exact Sl.lenC (by assumption) | (refine Own.lenT (by assumption) ?_ ?_ <;> first | exact fun _ => rfl | decide)) ?_)
            refine w_o rfl rfl rfl (op_gt rfl rfl ?_)
            refine w_end ?_
            refine seq_normal ?_
            first | refine w_cond rfl (fun hI4 => ?_) (fun hI4 => ?_) | refine w_condB rfl (fun hI4 => ?_) (fun hI4 => ?_)
            · refine w_seq ?_
              refine w_region ?_
              refine w_o rfl rfl rfl (op_assign rfl ?_)
              refine w_end ?_
              refine seq_normal ?_
              refine w_ret ?_
              refine seq_ret ?_
              refine block_ret ?_
              refine seq_ret ?_
              refine loop_ret ?_
              refine block_ret ?_
              refine seq_ret ?_
              exact ret_ret rfl (.refl _) rfl
            · refine w_skip ?_
              refine seq_normal ?_
              refine w_seq ?_
              refine w_region ?_
              refine w_o rfl rfl rfl (op_move rfl ?_)
              refine w_o rfl rfl rfl (op_move rfl ?_)
              refine w_o rfl rfl rfl (op_indexT (enc := encU8) und_23 siz_5 rfl rfl (by first | assumption | (repeat (first | assumption | apply Sl.cons | apply Sl.app))) (fun _ => rfl) rfl (by omega) fun b58 o58 z58 h58 e58 => ?_)
              have hz58 := hw8 z58 (List.mem_of_getElem? h58)
              have hk1 : 0 ≤ z58.tmod 3 := Int.tmod_nonneg _ hz58.1
              have hk2 : z58.tmod 3 < 3 := Int.tmod_lt_of_pos _ (by decide)
              generalize hk : z58.tmod 3 = k at hk1 hk2
              refine w_o rfl rfl rfl (op_load1 agg_5 rfl (by first | assumption | exact El.row (by repeat (first | exact List.Mem.head _ | assumption | apply List.Mem.tail | apply List.mem_append_right)) | (repeat (first | assumption | apply El.cons | apply El.app))) ?_)
              refine w_o rfl rfl rfl (op_remi rfl rfl (by decide) hk ?_)
              refine w_o rfl rfl rfl (op_convi und_5 und_3 rfl (wrap_i64 (by omega) (by omega)) ?_)
              refine w_o rfl rfl rfl (op_assign rfl ?_)
              refine w_end ?_
              refine seq_normal ?_
              refine w_seq ?_
              refine w_region ?_
              refine w_o rfl rfl rfl (op_move rfl ?_)
              refine w_o rfl rfl rfl (op_move rfl ?_)
              refine w_o rfl rfl rfl (op_move rfl ?_)
              refine w_o rfl rfl rfl (op_indexT (enc := encC) und_22 siz_29 rfl rfl (by first | assumption | (repeat (first | assumption | apply Sl.cons | apply Sl.app))) (fun _ => rfl) rfl (by omega) fun b65 o65 z65 h65 e65 => ?_)
              rw [hdx] at h65; cases h65
              refine w_o rfl rfl rfl (op_load1 agg_29 rfl (by first | assumption | exact El.row (by repeat (first | exact List.Mem.head _ | assumption | apply List.Mem.tail | apply List.mem_append_right)) | (repeat (first | assumption | apply El.cons | apply El.app))) ?_)
              refine w_o rfl rfl rfl (op_move rfl ?_)
              refine w_o rfl rfl rfl (op_call rfl rfl rfl ?_)
              refine Push_w (M := 60 * i) hto hr hsx hf1 (by omega) (by omega) hMl (by omega) (fun hb => ?_) (fun _ _ _ hz => ?_) (fun _ _ hall hne es' clock' fr' tz' NS' hr' hto' hf1' hf2' => ?_)
              · refine w_o rfl rfl rfl (op_assign rfl ?_)
                refine w_end ?_
                refine seq_normal ?_
                refine w_seq ?_
                refine w_seq ?_
                refine w_region ?_
                refine w_o rfl rfl rfl (op_move rfl ?_)
                refine w_o rfl rfl rfl (op_ne rfl rfl ?_)
                refine w_o rfl rfl rfl (op_move rfl ?_)
                first | refine w_known (t := 71) rfl (fun g71 => ?_) (fun g71 => ?_) | refine w_knownB (t := 71) rfl (fun g71 => ?_) (fun g71 => ?_)
                · try (first | exact absurd rfl g71 | exact absurd (by decide) g71)
                  all_goals
                    refine w_u rfl rfl rfl rfl rfl rfl ?_
                    refine w_u rfl rfl rfl rfl rfl rfl ?_
                    refine w_u rfl rfl rfl rfl rfl rfl ?_
                    refine w_u rfl rfl rfl rfl rfl rfl ?_
                    refine w_u rfl rfl rfl rfl rfl rfl ?_
                    refine w_u rfl rfl rfl rfl rfl rfl ?_
                    refine w_o rfl rfl rfl (op_pick rfl rfl rfl ?_)
                    refine w_end ?_
                    refine seq_normal ?_
                    refine w_condT rfl ?_
                    refine w_exit ?_
                    refine seq_exit ?_
                    refine block_hit rfl ?_
                    refine seq_normal ?_
                    refine w_region ?_
                    refine w_o rfl rfl rfl (op_move rfl ?_)
                    refine w_o rfl rfl rfl (op_addi rfl rfl (by omega) (by omega) ?_)
                    refine w_o rfl rfl rfl (op_assign rfl ?_)
                    refine w_end ?_
                    first
                      | exact loop_normal (k' := l.length - (i + 1)) (by omega) ⟨i + 1, _, _, _, _, _, _, NS, by omega, rfl, by omega, hr, hto, hf1, by omega, by omega, hLm, (fun t ht => by have := hM t ht; omega), rfl, rfl⟩ (by repeat (first | exact ESub.nil _ | refine ESub.cons rfl ?_)) (by repeat (first | exact Sel.refl _ | refine Sel.assocR ?_ | refine Sel.assocL ?_ | (refine Sel.pickL (by repeat (first | exact PickL.front _ _ | exact PickL.nil _ | apply PickL.skip | apply PickL.skipL)) ?_) | (refine Sel.pick (by repeat (first | exact Pick.head _ _ _ | apply Pick.tail | apply Pick.app)) ?_) | refine Sel.drop _ ?_ | refine Sel.dropL _ ?_))
                      | exact loop_normal (k' := l.length - (i + 1)) (by omega) ⟨i + 1, _, _, _, _, _, _, NS', by omega, rfl, by omega, hr', hto', by omega, by omega, by omega, hpn.1, hMl', rfl, rfl⟩ (by repeat (first | exact ESub.nil _ | refine ESub.cons rfl ?_)) (by repeat (first | exact Sel.refl _ | refine Sel.assocR ?_ | refine Sel.assocL ?_ | (refine Sel.pickL (by repeat (first | exact PickL.front _ _ | exact PickL.nil _ | apply PickL.skip | apply PickL.skipL)) ?_) | (refine Sel.pick (by repeat (first | exact Pick.head _ _ _ | apply Pick.tail | apply Pick.app)) ?_) | refine Sel.drop _ ?_ | refine Sel.dropL _ ?_))
                · try (first | exact absurd rfl g71 | exact absurd (by decide) g71)
                  all_goals
                    refine w_og rfl rfl rfl rfl rfl (op_move rfl ?_)
                    refine w_og rfl rfl rfl rfl rfl (op_move rfl ?_)
                    refine w_og rfl rfl rfl rfl rfl (op_indexT (enc := encC) und_22 siz_29 rfl rfl (by first | assumption | (repeat (first | assumption | apply Sl.cons | apply Sl.app))) (fun _ => rfl) rfl (by omega) fun b74 o74 z74 h74 e74 => ?_)
                    rw [hdx] at h74; cases h74
                    refine w_og rfl rfl rfl rfl rfl (op_load1 agg_29 rfl (by first | assumption | exact El.row (by repeat (first | exact List.Mem.head _ | assumption | apply List.Mem.tail | apply List.mem_append_right)) | (repeat (first | assumption | apply El.cons | apply El.app))) ?_)
                    refine w_og rfl rfl rfl rfl rfl (op_lenC und_29 rfl (by first | exact ⟨rfl, fun s e => by cases e⟩ | exact Sl.lenC (by assumption) | (refine Own.lenT (by assumption) ?_ ?_ <;> first | exact fun _ => rfl | decide)) ?_)
                    refine w_og rfl rfl rfl rfl rfl (op_eq rfl rfl ?_)
                    refine w_o rfl rfl rfl (op_pick rfl rfl rfl ?_)
                    refine w_end ?_
                    refine seq_normal ?_
                    first | refine w_cond rfl (fun hI5 => ?_) (fun hI5 => ?_) | refine w_condB rfl (fun hI5 => ?_) (fun hI5 => ?_)
                    · try (first | exact absurd (by rw [hz]; rfl) hI5 | exact absurd (Int.ofNat.inj hI5) hne)
                      all_goals
                        refine w_exit ?_
                        refine seq_exit ?_
                        refine block_hit rfl ?_
                        refine seq_normal ?_
                        refine w_region ?_
                        refine w_o rfl rfl rfl (op_move rfl ?_)
                        refine w_o rfl rfl rfl (op_addi rfl rfl (by omega) (by omega) ?_)
                        refine w_o rfl rfl rfl (op_assign rfl ?_)
                        refine w_end ?_
                        first
                          | exact loop_normal (k' := l.length - (i + 1)) (by omega) ⟨i + 1, _, _, _, _, _, _, NS, by omega, rfl, by omega, hr, hto, hf1, by omega, by omega, hLm, (fun t ht => by have := hM t ht; omega), rfl, rfl⟩ (by repeat (first | exact ESub.nil _ | refine ESub.cons rfl ?_)) (by repeat (first | exact Sel.refl _ | refine Sel.assocR ?_ | refine Sel.assocL ?_ | (refine Sel.pickL (by repeat (first | exact PickL.front _ _ | exact PickL.nil _ | apply PickL.skip | apply PickL.skipL)) ?_) | (refine Sel.pick (by repeat (first | exact Pick.head _ _ _ | apply Pick.tail | apply Pick.app)) ?_) | refine Sel.drop _ ?_ | refine Sel.dropL _ ?_))
                          | exact loop_normal (k' := l.length - (i + 1)) (by omega) ⟨i + 1, _, _, _, _, _, _, NS', by omega, rfl, by omega, hr', hto', by omega, by omega, by omega, hpn.1, hMl', rfl, rfl⟩ (by repeat (first | exact ESub.nil _ | refine ESub.cons rfl ?_)) (by repeat (first | exact Sel.refl _ | refine Sel.assocR ?_ | refine Sel.assocL ?_ | (refine Sel.pickL (by repeat (first | exact PickL.front _ _ | exact PickL.nil _ | apply PickL.skip | apply PickL.skipL)) ?_) | (refine Sel.pick (by repeat (first | exact Pick.head _ _ _ | apply Pick.tail | apply Pick.app)) ?_) | refine Sel.drop _ ?_ | refine Sel.dropL _ ?_))
                    · try (first | exact absurd (by rw [hz]; rfl) hI5 | exact absurd (Int.ofNat.inj hI5) hne)
                      all_goals
                        have hpl := pushM_last (L := L) (l := lx) (how := k) (most := q + 1) (by omega)
                        have hpn := pushM_len (l := lx) (how := k) hLm (by omega)
                        have hjl := joinM_le (l := lx) (how := k) hMl
                        have hja := joinM_at L lx k
                        have hMl' : ∀ t ∈ pushM L lx k (q + 1), t.length ≤ 60 * (i + 1) ∧ t.length ≠ 0 := by
                          intro t ht
                          rcases pushM_mem ht with h | h
                          · have := hM t h; omega
                          · subst h; exact ⟨by omega, joinM_ne hne⟩
                        refine w_skip ?_
                        refine seq_normal ?_
                        refine w_seq ?_
                        refine w_region ?_
                        refine w_o rfl rfl rfl (op_move rfl ?_)
                        refine w_o rfl rfl rfl (op_call rfl rfl rfl ?_)
                        refine Now_w (hi := (pushM L lx k (q + 1)).length - 1) (M := 60 * (i + 1)) (List.Mem.head _) hto' (fun _ => ⟨by omega, by omega⟩) (List.Mem.tail _ (List.Mem.head _)) hr' (fun y hy => by simp [hy]) (by omega) (by omega) (by omega) (fun t ht => (hMl' t ht).1) (by omega) fun cx Nx hX => ?_
                        rw [if_neg (by omega), show nowM (pushM L lx k (q + 1)) ((pushM L lx k (q + 1)).length - 1) = joinM L lx k by unfold nowM; rw [hpl.2]; rfl] at hX
                        have hXs : Sl (Nx ++ ((p, ringRow m fr' tz' (tz' - 1) (q + 1)) :: (m, Fact.map es' clock') :: (NS' ++ H))) 36 2 cx (joinM L lx k).length ((joinM L lx k).flatMap encS) := hX.slT (fun _ => rfl) (by decide) (fun x hx => List.mem_append_left _ hx)
                        refine w_o rfl rfl rfl (op_assign rfl ?_)
                        refine w_end ?_
                        refine seq_normal ?_
                        refine w_seq ?_
                        refine w_region ?_
                        refine w_o rfl rfl rfl (op_assign rfl ?_)
                        refine w_end ?_
                        refine seq_normal ?_
                        refine w_seq ?_
                        refine w_seq ?_
                        refine w_region ?_
                        refine w_o rfl rfl rfl (op_move rfl ?_)
                        refine w_o rfl rfl rfl (op_eq rfl rfl ?_)
                        refine w_end ?_
                        refine seq_normal ?_
                        first | refine w_cond rfl (fun hI6 => ?_) (fun hI6 => ?_) | refine w_condB rfl (fun hI6 => ?_) (fun hI6 => ?_)
                        · refine w_region ?_
                          refine w_o rfl rfl rfl (op_move rfl ?_)
                          refine w_o rfl rfl rfl (op_lenC und_29 rfl (by first | exact ⟨rfl, fun s e => by cases e⟩ | exact Sl.lenC (by assumption) | (refine Own.lenT (by assumption) ?_ ?_ <;> first | exact fun _ => rfl | decide)) ?_)
                          refine w_o rfl rfl rfl (op_move rfl ?_)
                          refine w_o rfl rfl rfl (op_move rfl ?_)
                          refine w_o rfl rfl rfl (op_indexT (enc := encC) und_22 siz_29 rfl rfl (by first | assumption | (repeat (first | assumption | apply Sl.cons | apply Sl.app))) (fun _ => rfl) rfl (by omega) fun b87 o87 z87 h87 e87 => ?_)
                          rw [hdx] at h87; cases h87
                          refine w_o rfl rfl rfl (op_load1 agg_29 rfl (by first | assumption | exact El.row (by repeat (first | exact List.Mem.head _ | assumption | apply List.Mem.tail | apply List.mem_append_right)) | (repeat (first | assumption | apply El.cons | apply El.app))) ?_)
                          refine w_o rfl rfl rfl (op_lenC und_29 rfl (by first | exact ⟨rfl, fun s e => by cases e⟩ | exact Sl.lenC (by assumption) | (refine Own.lenT (by assumption) ?_ ?_ <;> first | exact fun _ => rfl | decide)) ?_)
                          refine w_o rfl rfl rfl (op_subi rfl rfl (by omega) (by omega) ?_)
                          refine w_o rfl rfl rfl (op_assign rfl ?_)
                          refine w_end ?_
                          refine seq_normal ?_
                          refine w_seq ?_
                          refine w_draw (by decide +kernel) (by decide +kernel) ?_
                          refine w_d rfl rfl rfl (op_move rfl ?_)
                          refine w_d rfl rfl rfl (op_lt rfl rfl ?_)
                          refine w_d rfl rfl rfl (op_move rfl ?_)
                          first | refine w_known (t := 93) rfl (fun g93 => ?_) (fun g93 => ?_) | refine w_knownB (t := 93) rfl (fun g93 => ?_) (fun g93 => ?_)
                          · exact absurd g93 (by omega) --closed
                          · refine w_dg rfl rfl rfl rfl rfl (op_move rfl ?_)
                            refine w_dg rfl rfl rfl rfl rfl (op_lenC und_29 rfl (by first | exact ⟨rfl, fun s e => by cases e⟩ | exact Sl.lenC (by assumption) | (refine Own.lenT (by assumption) ?_ ?_ <;> first | exact fun _ => rfl | decide)) ?_)
                            refine w_dg rfl rfl rfl rfl rfl (op_move rfl ?_)
                            refine w_dg rfl rfl rfl rfl rfl (op_move rfl ?_)
                            refine w_dg rfl rfl rfl rfl rfl (op_indexT (enc := encC) und_22 siz_29 rfl rfl (by first | assumption | (repeat (first | assumption | apply Sl.cons | apply Sl.app))) (fun _ => rfl) rfl (by omega) fun b98 o98 z98 h98 e98 => ?_)
                            rw [hdx] at h98; cases h98
                            refine w_dg rfl rfl rfl rfl rfl (op_load1 agg_29 rfl (by first | assumption | exact El.row (by repeat (first | exact List.Mem.head _ | assumption | apply List.Mem.tail | apply List.mem_append_right)) | (repeat (first | assumption | apply El.cons | apply El.app))) ?_)
                            refine w_dg rfl rfl rfl rfl rfl (op_lenC und_29 rfl (by first | exact ⟨rfl, fun s e => by cases e⟩ | exact Sl.lenC (by assumption) | (refine Own.lenT (by assumption) ?_ ?_ <;> first | exact fun _ => rfl | decide)) ?_)
                            refine w_dg rfl rfl rfl rfl rfl (op_lt rfl rfl ?_)
                            refine w_d rfl rfl rfl (op_pick rfl rfl rfl ?_)
                            refine w_d rfl rfl rfl (op_move rfl ?_)
                            first | refine w_known (t := 103) rfl (fun g103 => ?_) (fun g103 => ?_) | refine w_knownB (t := 103) rfl (fun g103 => ?_) (fun g103 => ?_)
                            · exact absurd g103 (by omega) --closed
                            · refine w_dg rfl rfl rfl rfl rfl (op_move rfl ?_)
                              refine w_dg rfl rfl rfl rfl rfl (op_move rfl ?_)
                              refine w_dg rfl rfl rfl rfl rfl (op_move rfl ?_)
                              refine w_dg rfl rfl rfl rfl rfl (op_move rfl ?_)
                              refine w_dg rfl rfl rfl rfl rfl (op_move rfl ?_)
                              refine w_dg rfl rfl rfl rfl rfl (op_indexT (enc := encC) und_22 siz_29 rfl rfl (by first | assumption | (repeat (first | assumption | apply Sl.cons | apply Sl.app))) (fun _ => rfl) rfl (by omega) fun b109 o109 z109 h109 e109 => ?_)
                              rw [hdx] at h109; cases h109
                              refine w_dg rfl rfl rfl rfl rfl (op_load1 agg_29 rfl (by first | assumption | exact El.row (by repeat (first | exact List.Mem.head _ | assumption | apply List.Mem.tail | apply List.mem_append_right)) | (repeat (first | assumption | apply El.cons | apply El.app))) ?_)
                              refine w_dg rfl rfl rfl rfl rfl (op_lenC und_29 rfl (by first | exact ⟨rfl, fun s e => by cases e⟩ | exact Sl.lenC (by assumption) | (refine Own.lenT (by assumption) ?_ ?_ <;> first | exact fun _ => rfl | decide)) ?_)
                              refine w_dg rfl rfl rfl rfl rfl (op_addi rfl rfl (by omega) (by omega) ?_)
                              refine w_dg rfl rfl rfl rfl rfl (op_sliceT (enc := encS) elm_29 siz_36 (by decide) rfl (by first | assumption | (refine Own.slT (by assumption) ?_ ?_ ?_ <;> first | exact fun _ => rfl | decide | exact fun _ h => h)) (by intro y hy; repeat (first | exact hy | apply List.Mem.tail | apply List.mem_append_right | (apply List.mem_append_left; exact hy))) (fun _ => rfl) rfl rfl (by omega) (by omega) (by omega) (.inr (by omega)) fun c113 N113 h113 => ?_)
                              refine w_dg rfl rfl rfl rfl rfl (op_move rfl ?_)
                              refine w_dg rfl rfl rfl rfl rfl (op_move rfl ?_)
                              refine w_dg rfl rfl rfl rfl rfl (op_indexT (enc := encC) und_22 siz_29 rfl rfl (by first | assumption | (repeat (first | assumption | apply Sl.cons | apply Sl.app))) (fun _ => rfl) rfl (by omega) fun b116 o116 z116 h116 e116 => ?_)
                              rw [hdx] at h116; cases h116
                              have hsame : ∀ (a b : Nat), a = (if k = 1 then (joinM L lx k).length - lx.length else 0) → b = lx.length → ((joinM L lx k).drop a).take b = lx := by
                                intro a b ha hb
                                subst ha; subst hb
                                exact hja.2
                              refine w_dg rfl rfl rfl rfl rfl (op_load1 agg_29 rfl (by first | assumption | exact El.row (by repeat (first | exact List.Mem.head _ | assumption | apply List.Mem.tail | apply List.mem_append_right)) | (repeat (first | assumption | apply El.cons | apply El.app))) ?_)
                              refine w_dg rfl rfl rfl rfl rfl (op_call rfl rfl rfl ?_)
                              refine R04Same_w h113 (hsx.app.cons.cons.app.app) (by rw [List.length_take, List.length_drop]; omega) ?_
                              rw [decide_eq_true (hsame _ _ (by first | (rw [if_pos (by omega)]; omega) | (rw [if_neg (by omega)]; rfl)) (by omega))]
                              refine w_dg rfl rfl rfl rfl rfl (op_not rfl ?_)
                              refine w_d rfl rfl rfl (op_pick rfl rfl rfl ?_)
                              refine w_end ?_
                              refine seq_normal ?_
                              refine w_condF rfl ?_
                              refine w_skip ?_
                              refine block_normal ?_
                              refine seq_normal ?_
                              refine w_region ?_
                              refine w_o rfl rfl rfl (op_move rfl ?_)
                              refine w_o rfl rfl rfl (op_addi rfl rfl (by omega) (by omega) ?_)
                              refine w_o rfl rfl rfl (op_assign rfl ?_)
                              refine w_end ?_
                              first
                                | exact loop_normal (k' := l.length - (i + 1)) (by omega) ⟨i + 1, _, _, _, _, _, _, NS, by omega, rfl, by omega, hr, hto, hf1, by omega, by omega, hLm, (fun t ht => by have := hM t ht; omega), rfl, rfl⟩ (by repeat (first | exact ESub.nil _ | refine ESub.cons rfl ?_)) (by repeat (first | exact Sel.refl _ | refine Sel.assocR ?_ | refine Sel.assocL ?_ | (refine Sel.pickL (by repeat (first | exact PickL.front _ _ | exact PickL.nil _ | apply PickL.skip | apply PickL.skipL)) ?_) | (refine Sel.pick (by repeat (first | exact Pick.head _ _ _ | apply Pick.tail | apply Pick.app)) ?_) | refine Sel.drop _ ?_ | refine Sel.dropL _ ?_))
                                | exact loop_normal (k' := l.length - (i + 1)) (by omega) ⟨i + 1, _, _, _, _, _, _, NS', by omega, rfl, by omega, hr', hto', by omega, by omega, by omega, hpn.1, hMl', rfl, rfl⟩ (by repeat (first | exact ESub.nil _ | refine ESub.cons rfl ?_)) (by repeat (first | exact Sel.refl _ | refine Sel.assocR ?_ | refine Sel.assocL ?_ | (refine Sel.pickL (by repeat (first | exact PickL.front _ _ | exact PickL.nil _ | apply PickL.skip | apply PickL.skipL)) ?_) | (refine Sel.pick (by repeat (first | exact Pick.head _ _ _ | apply Pick.tail | apply Pick.app)) ?_) | refine Sel.drop _ ?_ | refine Sel.dropL _ ?_))
                        · refine w_skip ?_
                          refine seq_normal ?_
                          refine w_seq ?_
                          refine w_draw (by decide +kernel) (by decide +kernel) ?_
                          refine w_d rfl rfl rfl (op_move rfl ?_)
                          refine w_d rfl rfl rfl (op_lt rfl rfl ?_)
                          refine w_d rfl rfl rfl (op_move rfl ?_)
                          first | refine w_known (t := 93) rfl (fun g93 => ?_) (fun g93 => ?_) | refine w_knownB (t := 93) rfl (fun g93 => ?_) (fun g93 => ?_)
                          · exact absurd g93 (by omega) --closed
                          · refine w_dg rfl rfl rfl rfl rfl (op_move rfl ?_)
                            refine w_dg rfl rfl rfl rfl rfl (op_lenC und_29 rfl (by first | exact ⟨rfl, fun s e => by cases e⟩ | exact Sl.lenC (by assumption) | (refine Own.lenT (by assumption) ?_ ?_ <;> first | exact fun _ => rfl | decide)) ?_)
                            refine w_dg rfl rfl rfl rfl rfl (op_move rfl ?_)
                            refine w_dg rfl rfl rfl rfl rfl (op_move rfl ?_)
                            refine w_dg rfl rfl rfl rfl rfl (op_indexT (enc := encC) und_22 siz_29 rfl rfl (by first | assumption | (repeat (first | assumption | apply Sl.cons | apply Sl.app))) (fun _ => rfl) rfl (by omega) fun b98 o98 z98 h98 e98 => ?_)
                            rw [hdx] at h98; cases h98
                            refine w_dg rfl rfl rfl rfl rfl (op_load1 agg_29 rfl (by first | assumption | exact El.row (by repeat (first | exact List.Mem.head _ | assumption | apply List.Mem.tail | apply List.mem_append_right)) | (repeat (first | assumption | apply El.cons | apply El.app))) ?_)
                            refine w_dg rfl rfl rfl rfl rfl (op_lenC und_29 rfl (by first | exact ⟨rfl, fun s e => by cases e⟩ | exact Sl.lenC (by assumption) | (refine Own.lenT (by assumption) ?_ ?_ <;> first | exact fun _ => rfl | decide)) ?_)
                            refine w_dg rfl rfl rfl rfl rfl (op_lt rfl rfl ?_)
                            refine w_d rfl rfl rfl (op_pick rfl rfl rfl ?_)
                            refine w_d rfl rfl rfl (op_move rfl ?_)
                            first | refine w_known (t := 103) rfl (fun g103 => ?_) (fun g103 => ?_) | refine w_knownB (t := 103) rfl (fun g103 => ?_) (fun g103 => ?_)
                            · exact absurd g103 (by omega) --closed
                            · refine w_dg rfl rfl rfl rfl rfl (op_move rfl ?_)
                              refine w_dg rfl rfl rfl rfl rfl (op_move rfl ?_)
                              refine w_dg rfl rfl rfl rfl rfl (op_move rfl ?_)
                              refine w_dg rfl rfl rfl rfl rfl (op_move rfl ?_)
                              refine w_dg rfl rfl rfl rfl rfl (op_move rfl ?_)
                              refine w_dg rfl rfl rfl rfl rfl (op_indexT (enc := encC) und_22 siz_29 rfl rfl (by first | assumption | (repeat (first | assumption | apply Sl.cons | apply Sl.app))) (fun _ => rfl) rfl (by omega) fun b109 o109 z109 h109 e109 => ?_)
                              rw [hdx] at h109; cases h109
                              refine w_dg rfl rfl rfl rfl rfl (op_load1 agg_29 rfl (by first | assumption | exact El.row (by repeat (first | exact List.Mem.head _ | assumption | apply List.Mem.tail | apply List.mem_append_right)) | (repeat (first | assumption | apply El.cons | apply El.app))) ?_)
                              refine w_dg rfl rfl rfl rfl rfl (op_lenC und_29 rfl (by first | exact ⟨rfl, fun s e => by cases e⟩ | exact Sl.lenC (by assumption) | (refine Own.lenT (by assumption) ?_ ?_ <;> first | exact fun _ => rfl | decide)) ?_)
                              refine w_dg rfl rfl rfl rfl rfl (op_addi rfl rfl (by omega) (by omega) ?_)
                              refine w_dg rfl rfl rfl rfl rfl (op_sliceT (enc := encS) elm_29 siz_36 (by decide) rfl (by first | assumption | (refine Own.slT (by assumption) ?_ ?_ ?_ <;> first | exact fun _ => rfl | decide | exact fun _ h => h)) (by intro y hy; repeat (first | exact hy | apply List.Mem.tail | apply List.mem_append_right | (apply List.mem_append_left; exact hy))) (fun _ => rfl) rfl rfl (by omega) (by omega) (by omega) (.inr (by omega)) fun c113 N113 h113 => ?_)
                              refine w_dg rfl rfl rfl rfl rfl (op_move rfl ?_)
                              refine w_dg rfl rfl rfl rfl rfl (op_move rfl ?_)
                              refine w_dg rfl rfl rfl rfl rfl (op_indexT (enc := encC) und_22 siz_29 rfl rfl (by first | assumption | (repeat (first | assumption | apply Sl.cons | apply Sl.app))) (fun _ => rfl) rfl (by omega) fun b116 o116 z116 h116 e116 => ?_)
                              rw [hdx] at h116; cases h116
                              have hsame : ∀ (a b : Nat), a = (if k = 1 then (joinM L lx k).length - lx.length else 0) → b = lx.length → ((joinM L lx k).drop a).take b = lx := by
                                intro a b ha hb
                                subst ha; subst hb
                                exact hja.2
                              refine w_dg rfl rfl rfl rfl rfl (op_load1 agg_29 rfl (by first | assumption | exact El.row (by repeat (first | exact List.Mem.head _ | assumption | apply List.Mem.tail | apply List.mem_append_right)) | (repeat (first | assumption | apply El.cons | apply El.app))) ?_)
                              refine w_dg rfl rfl rfl rfl rfl (op_call rfl rfl rfl ?_)
                              refine R04Same_w h113 (hsx.app.cons.cons.app.app) (by rw [List.length_take, List.length_drop]; omega) ?_
                              rw [decide_eq_true (hsame _ _ (by first | (rw [if_pos (by omega)]; omega) | (rw [if_neg (by omega)]; rfl)) (by omega))]
                              refine w_dg rfl rfl rfl rfl rfl (op_not rfl ?_)
                              refine w_d rfl rfl rfl (op_pick rfl rfl rfl ?_)
                              refine w_end ?_
                              refine seq_normal ?_
                              refine w_condF rfl ?_
                              refine w_skip ?_
                              refine block_normal ?_
                              refine seq_normal ?_
                              refine w_region ?_
                              refine w_o rfl rfl rfl (op_move rfl ?_)
                              refine w_o rfl rfl rfl (op_addi rfl rfl (by omega) (by omega) ?_)
                              refine w_o rfl rfl rfl (op_assign rfl ?_)
                              refine w_end ?_
                              first
                                | exact loop_normal (k' := l.length - (i + 1)) (by omega) ⟨i + 1, _, _, _, _, _, _, NS, by omega, rfl, by omega, hr, hto, hf1, by omega, by omega, hLm, (fun t ht => by have := hM t ht; omega), rfl, rfl⟩ (by repeat (first | exact ESub.nil _ | refine ESub.cons rfl ?_)) (by repeat (first | exact Sel.refl _ | refine Sel.assocR ?_ | refine Sel.assocL ?_ | (refine Sel.pickL (by repeat (first | exact PickL.front _ _ | exact PickL.nil _ | apply PickL.skip | apply PickL.skipL)) ?_) | (refine Sel.pick (by repeat (first | exact Pick.head _ _ _ | apply Pick.tail | apply Pick.app)) ?_) | refine Sel.drop _ ?_ | refine Sel.dropL _ ?_))
                                | exact loop_normal (k' := l.length - (i + 1)) (by omega) ⟨i + 1, _, _, _, _, _, _, NS', by omega, rfl, by omega, hr', hto', by omega, by omega, by omega, hpn.1, hMl', rfl, rfl⟩ (by repeat (first | exact ESub.nil _ | refine ESub.cons rfl ?_)) (by repeat (first | exact Sel.refl _ | refine Sel.assocR ?_ | refine Sel.assocL ?_ | (refine Sel.pickL (by repeat (first | exact PickL.front _ _ | exact PickL.nil _ | apply PickL.skip | apply PickL.skipL)) ?_) | (refine Sel.pick (by repeat (first | exact Pick.head _ _ _ | apply Pick.tail | apply Pick.app)) ?_) | refine Sel.drop _ ?_ | refine Sel.dropL _ ?_))
              · refine w_o rfl rfl rfl (op_assign rfl ?_)
                refine w_end ?_
                refine seq_normal ?_
                refine w_seq ?_
                refine w_seq ?_
                refine w_region ?_
                refine w_o rfl rfl rfl (op_move rfl ?_)
                refine w_o rfl rfl rfl (op_ne rfl rfl ?_)
                refine w_o rfl rfl rfl (op_move rfl ?_)
                first | refine w_known (t := 71) rfl (fun g71 => ?_) (fun g71 => ?_) | refine w_knownB (t := 71) rfl (fun g71 => ?_) (fun g71 => ?_)
                · try (first | exact absurd rfl g71 | exact absurd (by decide) g71)
                  all_goals
                    refine w_u rfl rfl rfl rfl rfl rfl ?_
                    refine w_u rfl rfl rfl rfl rfl rfl ?_
                    refine w_u rfl rfl rfl rfl rfl rfl ?_
                    refine w_u rfl rfl rfl rfl rfl rfl ?_
                    refine w_u rfl rfl rfl rfl rfl rfl ?_
                    refine w_u rfl rfl rfl rfl rfl rfl ?_
                    refine w_o rfl rfl rfl (op_pick rfl rfl rfl ?_)
                    refine w_end ?_
                    refine seq_normal ?_
                    refine w_condT rfl ?_
                    refine w_exit ?_
                    refine seq_exit ?_
                    refine block_hit rfl ?_
                    refine seq_normal ?_
                    refine w_region ?_
                    refine w_o rfl rfl rfl (op_move rfl ?_)
                    refine w_o rfl rfl rfl (op_addi rfl rfl (by omega) (by omega) ?_)
                    refine w_o rfl rfl rfl (op_assign rfl ?_)
                    refine w_end ?_
                    first
                      | exact loop_normal (k' := l.length - (i + 1)) (by omega) ⟨i + 1, _, _, _, _, _, _, NS, by omega, rfl, by omega, hr, hto, hf1, by omega, by omega, hLm, (fun t ht => by have := hM t ht; omega), rfl, rfl⟩ (by repeat (first | exact ESub.nil _ | refine ESub.cons rfl ?_)) (by repeat (first | exact Sel.refl _ | refine Sel.assocR ?_ | refine Sel.assocL ?_ | (refine Sel.pickL (by repeat (first | exact PickL.front _ _ | exact PickL.nil _ | apply PickL.skip | apply PickL.skipL)) ?_) | (refine Sel.pick (by repeat (first | exact Pick.head _ _ _ | apply Pick.tail | apply Pick.app)) ?_) | refine Sel.drop _ ?_ | refine Sel.dropL _ ?_))
                      | exact loop_normal (k' := l.length - (i + 1)) (by omega) ⟨i + 1, _, _, _, _, _, _, NS', by omega, rfl, by omega, hr', hto', by omega, by omega, by omega, hpn.1, hMl', rfl, rfl⟩ (by repeat (first | exact ESub.nil _ | refine ESub.cons rfl ?_)) (by repeat (first | exact Sel.refl _ | refine Sel.assocR ?_ | refine Sel.assocL ?_ | (refine Sel.pickL (by repeat (first | exact PickL.front _ _ | exact PickL.nil _ | apply PickL.skip | apply PickL.skipL)) ?_) | (refine Sel.pick (by repeat (first | exact Pick.head _ _ _ | apply Pick.tail | apply Pick.app)) ?_) | refine Sel.drop _ ?_ | refine Sel.dropL _ ?_))
                · try (first | exact absurd rfl g71 | exact absurd (by decide) g71)
                  all_goals
                    refine w_og rfl rfl rfl rfl rfl (op_move rfl ?_)
                    refine w_og rfl rfl rfl rfl rfl (op_move rfl ?_)
                    refine w_og rfl rfl rfl rfl rfl (op_indexT (enc := encC) und_22 siz_29 rfl rfl (by first | assumption | (repeat (first | assumption | apply Sl.cons | apply Sl.app))) (fun _ => rfl) rfl (by omega) fun b74 o74 z74 h74 e74 => ?_)
                    rw [hdx] at h74; cases h74
                    refine w_og rfl rfl rfl rfl rfl (op_load1 agg_29 rfl (by first | assumption | exact El.row (by repeat (first | exact List.Mem.head _ | assumption | apply List.Mem.tail | apply List.mem_append_right)) | (repeat (first | assumption | apply El.cons | apply El.app))) ?_)
                    refine w_og rfl rfl rfl rfl rfl (op_lenC und_29 rfl (by first | exact ⟨rfl, fun s e => by cases e⟩ | exact Sl.lenC (by assumption) | (refine Own.lenT (by assumption) ?_ ?_ <;> first | exact fun _ => rfl | decide)) ?_)
                    refine w_og rfl rfl rfl rfl rfl (op_eq rfl rfl ?_)
                    refine w_o rfl rfl rfl (op_pick rfl rfl rfl ?_)
                    refine w_end ?_
                    refine seq_normal ?_
                    first | refine w_cond rfl (fun hI5 => ?_) (fun hI5 => ?_) | refine w_condB rfl (fun hI5 => ?_) (fun hI5 => ?_)
                    · try (first | exact absurd (by rw [hz]; rfl) hI5 | exact absurd (Int.ofNat.inj hI5) hne)
                      all_goals
                        refine w_exit ?_
                        refine seq_exit ?_
                        refine block_hit rfl ?_
                        refine seq_normal ?_
                        refine w_region ?_
                        refine w_o rfl rfl rfl (op_move rfl ?_)
                        refine w_o rfl rfl rfl (op_addi rfl rfl (by omega) (by omega) ?_)
                        refine w_o rfl rfl rfl (op_assign rfl ?_)
                        refine w_end ?_
                        first
                          | exact loop_normal (k' := l.length - (i + 1)) (by omega) ⟨i + 1, _, _, _, _, _, _, NS, by omega, rfl, by omega, hr, hto, hf1, by omega, by omega, hLm, (fun t ht => by have := hM t ht; omega), rfl, rfl⟩ (by repeat (first | exact ESub.nil _ | refine ESub.cons rfl ?_)) (by repeat (first | exact Sel.refl _ | refine Sel.assocR ?_ | refine Sel.assocL ?_ | (refine Sel.pickL (by repeat (first | exact PickL.front _ _ | exact PickL.nil _ | apply PickL.skip | apply PickL.skipL)) ?_) | (refine Sel.pick (by repeat (first | exact Pick.head _ _ _ | apply Pick.tail | apply Pick.app)) ?_) | refine Sel.drop _ ?_ | refine Sel.dropL _ ?_))
                          | exact loop_normal (k' := l.length - (i + 1)) (by omega) ⟨i + 1, _, _, _, _, _, _, NS', by omega, rfl, by omega, hr', hto', by omega, by omega, by omega, hpn.1, hMl', rfl, rfl⟩ (by repeat (first | exact ESub.nil _ | refine ESub.cons rfl ?_)) (by repeat (first | exact Sel.refl _ | refine Sel.assocR ?_ | refine Sel.assocL ?_ | (refine Sel.pickL (by repeat (first | exact PickL.front _ _ | exact PickL.nil _ | apply PickL.skip | apply PickL.skipL)) ?_) | (refine Sel.pick (by repeat (first | exact Pick.head _ _ _ | apply Pick.tail | apply Pick.app)) ?_) | refine Sel.drop _ ?_ | refine Sel.dropL _ ?_))
                    · try (first | exact absurd (by rw [hz]; rfl) hI5 | exact absurd (Int.ofNat.inj hI5) hne)
                      all_goals
                        have hpl := pushM_last (L := L) (l := lx) (how := k) (most := q + 1) (by omega)
                        have hpn := pushM_len (l := lx) (how := k) hLm (by omega)
                        have hjl := joinM_le (l := lx) (how := k) hMl
                        have hja := joinM_at L lx k
                        have hMl' : ∀ t ∈ pushM L lx k (q + 1), t.length ≤ 60 * (i + 1) ∧ t.length ≠ 0 := by
                          intro t ht
                          rcases pushM_mem ht with h | h
                          · have := hM t h; omega
                          · subst h; exact ⟨by omega, joinM_ne hne⟩
                        refine w_skip ?_
                        refine seq_normal ?_
                        refine w_seq ?_
                        refine w_region ?_
                        refine w_o rfl rfl rfl (op_move rfl ?_)
                        refine w_o rfl rfl rfl (op_call rfl rfl rfl ?_)
                        refine Now_w (hi := (pushM L lx k (q + 1)).length - 1) (M := 60 * (i + 1)) (List.Mem.head _) hto' (fun _ => ⟨by omega, by omega⟩) (List.Mem.tail _ (List.Mem.head _)) hr' (fun y hy => by simp [hy]) (by omega) (by omega) (by omega) (fun t ht => (hMl' t ht).1) (by omega) fun cx Nx hX => ?_
                        rw [if_neg (by omega), show nowM (pushM L lx k (q + 1)) ((pushM L lx k (q + 1)).length - 1) = joinM L lx k by unfold nowM; rw [hpl.2]; rfl] at hX
                        have hXs : Sl (Nx ++ ((p, ringRow m fr' tz' (tz' - 1) (q + 1)) :: (m, Fact.map es' clock') :: (NS' ++ H))) 36 2 cx (joinM L lx k).length ((joinM L lx k).flatMap encS) := hX.slT (fun _ => rfl) (by decide) (fun x hx => List.mem_append_left _ hx)
                        refine w_o rfl rfl rfl (op_assign rfl ?_)
                        refine w_end ?_
                        refine seq_normal ?_
                        refine w_seq ?_
                        refine w_region ?_
                        refine w_o rfl rfl rfl (op_assign rfl ?_)
                        refine w_end ?_
                        refine seq_normal ?_
                        refine w_seq ?_
                        refine w_seq ?_
                        refine w_region ?_
                        refine w_o rfl rfl rfl (op_move rfl ?_)
                        refine w_o rfl rfl rfl (op_eq rfl rfl ?_)
                        refine w_end ?_
                        refine seq_normal ?_
                        first | refine w_cond rfl (fun hI6 => ?_) (fun hI6 => ?_) | refine w_condB rfl (fun hI6 => ?_) (fun hI6 => ?_)
                        · refine w_region ?_
                          refine w_o rfl rfl rfl (op_move rfl ?_)
                          refine w_o rfl rfl rfl (op_lenC und_29 rfl (by first | exact ⟨rfl, fun s e => by cases e⟩ | exact Sl.lenC (by assumption) | (refine Own.lenT (by assumption) ?_ ?_ <;> first | exact fun _ => rfl | decide)) ?_)
                          refine w_o rfl rfl rfl (op_move rfl ?_)
                          refine w_o rfl rfl rfl (op_move rfl ?_)
                          refine w_o rfl rfl rfl (op_indexT (enc := encC) und_22 siz_29 rfl rfl (by first | assumption | (repeat (first | assumption | apply Sl.cons | apply Sl.app))) (fun _ => rfl) rfl (by omega) fun b87 o87 z87 h87 e87 => ?_)
                          rw [hdx] at h87; cases h87
                          refine w_o rfl rfl rfl (op_load1 agg_29 rfl (by first | assumption | exact El.row (by repeat (first | exact List.Mem.head _ | assumption | apply List.Mem.tail | apply List.mem_append_right)) | (repeat (first | assumption | apply El.cons | apply El.app))) ?_)
                          refine w_o rfl rfl rfl (op_lenC und_29 rfl (by first | exact ⟨rfl, fun s e => by cases e⟩ | exact Sl.lenC (by assumption) | (refine Own.lenT (by assumption) ?_ ?_ <;> first | exact fun _ => rfl | decide)) ?_)
                          refine w_o rfl rfl rfl (op_subi rfl rfl (by omega) (by omega) ?_)
                          refine w_o rfl rfl rfl (op_assign rfl ?_)
                          refine w_end ?_
                          refine seq_normal ?_
                          refine w_seq ?_
                          refine w_draw (by decide +kernel) (by decide +kernel) ?_
                          refine w_d rfl rfl rfl (op_move rfl ?_)
                          refine w_d rfl rfl rfl (op_lt rfl rfl ?_)
                          refine w_d rfl rfl rfl (op_move rfl ?_)
                          first | refine w_known (t := 93) rfl (fun g93 => ?_) (fun g93 => ?_) | refine w_knownB (t := 93) rfl (fun g93 => ?_) (fun g93 => ?_)
                          · exact absurd g93 (by omega) --closed
                          · refine w_dg rfl rfl rfl rfl rfl (op_move rfl ?_)
                            refine w_dg rfl rfl rfl rfl rfl (op_lenC und_29 rfl (by first | exact ⟨rfl, fun s e => by cases e⟩ | exact Sl.lenC (by assumption) | (refine Own.lenT (by assumption) ?_ ?_ <;> first | exact fun _ => rfl | decide)) ?_)
                            refine w_dg rfl rfl rfl rfl rfl (op_move rfl ?_)
                            refine w_dg rfl rfl rfl rfl rfl (op_move rfl ?_)
                            refine w_dg rfl rfl rfl rfl rfl (op_indexT (enc := encC) und_22 siz_29 rfl rfl (by first | assumption | (repeat (first | assumption | apply Sl.cons | apply Sl.app))) (fun _ => rfl) rfl (by omega) fun b98 o98 z98 h98 e98 => ?_)
                            rw [hdx] at h98; cases h98
                            refine w_dg rfl rfl rfl rfl rfl (op_load1 agg_29 rfl (by first | assumption | exact El.row (by repeat (first | exact List.Mem.head _ | assumption | apply List.Mem.tail | apply List.mem_append_right)) | (repeat (first | assumption | apply El.cons | apply El.app))) ?_)
                            refine w_dg rfl rfl rfl rfl rfl (op_lenC und_29 rfl (by first | exact ⟨rfl, fun s e => by cases e⟩ | exact Sl.lenC (by assumption) | (refine Own.lenT (by assumption) ?_ ?_ <;> first | exact fun _ => rfl | decide)) ?_)
                            refine w_dg rfl rfl rfl rfl rfl (op_lt rfl rfl ?_)
                            refine w_d rfl rfl rfl (op_pick rfl rfl rfl ?_)
                            refine w_d rfl rfl rfl (op_move rfl ?_)
                            first | refine w_known (t := 103) rfl (fun g103 => ?_) (fun g103 => ?_) | refine w_knownB (t := 103) rfl (fun g103 => ?_) (fun g103 => ?_)
                            · exact absurd g103 (by omega) --closed
                            · refine w_dg rfl rfl rfl rfl rfl (op_move rfl ?_)
                              refine w_dg rfl rfl rfl rfl rfl (op_move rfl ?_)
                              refine w_dg rfl rfl rfl rfl rfl (op_move rfl ?_)
                              refine w_dg rfl rfl rfl rfl rfl (op_move rfl ?_)
                              refine w_dg rfl rfl rfl rfl rfl (op_move rfl ?_)
                              refine w_dg rfl rfl rfl rfl rfl (op_indexT (enc := encC) und_22 siz_29 rfl rfl (by first | assumption | (repeat (first | assumption | apply Sl.cons | apply Sl.app))) (fun _ => rfl) rfl (by omega) fun b109 o109 z109 h109 e109 => ?_)
                              rw [hdx] at h109; cases h109
                              refine w_dg rfl rfl rfl rfl rfl (op_load1 agg_29 rfl (by first | assumption | exact El.row (by repeat (first | exact List.Mem.head _ | assumption | apply List.Mem.tail | apply List.mem_append_right)) | (repeat (first | assumption | apply El.cons | apply El.app))) ?_)
                              refine w_dg rfl rfl rfl rfl rfl (op_lenC und_29 rfl (by first | exact ⟨rfl, fun s e => by cases e⟩ | exact Sl.lenC (by assumption) | (refine Own.lenT (by assumption) ?_ ?_ <;> first | exact fun _ => rfl | decide)) ?_)
                              refine w_dg rfl rfl rfl rfl rfl (op_addi rfl rfl (by omega) (by omega) ?_)
                              refine w_dg rfl rfl rfl rfl rfl (op_sliceT (enc := encS) elm_29 siz_36 (by decide) rfl (by first | assumption | (refine Own.slT (by assumption) ?_ ?_ ?_ <;> first | exact fun _ => rfl | decide | exact fun _ h => h)) (by intro y hy; repeat (first | exact hy | apply List.Mem.tail | apply List.mem_append_right | (apply List.mem_append_left; exact hy))) (fun _ => rfl) rfl rfl (by omega) (by omega) (by omega) (.inr (by omega)) fun c113 N113 h113 => ?_)
                              refine w_dg rfl rfl rfl rfl rfl (op_move rfl ?_)
                              refine w_dg rfl rfl rfl rfl rfl (op_move rfl ?_)
                              refine w_dg rfl rfl rfl rfl rfl (op_indexT (enc := encC) und_22 siz_29 rfl rfl (by first | assumption | (repeat (first | assumption | apply Sl.cons | apply Sl.app))) (fun _ => rfl) rfl (by omega) fun b116 o116 z116 h116 e116 => ?_)
                              rw [hdx] at h116; cases h116
                              have hsame : ∀ (a b : Nat), a = (if k = 1 then (joinM L lx k).length - lx.length else 0) → b = lx.length → ((joinM L lx k).drop a).take b = lx := by
                                intro a b ha hb
                                subst ha; subst hb
                                exact hja.2
                              refine w_dg rfl rfl rfl rfl rfl (op_load1 agg_29 rfl (by first | assumption | exact El.row (by repeat (first | exact List.Mem.head _ | assumption | apply List.Mem.tail | apply List.mem_append_right)) | (repeat (first | assumption | apply El.cons | apply El.app))) ?_)
                              refine w_dg rfl rfl rfl rfl rfl (op_call rfl rfl rfl ?_)
                              refine R04Same_w h113 (hsx.app.cons.cons.app.app) (by rw [List.length_take, List.length_drop]; omega) ?_
                              rw [decide_eq_true (hsame _ _ (by first | (rw [if_pos (by omega)]; omega) | (rw [if_neg (by omega)]; rfl)) (by omega))]
                              refine w_dg rfl rfl rfl rfl rfl (op_not rfl ?_)
                              refine w_d rfl rfl rfl (op_pick rfl rfl rfl ?_)
                              refine w_end ?_
                              refine seq_normal ?_
                              refine w_condF rfl ?_
                              refine w_skip ?_
                              refine block_normal ?_
                              refine seq_normal ?_
                              refine w_region ?_
                              refine w_o rfl rfl rfl (op_move rfl ?_)
                              refine w_o rfl rfl rfl (op_addi rfl rfl (by omega) (by omega) ?_)
                              refine w_o rfl rfl rfl (op_assign rfl ?_)
                              refine w_end ?_
                              first
                                | exact loop_normal (k' := l.length - (i + 1)) (by omega) ⟨i + 1, _, _, _, _, _, _, NS, by omega, rfl, by omega, hr, hto, hf1, by omega, by omega, hLm, (fun t ht => by have := hM t ht; omega), rfl, rfl⟩ (by repeat (first | exact ESub.nil _ | refine ESub.cons rfl ?_)) (by repeat (first | exact Sel.refl _ | refine Sel.assocR ?_ | refine Sel.assocL ?_ | (refine Sel.pickL (by repeat (first | exact PickL.front _ _ | exact PickL.nil _ | apply PickL.skip | apply PickL.skipL)) ?_) | (refine Sel.pick (by repeat (first | exact Pick.head _ _ _ | apply Pick.tail | apply Pick.app)) ?_) | refine Sel.drop _ ?_ | refine Sel.dropL _ ?_))
                                | exact loop_normal (k' := l.length - (i + 1)) (by omega) ⟨i + 1, _, _, _, _, _, _, NS', by omega, rfl, by omega, hr', hto', by omega, by omega, by omega, hpn.1, hMl', rfl, rfl⟩ (by repeat (first | exact ESub.nil _ | refine ESub.cons rfl ?_)) (by repeat (first | exact Sel.refl _ | refine Sel.assocR ?_ | refine Sel.assocL ?_ | (refine Sel.pickL (by repeat (first | exact PickL.front _ _ | exact PickL.nil _ | apply PickL.skip | apply PickL.skipL)) ?_) | (refine Sel.pick (by repeat (first | exact Pick.head _ _ _ | apply Pick.tail | apply Pick.app)) ?_) | refine Sel.drop _ ?_ | refine Sel.dropL _ ?_))
                        · refine w_skip ?_
                          refine seq_normal ?_
                          refine w_seq ?_
                          refine w_draw (by decide +kernel) (by decide +kernel) ?_
                          refine w_d rfl rfl rfl (op_move rfl ?_)
                          refine w_d rfl rfl rfl (op_lt rfl rfl ?_)
                          refine w_d rfl rfl rfl (op_move rfl ?_)
                          first | refine w_known (t := 93) rfl (fun g93 => ?_) (fun g93 => ?_) | refine w_knownB (t := 93) rfl (fun g93 => ?_) (fun g93 => ?_)
                          · exact absurd g93 (by omega) --closed
                          · refine w_dg rfl rfl rfl rfl rfl (op_move rfl ?_)
                            refine w_dg rfl rfl rfl rfl rfl (op_lenC und_29 rfl (by first | exact ⟨rfl, fun s e => by cases e⟩ | exact Sl.lenC (by assumption) | (refine Own.lenT (by assumption) ?_ ?_ <;> first | exact fun _ => rfl | decide)) ?_)
                            refine w_dg rfl rfl rfl rfl rfl (op_move rfl ?_)
                            refine w_dg rfl rfl rfl rfl rfl (op_move rfl ?_)
                            refine w_dg rfl rfl rfl rfl rfl (op_indexT (enc := encC) und_22 siz_29 rfl rfl (by first | assumption | (repeat (first | assumption | apply Sl.cons | apply Sl.app))) (fun _ => rfl) rfl (by omega) fun b98 o98 z98 h98 e98 => ?_)
                            rw [hdx] at h98; cases h98
                            refine w_dg rfl rfl rfl rfl rfl (op_load1 agg_29 rfl (by first | assumption | exact El.row (by repeat (first | exact List.Mem.head _ | assumption | apply List.Mem.tail | apply List.mem_append_right)) | (repeat (first | assumption | apply El.cons | apply El.app))) ?_)
                            refine w_dg rfl rfl rfl rfl rfl (op_lenC und_29 rfl (by first | exact ⟨rfl, fun s e => by cases e⟩ | exact Sl.lenC (by assumption) | (refine Own.lenT (by assumption) ?_ ?_ <;> first | exact fun _ => rfl | decide)) ?_)
                            refine w_dg rfl rfl rfl rfl rfl (op_lt rfl rfl ?_)
                            refine w_d rfl rfl rfl (op_pick rfl rfl rfl ?_)
                            refine w_d rfl rfl rfl (op_move rfl ?_)
                            first | refine w_known (t := 103) rfl (fun g103 => ?_) (fun g103 => ?_) | refine w_knownB (t := 103) rfl (fun g103 => ?_) (fun g103 => ?_)
                            · exact absurd g103 (by omega) --closed
                            · refine w_dg rfl rfl rfl rfl rfl (op_move rfl ?_)
                              refine w_dg rfl rfl rfl rfl rfl (op_move rfl ?_)
                              refine w_dg rfl rfl rfl rfl rfl (op_move rfl ?_)
                              refine w_dg rfl rfl rfl rfl rfl (op_move rfl ?_)
                              refine w_dg rfl rfl rfl rfl rfl (op_move rfl ?_)
                              refine w_dg rfl rfl rfl rfl rfl (op_indexT (enc := encC) und_22 siz_29 rfl rfl (by first | assumption | (repeat (first | assumption | apply Sl.cons | apply Sl.app))) (fun _ => rfl) rfl (by omega) fun b109 o109 z109 h109 e109 => ?_)
                              rw [hdx] at h109; cases h109
                              refine w_dg rfl rfl rfl rfl rfl (op_load1 agg_29 rfl (by first | assumption | exact El.row (by repeat (first | exact List.Mem.head _ | assumption | apply List.Mem.tail | apply List.mem_append_right)) | (repeat (first | assumption | apply El.cons | apply El.app))) ?_)
                              refine w_dg rfl rfl rfl rfl rfl (op_lenC und_29 rfl (by first | exact ⟨rfl, fun s e => by cases e⟩ | exact Sl.lenC (by assumption) | (refine Own.lenT (by assumption) ?_ ?_ <;> first | exact fun _ => rfl | decide)) ?_)
                              refine w_dg rfl rfl rfl rfl rfl (op_addi rfl rfl (by omega) (by omega) ?_)
                              refine w_dg rfl rfl rfl rfl rfl (op_sliceT (enc := encS) elm_29 siz_36 (by decide) rfl (by first | assumption | (refine Own.slT (by assumption) ?_ ?_ ?_ <;> first | exact fun _ => rfl | decide | exact fun _ h => h)) (by intro y hy; repeat (first | exact hy | apply List.Mem.tail | apply List.mem_append_right | (apply List.mem_append_left; exact hy))) (fun _ => rfl) rfl rfl (by omega) (by omega) (by omega) (.inr (by omega)) fun c113 N113 h113 => ?_)
                              refine w_dg rfl rfl rfl rfl rfl (op_move rfl ?_)
                              refine w_dg rfl rfl rfl rfl rfl (op_move rfl ?_)
                              refine w_dg rfl rfl rfl rfl rfl (op_indexT (enc := encC) und_22 siz_29 rfl rfl (by first | assumption | (repeat (first | assumption | apply Sl.cons | apply Sl.app))) (fun _ => rfl) rfl (by omega) fun b116 o116 z116 h116 e116 => ?_)
                              rw [hdx] at h116; cases h116
                              have hsame : ∀ (a b : Nat), a = (if k = 1 then (joinM L lx k).length - lx.length else 0) → b = lx.length → ((joinM L lx k).drop a).take b = lx := by
                                intro a b ha hb
                                subst ha; subst hb
                                exact hja.2
                              refine w_dg rfl rfl rfl rfl rfl (op_load1 agg_29 rfl (by first | assumption | exact El.row (by repeat (first | exact List.Mem.head _ | assumption | apply List.Mem.tail | apply List.mem_append_right)) | (repeat (first | assumption | apply El.cons | apply El.app))) ?_)
                              refine w_dg rfl rfl rfl rfl rfl (op_call rfl rfl rfl ?_)
                              refine R04Same_w h113 (hsx.app.cons.cons.app.app) (by rw [List.length_take, List.length_drop]; omega) ?_
                              rw [decide_eq_true (hsame _ _ (by first | (rw [if_pos (by omega)]; omega) | (rw [if_neg (by omega)]; rfl)) (by omega))]
                              refine w_dg rfl rfl rfl rfl rfl (op_not rfl ?_)
                              refine w_d rfl rfl rfl (op_pick rfl rfl rfl ?_)
                              refine w_end ?_
                              refine seq_normal ?_
                              refine w_condF rfl ?_
                              refine w_skip ?_
                              refine block_normal ?_
                              refine seq_normal ?_
                              refine w_region ?_
                              refine w_o rfl rfl rfl (op_move rfl ?_)
                              refine w_o rfl rfl rfl (op_addi rfl rfl (by omega) (by omega) ?_)
                              refine w_o rfl rfl rfl (op_assign rfl ?_)
                              refine w_end ?_
                              first
                                | exact loop_normal (k' := l.length - (i + 1)) (by omega) ⟨i + 1, _, _, _, _, _, _, NS, by omega, rfl, by omega, hr, hto, hf1, by omega, by omega, hLm, (fun t ht => by have := hM t ht; omega), rfl, rfl⟩ (by repeat (first | exact ESub.nil _ | refine ESub.cons rfl ?_)) (by repeat (first | exact Sel.refl _ | refine Sel.assocR ?_ | refine Sel.assocL ?_ | (refine Sel.pickL (by repeat (first | exact PickL.front _ _ | exact PickL.nil _ | apply PickL.skip | apply PickL.skipL)) ?_) | (refine Sel.pick (by repeat (first | exact Pick.head _ _ _ | apply Pick.tail | apply Pick.app)) ?_) | refine Sel.drop _ ?_ | refine Sel.dropL _ ?_))
                                | exact loop_normal (k' := l.length - (i + 1)) (by omega) ⟨i + 1, _, _, _, _, _, _, NS', by omega, rfl, by omega, hr', hto', by omega, by omega, by omega, hpn.1, hMl', rfl, rfl⟩ (by repeat (first | exact ESub.nil _ | refine ESub.cons rfl ?_)) (by repeat (first | exact Sel.refl _ | refine Sel.assocR ?_ | refine Sel.assocL ?_ | (refine Sel.pickL (by repeat (first | exact PickL.front _ _ | exact PickL.nil _ | apply PickL.skip | apply PickL.skipL)) ?_) | (refine Sel.pick (by repeat (first | exact Pick.head _ _ _ | apply Pick.tail | apply Pick.app)) ?_) | refine Sel.drop _ ?_ | refine Sel.dropL _ ?_))
              · refine w_o rfl rfl rfl (op_assign rfl ?_)
                refine w_end ?_
                refine seq_normal ?_
                refine w_seq ?_
                refine w_seq ?_
                refine w_region ?_
                refine w_o rfl rfl rfl (op_move rfl ?_)
                refine w_o rfl rfl rfl (op_ne rfl rfl ?_)
                refine w_o rfl rfl rfl (op_move rfl ?_)
                first | refine w_known (t := 71) rfl (fun g71 => ?_) (fun g71 => ?_) | refine w_knownB (t := 71) rfl (fun g71 => ?_) (fun g71 => ?_)
                · try (first | exact absurd rfl g71 | exact absurd (by decide) g71)
                  all_goals
                    refine w_u rfl rfl rfl rfl rfl rfl ?_
                    refine w_u rfl rfl rfl rfl rfl rfl ?_
                    refine w_u rfl rfl rfl rfl rfl rfl ?_
                    refine w_u rfl rfl rfl rfl rfl rfl ?_
                    refine w_u rfl rfl rfl rfl rfl rfl ?_
                    refine w_u rfl rfl rfl rfl rfl rfl ?_
                    refine w_o rfl rfl rfl (op_pick rfl rfl rfl ?_)
                    refine w_end ?_
                    refine seq_normal ?_
                    refine w_condT rfl ?_
                    refine w_exit ?_
                    refine seq_exit ?_
                    refine block_hit rfl ?_
                    refine seq_normal ?_
                    refine w_region ?_
                    refine w_o rfl rfl rfl (op_move rfl ?_)
                    refine w_o rfl rfl rfl (op_addi rfl rfl (by omega) (by omega) ?_)
                    refine w_o rfl rfl rfl (op_assign rfl ?_)
                    refine w_end ?_
                    first
                      | exact loop_normal (k' := l.length - (i + 1)) (by omega) ⟨i + 1, _, _, _, _, _, _, NS, by omega, rfl, by omega, hr, hto, hf1, by omega, by omega, hLm, (fun t ht => by have := hM t ht; omega), rfl, rfl⟩ (by repeat (first | exact ESub.nil _ | refine ESub.cons rfl ?_)) (by repeat (first | exact Sel.refl _ | refine Sel.assocR ?_ | refine Sel.assocL ?_ | (refine Sel.pickL (by repeat (first | exact PickL.front _ _ | exact PickL.nil _ | apply PickL.skip | apply PickL.skipL)) ?_) | (refine Sel.pick (by repeat (first | exact Pick.head _ _ _ | apply Pick.tail | apply Pick.app)) ?_) | refine Sel.drop _ ?_ | refine Sel.dropL _ ?_))
                      | exact loop_normal (k' := l.length - (i + 1)) (by omega) ⟨i + 1, _, _, _, _, _, _, NS', by omega, rfl, by omega, hr', hto', by omega, by omega, by omega, hpn.1, hMl', rfl, rfl⟩ (by repeat (first | exact ESub.nil _ | refine ESub.cons rfl ?_)) (by repeat (first | exact Sel.refl _ | refine Sel.assocR ?_ | refine Sel.assocL ?_ | (refine Sel.pickL (by repeat (first | exact PickL.front _ _ | exact PickL.nil _ | apply PickL.skip | apply PickL.skipL)) ?_) | (refine Sel.pick (by repeat (first | exact Pick.head _ _ _ | apply Pick.tail | apply Pick.app)) ?_) | refine Sel.drop _ ?_ | refine Sel.dropL _ ?_))
                · try (first | exact absurd rfl g71 | exact absurd (by decide) g71)
                  all_goals
                    refine w_og rfl rfl rfl rfl rfl (op_move rfl ?_)
                    refine w_og rfl rfl rfl rfl rfl (op_move rfl ?_)
                    refine w_og rfl rfl rfl rfl rfl (op_indexT (enc := encC) und_22 siz_29 rfl rfl (by first | assumption | (repeat (first | assumption | apply Sl.cons | apply Sl.app))) (fun _ => rfl) rfl (by omega) fun b74 o74 z74 h74 e74 => ?_)
                    rw [hdx] at h74; cases h74
                    refine w_og rfl rfl rfl rfl rfl (op_load1 agg_29 rfl (by first | assumption | exact El.row (by repeat (first | exact List.Mem.head _ | assumption | apply List.Mem.tail | apply List.mem_append_right)) | (repeat (first | assumption | apply El.cons | apply El.app))) ?_)
                    refine w_og rfl rfl rfl rfl rfl (op_lenC und_29 rfl (by first | exact ⟨rfl, fun s e => by cases e⟩ | exact Sl.lenC (by assumption) | (refine Own.lenT (by assumption) ?_ ?_ <;> first | exact fun _ => rfl | decide)) ?_)
                    refine w_og rfl rfl rfl rfl rfl (op_eq rfl rfl ?_)
                    refine w_o rfl rfl rfl (op_pick rfl rfl rfl ?_)
                    refine w_end ?_
                    refine seq_normal ?_
                    first | refine w_cond rfl (fun hI5 => ?_) (fun hI5 => ?_) | refine w_condB rfl (fun hI5 => ?_) (fun hI5 => ?_)
                    · try (first | exact absurd (by rw [hz]; rfl) hI5 | exact absurd (Int.ofNat.inj hI5) hne)
                      all_goals
                        refine w_exit ?_
                        refine seq_exit ?_
                        refine block_hit rfl ?_
                        refine seq_normal ?_
                        refine w_region ?_
                        refine w_o rfl rfl rfl (op_move rfl ?_)
                        refine w_o rfl rfl rfl (op_addi rfl rfl (by omega) (by omega) ?_)
                        refine w_o rfl rfl rfl (op_assign rfl ?_)
                        refine w_end ?_
                        first
                          | exact loop_normal (k' := l.length - (i + 1)) (by omega) ⟨i + 1, _, _, _, _, _, _, NS, by omega, rfl, by omega, hr, hto, hf1, by omega, by omega, hLm, (fun t ht => by have := hM t ht; omega), rfl, rfl⟩ (by repeat (first | exact ESub.nil _ | refine ESub.cons rfl ?_)) (by repeat (first | exact Sel.refl _ | refine Sel.assocR ?_ | refine Sel.assocL ?_ | (refine Sel.pickL (by repeat (first | exact PickL.front _ _ | exact PickL.nil _ | apply PickL.skip | apply PickL.skipL)) ?_) | (refine Sel.pick (by repeat (first | exact Pick.head _ _ _ | apply Pick.tail | apply Pick.app)) ?_) | refine Sel.drop _ ?_ | refine Sel.dropL _ ?_))
                          | exact loop_normal (k' := l.length - (i + 1)) (by omega) ⟨i + 1, _, _, _, _, _, _, NS', by omega, rfl, by omega, hr', hto', by omega, by omega, by omega, hpn.1, hMl', rfl, rfl⟩ (by repeat (first | exact ESub.nil _ | refine ESub.cons rfl ?_)) (by repeat (first | exact Sel.refl _ | refine Sel.assocR ?_ | refine Sel.assocL ?_ | (refine Sel.pickL (by repeat (first | exact PickL.front _ _ | exact PickL.nil _ | apply PickL.skip | apply PickL.skipL)) ?_) | (refine Sel.pick (by repeat (first | exact Pick.head _ _ _ | apply Pick.tail | apply Pick.app)) ?_) | refine Sel.drop _ ?_ | refine Sel.dropL _ ?_))
                    · try (first | exact absurd (by rw [hz]; rfl) hI5 | exact absurd (Int.ofNat.inj hI5) hne)
                      all_goals
                        have hpl := pushM_last (L := L) (l := lx) (how := k) (most := q + 1) (by omega)
                        have hpn := pushM_len (l := lx) (how := k) hLm (by omega)
                        have hjl := joinM_le (l := lx) (how := k) hMl
                        have hja := joinM_at L lx k
                        have hMl' : ∀ t ∈ pushM L lx k (q + 1), t.length ≤ 60 * (i + 1) ∧ t.length ≠ 0 := by
                          intro t ht
                          rcases pushM_mem ht with h | h
                          · have := hM t h; omega
                          · subst h; exact ⟨by omega, joinM_ne hne⟩
                        refine w_skip ?_
                        refine seq_normal ?_
                        refine w_seq ?_
                        refine w_region ?_
                        refine w_o rfl rfl rfl (op_move rfl ?_)
                        refine w_o rfl rfl rfl (op_call rfl rfl rfl ?_)
                        refine Now_w (hi := (pushM L lx k (q + 1)).length - 1) (M := 60 * (i + 1)) (List.Mem.head _) hto' (fun _ => ⟨by omega, by omega⟩) (List.Mem.tail _ (List.Mem.head _)) hr' (fun y hy => by simp [hy]) (by omega) (by omega) (by omega) (fun t ht => (hMl' t ht).1) (by omega) fun cx Nx hX => ?_
                        rw [if_neg (by omega), show nowM (pushM L lx k (q + 1)) ((pushM L lx k (q + 1)).length - 1) = joinM L lx k by unfold nowM; rw [hpl.2]; rfl] at hX
                        have hXs : Sl (Nx ++ ((p, ringRow m fr' tz' (tz' - 1) (q + 1)) :: (m, Fact.map es' clock') :: (NS' ++ H))) 36 2 cx (joinM L lx k).length ((joinM L lx k).flatMap encS) := hX.slT (fun _ => rfl) (by decide) (fun x hx => List.mem_append_left _ hx)
                        refine w_o rfl rfl rfl (op_assign rfl ?_)
                        refine w_end ?_
                        refine seq_normal ?_
                        refine w_seq ?_
                        refine w_region ?_
                        refine w_o rfl rfl rfl (op_assign rfl ?_)
                        refine w_end ?_
                        refine seq_normal ?_
                        refine w_seq ?_
                        refine w_seq ?_
                        refine w_region ?_
                        refine w_o rfl rfl rfl (op_move rfl ?_)
                        refine w_o rfl rfl rfl (op_eq rfl rfl ?_)
                        refine w_end ?_
                        refine seq_normal ?_
                        first | refine w_cond rfl (fun hI6 => ?_) (fun hI6 => ?_) | refine w_condB rfl (fun hI6 => ?_) (fun hI6 => ?_)
                        · refine w_region ?_
                          refine w_o rfl rfl rfl (op_move rfl ?_)
                          refine w_o rfl rfl rfl (op_lenC und_29 rfl (by first | exact ⟨rfl, fun s e => by cases e⟩ | exact Sl.lenC (by assumption) | (refine Own.lenT (by assumption) ?_ ?_ <;> first | exact fun _ => rfl | decide)) ?_)
                          refine w_o rfl rfl rfl (op_move rfl ?_)
                          refine w_o rfl rfl rfl (op_move rfl ?_)
                          refine w_o rfl rfl rfl (op_indexT (enc := encC) und_22 siz_29 rfl rfl (by first | assumption | (repeat (first | assumption | apply Sl.cons | apply Sl.app))) (fun _ => rfl) rfl (by omega) fun b87 o87 z87 h87 e87 => ?_)
                          rw [hdx] at h87; cases h87
                          refine w_o rfl rfl rfl (op_load1 agg_29 rfl (by first | assumption | exact El.row (by repeat (first | exact List.Mem.head _ | assumption | apply List.Mem.tail | apply List.mem_append_right)) | (repeat (first | assumption | apply El.cons | apply El.app))) ?_)
                          refine w_o rfl rfl rfl (op_lenC und_29 rfl (by first | exact ⟨rfl, fun s e => by cases e⟩ | exact Sl.lenC (by assumption) | (refine Own.lenT (by assumption) ?_ ?_ <;> first | exact fun _ => rfl | decide)) ?_)
                          refine w_o rfl rfl rfl (op_subi rfl rfl (by omega) (by omega) ?_)
                          refine w_o rfl rfl rfl (op_assign rfl ?_)
                          refine w_end ?_
                          refine seq_normal ?_
                          refine w_seq ?_
                          refine w_draw (by decide +kernel) (by decide +kernel) ?_
                          refine w_d rfl rfl rfl (op_move rfl ?_)
                          refine w_d rfl rfl rfl (op_lt rfl rfl ?_)
                          refine w_d rfl rfl rfl (op_move rfl ?_)
                          first | refine w_known (t := 93) rfl (fun g93 => ?_) (fun g93 => ?_) | refine w_knownB (t := 93) rfl (fun g93 => ?_) (fun g93 => ?_)
                          · exact absurd g93 (by omega) --closed
                          · refine w_dg rfl rfl rfl rfl rfl (op_move rfl ?_)
                            refine w_dg rfl rfl rfl rfl rfl (op_lenC und_29 rfl (by first | exact ⟨rfl, fun s e => by cases e⟩ | exact Sl.lenC (by assumption) | (refine Own.lenT (by assumption) ?_ ?_ <;> first | exact fun _ => rfl | decide)) ?_)
                            refine w_dg rfl rfl rfl rfl rfl (op_move rfl ?_)
                            refine w_dg rfl rfl rfl rfl rfl (op_move rfl ?_)
                            refine w_dg rfl rfl rfl rfl rfl (op_indexT (enc := encC) und_22 siz_29 rfl rfl (by first | assumption | (repeat (first | assumption | apply Sl.cons | apply Sl.app))) (fun _ => rfl) rfl (by omega) fun b98 o98 z98 h98 e98 => ?_)
                            rw [hdx] at h98; cases h98
                            refine w_dg rfl rfl rfl rfl rfl (op_load1 agg_29 rfl (by first | assumption | exact El.row (by repeat (first | exact List.Mem.head _ | assumption | apply List.Mem.tail | apply List.mem_append_right)) | (repeat (first | assumption | apply El.cons | apply El.app))) ?_)
                            refine w_dg rfl rfl rfl rfl rfl (op_lenC und_29 rfl (by first | exact ⟨rfl, fun s e => by cases e⟩ | exact Sl.lenC (by assumption) | (refine Own.lenT (by assumption) ?_ ?_ <;> first | exact fun _ => rfl | decide)) ?_)
                            refine w_dg rfl rfl rfl rfl rfl (op_lt rfl rfl ?_)
                            refine w_d rfl rfl rfl (op_pick rfl rfl rfl ?_)
                            refine w_d rfl rfl rfl (op_move rfl ?_)
                            first | refine w_known (t := 103) rfl (fun g103 => ?_) (fun g103 => ?_) | refine w_knownB (t := 103) rfl (fun g103 => ?_) (fun g103 => ?_)
                            · exact absurd g103 (by omega) --closed
                            · refine w_dg rfl rfl rfl rfl rfl (op_move rfl ?_)
                              refine w_dg rfl rfl rfl rfl rfl (op_move rfl ?_)
                              refine w_dg rfl rfl rfl rfl rfl (op_move rfl ?_)
                              refine w_dg rfl rfl rfl rfl rfl (op_move rfl ?_)
                              refine w_dg rfl rfl rfl rfl rfl (op_move rfl ?_)
                              refine w_dg rfl rfl rfl rfl rfl (op_indexT (enc := encC) und_22 siz_29 rfl rfl (by first | assumption | (repeat (first | assumption | apply Sl.cons | apply Sl.app))) (fun _ => rfl) rfl (by omega) fun b109 o109 z109 h109 e109 => ?_)
                              rw [hdx] at h109; cases h109
                              refine w_dg rfl rfl rfl rfl rfl (op_load1 agg_29 rfl (by first | assumption | exact El.row (by repeat (first | exact List.Mem.head _ | assumption | apply List.Mem.tail | apply List.mem_append_right)) | (repeat (first | assumption | apply El.cons | apply El.app))) ?_)
                              refine w_dg rfl rfl rfl rfl rfl (op_lenC und_29 rfl (by first | exact ⟨rfl, fun s e => by cases e⟩ | exact Sl.lenC (by assumption) | (refine Own.lenT (by assumption) ?_ ?_ <;> first | exact fun _ => rfl | decide)) ?_)
                              refine w_dg rfl rfl rfl rfl rfl (op_addi rfl rfl (by omega) (by omega) ?_)
                              refine w_dg rfl rfl rfl rfl rfl (op_sliceT (enc := encS) elm_29 siz_36 (by decide) rfl (by first | assumption | (refine Own.slT (by assumption) ?_ ?_ ?_ <;> first | exact fun _ => rfl | decide | exact fun _ h => h)) (by intro y hy; repeat (first | exact hy | apply List.Mem.tail | apply List.mem_append_right | (apply List.mem_append_left; exact hy))) (fun _ => rfl) rfl rfl (by omega) (by omega) (by omega) (.inr (by omega)) fun c113 N113 h113 => ?_)
                              refine w_dg rfl rfl rfl rfl rfl (op_move rfl ?_)
                              refine w_dg rfl rfl rfl rfl rfl (op_move rfl ?_)
                              refine w_dg rfl rfl rfl rfl rfl (op_indexT (enc := encC) und_22 siz_29 rfl rfl (by first | assumption | (repeat (first | assumption | apply Sl.cons | apply Sl.app))) (fun _ => rfl) rfl (by omega) fun b116 o116 z116 h116 e116 => ?_)
                              rw [hdx] at h116; cases h116
                              have hsame : ∀ (a b : Nat), a = (if k = 1 then (joinM L lx k).length - lx.length else 0) → b = lx.length → ((joinM L lx k).drop a).take b = lx := by
                                intro a b ha hb
                                subst ha; subst hb
                                exact hja.2
                              refine w_dg rfl rfl rfl rfl rfl (op_load1 agg_29 rfl (by first | assumption | exact El.row (by repeat (first | exact List.Mem.head _ | assumption | apply List.Mem.tail | apply List.mem_append_right)) | (repeat (first | assumption | apply El.cons | apply El.app))) ?_)
                              refine w_dg rfl rfl rfl rfl rfl (op_call rfl rfl rfl ?_)
                              refine R04Same_w h113 (hsx.app.cons.cons.app.app) (by rw [List.length_take, List.length_drop]; omega) ?_
                              rw [decide_eq_true (hsame _ _ (by first | (rw [if_pos (by omega)]; omega) | (rw [if_neg (by omega)]; rfl)) (by omega))]
                              refine w_dg rfl rfl rfl rfl rfl (op_not rfl ?_)
                              refine w_d rfl rfl rfl (op_pick rfl rfl rfl ?_)
                              refine w_end ?_
                              refine seq_normal ?_
                              refine w_condF rfl ?_
                              refine w_skip ?_
                              refine block_normal ?_
                              refine seq_normal ?_
                              refine w_region ?_
                              refine w_o rfl rfl rfl (op_move rfl ?_)
                              refine w_o rfl rfl rfl (op_addi rfl rfl (by omega) (by omega) ?_)
                              refine w_o rfl rfl rfl (op_assign rfl ?_)
                              refine w_end ?_
                              first
                                | exact loop_normal (k' := l.length - (i + 1)) (by omega) ⟨i + 1, _, _, _, _, _, _, NS, by omega, rfl, by omega, hr, hto, hf1, by omega, by omega, hLm, (fun t ht => by have := hM t ht; omega), rfl, rfl⟩ (by repeat (first | exact ESub.nil _ | refine ESub.cons rfl ?_)) (by repeat (first | exact Sel.refl _ | refine Sel.assocR ?_ | refine Sel.assocL ?_ | (refine Sel.pickL (by repeat (first | exact PickL.front _ _ | exact PickL.nil _ | apply PickL.skip | apply PickL.skipL)) ?_) | (refine Sel.pick (by repeat (first | exact Pick.head _ _ _ | apply Pick.tail | apply Pick.app)) ?_) | refine Sel.drop _ ?_ | refine Sel.dropL _ ?_))
                                | exact loop_normal (k' := l.length - (i + 1)) (by omega) ⟨i + 1, _, _, _, _, _, _, NS', by omega, rfl, by omega, hr', hto', by omega, by omega, by omega, hpn.1, hMl', rfl, rfl⟩ (by repeat (first | exact ESub.nil _ | refine ESub.cons rfl ?_)) (by repeat (first | exact Sel.refl _ | refine Sel.assocR ?_ | refine Sel.assocL ?_ | (refine Sel.pickL (by repeat (first | exact PickL.front _ _ | exact PickL.nil _ | apply PickL.skip | apply PickL.skipL)) ?_) | (refine Sel.pick (by repeat (first | exact Pick.head _ _ _ | apply Pick.tail | apply Pick.app)) ?_) | refine Sel.drop _ ?_ | refine Sel.dropL _ ?_))
                        · refine w_skip ?_
                          refine seq_normal ?_
                          refine w_seq ?_
                          refine w_draw (by decide +kernel) (by decide +kernel) ?_
                          refine w_d rfl rfl rfl (op_move rfl ?_)
                          refine w_d rfl rfl rfl (op_lt rfl rfl ?_)
                          refine w_d rfl rfl rfl (op_move rfl ?_)
                          first | refine w_known (t := 93) rfl (fun g93 => ?_) (fun g93 => ?_) | refine w_knownB (t := 93) rfl (fun g93 => ?_) (fun g93 => ?_)
                          · exact absurd g93 (by omega) --closed
                          · refine w_dg rfl rfl rfl rfl rfl (op_move rfl ?_)
                            refine w_dg rfl rfl rfl rfl rfl (op_lenC und_29 rfl (by first | exact ⟨rfl, fun s e => by cases e⟩ | exact Sl.lenC (by assumption) | (refine Own.lenT (by assumption) ?_ ?_ <;> first | exact fun _ => rfl | decide)) ?_)
                            refine w_dg rfl rfl rfl rfl rfl (op_move rfl ?_)
                            refine w_dg rfl rfl rfl rfl rfl (op_move rfl ?_)
                            refine w_dg rfl rfl rfl rfl rfl (op_indexT (enc := encC) und_22 siz_29 rfl rfl (by first | assumption | (repeat (first | assumption | apply Sl.cons | apply Sl.app))) (fun _ => rfl) rfl (by omega) fun b98 o98 z98 h98 e98 => ?_)
                            rw [hdx] at h98; cases h98
                            refine w_dg rfl rfl rfl rfl rfl (op_load1 agg_29 rfl (by first | assumption | exact El.row (by repeat (first | exact List.Mem.head _ | assumption | apply List.Mem.tail | apply List.mem_append_right)) | (repeat (first | assumption | apply El.cons | apply El.app))) ?_)
                            refine w_dg rfl rfl rfl rfl rfl (op_lenC und_29 rfl (by first | exact ⟨rfl, fun s e => by cases e⟩ | exact Sl.lenC (by assumption) | (refine Own.lenT (by assumption) ?_ ?_ <;> first | exact fun _ => rfl | decide)) ?_)
                            refine w_dg rfl rfl rfl rfl rfl (op_lt rfl rfl ?_)
                            refine w_d rfl rfl rfl (op_pick rfl rfl rfl ?_)
                            refine w_d rfl rfl rfl (op_move rfl ?_)
                            first | refine w_known (t := 103) rfl (fun g103 => ?_) (fun g103 => ?_) | refine w_knownB (t := 103) rfl (fun g103 => ?_) (fun g103 => ?_)
                            · exact absurd g103 (by omega) --closed
                            · refine w_dg rfl rfl rfl rfl rfl (op_move rfl ?_)
                              refine w_dg rfl rfl rfl rfl rfl (op_move rfl ?_)
                              refine w_dg rfl rfl rfl rfl rfl (op_move rfl ?_)
                              refine w_dg rfl rfl rfl rfl rfl (op_move rfl ?_)
                              refine w_dg rfl rfl rfl rfl rfl (op_move rfl ?_)
                              refine w_dg rfl rfl rfl rfl rfl (op_indexT (enc := encC) und_22 siz_29 rfl rfl (by first | assumption | (repeat (first | assumption | apply Sl.cons | apply Sl.app))) (fun _ => rfl) rfl (by omega) fun b109 o109 z109 h109 e109 => ?_)
                              rw [hdx] at h109; cases h109
                              refine w_dg rfl rfl rfl rfl rfl (op_load1 agg_29 rfl (by first | assumption | exact El.row (by repeat (first | exact List.Mem.head _ | assumption | apply List.Mem.tail | apply List.mem_append_right)) | (repeat (first | assumption | apply El.cons | apply El.app))) ?_)
                              refine w_dg rfl rfl rfl rfl rfl (op_lenC und_29 rfl (by first | exact ⟨rfl, fun s e => by cases e⟩ | exact Sl.lenC (by assumption) | (refine Own.lenT (by assumption) ?_ ?_ <;> first | exact fun _ => rfl | decide)) ?_)
                              refine w_dg rfl rfl rfl rfl rfl (op_addi rfl rfl (by omega) (by omega) ?_)
                              refine w_dg rfl rfl rfl rfl rfl (op_sliceT (enc := encS) elm_29 siz_36 (by decide) rfl (by first | assumption | (refine Own.slT (by assumption) ?_ ?_ ?_ <;> first | exact fun _ => rfl | decide | exact fun _ h => h)) (by intro y hy; repeat (first | exact hy | apply List.Mem.tail | apply List.mem_append_right | (apply List.mem_append_left; exact hy))) (fun _ => rfl) rfl rfl (by omega) (by omega) (by omega) (.inr (by omega)) fun c113 N113 h113 => ?_)
                              refine w_dg rfl rfl rfl rfl rfl (op_move rfl ?_)
                              refine w_dg rfl rfl rfl rfl rfl (op_move rfl ?_)
                              refine w_dg rfl rfl rfl rfl rfl (op_indexT (enc := encC) und_22 siz_29 rfl rfl (by first | assumption | (repeat (first | assumption | apply Sl.cons | apply Sl.app))) (fun _ => rfl) rfl (by omega) fun b116 o116 z116 h116 e116 => ?_)
                              rw [hdx] at h116; cases h116
                              have hsame : ∀ (a b : Nat), a = (if k = 1 then (joinM L lx k).length - lx.length else 0) → b = lx.length → ((joinM L lx k).drop a).take b = lx := by
                                intro a b ha hb
                                subst ha; subst hb
                                exact hja.2
                              refine w_dg rfl rfl rfl rfl rfl (op_load1 agg_29 rfl (by first | assumption | exact El.row (by repeat (first | exact List.Mem.head _ | assumption | apply List.Mem.tail | apply List.mem_append_right)) | (repeat (first | assumption | apply El.cons | apply El.app))) ?_)
                              refine w_dg rfl rfl rfl rfl rfl (op_call rfl rfl rfl ?_)
                              refine R04Same_w h113 (hsx.app.cons.cons.app.app) (by rw [List.length_take, List.length_drop]; omega) ?_
                              rw [decide_eq_true (hsame _ _ (by first | (rw [if_pos (by omega)]; omega) | (rw [if_neg (by omega)]; rfl)) (by omega))]
                              refine w_dg rfl rfl rfl rfl rfl (op_not rfl ?_)
                              refine w_d rfl rfl rfl (op_pick rfl rfl rfl ?_)
                              refine w_end ?_
                              refine seq_normal ?_
                              refine w_condF rfl ?_
                              refine w_skip ?_
                              refine block_normal ?_
                              refine seq_normal ?_
                              refine w_region ?_
                              refine w_o rfl rfl rfl (op_move rfl ?_)
                              refine w_o rfl rfl rfl (op_addi rfl rfl (by omega) (by omega) ?_)
                              refine w_o rfl rfl rfl (op_assign rfl ?_)
                              refine w_end ?_
                              first
                                | exact loop_normal (k' := l.length - (i + 1)) (by omega) ⟨i + 1, _, _, _, _, _, _, NS, by omega, rfl, by omega, hr, hto, hf1, by omega, by omega, hLm, (fun t ht => by have := hM t ht; omega), rfl, rfl⟩ (by repeat (first | exact ESub.nil _ | refine ESub.cons rfl ?_)) (by repeat (first | exact Sel.refl _ | refine Sel.assocR ?_ | refine Sel.assocL ?_ | (refine Sel.pickL (by repeat (first | exact PickL.front _ _ | exact PickL.nil _ | apply PickL.skip | apply PickL.skipL)) ?_) | (refine Sel.pick (by repeat (first | exact Pick.head _ _ _ | apply Pick.tail | apply Pick.app)) ?_) | refine Sel.drop _ ?_ | refine Sel.dropL _ ?_))
                                | exact loop_normal (k' := l.length - (i + 1)) (by omega) ⟨i + 1, _, _, _, _, _, _, NS', by omega, rfl, by omega, hr', hto', by omega, by omega, by omega, hpn.1, hMl', rfl, rfl⟩ (by repeat (first | exact ESub.nil _ | refine ESub.cons rfl ?_)) (by repeat (first | exact Sel.refl _ | refine Sel.assocR ?_ | refine Sel.assocL ?_ | (refine Sel.pickL (by repeat (first | exact PickL.front _ _ | exact PickL.nil _ | apply PickL.skip | apply PickL.skipL)) ?_) | (refine Sel.pick (by repeat (first | exact Pick.head _ _ _ | apply Pick.tail | apply Pick.app)) ?_) | refine Sel.drop _ ?_ | refine Sel.dropL _ ?_))
          · refine w_exit ?_
            refine seq_exit ?_
            refine loop_exit ?_
            refine block_hit rfl ?_
            refine seq_normal ?_
            refine w_seq ?_
            refine w_region ?_
            refine w_o rfl rfl rfl (op_move rfl ?_)
            refine w_o rfl rfl rfl (op_call rfl rfl rfl ?_)
            refine All_w (M := 60 * i) (List.Mem.head _) hto (List.Mem.tail _ (List.Mem.head _)) hr (fun y hy => by simp [hy]) hf1 (by omega) (by omega) hMl (by omega) fun ca csa No Ni hOa hcsa hina => ?_
            have hla : Sl (No ++ (Ni ++ ((p, ringRow m fr tz hand (q + 1)) :: (m, Fact.map es clock) :: (NS ++ H)))) 29 1 ca csa.length (csa.flatMap encC) := hOa.slT (fun _ => rfl) (by decide) (fun x hx => List.mem_append_left _ hx)
            refine w_o rfl rfl rfl (op_assign rfl ?_)
            refine w_end ?_
            refine seq_normal ?_
            refine w_seq ?_
            refine w_seq ?_
            refine w_region ?_
            refine w_o rfl rfl rfl (op_assign rfl ?_)
            refine w_end ?_
            refine seq_normal ?_
            refine w_block ?_
            refine w_loop (fun z e H' => ∃ (j : Nat), j ≤ L.length ∧ z = L.length - j ∧ No ++ (Ni ++ ((p, ringRow m fr tz hand (q + 1)) :: (m, Fact.map es clock) :: (NS ++ H))) = H' ∧ e = [(2, .one (.c (.int .u8 a2))), (14, .one (.c ca)), (15, vI (j : Nat))]) ?_ ?_
            · exact ⟨_, _, _, ⟨0, Nat.zero_le _, rfl, rfl, rfl⟩, (by repeat (first | exact ESub.nil _ | refine ESub.cons rfl ?_)), (by repeat (first | exact Sel.refl _ | refine Sel.assocR ?_ | refine Sel.assocL ?_ | (refine Sel.pickL (by repeat (first | exact PickL.front _ _ | exact PickL.nil _ | apply PickL.skip | apply PickL.skipL)) ?_) | (refine Sel.pick (by repeat (first | exact Pick.head _ _ _ | apply Pick.tail | apply Pick.app)) ?_) | refine Sel.drop _ ?_ | refine Sel.dropL _ ?_))⟩
            · rintro z e H' ⟨j, hj, rfl, rfl, rfl⟩
              refine w_seq ?_
              refine w_seq ?_
              refine w_region ?_
              refine w_o rfl rfl rfl (op_move rfl ?_)
              refine w_o rfl rfl rfl (op_move rfl ?_)
              refine w_o rfl rfl rfl (op_lenC und_22 rfl (by first | exact ⟨rfl, fun s e => by cases e⟩ | exact Sl.lenC (by assumption) | (refine Own.lenT (by assumption) ?_ ?_ <;> first | exact fun _ => rfl | decide)) ?_)
              refine w_o rfl rfl rfl (op_lt rfl rfl ?_)
              refine w_end ?_
              refine seq_normal ?_
              first | refine w_cond rfl (fun hI8 => ?_) (fun hI8 => ?_) | refine w_condB rfl (fun hI8 => ?_) (fun hI8 => ?_)
              · obtain ⟨ly, hly⟩ : ∃ x, L[j]? = some x := ⟨_, List.getElem?_eq_getElem (by omega)⟩
                refine w_skip ?_
                refine seq_normal ?_
                refine w_seq ?_
                refine w_block ?_
                refine w_seq ?_
                refine w_region ?_
                refine w_o rfl rfl rfl (op_move rfl ?_)
                refine w_o rfl rfl rfl (op_move rfl ?_)
                refine w_o rfl rfl rfl (op_indexT (enc := encC) und_22 siz_29 rfl rfl (by first | assumption | (repeat (first | assumption | apply Sl.cons | apply Sl.app))) (fun _ => rfl) rfl (by omega) fun b131 o131 z131 h131 e131 => ?_)
                have hy := (hina j z131 ly h131 hly).app (N := No)
                have hne := (hM ly (List.mem_of_getElem? hly)).2
                refine w_o rfl rfl rfl (op_load1 agg_29 rfl (by first | assumption | exact El.row (by repeat (first | exact List.Mem.head _ | assumption | apply List.Mem.tail | apply List.mem_append_right)) | (repeat (first | assumption | apply El.cons | apply El.app))) ?_)
                refine w_o rfl rfl rfl (op_lenC und_29 rfl (by first | exact ⟨rfl, fun s e => by cases e⟩ | exact Sl.lenC (by assumption) | (refine Own.lenT (by assumption) ?_ ?_ <;> first | exact fun _ => rfl | decide)) ?_)
                refine w_o rfl rfl rfl (op_eq rfl rfl ?_)
                refine w_end ?_
                refine seq_normal ?_
                refine w_condN rfl (by omega) ?_
                refine w_skip ?_
                refine block_normal ?_
                refine seq_normal ?_
                refine w_region ?_
                refine w_o rfl rfl rfl (op_move rfl ?_)
                refine w_o rfl rfl rfl (op_addi rfl rfl (by omega) (by omega) ?_)
                refine w_o rfl rfl rfl (op_assign rfl ?_)
                refine w_end ?_
                exact loop_normal (k' := L.length - (j + 1)) (by omega) ⟨j + 1, by omega, rfl, rfl, rfl⟩ (by repeat (first | exact ESub.nil _ | refine ESub.cons rfl ?_)) (by repeat (first | exact Sel.refl _ | refine Sel.assocR ?_ | refine Sel.assocL ?_ | (refine Sel.pickL (by repeat (first | exact PickL.front _ _ | exact PickL.nil _ | apply PickL.skip | apply PickL.skipL)) ?_) | (refine Sel.pick (by repeat (first | exact Pick.head _ _ _ | apply Pick.tail | apply Pick.app)) ?_) | refine Sel.drop _ ?_ | refine Sel.dropL _ ?_))
              · refine w_exit ?_
                refine seq_exit ?_
                refine loop_exit ?_
                refine block_hit rfl ?_
                refine seq_normal ?_
                refine w_seq ?_
                refine w_region ?_
                refine w_o rfl rfl rfl (op_move rfl ?_)
                refine w_o rfl rfl rfl (op_lenC und_22 rfl (by first | exact ⟨rfl, fun s e => by cases e⟩ | exact Sl.lenC (by assumption) | (refine Own.lenT (by assumption) ?_ ?_ <;> first | exact fun _ => rfl | decide)) ?_)
                refine w_o rfl rfl rfl (op_move rfl ?_)
                refine w_o rfl rfl rfl (op_remi rfl rfl (by decide) hq ?_)
                refine w_o rfl rfl rfl (op_convi und_5 und_3 rfl (wrap_i64 (by omega) (by omega)) ?_)
                refine w_o rfl rfl rfl (op_addi rfl rfl (by omega) (by omega) ?_)
                refine w_o rfl rfl rfl (op_le rfl rfl ?_)
                refine w_o rfl rfl rfl (op_assign rfl ?_)
                refine w_end ?_
                refine seq_normal ?_
                refine w_ret ?_
                exact ret_bool rfl (.refl _) (decide_eq_true (by omega)) rfl
        · refine w_u rfl rfl rfl rfl rfl rfl ?_
          refine w_u rfl rfl rfl rfl rfl rfl ?_
          refine w_u rfl rfl rfl rfl rfl rfl ?_
          refine w_u rfl rfl rfl rfl rfl rfl ?_
          refine w_o rfl rfl rfl (op_pick rfl rfl rfl ?_)
          refine w_end ?_
          refine seq_normal ?_
          refine w_condF rfl ?_
          refine w_exit ?_
          refine seq_exit ?_
          refine loop_exit ?_
          refine block_hit rfl ?_
          refine seq_normal ?_
          refine w_seq ?_
          refine w_region ?_
          refine w_o rfl rfl rfl (op_move rfl ?_)
          refine w_o rfl rfl rfl (op_call rfl rfl rfl ?_)
          refine All_w (M := 60 * i) (List.Mem.head _) hto (List.Mem.tail _ (List.Mem.head _)) hr (fun y hy => by simp [hy]) hf1 (by omega) (by omega) hMl (by omega) fun ca csa No Ni hOa hcsa hina => ?_
          have hla : Sl (No ++ (Ni ++ ((p, ringRow m fr tz hand (q + 1)) :: (m, Fact.map es clock) :: (NS ++ H)))) 29 1 ca csa.length (csa.flatMap encC) := hOa.slT (fun _ => rfl) (by decide) (fun x hx => List.mem_append_left _ hx)
          refine w_o rfl rfl rfl (op_assign rfl ?_)
          refine w_end ?_
          refine seq_normal ?_
          refine w_seq ?_
          refine w_seq ?_
          refine w_region ?_
          refine w_o rfl rfl rfl (op_assign rfl ?_)
          refine w_end ?_
          refine seq_normal ?_
          refine w_block ?_
          refine w_loop (fun z e H' => ∃ (j : Nat), j ≤ L.length ∧ z = L.length - j ∧ No ++ (Ni ++ ((p, ringRow m fr tz hand (q + 1)) :: (m, Fact.map es clock) :: (NS ++ H))) = H' ∧ e = [(2, .one (.c (.int .u8 a2))), (14, .one (.c ca)), (15, vI (j : Nat))]) ?_ ?_
          · exact ⟨_, _, _, ⟨0, Nat.zero_le _, rfl, rfl, rfl⟩, (by repeat (first | exact ESub.nil _ | refine ESub.cons rfl ?_)), (by repeat (first | exact Sel.refl _ | refine Sel.assocR ?_ | refine Sel.assocL ?_ | (refine Sel.pickL (by repeat (first | exact PickL.front _ _ | exact PickL.nil _ | apply PickL.skip | apply PickL.skipL)) ?_) | (refine Sel.pick (by repeat (first | exact Pick.head _ _ _ | apply Pick.tail | apply Pick.app)) ?_) | refine Sel.drop _ ?_ | refine Sel.dropL _ ?_))⟩
          · rintro z e H' ⟨j, hj, rfl, rfl, rfl⟩
            refine w_seq ?_
            refine w_seq ?_
            refine w_region ?_
            refine w_o rfl rfl rfl (op_move rfl ?_)
            refine w_o rfl rfl rfl (op_move rfl ?_)
            refine w_o rfl rfl rfl (op_lenC und_22 rfl (by first | exact ⟨rfl, fun s e => by cases e⟩ | exact Sl.lenC (by assumption) | (refine Own.lenT (by assumption) ?_ ?_ <;> first | exact fun _ => rfl | decide)) ?_)
            refine w_o rfl rfl rfl (op_lt rfl rfl ?_)
            refine w_end ?_
            refine seq_normal ?_
            first | refine w_cond rfl (fun hI8 => ?_) (fun hI8 => ?_) | refine w_condB rfl (fun hI8 => ?_) (fun hI8 => ?_)
            · obtain ⟨ly, hly⟩ : ∃ x, L[j]? = some x := ⟨_, List.getElem?_eq_getElem (by omega)⟩
              refine w_skip ?_
              refine seq_normal ?_
              refine w_seq ?_
              refine w_block ?_
              refine w_seq ?_
              refine w_region ?_
              refine w_o rfl rfl rfl (op_move rfl ?_)
              refine w_o rfl rfl rfl (op_move rfl ?_)
              refine w_o rfl rfl rfl (op_indexT (enc := encC) und_22 siz_29 rfl rfl (by first | assumption | (repeat (first | assumption | apply Sl.cons | apply Sl.app))) (fun _ => rfl) rfl (by omega) fun b131 o131 z131 h131 e131 => ?_)
              have hy := (hina j z131 ly h131 hly).app (N := No)
              have hne := (hM ly (List.mem_of_getElem? hly)).2
              refine w_o rfl rfl rfl (op_load1 agg_29 rfl (by first | assumption | exact El.row (by repeat (first | exact List.Mem.head _ | assumption | apply List.Mem.tail | apply List.mem_append_right)) | (repeat (first | assumption | apply El.cons | apply El.app))) ?_)
              refine w_o rfl rfl rfl (op_lenC und_29 rfl (by first | exact ⟨rfl, fun s e => by cases e⟩ | exact Sl.lenC (by assumption) | (refine Own.lenT (by assumption) ?_ ?_ <;> first | exact fun _ => rfl | decide)) ?_)
              refine w_o rfl rfl rfl (op_eq rfl rfl ?_)
              refine w_end ?_
              refine seq_normal ?_
              refine w_condN rfl (by omega) ?_
              refine w_skip ?_
              refine block_normal ?_
              refine seq_normal ?_
              refine w_region ?_
              refine w_o rfl rfl rfl (op_move rfl ?_)
              refine w_o rfl rfl rfl (op_addi rfl rfl (by omega) (by omega) ?_)
              refine w_o rfl rfl rfl (op_assign rfl ?_)
              refine w_end ?_
              exact loop_normal (k' := L.length - (j + 1)) (by omega) ⟨j + 1, by omega, rfl, rfl, rfl⟩ (by repeat (first | exact ESub.nil _ | refine ESub.cons rfl ?_)) (by repeat (first | exact Sel.refl _ | refine Sel.assocR ?_ | refine Sel.assocL ?_ | (refine Sel.pickL (by repeat (first | exact PickL.front _ _ | exact PickL.nil _ | apply PickL.skip | apply PickL.skipL)) ?_) | (refine Sel.pick (by repeat (first | exact Pick.head _ _ _ | apply Pick.tail | apply Pick.app)) ?_) | refine Sel.drop _ ?_ | refine Sel.dropL _ ?_))
            · refine w_exit ?_
              refine seq_exit ?_
              refine loop_exit ?_
              refine block_hit rfl ?_
              refine seq_normal ?_
              refine w_seq ?_
              refine w_region ?_
              refine w_o rfl rfl rfl (op_move rfl ?_)
              refine w_o rfl rfl rfl (op_lenC und_22 rfl (by first | exact ⟨rfl, fun s e => by cases e⟩ | exact Sl.lenC (by assumption) | (refine Own.lenT (by assumption) ?_ ?_ <;> first | exact fun _ => rfl | decide)) ?_)
              refine w_o rfl rfl rfl (op_move rfl ?_)
              refine w_o rfl rfl rfl (op_remi rfl rfl (by decide) hq ?_)
              refine w_o rfl rfl rfl (op_convi und_5 und_3 rfl (wrap_i64 (by omega) (by omega)) ?_)
              refine w_o rfl rfl rfl (op_addi rfl rfl (by omega) (by omega) ?_)
              refine w_o rfl rfl rfl (op_le rfl rfl ?_)
              refine w_o rfl rfl rfl (op_assign rfl ?_)
              refine w_end ?_
              refine seq_normal ?_
              refine w_ret ?_
              exact ret_bool rfl (.refl _) (decide_eq_true (by omega)) rfl
end Go.Proofs.Ytkembaghhahnpaa.AM.B
