/- The law OfferStays: it answers true, whatever comes in. -/
import Derived.Test.YtlbbnimobbheiaaAX
import Derived.Test.YtlbbnimobbheiaaBoffer10
set_option linter.unusedVariables false
set_option linter.unusedSimpArgs false
set_option maxRecDepth 10000
set_option maxHeartbeats 4000000
namespace Go.Proofs.Ytlbbnimobbheiaa.AM.B
open Go Go.RowKit
theorem OfferStays_law {H : Hyp} {c cc : Cell} {l : List Sign} {a : Int} {C : List (List Sign)} (h : Sl H 47 2 c l.length (l.flatMap encS)) (hC : KVo H C cc) (hCn : C.length ≤ 1000000000000000) : CallW Try.prog Xs 4 [lineV c a, .one (.c cc)] H (fun v _ => v = vB true) := by
  refine call_of (n := 146) (fun _ => rfl) Try.func4 rfl rfl ?_
  refine w_seq ?_
  refine w_region ?_
  refine w_o rfl rfl rfl (op_box rfl fun b2 => ?_)
  refine w_o rfl rfl rfl (op_assign rfl ?_)
  refine w_end ?_
  refine seq_normal ?_
  refine w_seq ?_
  refine w_seq ?_
  refine w_region ?_
  refine w_o rfl rfl rfl (op_fieldAddr fa_24_0 rfl ?_)
  refine w_o rfl rfl rfl (op_loadF agg_22 rfl el_ rfl ?_)
  refine w_o rfl rfl rfl (op_lenC und_22 rfl h.lenC ?_)
  refine w_o rfl rfl rfl (op_gt rfl rfl ?_)
  refine w_o rfl rfl rfl (op_move rfl ?_)
  first | refine w_known (t := 17) rfl (fun g17 => ?_) (fun g17 => ?_) | refine w_knownB (t := 17) rfl (fun g17 => ?_) (fun g17 => ?_)
  · refine w_u rfl rfl rfl rfl rfl rfl ?_
    refine w_u rfl rfl rfl rfl rfl rfl ?_
    refine w_u rfl rfl rfl rfl rfl rfl ?_
    refine w_o rfl rfl rfl (op_pick rfl rfl rfl ?_)
    refine w_o rfl rfl rfl (op_move rfl ?_)
    refine w_u rfl rfl rfl rfl rfl rfl ?_
    refine w_u rfl rfl rfl rfl rfl rfl ?_
    refine w_o rfl rfl rfl (op_pick rfl rfl rfl ?_)
    refine w_end ?_
    refine seq_normal ?_
    refine w_condT rfl ?_
    refine w_seq ?_
    refine w_region ?_
    refine w_o rfl rfl rfl (op_call rfl rfl rfl ?_)
    refine awake_w ?_
    refine w_o rfl rfl rfl (op_assign rfl ?_)
    refine w_end ?_
    refine seq_normal ?_
    refine w_ret ?_
    refine seq_ret ?_
    exact ret_ret rfl (.refl _) rfl
  · have hl : l.length ≤ 60 := by omega
    refine w_og rfl rfl rfl rfl rfl (op_move rfl ?_)
    refine w_og rfl rfl rfl rfl rfl (op_call rfl rfl rfl ?_)
    refine light_w (hC.sub subs_) (by omega) ?_
    refine w_og rfl rfl rfl rfl rfl (op_not rfl ?_)
    refine w_o rfl rfl rfl (op_pick rfl rfl rfl ?_)
    refine w_o rfl rfl rfl (op_move rfl ?_)
    first | refine w_known (t := 22) rfl (fun g22 => ?_) (fun g22 => ?_) | refine w_knownB (t := 22) rfl (fun g22 => ?_) (fun g22 => ?_)
    · refine w_u rfl rfl rfl rfl rfl rfl ?_
      refine w_u rfl rfl rfl rfl rfl rfl ?_
      refine w_o rfl rfl rfl (op_pick rfl rfl rfl ?_)
      refine w_end ?_
      refine seq_normal ?_
      refine w_condT rfl ?_
      refine w_seq ?_
      refine w_region ?_
      refine w_o rfl rfl rfl (op_call rfl rfl rfl ?_)
      refine awake_w ?_
      refine w_o rfl rfl rfl (op_assign rfl ?_)
      refine w_end ?_
      refine seq_normal ?_
      refine w_ret ?_
      refine seq_ret ?_
      exact ret_ret rfl (.refl _) rfl
    · have hlt := of_decide_eq_true (show lightV C = true by simpa using g22)
      refine w_og rfl rfl rfl rfl rfl (op_call rfl rfl rfl ?_)
      refine awake_w ?_
      refine w_og rfl rfl rfl rfl rfl (op_not rfl ?_)
      refine w_o rfl rfl rfl (op_pick rfl rfl rfl ?_)
      refine w_end ?_
      refine seq_normal ?_
      refine w_condF rfl ?_
      refine w_skip ?_
      refine seq_normal ?_
      refine w_seq ?_
      refine w_region ?_
      refine w_o rfl rfl rfl (op_loadA agg_24 siz_24 rfl rfl el_ ?_)
      refine w_o rfl rfl rfl (op_move rfl ?_)
      refine w_o rfl rfl rfl (op_call rfl rfl rfl ?_)
      refine New_w h.cons (hC.sub subs_) (by omega) (by omega) hlt.2 (fun hr => ?_) (fun hr hz => ?_) (fun hr hnz b cx cw cl N hX hW hL => ?_)
      · refine w_o rfl rfl rfl (op_move rfl ?_)
        refine w_o rfl rfl rfl (op_extract rfl rfl ?_)
        refine w_o rfl rfl rfl (op_extract rfl rfl ?_)
        refine w_o rfl rfl rfl (op_assign rfl ?_)
        refine w_o rfl rfl rfl (op_assign rfl ?_)
        refine w_end ?_
        refine seq_normal ?_
        refine w_seq ?_
        refine w_region ?_
        refine w_o rfl rfl rfl (op_assign rfl ?_)
        refine w_end ?_
        refine seq_normal ?_
        refine w_seq ?_
        refine w_seq ?_
        refine w_region ?_
        refine w_o rfl rfl rfl (op_move rfl ?_)
        refine w_o rfl rfl rfl (op_call rfl rfl rfl ?_)
        refine nilNext_w ?_
        refine w_o rfl rfl rfl (op_move rfl ?_)
        refine w_og rfl rfl rfl rfl rfl (op_move rfl ?_)
        refine w_og rfl rfl rfl rfl rfl (op_call rfl rfl rfl ?_)
        refine nilPrev_w ?_
        refine w_o rfl rfl rfl (op_pick rfl rfl rfl ?_)
        refine w_o rfl rfl rfl (op_move rfl ?_)
        refine w_og rfl rfl rfl rfl rfl (op_move rfl ?_)
        refine w_og rfl rfl rfl rfl rfl (op_call rfl rfl rfl ?_)
        refine nilHand_w ?_
        refine w_og rfl rfl rfl rfl rfl (op_ne rfl rfl ?_)
        refine w_o rfl rfl rfl (op_pick rfl rfl rfl ?_)
        refine w_o rfl rfl rfl (op_move rfl ?_)
        first | refine w_known (t := 44) rfl (fun g44 => ?_) (fun g44 => ?_) | refine w_knownB (t := 44) rfl (fun g44 => ?_) (fun g44 => ?_)
        · exact absurd rfl g44 --closed
        · refine w_og rfl rfl rfl rfl rfl (op_move rfl ?_)
          refine w_og rfl rfl rfl rfl rfl (op_call rfl rfl rfl ?_)
          refine nilLen_w ?_
          refine w_og rfl rfl rfl rfl rfl (op_move rfl ?_)
          refine w_og rfl rfl rfl rfl rfl (op_call rfl rfl rfl ?_)
          refine nilAll_w ?_
          refine w_og rfl rfl rfl rfl rfl (op_lenC und_25 rfl (by first | exact ⟨rfl, fun s e => by cases e⟩ | exact Sl.lenC (by assumption) | (refine Own.lenT (by assumption) ?_ ?_ <;> first | exact fun _ => rfl | decide)) ?_)
          refine w_og rfl rfl rfl rfl rfl (op_addi rfl rfl (by omega) (by omega) ?_)
          refine w_og rfl rfl rfl rfl rfl (op_move rfl ?_)
          refine w_og rfl rfl rfl rfl rfl (op_call rfl rfl rfl ?_)
          refine nilLine_w ?_
          refine w_og rfl rfl rfl rfl rfl (op_field rfl ((fld_24_0 _).trans rfl) ?_)
          refine w_og rfl rfl rfl rfl rfl (op_lenC und_22 rfl (by first | exact ⟨rfl, fun s e => by cases e⟩ | exact Sl.lenC (by assumption) | (refine Own.lenT (by assumption) ?_ ?_ <;> first | exact fun _ => rfl | decide)) ?_)
          refine w_og rfl rfl rfl rfl rfl (op_addi rfl rfl (by omega) (by omega) ?_)
          refine w_og rfl rfl rfl rfl rfl (op_ne rfl rfl ?_)
          refine w_o rfl rfl rfl (op_pick rfl rfl rfl ?_)
          refine w_end ?_
          refine seq_normal ?_
          refine w_condN rfl (by omega) ?_
          refine w_skip ?_
          refine seq_normal ?_
          refine w_seq ?_
          refine w_seq ?_
          refine w_region ?_
          refine w_o rfl rfl rfl (op_move rfl ?_)
          refine w_o rfl rfl rfl (op_ne rfl rfl ?_)
          refine w_o rfl rfl rfl (op_move rfl ?_)
          first | refine w_known (t := 60) rfl (fun g60 => ?_) (fun g60 => ?_) | refine w_knownB (t := 60) rfl (fun g60 => ?_) (fun g60 => ?_)
          · try (first | exact absurd rfl g60 | exact absurd (by decide) g60)
            all_goals
              refine w_u rfl rfl rfl rfl rfl rfl ?_
              refine w_u rfl rfl rfl rfl rfl rfl ?_
              refine w_o rfl rfl rfl (op_pick rfl rfl rfl ?_)
              refine w_o rfl rfl rfl (op_move rfl ?_)
              refine w_u rfl rfl rfl rfl rfl rfl ?_
              refine w_u rfl rfl rfl rfl rfl rfl ?_
              refine w_u rfl rfl rfl rfl rfl rfl ?_
              refine w_o rfl rfl rfl (op_pick rfl rfl rfl ?_)
              refine w_end ?_
              refine seq_normal ?_
              refine w_condT rfl ?_
              refine w_seq ?_
              refine w_region ?_
              refine w_o rfl rfl rfl (op_assign rfl ?_)
              refine w_end ?_
              refine seq_normal ?_
              refine w_ret ?_
              refine seq_ret ?_
              exact ret_ret rfl (.refl _) rfl
          · try (first | exact absurd rfl g60 | exact absurd (by decide) g60)
            all_goals
              refine w_og rfl rfl rfl rfl rfl (op_move rfl ?_)
              refine w_og rfl rfl rfl rfl rfl (op_nilEq rfl rfl rfl (by simp only [nilKind, und_29]) ?_)
              refine w_o rfl rfl rfl (op_pick rfl rfl rfl ?_)
              refine w_o rfl rfl rfl (op_move rfl ?_)
              first | refine w_known (t := 64) rfl (fun g64 => ?_) (fun g64 => ?_) | refine w_knownB (t := 64) rfl (fun g64 => ?_) (fun g64 => ?_)
              · try (first | exact absurd rfl g64 | exact absurd g64 (by decide))
                all_goals
                  refine w_u rfl rfl rfl rfl rfl rfl ?_
                  refine w_u rfl rfl rfl rfl rfl rfl ?_
                  refine w_u rfl rfl rfl rfl rfl rfl ?_
                  refine w_o rfl rfl rfl (op_pick rfl rfl rfl ?_)
                  refine w_end ?_
                  refine seq_normal ?_
                  refine w_condT rfl ?_
                  refine w_seq ?_
                  refine w_region ?_
                  refine w_o rfl rfl rfl (op_assign rfl ?_)
                  refine w_end ?_
                  refine seq_normal ?_
                  refine w_ret ?_
                  refine seq_ret ?_
                  exact ret_ret rfl (.refl _) rfl
              · try (first | exact absurd rfl g64 | exact absurd g64 (by decide))
                all_goals
                  refine w_og rfl rfl rfl rfl rfl (op_loadA agg_24 siz_24 rfl rfl el_ ?_)
                  refine w_og rfl rfl rfl rfl rfl (op_call rfl rfl rfl ?_)
                  refine R17May_w h subs_ (by omega) ?_
                  refine w_og rfl rfl rfl rfl rfl (op_not rfl ?_)
                  refine w_o rfl rfl rfl (op_pick rfl rfl rfl ?_)
                  refine w_end ?_
                  refine seq_normal ?_
                  first | refine w_cond rfl (fun hI3 => ?_) (fun hI3 => ?_) | refine w_condB rfl (fun hI3 => ?_) (fun hI3 => ?_)
                  · refine w_seq ?_
                    refine w_region ?_
                    refine w_o rfl rfl rfl (op_assign rfl ?_)
                    refine w_end ?_
                    refine seq_normal ?_
                    refine w_ret ?_
                    refine seq_ret ?_
                    exact ret_ret rfl (.refl _) rfl
                  · have hra : 0 ≤ a ∧ a ≤ l.length := by
                      have := of_decide_eq_true hr; exact ⟨this.1, this.2.1⟩
                    have hok := offP_ok (wordV l a) C hlt.2 C.length (Nat.le_refl _)
                    have hpl := offP_len (wordV l a) C C.length (Nat.le_refl _)
                    rw [show offP (wordV l a) C C.length = offL (wordV l a) C from rfl] at hok hpl
                    generalize hLL : offL (wordV l a) C = L at *
                    have hg0 := chV_ge hok (by omega) (hand := -1) ⟨by omega, by omega⟩
                    have hd0l : ((chV L (-1)).drop (wordV l a).length).length ≤ 40 := by rw [List.length_drop]; omega
                    have hi0 := insV_len (d := (chV L (-1)).drop (wordV l a).length) hra
                    refine w_skip ?_
                    refine seq_normal ?_
                    refine w_seq ?_
                    refine w_region ?_
                    refine w_o rfl rfl rfl (op_move rfl ?_)
                    refine w_o rfl rfl rfl (op_call rfl rfl rfl ?_)
                    refine offLine_w (b := b) (L := L) (w := wordV l a) mem_ (hL.sub subs_) (hX.sub subs_) (hW.sub subs_) (by omega) hra (by omega) (fun x hx => by have := (hok.1 x hx).1; omega) (by omega) hg0.1 fun c70 N70 h70 => ?_
                    generalize hdd0 : (chV L (-1)).drop (wordV l a).length = d0 at *
                    have hY0 : Sl N70 47 2 c70 (insV l a d0).length ((insV l a d0).flatMap encS) := h70.slT (fun _ => rfl) (by decide) (fun _ q => q)
                    refine w_o rfl rfl rfl (op_alloc zer_24 fun b8 => ?_)
                    refine w_on rfl rfl (op_store siz_24 rfl rfl rfl (by (repeat (first | exact Pick.head _ _ _ | apply Pick.tail | apply Pick.app)); first | done | fail) (Nat.le_of_ble_eq_true rfl) rfl ?_)
                    refine w_end ?_
                    refine seq_normal ?_
                    refine w_seq ?_
                    refine w_seq ?_
                    refine w_region ?_
                    refine w_o rfl rfl rfl (op_assign rfl ?_)
                    refine w_end ?_
                    refine seq_normal ?_
                    refine w_block ?_
                    refine w_loop (fun q e H' => ∃ (i : Nat) (hand : Int) (M : Hyp), i ≤ L.length + 1 ∧ q = L.length + 1 - i ∧ -1 ≤ hand ∧ hand < L.length ∧ (i ≤ L.length → hand = (i : Int) - 1) ∧ (i = L.length + 1 → hand = -1) ∧ KVo M L cl ∧ Sl M 47 2 c l.length (l.flatMap encS) ∧ Sl M 47 2 cx l.length (l.flatMap encS) ∧ Sl M 47 2 cw (wordV l a).length ((wordV l a).flatMap encS) ∧ Sl M 47 2 c70 (insV l a d0).length ((insV l a d0).flatMap encS) ∧ H' = (b, offRow cx a cw cl hand) :: (b2, .row true 24 1 [c, .int .i64 a]) :: (b8, .row true 24 1 [c70, .int .i64 (a + ((d0.length : Nat) : Int))]) :: M ∧ e = [(2, ptrV b2 0), (5, ptrV b 0), (8, ptrV b8 0), (9, vI (i : Nat))]) ?_ ?_
                    · exact ⟨_, _, _, ⟨0, -1, N70 ++ (N ++ H), Nat.zero_le _, rfl, by omega, by omega, (fun _ => rfl), (fun q => by omega), hL.sub subs_, h.sub subs_, hX.sub subs_, hW.sub subs_, hY0.sub subs_, rfl, rfl⟩, env_, sel_⟩
                    · rintro q e H' ⟨i, hand, M, hi, rfl, hh1, hh2, hh3, hh4, mL, mx, mX, mW, mY, rfl, rfl⟩
                      have hge := chV_ge hok (by omega) (hand := hand) ⟨by omega, by omega⟩
                      have hdl : ((chV L hand).drop (wordV l a).length).length ≤ 40 := by rw [List.length_drop]; omega
                      have hin := insV_len (d := (chV L hand).drop (wordV l a).length) hra
                      have hlo := insV_lo (d := (chV L hand).drop (wordV l a).length) hra
                      have hup := insV_hi (d := (chV L hand).drop (wordV l a).length) hra
                      have hmid := fun {k : Nat} => insV_mid (d := (chV L hand).drop (wordV l a).length) hra (k := k)
                      have hlab : ∀ s ∈ (chV L hand).drop (wordV l a).length, s.f1 = 4 := fun s hs => chV_lab hok (by omega) ⟨hh1, hh2⟩ s (List.mem_of_mem_drop hs)
                      have t1 := turnV_next hh1 hh2
                      have t2 := turnV_in (n := L.length) (by_ := 1) hh1 (by omega)
                      refine w_seq ?_
                      refine w_seq ?_
                      refine w_region ?_
                      refine w_o rfl rfl rfl (op_move rfl ?_)
                      refine w_o rfl rfl rfl (op_move rfl ?_)
                      refine w_o rfl rfl rfl (op_call rfl rfl rfl ?_)
                      refine offLen_w (b := b) (L := L) mem_ (mL.sub subs_) ?_
                      refine w_o rfl rfl rfl (op_le rfl rfl ?_)
                      refine w_end ?_
                      refine seq_normal ?_
                      first | refine w_cond rfl (fun hI4 => ?_) (fun hI4 => ?_) | refine w_condB rfl (fun hI4 => ?_) (fun hI4 => ?_)
                      · refine w_skip ?_
                        refine seq_normal ?_
                        refine w_seq ?_
                        refine w_block ?_
                        refine w_seq ?_
                        refine w_region ?_
                        refine w_o rfl rfl rfl (op_move rfl ?_)
                        refine w_o rfl rfl rfl (op_call rfl rfl rfl ?_)
                        refine offLine_w (b := b) (L := L) (w := wordV l a) mem_ (mL.sub subs_) (mX.sub subs_) (mW.sub subs_) (by omega) hra (by omega) (fun x hx => by have := (hok.1 x hx).1; omega) (by omega) hge.1 fun c78 N78 h78 => ?_
                        generalize hdd : (chV L hand).drop (wordV l a).length = d at *
                        have hY : Sl N78 47 2 c78 (insV l a d).length ((insV l a d).flatMap encS) := h78.slT (fun _ => rfl) (by decide) (fun _ q => q)
                        refine w_o rfl rfl rfl (op_alloc zer_24 fun b10 => ?_)
                        refine w_on rfl rfl (op_store siz_24 rfl rfl rfl (by (repeat (first | exact Pick.head _ _ _ | apply Pick.tail | apply Pick.app)); first | done | fail) (Nat.le_of_ble_eq_true rfl) rfl ?_)
                        refine w_end ?_
                        refine seq_normal ?_
                        refine w_seq ?_
                        refine w_region ?_
                        refine w_o rfl rfl rfl (op_fieldAddr fa_24_0 rfl ?_)
                        refine w_o rfl rfl rfl (op_loadF agg_22 rfl el_ rfl ?_)
                        refine w_o rfl rfl rfl (op_lenC und_22 rfl hY.lenC ?_)
                        refine w_o rfl rfl rfl (op_fieldAddr fa_24_0 rfl ?_)
                        refine w_o rfl rfl rfl (op_loadF agg_22 rfl el_ rfl ?_)
                        refine w_o rfl rfl rfl (op_lenC und_22 rfl h.lenC ?_)
                        refine w_o rfl rfl rfl (op_subi rfl rfl (by omega) (by omega) ?_)
                        refine w_o rfl rfl rfl (op_assign rfl ?_)
                        refine w_end ?_
                        refine seq_normal ?_
                        refine w_seq ?_
                        refine w_seq ?_
                        refine w_draw (by decide +kernel) (by decide +kernel) ?_
                        refine w_d rfl rfl rfl (op_move rfl ?_)
                        refine w_d rfl rfl rfl (op_lt rfl rfl ?_)
                        refine w_d rfl rfl rfl (op_move rfl ?_)
                        first | refine w_known (t := 88) rfl (fun g88 => ?_) (fun g88 => ?_) | refine w_knownB (t := 88) rfl (fun g88 => ?_) (fun g88 => ?_)
                        · exact absurd g88 (by omega) --closed
                        · refine w_dg rfl rfl rfl rfl rfl (op_fieldAddr fa_24_1 rfl ?_)
                          refine w_dg rfl rfl rfl rfl rfl (op_loadF agg_3 rfl el_ rfl ?_)
                          refine w_dg rfl rfl rfl rfl rfl (op_fieldAddr fa_24_1 rfl ?_)
                          refine w_dg rfl rfl rfl rfl rfl (op_loadF agg_3 rfl el_ rfl ?_)
                          refine w_dg rfl rfl rfl rfl rfl (op_move rfl ?_)
                          refine w_dg rfl rfl rfl rfl rfl (op_addi rfl rfl (by omega) (by omega) ?_)
                          refine w_dg rfl rfl rfl rfl rfl (op_ne rfl rfl ?_)
                          refine w_d rfl rfl rfl (op_pick rfl rfl rfl ?_)
                          refine w_d rfl rfl rfl (op_move rfl ?_)
                          first | refine w_known (t := 97) rfl (fun g97 => ?_) (fun g97 => ?_) | refine w_knownB (t := 97) rfl (fun g97 => ?_) (fun g97 => ?_)
                          · exact absurd g97 (by omega) --closed
                          · refine w_dg rfl rfl rfl rfl rfl (op_fieldAddr fa_24_0 rfl ?_)
                            refine w_dg rfl rfl rfl rfl rfl (op_loadF agg_22 rfl el_ rfl ?_)
                            refine w_dg rfl rfl rfl rfl rfl (op_fieldAddr fa_24_1 rfl ?_)
                            refine w_dg rfl rfl rfl rfl rfl (op_loadF agg_3 rfl el_ rfl ?_)
                            refine w_dg rfl rfl rfl rfl rfl (op_sliceU (enc := encS) (xs := insV l a d) elm_22 siz_47 (by decide) rfl hY subs_ (fun _ => rfl) rfl rfl (by omega) (by omega) (by omega) fun c102 h102 => ?_)
                            have e102 : ((insV l a d).drop ((0 : Nat) : Int).toNat).take (a.toNat - ((0 : Nat) : Int).toNat) = l.take a.toNat := hlo
                            rw [e102] at h102
                            refine w_dg rfl rfl rfl rfl rfl (op_fieldAddr fa_24_0 rfl ?_)
                            refine w_dg rfl rfl rfl rfl rfl (op_loadF agg_22 rfl el_ rfl ?_)
                            refine w_dg rfl rfl rfl rfl rfl (op_fieldAddr fa_24_1 rfl ?_)
                            refine w_dg rfl rfl rfl rfl rfl (op_loadF agg_3 rfl el_ rfl ?_)
                            refine w_dg rfl rfl rfl rfl rfl (op_sliceU (enc := encS) (xs := l) elm_22 siz_47 (by decide) rfl mx subs_ (fun _ => rfl) rfl rfl (by omega) (by omega) (by omega) fun c107 h107 => ?_)
                            have e107 : (l.drop ((0 : Nat) : Int).toNat).take (a.toNat - ((0 : Nat) : Int).toNat) = l.take a.toNat := rfl
                            rw [e107] at h107
                            refine w_dg rfl rfl rfl rfl rfl (op_call rfl rfl rfl ?_)
                            refine R04Same_w (h102.sub subs_) (h107.sub subs_) (by rw [List.length_take]; omega) ?_
                            rw [decide_eq_true (rfl : l.take a.toNat = l.take a.toNat)]
                            refine w_dg rfl rfl rfl rfl rfl (op_not rfl ?_)
                            refine w_d rfl rfl rfl (op_pick rfl rfl rfl ?_)
                            refine w_d rfl rfl rfl (op_move rfl ?_)
                            refine w_dg rfl rfl rfl rfl rfl (op_fieldAddr fa_24_0 rfl ?_)
                            refine w_dg rfl rfl rfl rfl rfl (op_loadF agg_22 rfl el_ rfl ?_)
                            refine w_dg rfl rfl rfl rfl rfl (op_fieldAddr fa_24_1 rfl ?_)
                            refine w_dg rfl rfl rfl rfl rfl (op_loadF agg_3 rfl el_ rfl ?_)
                            refine w_dg rfl rfl rfl rfl rfl (op_sliceU (enc := encS) (xs := insV l a d) elm_22 siz_47 (by decide) rfl hY subs_ (fun _ => rfl) rfl rfl (by omega) (by omega) (by omega) fun c116 h116 => ?_)
                            have e116 : ((insV l a d).drop (a + ((d.length : Nat) : Int)).toNat).take ((((insV l a d).length : Nat) : Int).toNat - (a + ((d.length : Nat) : Int)).toNat) = l.drop a.toNat := by
                              rw [List.take_of_length_le (by rw [List.length_drop]; omega), show (a + ((d.length : Nat) : Int)).toNat = a.toNat + d.length by omega]; exact hup
                            rw [e116] at h116
                            refine w_dg rfl rfl rfl rfl rfl (op_fieldAddr fa_24_0 rfl ?_)
                            refine w_dg rfl rfl rfl rfl rfl (op_loadF agg_22 rfl el_ rfl ?_)
                            refine w_dg rfl rfl rfl rfl rfl (op_fieldAddr fa_24_1 rfl ?_)
                            refine w_dg rfl rfl rfl rfl rfl (op_loadF agg_3 rfl el_ rfl ?_)
                            refine w_dg rfl rfl rfl rfl rfl (op_sliceU (enc := encS) (xs := l) elm_22 siz_47 (by decide) rfl mx subs_ (fun _ => rfl) rfl rfl (by omega) (by omega) (by omega) fun c121 h121 => ?_)
                            have e121 : (l.drop a.toNat).take (((l.length : Nat) : Int).toNat - a.toNat) = l.drop a.toNat := List.take_of_length_le (by rw [List.length_drop]; omega)
                            rw [e121] at h121
                            refine w_dg rfl rfl rfl rfl rfl (op_call rfl rfl rfl ?_)
                            refine R04Same_w (h116.sub subs_) (h121.sub subs_) (by rw [List.length_drop]; omega) ?_
                            rw [decide_eq_true (rfl : l.drop a.toNat = l.drop a.toNat)]
                            refine w_dg rfl rfl rfl rfl rfl (op_not rfl ?_)
                            refine w_d rfl rfl rfl (op_pick rfl rfl rfl ?_)
                            refine w_end ?_
                            refine seq_normal ?_
                            refine w_condF rfl ?_
                            refine w_skip ?_
                            refine seq_normal ?_
                            refine w_seq ?_
                            refine w_seq ?_
                            refine w_region ?_
                            refine w_o rfl rfl rfl (op_fieldAddr fa_24_1 rfl ?_)
                            refine w_o rfl rfl rfl (op_loadF agg_3 rfl el_ rfl ?_)
                            refine w_o rfl rfl rfl (op_assign rfl ?_)
                            refine w_end ?_
                            refine seq_normal ?_
                            refine w_block ?_
                            refine w_loop (fun q e G' => ∃ (k : Int), a ≤ k ∧ k ≤ a + ((d.length : Nat) : Int) ∧ q = (a + ((d.length : Nat) : Int) - k).toNat ∧ (b10, .row true 24 1 [c78, .int .i64 (a + ((d.length : Nat) : Int))]) :: (N78 ++ ((b, offRow cx a cw cl hand) :: (b2, .row true 24 1 [c, .int .i64 a]) :: (b8, .row true 24 1 [c70, .int .i64 (a + ((d0.length : Nat) : Int))]) :: M)) = G' ∧ e = [(2, ptrV b2 0), (5, ptrV b 0), (8, ptrV b8 0), (9, vI (i : Nat)), (10, ptrV b10 0), (12, vI k)]) ?_ ?_
                            · exact ⟨_, _, _, ⟨a, by omega, by omega, rfl, rfl, rfl⟩, env_, sel_⟩
                            · rintro q e G' ⟨k, hk1, hk2, rfl, rfl, rfl⟩
                              refine w_seq ?_
                              refine w_seq ?_
                              refine w_region ?_
                              refine w_o rfl rfl rfl (op_move rfl ?_)
                              refine w_o rfl rfl rfl (op_fieldAddr fa_24_1 rfl ?_)
                              refine w_o rfl rfl rfl (op_loadF agg_3 rfl el_ rfl ?_)
                              refine w_o rfl rfl rfl (op_lt rfl rfl ?_)
                              refine w_end ?_
                              refine seq_normal ?_
                              first | refine w_cond rfl (fun hI6 => ?_) (fun hI6 => ?_) | refine w_condB rfl (fun hI6 => ?_) (fun hI6 => ?_)
                              · refine w_skip ?_
                                refine seq_normal ?_
                                refine w_seq ?_
                                refine w_block ?_
                                refine w_seq ?_
                                refine w_region ?_
                                refine w_o rfl rfl rfl (op_fieldAddr fa_24_0 rfl ?_)
                                refine w_o rfl rfl rfl (op_loadF agg_22 rfl el_ rfl ?_)
                                refine w_o rfl rfl rfl (op_move rfl ?_)
                                refine w_o rfl rfl rfl (op_indexT (enc := encS) (xs := insV l a d) (j := k.toNat) und_22 siz_47 rfl rfl (hY.sub subs_) (fun _ => rfl) (by omega) (by omega) fun b136 o136 z136 h136 e136 => ?_)
                                have hz4 : z136.f1 = 4 := by
                                  rw [hmid (by omega) (by omega)] at h136
                                  exact hlab _ (List.mem_of_getElem? h136)
                                refine w_o rfl rfl rfl (op_fieldAddr fa_47_1 rfl ?_)
                                refine w_o rfl rfl rfl (op_loadF agg_3 rfl el_ rfl ?_)
                                refine w_o rfl rfl rfl (op_ne rfl rfl ?_)
                                refine w_end ?_
                                refine seq_normal ?_
                                refine w_condN rfl (by omega) ?_
                                refine w_skip ?_
                                refine block_normal ?_
                                refine seq_normal ?_
                                refine w_region ?_
                                refine w_o rfl rfl rfl (op_move rfl ?_)
                                refine w_o rfl rfl rfl (op_addi rfl rfl (by omega) (by omega) ?_)
                                refine w_o rfl rfl rfl (op_assign rfl ?_)
                                refine w_end ?_
                                exact loop_normal (k' := (a + ((d.length : Nat) : Int) - (k + 1)).toNat) (by omega) ⟨k + 1, by omega, by omega, rfl, rfl, rfl⟩ env_ sel_
                              · refine w_exit ?_
                                refine seq_exit ?_
                                refine loop_exit ?_
                                refine block_hit rfl ?_
                                refine seq_normal ?_
                                refine w_region ?_
                                refine w_o rfl rfl rfl (op_move rfl ?_)
                                refine w_o rfl rfl rfl (op_call rfl rfl rfl ?_)
                                refine CallW.weak (H' := (b, offRow cx a cw cl hand) :: (b2, .row true 24 1 [c, .int .i64 a]) :: (b8, .row true 24 1 [c70, .int .i64 (a + ((d0.length : Nat) : Int))]) :: M) sel_ (offNext_w (L := L) (mL.sub subs_) (by omega) (by omega) ?_)
                                refine w_end ?_
                                refine block_normal ?_
                                refine seq_normal ?_
                                refine w_region ?_
                                refine w_o rfl rfl rfl (op_move rfl ?_)
                                refine w_o rfl rfl rfl (op_addi rfl rfl (by omega) (by omega) ?_)
                                refine w_o rfl rfl rfl (op_assign rfl ?_)
                                refine w_end ?_
                                exact loop_normal (k' := L.length + 1 - (i + 1)) (by omega) ⟨i + 1, turnV L.length hand 1, M, by omega, rfl, t2.1, t2.2, (fun q => by rw [t1, if_neg (by omega)]; omega), (fun q => by rw [t1, if_pos (by omega)]), mL, mx, mX, mW, mY, rfl, rfl⟩ env_ sel_
                      · refine w_exit ?_
                        refine seq_exit ?_
                        refine loop_exit ?_
                        refine block_hit rfl ?_
                        refine seq_normal ?_
                        refine w_seq ?_
                        refine w_drawF ((b, offRow cx a cw cl hand) :: (b2, .row true 24 1 [c, .int .i64 a]) :: (b8, .row true 24 1 [c70, .int .i64 (a + ((d0.length : Nat) : Int))]) :: M) sel_ (by decide +kernel) (by decide +kernel) ?_
                        refine f_b (guard_none rfl) rfl rfl rfl rfl (op_move rfl ?_)
                        refine f_m (guard_none rfl) rfl rfl rfl (op_call rfl rfl rfl ?_)
                        have hhm := hh4 (by omega)
                        subst hhm
                        refine offLine_w (b := b) (L := L) (w := wordV l a) mem_ (mL.sub subs_) (mX.sub subs_) (mW.sub subs_) (by omega) hra (by omega) (fun x hx => by have := (hok.1 x hx).1; omega) (by omega) hge.1 fun c143 N143 h143 => ?_
                        rw [hdd0] at h143
                        rw [hdd0]
                        refine ⟨sel_, ?_⟩
                        refine f_l (guard_none rfl) rfl rfl rfl sel_ (op_loadA agg_24 siz_24 rfl rfl el_ rfl) ?_
                        refine f_m (guard_none rfl) rfl rfl rfl (op_call rfl rfl rfl ?_)
                        refine R16Same_w (l := insV l a d0) (l' := insV l a d0) (h143.slT (H := N143) (fun _ => rfl) (by decide) (fun _ q => q)) subs_ mY subs_ (by omega) ?_
                        rw [decide_eq_true (⟨rfl, rfl⟩ : a + ((d0.length : Nat) : Int) = a + ((d0.length : Nat) : Int) ∧ insV l a d0 = insV l a d0)]
                        refine ⟨sel_, ?_⟩
                        refine f_b (guard_none rfl) rfl rfl rfl rfl (op_assign rfl ?_)
                        refine f_end ?_
                        refine seq_normal ?_
                        refine w_ret ?_
                        exact ret_ret rfl (.refl _) rfl
      · refine w_o rfl rfl rfl (op_move rfl ?_)
        refine w_o rfl rfl rfl (op_extract rfl rfl ?_)
        refine w_o rfl rfl rfl (op_extract rfl rfl ?_)
        refine w_o rfl rfl rfl (op_assign rfl ?_)
        refine w_o rfl rfl rfl (op_assign rfl ?_)
        refine w_end ?_
        refine seq_normal ?_
        refine w_seq ?_
        refine w_region ?_
        refine w_o rfl rfl rfl (op_assign rfl ?_)
        refine w_end ?_
        refine seq_normal ?_
        refine w_seq ?_
        refine w_seq ?_
        refine w_region ?_
        refine w_o rfl rfl rfl (op_move rfl ?_)
        refine w_o rfl rfl rfl (op_call rfl rfl rfl ?_)
        refine nilNext_w ?_
        refine w_o rfl rfl rfl (op_move rfl ?_)
        refine w_og rfl rfl rfl rfl rfl (op_move rfl ?_)
        refine w_og rfl rfl rfl rfl rfl (op_call rfl rfl rfl ?_)
        refine nilPrev_w ?_
        refine w_o rfl rfl rfl (op_pick rfl rfl rfl ?_)
        refine w_o rfl rfl rfl (op_move rfl ?_)
        refine w_og rfl rfl rfl rfl rfl (op_move rfl ?_)
        refine w_og rfl rfl rfl rfl rfl (op_call rfl rfl rfl ?_)
        refine nilHand_w ?_
        refine w_og rfl rfl rfl rfl rfl (op_ne rfl rfl ?_)
        refine w_o rfl rfl rfl (op_pick rfl rfl rfl ?_)
        refine w_o rfl rfl rfl (op_move rfl ?_)
        first | refine w_known (t := 44) rfl (fun g44 => ?_) (fun g44 => ?_) | refine w_knownB (t := 44) rfl (fun g44 => ?_) (fun g44 => ?_)
        · exact absurd rfl g44 --closed
        · refine w_og rfl rfl rfl rfl rfl (op_move rfl ?_)
          refine w_og rfl rfl rfl rfl rfl (op_call rfl rfl rfl ?_)
          refine nilLen_w ?_
          refine w_og rfl rfl rfl rfl rfl (op_move rfl ?_)
          refine w_og rfl rfl rfl rfl rfl (op_call rfl rfl rfl ?_)
          refine nilAll_w ?_
          refine w_og rfl rfl rfl rfl rfl (op_lenC und_25 rfl (by first | exact ⟨rfl, fun s e => by cases e⟩ | exact Sl.lenC (by assumption) | (refine Own.lenT (by assumption) ?_ ?_ <;> first | exact fun _ => rfl | decide)) ?_)
          refine w_og rfl rfl rfl rfl rfl (op_addi rfl rfl (by omega) (by omega) ?_)
          refine w_og rfl rfl rfl rfl rfl (op_move rfl ?_)
          refine w_og rfl rfl rfl rfl rfl (op_call rfl rfl rfl ?_)
          refine nilLine_w ?_
          refine w_og rfl rfl rfl rfl rfl (op_field rfl ((fld_24_0 _).trans rfl) ?_)
          refine w_og rfl rfl rfl rfl rfl (op_lenC und_22 rfl (by first | exact ⟨rfl, fun s e => by cases e⟩ | exact Sl.lenC (by assumption) | (refine Own.lenT (by assumption) ?_ ?_ <;> first | exact fun _ => rfl | decide)) ?_)
          refine w_og rfl rfl rfl rfl rfl (op_addi rfl rfl (by omega) (by omega) ?_)
          refine w_og rfl rfl rfl rfl rfl (op_ne rfl rfl ?_)
          refine w_o rfl rfl rfl (op_pick rfl rfl rfl ?_)
          refine w_end ?_
          refine seq_normal ?_
          refine w_condN rfl (by omega) ?_
          refine w_skip ?_
          refine seq_normal ?_
          refine w_seq ?_
          refine w_seq ?_
          refine w_region ?_
          refine w_o rfl rfl rfl (op_move rfl ?_)
          refine w_o rfl rfl rfl (op_ne rfl rfl ?_)
          refine w_o rfl rfl rfl (op_move rfl ?_)
          first | refine w_known (t := 60) rfl (fun g60 => ?_) (fun g60 => ?_) | refine w_knownB (t := 60) rfl (fun g60 => ?_) (fun g60 => ?_)
          · try (first | exact absurd rfl g60 | exact absurd (by decide) g60)
            all_goals
              refine w_u rfl rfl rfl rfl rfl rfl ?_
              refine w_u rfl rfl rfl rfl rfl rfl ?_
              refine w_o rfl rfl rfl (op_pick rfl rfl rfl ?_)
              refine w_o rfl rfl rfl (op_move rfl ?_)
              refine w_u rfl rfl rfl rfl rfl rfl ?_
              refine w_u rfl rfl rfl rfl rfl rfl ?_
              refine w_u rfl rfl rfl rfl rfl rfl ?_
              refine w_o rfl rfl rfl (op_pick rfl rfl rfl ?_)
              refine w_end ?_
              refine seq_normal ?_
              refine w_condT rfl ?_
              refine w_seq ?_
              refine w_region ?_
              refine w_o rfl rfl rfl (op_assign rfl ?_)
              refine w_end ?_
              refine seq_normal ?_
              refine w_ret ?_
              refine seq_ret ?_
              exact ret_ret rfl (.refl _) rfl
          · try (first | exact absurd rfl g60 | exact absurd (by decide) g60)
            all_goals
              refine w_og rfl rfl rfl rfl rfl (op_move rfl ?_)
              refine w_og rfl rfl rfl rfl rfl (op_nilEq rfl rfl rfl (by simp only [nilKind, und_29]) ?_)
              refine w_o rfl rfl rfl (op_pick rfl rfl rfl ?_)
              refine w_o rfl rfl rfl (op_move rfl ?_)
              first | refine w_known (t := 64) rfl (fun g64 => ?_) (fun g64 => ?_) | refine w_knownB (t := 64) rfl (fun g64 => ?_) (fun g64 => ?_)
              · try (first | exact absurd rfl g64 | exact absurd g64 (by decide))
                all_goals
                  refine w_u rfl rfl rfl rfl rfl rfl ?_
                  refine w_u rfl rfl rfl rfl rfl rfl ?_
                  refine w_u rfl rfl rfl rfl rfl rfl ?_
                  refine w_o rfl rfl rfl (op_pick rfl rfl rfl ?_)
                  refine w_end ?_
                  refine seq_normal ?_
                  refine w_condT rfl ?_
                  refine w_seq ?_
                  refine w_region ?_
                  refine w_o rfl rfl rfl (op_assign rfl ?_)
                  refine w_end ?_
                  refine seq_normal ?_
                  refine w_ret ?_
                  refine seq_ret ?_
                  exact ret_ret rfl (.refl _) rfl
              · try (first | exact absurd rfl g64 | exact absurd g64 (by decide))
                all_goals
                  refine w_og rfl rfl rfl rfl rfl (op_loadA agg_24 siz_24 rfl rfl el_ ?_)
                  refine w_og rfl rfl rfl rfl rfl (op_call rfl rfl rfl ?_)
                  refine R17May_w h subs_ (by omega) ?_
                  refine w_og rfl rfl rfl rfl rfl (op_not rfl ?_)
                  refine w_o rfl rfl rfl (op_pick rfl rfl rfl ?_)
                  refine w_end ?_
                  refine seq_normal ?_
                  first | refine w_cond rfl (fun hI3 => ?_) (fun hI3 => ?_) | refine w_condB rfl (fun hI3 => ?_) (fun hI3 => ?_)
                  · refine w_seq ?_
                    refine w_region ?_
                    refine w_o rfl rfl rfl (op_assign rfl ?_)
                    refine w_end ?_
                    refine seq_normal ?_
                    refine w_ret ?_
                    refine seq_ret ?_
                    exact ret_ret rfl (.refl _) rfl
                  · have hra : 0 ≤ a ∧ a ≤ l.length := by
                      have := of_decide_eq_true hr; exact ⟨this.1, this.2.1⟩
                    have hok := offP_ok (wordV l a) C hlt.2 C.length (Nat.le_refl _)
                    have hpl := offP_len (wordV l a) C C.length (Nat.le_refl _)
                    rw [show offP (wordV l a) C C.length = offL (wordV l a) C from rfl] at hok hpl
                    generalize hLL : offL (wordV l a) C = L at *
                    have hg0 := chV_ge hok (by omega) (hand := -1) ⟨by omega, by omega⟩
                    have hd0l : ((chV L (-1)).drop (wordV l a).length).length ≤ 40 := by rw [List.length_drop]; omega
                    have hi0 := insV_len (d := (chV L (-1)).drop (wordV l a).length) hra
                    refine w_skip ?_
                    refine seq_normal ?_
                    refine w_seq ?_
                    refine w_region ?_
                    refine w_o rfl rfl rfl (op_move rfl ?_)
                    refine w_o rfl rfl rfl (op_call rfl rfl rfl ?_)
                    refine offLine_w (b := b) (L := L) (w := wordV l a) mem_ (hL.sub subs_) (hX.sub subs_) (hW.sub subs_) (by omega) hra (by omega) (fun x hx => by have := (hok.1 x hx).1; omega) (by omega) hg0.1 fun c70 N70 h70 => ?_
                    generalize hdd0 : (chV L (-1)).drop (wordV l a).length = d0 at *
                    have hY0 : Sl N70 47 2 c70 (insV l a d0).length ((insV l a d0).flatMap encS) := h70.slT (fun _ => rfl) (by decide) (fun _ q => q)
                    refine w_o rfl rfl rfl (op_alloc zer_24 fun b8 => ?_)
                    refine w_on rfl rfl (op_store siz_24 rfl rfl rfl (by (repeat (first | exact Pick.head _ _ _ | apply Pick.tail | apply Pick.app)); first | done | fail) (Nat.le_of_ble_eq_true rfl) rfl ?_)
                    refine w_end ?_
                    refine seq_normal ?_
                    refine w_seq ?_
                    refine w_seq ?_
                    refine w_region ?_
                    refine w_o rfl rfl rfl (op_assign rfl ?_)
                    refine w_end ?_
                    refine seq_normal ?_
                    refine w_block ?_
                    refine w_loop (fun q e H' => ∃ (i : Nat) (hand : Int) (M : Hyp), i ≤ L.length + 1 ∧ q = L.length + 1 - i ∧ -1 ≤ hand ∧ hand < L.length ∧ (i ≤ L.length → hand = (i : Int) - 1) ∧ (i = L.length + 1 → hand = -1) ∧ KVo M L cl ∧ Sl M 47 2 c l.length (l.flatMap encS) ∧ Sl M 47 2 cx l.length (l.flatMap encS) ∧ Sl M 47 2 cw (wordV l a).length ((wordV l a).flatMap encS) ∧ Sl M 47 2 c70 (insV l a d0).length ((insV l a d0).flatMap encS) ∧ H' = (b, offRow cx a cw cl hand) :: (b2, .row true 24 1 [c, .int .i64 a]) :: (b8, .row true 24 1 [c70, .int .i64 (a + ((d0.length : Nat) : Int))]) :: M ∧ e = [(2, ptrV b2 0), (5, ptrV b 0), (8, ptrV b8 0), (9, vI (i : Nat))]) ?_ ?_
                    · exact ⟨_, _, _, ⟨0, -1, N70 ++ (N ++ H), Nat.zero_le _, rfl, by omega, by omega, (fun _ => rfl), (fun q => by omega), hL.sub subs_, h.sub subs_, hX.sub subs_, hW.sub subs_, hY0.sub subs_, rfl, rfl⟩, env_, sel_⟩
                    · rintro q e H' ⟨i, hand, M, hi, rfl, hh1, hh2, hh3, hh4, mL, mx, mX, mW, mY, rfl, rfl⟩
                      have hge := chV_ge hok (by omega) (hand := hand) ⟨by omega, by omega⟩
                      have hdl : ((chV L hand).drop (wordV l a).length).length ≤ 40 := by rw [List.length_drop]; omega
                      have hin := insV_len (d := (chV L hand).drop (wordV l a).length) hra
                      have hlo := insV_lo (d := (chV L hand).drop (wordV l a).length) hra
                      have hup := insV_hi (d := (chV L hand).drop (wordV l a).length) hra
                      have hmid := fun {k : Nat} => insV_mid (d := (chV L hand).drop (wordV l a).length) hra (k := k)
                      have hlab : ∀ s ∈ (chV L hand).drop (wordV l a).length, s.f1 = 4 := fun s hs => chV_lab hok (by omega) ⟨hh1, hh2⟩ s (List.mem_of_mem_drop hs)
                      have t1 := turnV_next hh1 hh2
                      have t2 := turnV_in (n := L.length) (by_ := 1) hh1 (by omega)
                      refine w_seq ?_
                      refine w_seq ?_
                      refine w_region ?_
                      refine w_o rfl rfl rfl (op_move rfl ?_)
                      refine w_o rfl rfl rfl (op_move rfl ?_)
                      refine w_o rfl rfl rfl (op_call rfl rfl rfl ?_)
                      refine offLen_w (b := b) (L := L) mem_ (mL.sub subs_) ?_
                      refine w_o rfl rfl rfl (op_le rfl rfl ?_)
                      refine w_end ?_
                      refine seq_normal ?_
                      first | refine w_cond rfl (fun hI4 => ?_) (fun hI4 => ?_) | refine w_condB rfl (fun hI4 => ?_) (fun hI4 => ?_)
                      · refine w_skip ?_
                        refine seq_normal ?_
                        refine w_seq ?_
                        refine w_block ?_
                        refine w_seq ?_
                        refine w_region ?_
                        refine w_o rfl rfl rfl (op_move rfl ?_)
                        refine w_o rfl rfl rfl (op_call rfl rfl rfl ?_)
                        refine offLine_w (b := b) (L := L) (w := wordV l a) mem_ (mL.sub subs_) (mX.sub subs_) (mW.sub subs_) (by omega) hra (by omega) (fun x hx => by have := (hok.1 x hx).1; omega) (by omega) hge.1 fun c78 N78 h78 => ?_
                        generalize hdd : (chV L hand).drop (wordV l a).length = d at *
                        have hY : Sl N78 47 2 c78 (insV l a d).length ((insV l a d).flatMap encS) := h78.slT (fun _ => rfl) (by decide) (fun _ q => q)
                        refine w_o rfl rfl rfl (op_alloc zer_24 fun b10 => ?_)
                        refine w_on rfl rfl (op_store siz_24 rfl rfl rfl (by (repeat (first | exact Pick.head _ _ _ | apply Pick.tail | apply Pick.app)); first | done | fail) (Nat.le_of_ble_eq_true rfl) rfl ?_)
                        refine w_end ?_
                        refine seq_normal ?_
                        refine w_seq ?_
                        refine w_region ?_
                        refine w_o rfl rfl rfl (op_fieldAddr fa_24_0 rfl ?_)
                        refine w_o rfl rfl rfl (op_loadF agg_22 rfl el_ rfl ?_)
                        refine w_o rfl rfl rfl (op_lenC und_22 rfl hY.lenC ?_)
                        refine w_o rfl rfl rfl (op_fieldAddr fa_24_0 rfl ?_)
                        refine w_o rfl rfl rfl (op_loadF agg_22 rfl el_ rfl ?_)
                        refine w_o rfl rfl rfl (op_lenC und_22 rfl h.lenC ?_)
                        refine w_o rfl rfl rfl (op_subi rfl rfl (by omega) (by omega) ?_)
                        refine w_o rfl rfl rfl (op_assign rfl ?_)
                        refine w_end ?_
                        refine seq_normal ?_
                        refine w_seq ?_
                        refine w_seq ?_
                        refine w_draw (by decide +kernel) (by decide +kernel) ?_
                        refine w_d rfl rfl rfl (op_move rfl ?_)
                        refine w_d rfl rfl rfl (op_lt rfl rfl ?_)
                        refine w_d rfl rfl rfl (op_move rfl ?_)
                        first | refine w_known (t := 88) rfl (fun g88 => ?_) (fun g88 => ?_) | refine w_knownB (t := 88) rfl (fun g88 => ?_) (fun g88 => ?_)
                        · exact absurd g88 (by omega) --closed
                        · refine w_dg rfl rfl rfl rfl rfl (op_fieldAddr fa_24_1 rfl ?_)
                          refine w_dg rfl rfl rfl rfl rfl (op_loadF agg_3 rfl el_ rfl ?_)
                          refine w_dg rfl rfl rfl rfl rfl (op_fieldAddr fa_24_1 rfl ?_)
                          refine w_dg rfl rfl rfl rfl rfl (op_loadF agg_3 rfl el_ rfl ?_)
                          refine w_dg rfl rfl rfl rfl rfl (op_move rfl ?_)
                          refine w_dg rfl rfl rfl rfl rfl (op_addi rfl rfl (by omega) (by omega) ?_)
                          refine w_dg rfl rfl rfl rfl rfl (op_ne rfl rfl ?_)
                          refine w_d rfl rfl rfl (op_pick rfl rfl rfl ?_)
                          refine w_d rfl rfl rfl (op_move rfl ?_)
                          first | refine w_known (t := 97) rfl (fun g97 => ?_) (fun g97 => ?_) | refine w_knownB (t := 97) rfl (fun g97 => ?_) (fun g97 => ?_)
                          · exact absurd g97 (by omega) --closed
                          · refine w_dg rfl rfl rfl rfl rfl (op_fieldAddr fa_24_0 rfl ?_)
                            refine w_dg rfl rfl rfl rfl rfl (op_loadF agg_22 rfl el_ rfl ?_)
                            refine w_dg rfl rfl rfl rfl rfl (op_fieldAddr fa_24_1 rfl ?_)
                            refine w_dg rfl rfl rfl rfl rfl (op_loadF agg_3 rfl el_ rfl ?_)
                            refine w_dg rfl rfl rfl rfl rfl (op_sliceU (enc := encS) (xs := insV l a d) elm_22 siz_47 (by decide) rfl hY subs_ (fun _ => rfl) rfl rfl (by omega) (by omega) (by omega) fun c102 h102 => ?_)
                            have e102 : ((insV l a d).drop ((0 : Nat) : Int).toNat).take (a.toNat - ((0 : Nat) : Int).toNat) = l.take a.toNat := hlo
                            rw [e102] at h102
                            refine w_dg rfl rfl rfl rfl rfl (op_fieldAddr fa_24_0 rfl ?_)
                            refine w_dg rfl rfl rfl rfl rfl (op_loadF agg_22 rfl el_ rfl ?_)
                            refine w_dg rfl rfl rfl rfl rfl (op_fieldAddr fa_24_1 rfl ?_)
                            refine w_dg rfl rfl rfl rfl rfl (op_loadF agg_3 rfl el_ rfl ?_)
                            refine w_dg rfl rfl rfl rfl rfl (op_sliceU (enc := encS) (xs := l) elm_22 siz_47 (by decide) rfl mx subs_ (fun _ => rfl) rfl rfl (by omega) (by omega) (by omega) fun c107 h107 => ?_)
                            have e107 : (l.drop ((0 : Nat) : Int).toNat).take (a.toNat - ((0 : Nat) : Int).toNat) = l.take a.toNat := rfl
                            rw [e107] at h107
                            refine w_dg rfl rfl rfl rfl rfl (op_call rfl rfl rfl ?_)
                            refine R04Same_w (h102.sub subs_) (h107.sub subs_) (by rw [List.length_take]; omega) ?_
                            rw [decide_eq_true (rfl : l.take a.toNat = l.take a.toNat)]
                            refine w_dg rfl rfl rfl rfl rfl (op_not rfl ?_)
                            refine w_d rfl rfl rfl (op_pick rfl rfl rfl ?_)
                            refine w_d rfl rfl rfl (op_move rfl ?_)
                            refine w_dg rfl rfl rfl rfl rfl (op_fieldAddr fa_24_0 rfl ?_)
                            refine w_dg rfl rfl rfl rfl rfl (op_loadF agg_22 rfl el_ rfl ?_)
                            refine w_dg rfl rfl rfl rfl rfl (op_fieldAddr fa_24_1 rfl ?_)
                            refine w_dg rfl rfl rfl rfl rfl (op_loadF agg_3 rfl el_ rfl ?_)
                            refine w_dg rfl rfl rfl rfl rfl (op_sliceU (enc := encS) (xs := insV l a d) elm_22 siz_47 (by decide) rfl hY subs_ (fun _ => rfl) rfl rfl (by omega) (by omega) (by omega) fun c116 h116 => ?_)
                            have e116 : ((insV l a d).drop (a + ((d.length : Nat) : Int)).toNat).take ((((insV l a d).length : Nat) : Int).toNat - (a + ((d.length : Nat) : Int)).toNat) = l.drop a.toNat := by
                              rw [List.take_of_length_le (by rw [List.length_drop]; omega), show (a + ((d.length : Nat) : Int)).toNat = a.toNat + d.length by omega]; exact hup
                            rw [e116] at h116
                            refine w_dg rfl rfl rfl rfl rfl (op_fieldAddr fa_24_0 rfl ?_)
                            refine w_dg rfl rfl rfl rfl rfl (op_loadF agg_22 rfl el_ rfl ?_)
                            refine w_dg rfl rfl rfl rfl rfl (op_fieldAddr fa_24_1 rfl ?_)
                            refine w_dg rfl rfl rfl rfl rfl (op_loadF agg_3 rfl el_ rfl ?_)
                            refine w_dg rfl rfl rfl rfl rfl (op_sliceU (enc := encS) (xs := l) elm_22 siz_47 (by decide) rfl mx subs_ (fun _ => rfl) rfl rfl (by omega) (by omega) (by omega) fun c121 h121 => ?_)
                            have e121 : (l.drop a.toNat).take (((l.length : Nat) : Int).toNat - a.toNat) = l.drop a.toNat := List.take_of_length_le (by rw [List.length_drop]; omega)
                            rw [e121] at h121
                            refine w_dg rfl rfl rfl rfl rfl (op_call rfl rfl rfl ?_)
                            refine R04Same_w (h116.sub subs_) (h121.sub subs_) (by rw [List.length_drop]; omega) ?_
                            rw [decide_eq_true (rfl : l.drop a.toNat = l.drop a.toNat)]
                            refine w_dg rfl rfl rfl rfl rfl (op_not rfl ?_)
                            refine w_d rfl rfl rfl (op_pick rfl rfl rfl ?_)
                            refine w_end ?_
                            refine seq_normal ?_
                            refine w_condF rfl ?_
                            refine w_skip ?_
                            refine seq_normal ?_
                            refine w_seq ?_
                            refine w_seq ?_
                            refine w_region ?_
                            refine w_o rfl rfl rfl (op_fieldAddr fa_24_1 rfl ?_)
                            refine w_o rfl rfl rfl (op_loadF agg_3 rfl el_ rfl ?_)
                            refine w_o rfl rfl rfl (op_assign rfl ?_)
                            refine w_end ?_
                            refine seq_normal ?_
                            refine w_block ?_
                            refine w_loop (fun q e G' => ∃ (k : Int), a ≤ k ∧ k ≤ a + ((d.length : Nat) : Int) ∧ q = (a + ((d.length : Nat) : Int) - k).toNat ∧ (b10, .row true 24 1 [c78, .int .i64 (a + ((d.length : Nat) : Int))]) :: (N78 ++ ((b, offRow cx a cw cl hand) :: (b2, .row true 24 1 [c, .int .i64 a]) :: (b8, .row true 24 1 [c70, .int .i64 (a + ((d0.length : Nat) : Int))]) :: M)) = G' ∧ e = [(2, ptrV b2 0), (5, ptrV b 0), (8, ptrV b8 0), (9, vI (i : Nat)), (10, ptrV b10 0), (12, vI k)]) ?_ ?_
                            · exact ⟨_, _, _, ⟨a, by omega, by omega, rfl, rfl, rfl⟩, env_, sel_⟩
                            · rintro q e G' ⟨k, hk1, hk2, rfl, rfl, rfl⟩
                              refine w_seq ?_
                              refine w_seq ?_
                              refine w_region ?_
                              refine w_o rfl rfl rfl (op_move rfl ?_)
                              refine w_o rfl rfl rfl (op_fieldAddr fa_24_1 rfl ?_)
                              refine w_o rfl rfl rfl (op_loadF agg_3 rfl el_ rfl ?_)
                              refine w_o rfl rfl rfl (op_lt rfl rfl ?_)
                              refine w_end ?_
                              refine seq_normal ?_
                              first | refine w_cond rfl (fun hI6 => ?_) (fun hI6 => ?_) | refine w_condB rfl (fun hI6 => ?_) (fun hI6 => ?_)
                              · refine w_skip ?_
                                refine seq_normal ?_
                                refine w_seq ?_
                                refine w_block ?_
                                refine w_seq ?_
                                refine w_region ?_
                                refine w_o rfl rfl rfl (op_fieldAddr fa_24_0 rfl ?_)
                                refine w_o rfl rfl rfl (op_loadF agg_22 rfl el_ rfl ?_)
                                refine w_o rfl rfl rfl (op_move rfl ?_)
                                refine w_o rfl rfl rfl (op_indexT (enc := encS) (xs := insV l a d) (j := k.toNat) und_22 siz_47 rfl rfl (hY.sub subs_) (fun _ => rfl) (by omega) (by omega) fun b136 o136 z136 h136 e136 => ?_)
                                have hz4 : z136.f1 = 4 := by
                                  rw [hmid (by omega) (by omega)] at h136
                                  exact hlab _ (List.mem_of_getElem? h136)
                                refine w_o rfl rfl rfl (op_fieldAddr fa_47_1 rfl ?_)
                                refine w_o rfl rfl rfl (op_loadF agg_3 rfl el_ rfl ?_)
                                refine w_o rfl rfl rfl (op_ne rfl rfl ?_)
                                refine w_end ?_
                                refine seq_normal ?_
                                refine w_condN rfl (by omega) ?_
                                refine w_skip ?_
                                refine block_normal ?_
                                refine seq_normal ?_
                                refine w_region ?_
                                refine w_o rfl rfl rfl (op_move rfl ?_)
                                refine w_o rfl rfl rfl (op_addi rfl rfl (by omega) (by omega) ?_)
                                refine w_o rfl rfl rfl (op_assign rfl ?_)
                                refine w_end ?_
                                exact loop_normal (k' := (a + ((d.length : Nat) : Int) - (k + 1)).toNat) (by omega) ⟨k + 1, by omega, by omega, rfl, rfl, rfl⟩ env_ sel_
                              · refine w_exit ?_
                                refine seq_exit ?_
                                refine loop_exit ?_
                                refine block_hit rfl ?_
                                refine seq_normal ?_
                                refine w_region ?_
                                refine w_o rfl rfl rfl (op_move rfl ?_)
                                refine w_o rfl rfl rfl (op_call rfl rfl rfl ?_)
                                refine CallW.weak (H' := (b, offRow cx a cw cl hand) :: (b2, .row true 24 1 [c, .int .i64 a]) :: (b8, .row true 24 1 [c70, .int .i64 (a + ((d0.length : Nat) : Int))]) :: M) sel_ (offNext_w (L := L) (mL.sub subs_) (by omega) (by omega) ?_)
                                refine w_end ?_
                                refine block_normal ?_
                                refine seq_normal ?_
                                refine w_region ?_
                                refine w_o rfl rfl rfl (op_move rfl ?_)
                                refine w_o rfl rfl rfl (op_addi rfl rfl (by omega) (by omega) ?_)
                                refine w_o rfl rfl rfl (op_assign rfl ?_)
                                refine w_end ?_
                                exact loop_normal (k' := L.length + 1 - (i + 1)) (by omega) ⟨i + 1, turnV L.length hand 1, M, by omega, rfl, t2.1, t2.2, (fun q => by rw [t1, if_neg (by omega)]; omega), (fun q => by rw [t1, if_pos (by omega)]), mL, mx, mX, mW, mY, rfl, rfl⟩ env_ sel_
                      · refine w_exit ?_
                        refine seq_exit ?_
                        refine loop_exit ?_
                        refine block_hit rfl ?_
                        refine seq_normal ?_
                        refine w_seq ?_
                        refine w_drawF ((b, offRow cx a cw cl hand) :: (b2, .row true 24 1 [c, .int .i64 a]) :: (b8, .row true 24 1 [c70, .int .i64 (a + ((d0.length : Nat) : Int))]) :: M) sel_ (by decide +kernel) (by decide +kernel) ?_
                        refine f_b (guard_none rfl) rfl rfl rfl rfl (op_move rfl ?_)
                        refine f_m (guard_none rfl) rfl rfl rfl (op_call rfl rfl rfl ?_)
                        have hhm := hh4 (by omega)
                        subst hhm
                        refine offLine_w (b := b) (L := L) (w := wordV l a) mem_ (mL.sub subs_) (mX.sub subs_) (mW.sub subs_) (by omega) hra (by omega) (fun x hx => by have := (hok.1 x hx).1; omega) (by omega) hge.1 fun c143 N143 h143 => ?_
                        rw [hdd0] at h143
                        rw [hdd0]
                        refine ⟨sel_, ?_⟩
                        refine f_l (guard_none rfl) rfl rfl rfl sel_ (op_loadA agg_24 siz_24 rfl rfl el_ rfl) ?_
                        refine f_m (guard_none rfl) rfl rfl rfl (op_call rfl rfl rfl ?_)
                        refine R16Same_w (l := insV l a d0) (l' := insV l a d0) (h143.slT (H := N143) (fun _ => rfl) (by decide) (fun _ q => q)) subs_ mY subs_ (by omega) ?_
                        rw [decide_eq_true (⟨rfl, rfl⟩ : a + ((d0.length : Nat) : Int) = a + ((d0.length : Nat) : Int) ∧ insV l a d0 = insV l a d0)]
                        refine ⟨sel_, ?_⟩
                        refine f_b (guard_none rfl) rfl rfl rfl rfl (op_assign rfl ?_)
                        refine f_end ?_
                        refine seq_normal ?_
                        refine w_ret ?_
                        exact ret_ret rfl (.refl _) rfl
      · refine w_o rfl rfl rfl (op_move rfl ?_)
        refine w_o rfl rfl rfl (op_extract rfl rfl ?_)
        refine w_o rfl rfl rfl (op_extract rfl rfl ?_)
        refine w_o rfl rfl rfl (op_assign rfl ?_)
        refine w_o rfl rfl rfl (op_assign rfl ?_)
        refine w_end ?_
        refine seq_normal ?_
        refine w_seq ?_
        refine w_region ?_
        refine w_o rfl rfl rfl (op_assign rfl ?_)
        refine w_end ?_
        refine seq_normal ?_
        refine w_seq ?_
        refine w_seq ?_
        refine w_region ?_
        refine w_o rfl rfl rfl (op_move rfl ?_)
        refine w_o rfl rfl rfl (op_call rfl rfl rfl ?_)
        refine nilNext_w ?_
        refine w_o rfl rfl rfl (op_move rfl ?_)
        refine w_og rfl rfl rfl rfl rfl (op_move rfl ?_)
        refine w_og rfl rfl rfl rfl rfl (op_call rfl rfl rfl ?_)
        refine nilPrev_w ?_
        refine w_o rfl rfl rfl (op_pick rfl rfl rfl ?_)
        refine w_o rfl rfl rfl (op_move rfl ?_)
        refine w_og rfl rfl rfl rfl rfl (op_move rfl ?_)
        refine w_og rfl rfl rfl rfl rfl (op_call rfl rfl rfl ?_)
        refine nilHand_w ?_
        refine w_og rfl rfl rfl rfl rfl (op_ne rfl rfl ?_)
        refine w_o rfl rfl rfl (op_pick rfl rfl rfl ?_)
        refine w_o rfl rfl rfl (op_move rfl ?_)
        first | refine w_known (t := 44) rfl (fun g44 => ?_) (fun g44 => ?_) | refine w_knownB (t := 44) rfl (fun g44 => ?_) (fun g44 => ?_)
        · exact absurd rfl g44 --closed
        · refine w_og rfl rfl rfl rfl rfl (op_move rfl ?_)
          refine w_og rfl rfl rfl rfl rfl (op_call rfl rfl rfl ?_)
          refine nilLen_w ?_
          refine w_og rfl rfl rfl rfl rfl (op_move rfl ?_)
          refine w_og rfl rfl rfl rfl rfl (op_call rfl rfl rfl ?_)
          refine nilAll_w ?_
          refine w_og rfl rfl rfl rfl rfl (op_lenC und_25 rfl (by first | exact ⟨rfl, fun s e => by cases e⟩ | exact Sl.lenC (by assumption) | (refine Own.lenT (by assumption) ?_ ?_ <;> first | exact fun _ => rfl | decide)) ?_)
          refine w_og rfl rfl rfl rfl rfl (op_addi rfl rfl (by omega) (by omega) ?_)
          refine w_og rfl rfl rfl rfl rfl (op_move rfl ?_)
          refine w_og rfl rfl rfl rfl rfl (op_call rfl rfl rfl ?_)
          refine nilLine_w ?_
          refine w_og rfl rfl rfl rfl rfl (op_field rfl ((fld_24_0 _).trans rfl) ?_)
          refine w_og rfl rfl rfl rfl rfl (op_lenC und_22 rfl (by first | exact ⟨rfl, fun s e => by cases e⟩ | exact Sl.lenC (by assumption) | (refine Own.lenT (by assumption) ?_ ?_ <;> first | exact fun _ => rfl | decide)) ?_)
          refine w_og rfl rfl rfl rfl rfl (op_addi rfl rfl (by omega) (by omega) ?_)
          refine w_og rfl rfl rfl rfl rfl (op_ne rfl rfl ?_)
          refine w_o rfl rfl rfl (op_pick rfl rfl rfl ?_)
          refine w_end ?_
          refine seq_normal ?_
          refine w_condN rfl (by omega) ?_
          refine w_skip ?_
          refine seq_normal ?_
          refine w_seq ?_
          refine w_seq ?_
          refine w_region ?_
          refine w_o rfl rfl rfl (op_move rfl ?_)
          refine w_o rfl rfl rfl (op_ne rfl rfl ?_)
          refine w_o rfl rfl rfl (op_move rfl ?_)
          first | refine w_known (t := 60) rfl (fun g60 => ?_) (fun g60 => ?_) | refine w_knownB (t := 60) rfl (fun g60 => ?_) (fun g60 => ?_)
          · try (first | exact absurd rfl g60 | exact absurd (by decide) g60)
            all_goals
              refine w_u rfl rfl rfl rfl rfl rfl ?_
              refine w_u rfl rfl rfl rfl rfl rfl ?_
              refine w_o rfl rfl rfl (op_pick rfl rfl rfl ?_)
              refine w_o rfl rfl rfl (op_move rfl ?_)
              refine w_u rfl rfl rfl rfl rfl rfl ?_
              refine w_u rfl rfl rfl rfl rfl rfl ?_
              refine w_u rfl rfl rfl rfl rfl rfl ?_
              refine w_o rfl rfl rfl (op_pick rfl rfl rfl ?_)
              refine w_end ?_
              refine seq_normal ?_
              refine w_condT rfl ?_
              refine w_seq ?_
              refine w_region ?_
              refine w_o rfl rfl rfl (op_assign rfl ?_)
              refine w_end ?_
              refine seq_normal ?_
              refine w_ret ?_
              refine seq_ret ?_
              exact ret_ret rfl (.refl _) rfl
          · try (first | exact absurd rfl g60 | exact absurd (by decide) g60)
            all_goals
              refine w_og rfl rfl rfl rfl rfl (op_move rfl ?_)
              refine w_og rfl rfl rfl rfl rfl (op_nilEq rfl rfl rfl (by simp only [nilKind, und_29]) ?_)
              refine w_o rfl rfl rfl (op_pick rfl rfl rfl ?_)
              refine w_o rfl rfl rfl (op_move rfl ?_)
              first | refine w_known (t := 64) rfl (fun g64 => ?_) (fun g64 => ?_) | refine w_knownB (t := 64) rfl (fun g64 => ?_) (fun g64 => ?_)
              · try (first | exact absurd rfl g64 | exact absurd g64 (by decide))
                all_goals
                  refine w_u rfl rfl rfl rfl rfl rfl ?_
                  refine w_u rfl rfl rfl rfl rfl rfl ?_
                  refine w_u rfl rfl rfl rfl rfl rfl ?_
                  refine w_o rfl rfl rfl (op_pick rfl rfl rfl ?_)
                  refine w_end ?_
                  refine seq_normal ?_
                  refine w_condT rfl ?_
                  refine w_seq ?_
                  refine w_region ?_
                  refine w_o rfl rfl rfl (op_assign rfl ?_)
                  refine w_end ?_
                  refine seq_normal ?_
                  refine w_ret ?_
                  refine seq_ret ?_
                  exact ret_ret rfl (.refl _) rfl
              · try (first | exact absurd rfl g64 | exact absurd g64 (by decide))
                all_goals
                  refine w_og rfl rfl rfl rfl rfl (op_loadA agg_24 siz_24 rfl rfl el_ ?_)
                  refine w_og rfl rfl rfl rfl rfl (op_call rfl rfl rfl ?_)
                  refine R17May_w h subs_ (by omega) ?_
                  refine w_og rfl rfl rfl rfl rfl (op_not rfl ?_)
                  refine w_o rfl rfl rfl (op_pick rfl rfl rfl ?_)
                  refine w_end ?_
                  refine seq_normal ?_
                  first | refine w_cond rfl (fun hI3 => ?_) (fun hI3 => ?_) | refine w_condB rfl (fun hI3 => ?_) (fun hI3 => ?_)
                  · refine w_seq ?_
                    refine w_region ?_
                    refine w_o rfl rfl rfl (op_assign rfl ?_)
                    refine w_end ?_
                    refine seq_normal ?_
                    refine w_ret ?_
                    refine seq_ret ?_
                    exact ret_ret rfl (.refl _) rfl
                  · have hra : 0 ≤ a ∧ a ≤ l.length := by
                      have := of_decide_eq_true hr; exact ⟨this.1, this.2.1⟩
                    have hok := offP_ok (wordV l a) C hlt.2 C.length (Nat.le_refl _)
                    have hpl := offP_len (wordV l a) C C.length (Nat.le_refl _)
                    rw [show offP (wordV l a) C C.length = offL (wordV l a) C from rfl] at hok hpl
                    generalize hLL : offL (wordV l a) C = L at *
                    have hg0 := chV_ge hok (by omega) (hand := -1) ⟨by omega, by omega⟩
                    have hd0l : ((chV L (-1)).drop (wordV l a).length).length ≤ 40 := by rw [List.length_drop]; omega
                    have hi0 := insV_len (d := (chV L (-1)).drop (wordV l a).length) hra
                    refine w_skip ?_
                    refine seq_normal ?_
                    refine w_seq ?_
                    refine w_region ?_
                    refine w_o rfl rfl rfl (op_move rfl ?_)
                    refine w_o rfl rfl rfl (op_call rfl rfl rfl ?_)
                    refine offLine_w (b := b) (L := L) (w := wordV l a) mem_ (hL.sub subs_) (hX.sub subs_) (hW.sub subs_) (by omega) hra (by omega) (fun x hx => by have := (hok.1 x hx).1; omega) (by omega) hg0.1 fun c70 N70 h70 => ?_
                    generalize hdd0 : (chV L (-1)).drop (wordV l a).length = d0 at *
                    have hY0 : Sl N70 47 2 c70 (insV l a d0).length ((insV l a d0).flatMap encS) := h70.slT (fun _ => rfl) (by decide) (fun _ q => q)
                    refine w_o rfl rfl rfl (op_alloc zer_24 fun b8 => ?_)
                    refine w_on rfl rfl (op_store siz_24 rfl rfl rfl (by (repeat (first | exact Pick.head _ _ _ | apply Pick.tail | apply Pick.app)); first | done | fail) (Nat.le_of_ble_eq_true rfl) rfl ?_)
                    refine w_end ?_
                    refine seq_normal ?_
                    refine w_seq ?_
                    refine w_seq ?_
                    refine w_region ?_
                    refine w_o rfl rfl rfl (op_assign rfl ?_)
                    refine w_end ?_
                    refine seq_normal ?_
                    refine w_block ?_
                    refine w_loop (fun q e H' => ∃ (i : Nat) (hand : Int) (M : Hyp), i ≤ L.length + 1 ∧ q = L.length + 1 - i ∧ -1 ≤ hand ∧ hand < L.length ∧ (i ≤ L.length → hand = (i : Int) - 1) ∧ (i = L.length + 1 → hand = -1) ∧ KVo M L cl ∧ Sl M 47 2 c l.length (l.flatMap encS) ∧ Sl M 47 2 cx l.length (l.flatMap encS) ∧ Sl M 47 2 cw (wordV l a).length ((wordV l a).flatMap encS) ∧ Sl M 47 2 c70 (insV l a d0).length ((insV l a d0).flatMap encS) ∧ H' = (b, offRow cx a cw cl hand) :: (b2, .row true 24 1 [c, .int .i64 a]) :: (b8, .row true 24 1 [c70, .int .i64 (a + ((d0.length : Nat) : Int))]) :: M ∧ e = [(2, ptrV b2 0), (5, ptrV b 0), (8, ptrV b8 0), (9, vI (i : Nat))]) ?_ ?_
                    · exact ⟨_, _, _, ⟨0, -1, N70 ++ (N ++ H), Nat.zero_le _, rfl, by omega, by omega, (fun _ => rfl), (fun q => by omega), hL.sub subs_, h.sub subs_, hX.sub subs_, hW.sub subs_, hY0.sub subs_, rfl, rfl⟩, env_, sel_⟩
                    · rintro q e H' ⟨i, hand, M, hi, rfl, hh1, hh2, hh3, hh4, mL, mx, mX, mW, mY, rfl, rfl⟩
                      have hge := chV_ge hok (by omega) (hand := hand) ⟨by omega, by omega⟩
                      have hdl : ((chV L hand).drop (wordV l a).length).length ≤ 40 := by rw [List.length_drop]; omega
                      have hin := insV_len (d := (chV L hand).drop (wordV l a).length) hra
                      have hlo := insV_lo (d := (chV L hand).drop (wordV l a).length) hra
                      have hup := insV_hi (d := (chV L hand).drop (wordV l a).length) hra
                      have hmid := fun {k : Nat} => insV_mid (d := (chV L hand).drop (wordV l a).length) hra (k := k)
                      have hlab : ∀ s ∈ (chV L hand).drop (wordV l a).length, s.f1 = 4 := fun s hs => chV_lab hok (by omega) ⟨hh1, hh2⟩ s (List.mem_of_mem_drop hs)
                      have t1 := turnV_next hh1 hh2
                      have t2 := turnV_in (n := L.length) (by_ := 1) hh1 (by omega)
                      refine w_seq ?_
                      refine w_seq ?_
                      refine w_region ?_
                      refine w_o rfl rfl rfl (op_move rfl ?_)
                      refine w_o rfl rfl rfl (op_move rfl ?_)
                      refine w_o rfl rfl rfl (op_call rfl rfl rfl ?_)
                      refine offLen_w (b := b) (L := L) mem_ (mL.sub subs_) ?_
                      refine w_o rfl rfl rfl (op_le rfl rfl ?_)
                      refine w_end ?_
                      refine seq_normal ?_
                      first | refine w_cond rfl (fun hI4 => ?_) (fun hI4 => ?_) | refine w_condB rfl (fun hI4 => ?_) (fun hI4 => ?_)
                      · refine w_skip ?_
                        refine seq_normal ?_
                        refine w_seq ?_
                        refine w_block ?_
                        refine w_seq ?_
                        refine w_region ?_
                        refine w_o rfl rfl rfl (op_move rfl ?_)
                        refine w_o rfl rfl rfl (op_call rfl rfl rfl ?_)
                        refine offLine_w (b := b) (L := L) (w := wordV l a) mem_ (mL.sub subs_) (mX.sub subs_) (mW.sub subs_) (by omega) hra (by omega) (fun x hx => by have := (hok.1 x hx).1; omega) (by omega) hge.1 fun c78 N78 h78 => ?_
                        generalize hdd : (chV L hand).drop (wordV l a).length = d at *
                        have hY : Sl N78 47 2 c78 (insV l a d).length ((insV l a d).flatMap encS) := h78.slT (fun _ => rfl) (by decide) (fun _ q => q)
                        refine w_o rfl rfl rfl (op_alloc zer_24 fun b10 => ?_)
                        refine w_on rfl rfl (op_store siz_24 rfl rfl rfl (by (repeat (first | exact Pick.head _ _ _ | apply Pick.tail | apply Pick.app)); first | done | fail) (Nat.le_of_ble_eq_true rfl) rfl ?_)
                        refine w_end ?_
                        refine seq_normal ?_
                        refine w_seq ?_
                        refine w_region ?_
                        refine w_o rfl rfl rfl (op_fieldAddr fa_24_0 rfl ?_)
                        refine w_o rfl rfl rfl (op_loadF agg_22 rfl el_ rfl ?_)
                        refine w_o rfl rfl rfl (op_lenC und_22 rfl hY.lenC ?_)
                        refine w_o rfl rfl rfl (op_fieldAddr fa_24_0 rfl ?_)
                        refine w_o rfl rfl rfl (op_loadF agg_22 rfl el_ rfl ?_)
                        refine w_o rfl rfl rfl (op_lenC und_22 rfl h.lenC ?_)
                        refine w_o rfl rfl rfl (op_subi rfl rfl (by omega) (by omega) ?_)
                        refine w_o rfl rfl rfl (op_assign rfl ?_)
                        refine w_end ?_
                        refine seq_normal ?_
                        refine w_seq ?_
                        refine w_seq ?_
                        refine w_draw (by decide +kernel) (by decide +kernel) ?_
                        refine w_d rfl rfl rfl (op_move rfl ?_)
                        refine w_d rfl rfl rfl (op_lt rfl rfl ?_)
                        refine w_d rfl rfl rfl (op_move rfl ?_)
                        first | refine w_known (t := 88) rfl (fun g88 => ?_) (fun g88 => ?_) | refine w_knownB (t := 88) rfl (fun g88 => ?_) (fun g88 => ?_)
                        · exact absurd g88 (by omega) --closed
                        · refine w_dg rfl rfl rfl rfl rfl (op_fieldAddr fa_24_1 rfl ?_)
                          refine w_dg rfl rfl rfl rfl rfl (op_loadF agg_3 rfl el_ rfl ?_)
                          refine w_dg rfl rfl rfl rfl rfl (op_fieldAddr fa_24_1 rfl ?_)
                          refine w_dg rfl rfl rfl rfl rfl (op_loadF agg_3 rfl el_ rfl ?_)
                          refine w_dg rfl rfl rfl rfl rfl (op_move rfl ?_)
                          refine w_dg rfl rfl rfl rfl rfl (op_addi rfl rfl (by omega) (by omega) ?_)
                          refine w_dg rfl rfl rfl rfl rfl (op_ne rfl rfl ?_)
                          refine w_d rfl rfl rfl (op_pick rfl rfl rfl ?_)
                          refine w_d rfl rfl rfl (op_move rfl ?_)
                          first | refine w_known (t := 97) rfl (fun g97 => ?_) (fun g97 => ?_) | refine w_knownB (t := 97) rfl (fun g97 => ?_) (fun g97 => ?_)
                          · exact absurd g97 (by omega) --closed
                          · refine w_dg rfl rfl rfl rfl rfl (op_fieldAddr fa_24_0 rfl ?_)
                            refine w_dg rfl rfl rfl rfl rfl (op_loadF agg_22 rfl el_ rfl ?_)
                            refine w_dg rfl rfl rfl rfl rfl (op_fieldAddr fa_24_1 rfl ?_)
                            refine w_dg rfl rfl rfl rfl rfl (op_loadF agg_3 rfl el_ rfl ?_)
                            refine w_dg rfl rfl rfl rfl rfl (op_sliceU (enc := encS) (xs := insV l a d) elm_22 siz_47 (by decide) rfl hY subs_ (fun _ => rfl) rfl rfl (by omega) (by omega) (by omega) fun c102 h102 => ?_)
                            have e102 : ((insV l a d).drop ((0 : Nat) : Int).toNat).take (a.toNat - ((0 : Nat) : Int).toNat) = l.take a.toNat := hlo
                            rw [e102] at h102
                            refine w_dg rfl rfl rfl rfl rfl (op_fieldAddr fa_24_0 rfl ?_)
                            refine w_dg rfl rfl rfl rfl rfl (op_loadF agg_22 rfl el_ rfl ?_)
                            refine w_dg rfl rfl rfl rfl rfl (op_fieldAddr fa_24_1 rfl ?_)
                            refine w_dg rfl rfl rfl rfl rfl (op_loadF agg_3 rfl el_ rfl ?_)
                            refine w_dg rfl rfl rfl rfl rfl (op_sliceU (enc := encS) (xs := l) elm_22 siz_47 (by decide) rfl mx subs_ (fun _ => rfl) rfl rfl (by omega) (by omega) (by omega) fun c107 h107 => ?_)
                            have e107 : (l.drop ((0 : Nat) : Int).toNat).take (a.toNat - ((0 : Nat) : Int).toNat) = l.take a.toNat := rfl
                            rw [e107] at h107
                            refine w_dg rfl rfl rfl rfl rfl (op_call rfl rfl rfl ?_)
                            refine R04Same_w (h102.sub subs_) (h107.sub subs_) (by rw [List.length_take]; omega) ?_
                            rw [decide_eq_true (rfl : l.take a.toNat = l.take a.toNat)]
                            refine w_dg rfl rfl rfl rfl rfl (op_not rfl ?_)
                            refine w_d rfl rfl rfl (op_pick rfl rfl rfl ?_)
                            refine w_d rfl rfl rfl (op_move rfl ?_)
                            refine w_dg rfl rfl rfl rfl rfl (op_fieldAddr fa_24_0 rfl ?_)
                            refine w_dg rfl rfl rfl rfl rfl (op_loadF agg_22 rfl el_ rfl ?_)
                            refine w_dg rfl rfl rfl rfl rfl (op_fieldAddr fa_24_1 rfl ?_)
                            refine w_dg rfl rfl rfl rfl rfl (op_loadF agg_3 rfl el_ rfl ?_)
                            refine w_dg rfl rfl rfl rfl rfl (op_sliceU (enc := encS) (xs := insV l a d) elm_22 siz_47 (by decide) rfl hY subs_ (fun _ => rfl) rfl rfl (by omega) (by omega) (by omega) fun c116 h116 => ?_)
                            have e116 : ((insV l a d).drop (a + ((d.length : Nat) : Int)).toNat).take ((((insV l a d).length : Nat) : Int).toNat - (a + ((d.length : Nat) : Int)).toNat) = l.drop a.toNat := by
                              rw [List.take_of_length_le (by rw [List.length_drop]; omega), show (a + ((d.length : Nat) : Int)).toNat = a.toNat + d.length by omega]; exact hup
                            rw [e116] at h116
                            refine w_dg rfl rfl rfl rfl rfl (op_fieldAddr fa_24_0 rfl ?_)
                            refine w_dg rfl rfl rfl rfl rfl (op_loadF agg_22 rfl el_ rfl ?_)
                            refine w_dg rfl rfl rfl rfl rfl (op_fieldAddr fa_24_1 rfl ?_)
                            refine w_dg rfl rfl rfl rfl rfl (op_loadF agg_3 rfl el_ rfl ?_)
                            refine w_dg rfl rfl rfl rfl rfl (op_sliceU (enc := encS) (xs := l) elm_22 siz_47 (by decide) rfl mx subs_ (fun _ => rfl) rfl rfl (by omega) (by omega) (by omega) fun c121 h121 => ?_)
                            have e121 : (l.drop a.toNat).take (((l.length : Nat) : Int).toNat - a.toNat) = l.drop a.toNat := List.take_of_length_le (by rw [List.length_drop]; omega)
                            rw [e121] at h121
                            refine w_dg rfl rfl rfl rfl rfl (op_call rfl rfl rfl ?_)
                            refine R04Same_w (h116.sub subs_) (h121.sub subs_) (by rw [List.length_drop]; omega) ?_
                            rw [decide_eq_true (rfl : l.drop a.toNat = l.drop a.toNat)]
                            refine w_dg rfl rfl rfl rfl rfl (op_not rfl ?_)
                            refine w_d rfl rfl rfl (op_pick rfl rfl rfl ?_)
                            refine w_end ?_
                            refine seq_normal ?_
                            refine w_condF rfl ?_
                            refine w_skip ?_
                            refine seq_normal ?_
                            refine w_seq ?_
                            refine w_seq ?_
                            refine w_region ?_
                            refine w_o rfl rfl rfl (op_fieldAddr fa_24_1 rfl ?_)
                            refine w_o rfl rfl rfl (op_loadF agg_3 rfl el_ rfl ?_)
                            refine w_o rfl rfl rfl (op_assign rfl ?_)
                            refine w_end ?_
                            refine seq_normal ?_
                            refine w_block ?_
                            refine w_loop (fun q e G' => ∃ (k : Int), a ≤ k ∧ k ≤ a + ((d.length : Nat) : Int) ∧ q = (a + ((d.length : Nat) : Int) - k).toNat ∧ (b10, .row true 24 1 [c78, .int .i64 (a + ((d.length : Nat) : Int))]) :: (N78 ++ ((b, offRow cx a cw cl hand) :: (b2, .row true 24 1 [c, .int .i64 a]) :: (b8, .row true 24 1 [c70, .int .i64 (a + ((d0.length : Nat) : Int))]) :: M)) = G' ∧ e = [(2, ptrV b2 0), (5, ptrV b 0), (8, ptrV b8 0), (9, vI (i : Nat)), (10, ptrV b10 0), (12, vI k)]) ?_ ?_
                            · exact ⟨_, _, _, ⟨a, by omega, by omega, rfl, rfl, rfl⟩, env_, sel_⟩
                            · rintro q e G' ⟨k, hk1, hk2, rfl, rfl, rfl⟩
                              refine w_seq ?_
                              refine w_seq ?_
                              refine w_region ?_
                              refine w_o rfl rfl rfl (op_move rfl ?_)
                              refine w_o rfl rfl rfl (op_fieldAddr fa_24_1 rfl ?_)
                              refine w_o rfl rfl rfl (op_loadF agg_3 rfl el_ rfl ?_)
                              refine w_o rfl rfl rfl (op_lt rfl rfl ?_)
                              refine w_end ?_
                              refine seq_normal ?_
                              first | refine w_cond rfl (fun hI6 => ?_) (fun hI6 => ?_) | refine w_condB rfl (fun hI6 => ?_) (fun hI6 => ?_)
                              · refine w_skip ?_
                                refine seq_normal ?_
                                refine w_seq ?_
                                refine w_block ?_
                                refine w_seq ?_
                                refine w_region ?_
                                refine w_o rfl rfl rfl (op_fieldAddr fa_24_0 rfl ?_)
                                refine w_o rfl rfl rfl (op_loadF agg_22 rfl el_ rfl ?_)
                                refine w_o rfl rfl rfl (op_move rfl ?_)
                                refine w_o rfl rfl rfl (op_indexT (enc := encS) (xs := insV l a d) (j := k.toNat) und_22 siz_47 rfl rfl (hY.sub subs_) (fun _ => rfl) (by omega) (by omega) fun b136 o136 z136 h136 e136 => ?_)
                                have hz4 : z136.f1 = 4 := by
                                  rw [hmid (by omega) (by omega)] at h136
                                  exact hlab _ (List.mem_of_getElem? h136)
                                refine w_o rfl rfl rfl (op_fieldAddr fa_47_1 rfl ?_)
                                refine w_o rfl rfl rfl (op_loadF agg_3 rfl el_ rfl ?_)
                                refine w_o rfl rfl rfl (op_ne rfl rfl ?_)
                                refine w_end ?_
                                refine seq_normal ?_
                                refine w_condN rfl (by omega) ?_
                                refine w_skip ?_
                                refine block_normal ?_
                                refine seq_normal ?_
                                refine w_region ?_
                                refine w_o rfl rfl rfl (op_move rfl ?_)
                                refine w_o rfl rfl rfl (op_addi rfl rfl (by omega) (by omega) ?_)
                                refine w_o rfl rfl rfl (op_assign rfl ?_)
                                refine w_end ?_
                                exact loop_normal (k' := (a + ((d.length : Nat) : Int) - (k + 1)).toNat) (by omega) ⟨k + 1, by omega, by omega, rfl, rfl, rfl⟩ env_ sel_
                              · refine w_exit ?_
                                refine seq_exit ?_
                                refine loop_exit ?_
                                refine block_hit rfl ?_
                                refine seq_normal ?_
                                refine w_region ?_
                                refine w_o rfl rfl rfl (op_move rfl ?_)
                                refine w_o rfl rfl rfl (op_call rfl rfl rfl ?_)
                                refine CallW.weak (H' := (b, offRow cx a cw cl hand) :: (b2, .row true 24 1 [c, .int .i64 a]) :: (b8, .row true 24 1 [c70, .int .i64 (a + ((d0.length : Nat) : Int))]) :: M) sel_ (offNext_w (L := L) (mL.sub subs_) (by omega) (by omega) ?_)
                                refine w_end ?_
                                refine block_normal ?_
                                refine seq_normal ?_
                                refine w_region ?_
                                refine w_o rfl rfl rfl (op_move rfl ?_)
                                refine w_o rfl rfl rfl (op_addi rfl rfl (by omega) (by omega) ?_)
                                refine w_o rfl rfl rfl (op_assign rfl ?_)
                                refine w_end ?_
                                exact loop_normal (k' := L.length + 1 - (i + 1)) (by omega) ⟨i + 1, turnV L.length hand 1, M, by omega, rfl, t2.1, t2.2, (fun q => by rw [t1, if_neg (by omega)]; omega), (fun q => by rw [t1, if_pos (by omega)]), mL, mx, mX, mW, mY, rfl, rfl⟩ env_ sel_
                      · refine w_exit ?_
                        refine seq_exit ?_
                        refine loop_exit ?_
                        refine block_hit rfl ?_
                        refine seq_normal ?_
                        refine w_seq ?_
                        refine w_drawF ((b, offRow cx a cw cl hand) :: (b2, .row true 24 1 [c, .int .i64 a]) :: (b8, .row true 24 1 [c70, .int .i64 (a + ((d0.length : Nat) : Int))]) :: M) sel_ (by decide +kernel) (by decide +kernel) ?_
                        refine f_b (guard_none rfl) rfl rfl rfl rfl (op_move rfl ?_)
                        refine f_m (guard_none rfl) rfl rfl rfl (op_call rfl rfl rfl ?_)
                        have hhm := hh4 (by omega)
                        subst hhm
                        refine offLine_w (b := b) (L := L) (w := wordV l a) mem_ (mL.sub subs_) (mX.sub subs_) (mW.sub subs_) (by omega) hra (by omega) (fun x hx => by have := (hok.1 x hx).1; omega) (by omega) hge.1 fun c143 N143 h143 => ?_
                        rw [hdd0] at h143
                        rw [hdd0]
                        refine ⟨sel_, ?_⟩
                        refine f_l (guard_none rfl) rfl rfl rfl sel_ (op_loadA agg_24 siz_24 rfl rfl el_ rfl) ?_
                        refine f_m (guard_none rfl) rfl rfl rfl (op_call rfl rfl rfl ?_)
                        refine R16Same_w (l := insV l a d0) (l' := insV l a d0) (h143.slT (H := N143) (fun _ => rfl) (by decide) (fun _ q => q)) subs_ mY subs_ (by omega) ?_
                        rw [decide_eq_true (⟨rfl, rfl⟩ : a + ((d0.length : Nat) : Int) = a + ((d0.length : Nat) : Int) ∧ insV l a d0 = insV l a d0)]
                        refine ⟨sel_, ?_⟩
                        refine f_b (guard_none rfl) rfl rfl rfl rfl (op_assign rfl ?_)
                        refine f_end ?_
                        refine seq_normal ?_
                        refine w_ret ?_
                        exact ret_ret rfl (.refl _) rfl
end Go.Proofs.Ytlbbnimobbheiaa.AM.B
