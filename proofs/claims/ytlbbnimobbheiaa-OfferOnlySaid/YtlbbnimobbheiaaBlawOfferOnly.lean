/- The law OfferOnly: it answers true, whatever comes in. -/
import Derived.Test.YtlbbnimobbheiaaAX
import Derived.Test.YtlbbnimobbheiaaBoffer10
set_option linter.unusedVariables false
set_option linter.unusedSimpArgs false
set_option maxRecDepth 10000
set_option maxHeartbeats 4000000
namespace Go.Proofs.Ytlbbnimobbheiaa.AM.B
open Go Go.RowKit
theorem OfferOnly_law {H : Hyp} {c cc : Cell} {l : List Sign} {a : Int} {C : List (List Sign)} (h : Sl H 47 2 c l.length (l.flatMap encS)) (hC : KVo H C cc) (hCn : C.length ≤ 1000000000000000) : CallW Try.prog Xs 5 [lineV c a, .one (.c cc)] H (fun v _ => v = vB true) := by
  refine call_of (n := 140) (fun _ => rfl) Try.func5 rfl rfl ?_
  refine w_seq ?_
  refine w_region ?_
  refine w_o rfl rfl rfl (op_box rfl fun b2 => ?_)
  refine w_o rfl rfl rfl (op_assign rfl ?_)
  refine w_end ?_
  refine seq_normal ?_
  refine w_seq ?_
  refine w_seq ?_
  refine w_region ?_
  refine w_o rfl rfl rfl (op_fieldAddr fa_24_0 rfl ?_)
  refine w_o rfl rfl rfl (op_loadF agg_22 rfl el_ rfl ?_)
  refine w_o rfl rfl rfl (op_lenC und_22 rfl h.lenC ?_)
  refine w_o rfl rfl rfl (op_gt rfl rfl ?_)
  refine w_o rfl rfl rfl (op_move rfl ?_)
  first | refine w_known (t := 19) rfl (fun g19 => ?_) (fun g19 => ?_) | refine w_knownB (t := 19) rfl (fun g19 => ?_) (fun g19 => ?_)
  · refine w_u rfl rfl rfl rfl rfl rfl ?_
    refine w_u rfl rfl rfl rfl rfl rfl ?_
    refine w_u rfl rfl rfl rfl rfl rfl ?_
    refine w_o rfl rfl rfl (op_pick rfl rfl rfl ?_)
    refine w_o rfl rfl rfl (op_move rfl ?_)
    refine w_u rfl rfl rfl rfl rfl rfl ?_
    refine w_u rfl rfl rfl rfl rfl rfl ?_
    refine w_o rfl rfl rfl (op_pick rfl rfl rfl ?_)
    refine w_end ?_
    refine seq_normal ?_
    refine w_condT rfl ?_
    refine w_seq ?_
    refine w_region ?_
    refine w_o rfl rfl rfl (op_call rfl rfl rfl ?_)
    refine awake_w ?_
    refine w_o rfl rfl rfl (op_assign rfl ?_)
    refine w_end ?_
    refine seq_normal ?_
    refine w_ret ?_
    refine seq_ret ?_
    exact ret_ret rfl (.refl _) rfl
  · have hl : l.length ≤ 60 := by omega
    refine w_og rfl rfl rfl rfl rfl (op_move rfl ?_)
    refine w_og rfl rfl rfl rfl rfl (op_call rfl rfl rfl ?_)
    refine light_w (hC.sub subs_) (by omega) ?_
    refine w_og rfl rfl rfl rfl rfl (op_not rfl ?_)
    refine w_o rfl rfl rfl (op_pick rfl rfl rfl ?_)
    refine w_o rfl rfl rfl (op_move rfl ?_)
    first | refine w_known (t := 24) rfl (fun g24 => ?_) (fun g24 => ?_) | refine w_knownB (t := 24) rfl (fun g24 => ?_) (fun g24 => ?_)
    · refine w_u rfl rfl rfl rfl rfl rfl ?_
      refine w_u rfl rfl rfl rfl rfl rfl ?_
      refine w_o rfl rfl rfl (op_pick rfl rfl rfl ?_)
      refine w_end ?_
      refine seq_normal ?_
      refine w_condT rfl ?_
      refine w_seq ?_
      refine w_region ?_
      refine w_o rfl rfl rfl (op_call rfl rfl rfl ?_)
      refine awake_w ?_
      refine w_o rfl rfl rfl (op_assign rfl ?_)
      refine w_end ?_
      refine seq_normal ?_
      refine w_ret ?_
      refine seq_ret ?_
      exact ret_ret rfl (.refl _) rfl
    · have hlt := of_decide_eq_true (show lightV C = true by simpa using g24)
      refine w_og rfl rfl rfl rfl rfl (op_call rfl rfl rfl ?_)
      refine awake_w ?_
      refine w_og rfl rfl rfl rfl rfl (op_not rfl ?_)
      refine w_o rfl rfl rfl (op_pick rfl rfl rfl ?_)
      refine w_end ?_
      refine seq_normal ?_
      refine w_condF rfl ?_
      refine w_skip ?_
      refine seq_normal ?_
      refine w_seq ?_
      refine w_region ?_
      refine w_o rfl rfl rfl (op_loadA agg_24 siz_24 rfl rfl el_ ?_)
      refine w_o rfl rfl rfl (op_move rfl ?_)
      refine w_o rfl rfl rfl (op_call rfl rfl rfl ?_)
      refine New_w h.cons (hC.sub subs_) (by omega) (by omega) hlt.2 (fun hr => ?_) (fun hr hz => ?_) (fun hr hnz b cx cw cl N hX hW hL => ?_)
      · refine w_o rfl rfl rfl (op_move rfl ?_)
        refine w_o rfl rfl rfl (op_extract rfl rfl ?_)
        refine w_o rfl rfl rfl (op_extract rfl rfl ?_)
        refine w_o rfl rfl rfl (op_assign rfl ?_)
        refine w_o rfl rfl rfl (op_assign rfl ?_)
        refine w_end ?_
        refine seq_normal ?_
        refine w_seq ?_
        refine w_seq ?_
        refine w_region ?_
        refine w_o rfl rfl rfl (op_move rfl ?_)
        refine w_o rfl rfl rfl (op_ne rfl rfl ?_)
        refine w_o rfl rfl rfl (op_move rfl ?_)
        first | refine w_known (t := 37) rfl (fun g37 => ?_) (fun g37 => ?_) | refine w_knownB (t := 37) rfl (fun g37 => ?_) (fun g37 => ?_)
        · try (first | exact absurd rfl g37 | exact absurd (by decide) g37)
          all_goals
            refine w_u rfl rfl rfl rfl rfl rfl ?_
            refine w_u rfl rfl rfl rfl rfl rfl ?_
            refine w_o rfl rfl rfl (op_pick rfl rfl rfl ?_)
            refine w_o rfl rfl rfl (op_move rfl ?_)
            refine w_u rfl rfl rfl rfl rfl rfl ?_
            refine w_u rfl rfl rfl rfl rfl rfl ?_
            refine w_u rfl rfl rfl rfl rfl rfl ?_
            refine w_o rfl rfl rfl (op_pick rfl rfl rfl ?_)
            refine w_end ?_
            refine seq_normal ?_
            refine w_condT rfl ?_
            refine w_seq ?_
            refine w_region ?_
            refine w_o rfl rfl rfl (op_assign rfl ?_)
            refine w_end ?_
            refine seq_normal ?_
            refine w_ret ?_
            refine seq_ret ?_
            exact ret_ret rfl (.refl _) rfl
        · try (first | exact absurd rfl g37 | exact absurd (by decide) g37)
          all_goals
            refine w_og rfl rfl rfl rfl rfl (op_move rfl ?_)
            refine w_og rfl rfl rfl rfl rfl (op_nilEq rfl rfl rfl (by simp only [nilKind, und_29]) ?_)
            refine w_o rfl rfl rfl (op_pick rfl rfl rfl ?_)
            refine w_o rfl rfl rfl (op_move rfl ?_)
            first | refine w_known (t := 41) rfl (fun g41 => ?_) (fun g41 => ?_) | refine w_knownB (t := 41) rfl (fun g41 => ?_) (fun g41 => ?_)
            · try (first | exact absurd rfl g41 | exact absurd g41 (by decide))
              all_goals
                refine w_u rfl rfl rfl rfl rfl rfl ?_
                refine w_u rfl rfl rfl rfl rfl rfl ?_
                refine w_u rfl rfl rfl rfl rfl rfl ?_
                refine w_o rfl rfl rfl (op_pick rfl rfl rfl ?_)
                refine w_end ?_
                refine seq_normal ?_
                refine w_condT rfl ?_
                refine w_seq ?_
                refine w_region ?_
                refine w_o rfl rfl rfl (op_assign rfl ?_)
                refine w_end ?_
                refine seq_normal ?_
                refine w_ret ?_
                refine seq_ret ?_
                exact ret_ret rfl (.refl _) rfl
            · try (first | exact absurd rfl g41 | exact absurd g41 (by decide))
              all_goals
                refine w_og rfl rfl rfl rfl rfl (op_loadA agg_24 siz_24 rfl rfl el_ ?_)
                refine w_og rfl rfl rfl rfl rfl (op_call rfl rfl rfl ?_)
                refine R17May_w h subs_ (by omega) ?_
                refine w_og rfl rfl rfl rfl rfl (op_not rfl ?_)
                refine w_o rfl rfl rfl (op_pick rfl rfl rfl ?_)
                refine w_end ?_
                refine seq_normal ?_
                first | refine w_cond rfl (fun hI2 => ?_) (fun hI2 => ?_) | refine w_condB rfl (fun hI2 => ?_) (fun hI2 => ?_)
                · refine w_seq ?_
                  refine w_region ?_
                  refine w_o rfl rfl rfl (op_assign rfl ?_)
                  refine w_end ?_
                  refine seq_normal ?_
                  refine w_ret ?_
                  refine seq_ret ?_
                  exact ret_ret rfl (.refl _) rfl
                · have hra : 0 ≤ a ∧ a ≤ l.length := by
                    have := of_decide_eq_true hr; exact ⟨this.1, this.2.1⟩
                  have hok := offP_ok (wordV l a) C hlt.2 C.length (Nat.le_refl _)
                  have hpl := offP_len (wordV l a) C C.length (Nat.le_refl _)
                  rw [show offP (wordV l a) C C.length = offL (wordV l a) C from rfl] at hok hpl
                  generalize hLL : offL (wordV l a) C = L at hok hpl hnz hL
                  have hfr := fromF_le l a.toNat
                  have hwn := wordV_len hra
                  have hge := chV_ge hok (by omega) (hand := -1) ⟨by omega, by omega⟩
                  have hdl : ((chV L (-1)).drop (wordV l a).length).length ≤ 40 := by rw [List.length_drop]; omega
                  have hin := insV_len (d := (chV L (-1)).drop (wordV l a).length) hra
                  have hif := insV_from (d := (chV L (-1)).drop (wordV l a).length) hra
                  have hsb := fun {x : List Sign} (hx : x ∈ L) => stem_begins hok hx
                  refine w_skip ?_
                  refine seq_normal ?_
                  refine w_seq ?_
                  refine w_region ?_
                  refine w_o rfl rfl rfl (op_loadA agg_24 siz_24 rfl rfl el_ ?_)
                  refine w_o rfl rfl rfl (op_call rfl rfl rfl ?_)
                  refine Word_w h subs_ (by omega) (fun _ => ?_) (fun q => by rw [hr] at q; cases q)
                  refine w_o rfl rfl rfl (op_move rfl ?_)
                  refine w_o rfl rfl rfl (op_extract rfl rfl ?_)
                  refine w_o rfl rfl rfl (op_extract rfl rfl ?_)
                  refine w_o rfl rfl rfl (op_assign rfl ?_)
                  refine w_o rfl rfl rfl (op_assign rfl ?_)
                  refine w_end ?_
                  refine seq_normal ?_
                  refine w_seq ?_
                  refine w_region ?_
                  refine w_o rfl rfl rfl (op_move rfl ?_)
                  refine w_o rfl rfl rfl (op_call rfl rfl rfl ?_)
                  refine offLine_w (b := b) (L := L) (w := wordV l a) mem_ (hL.sub subs_) (hX.sub subs_) (hW.sub subs_) (by omega) hra (by omega) (fun x hx => by have := (hok.1 x hx).1; omega) (by omega) hge.1 fun c52 N52 h52 => ?_
                  generalize hdd : (chV L (-1)).drop (wordV l a).length = d at *
                  have hY : Sl N52 47 2 c52 (insV l a d).length ((insV l a d).flatMap encS) := h52.slT (fun _ => rfl) (by decide) (fun _ q => q)
                  refine w_o rfl rfl rfl (op_alloc zer_24 fun b9 => ?_)
                  refine w_on rfl rfl (op_store siz_24 rfl rfl rfl (by (repeat (first | exact Pick.head _ _ _ | apply Pick.tail | apply Pick.app)); first | done | fail) (Nat.le_of_ble_eq_true rfl) rfl ?_)
                  refine w_end ?_
                  refine seq_normal ?_
                  refine w_seq ?_
                  refine w_seq ?_
                  refine w_region ?_
                  refine w_o rfl rfl rfl (op_move rfl ?_)
                  refine w_o rfl rfl rfl (op_lt rfl rfl ?_)
                  refine w_o rfl rfl rfl (op_move rfl ?_)
                  first | refine w_known (t := 55) rfl (fun g55 => ?_) (fun g55 => ?_) | refine w_knownB (t := 55) rfl (fun g55 => ?_) (fun g55 => ?_)
                  · exact absurd g55 (by omega) --closed
                  · refine w_og rfl rfl rfl rfl rfl (op_move rfl ?_)
                    refine w_og rfl rfl rfl rfl rfl (op_move rfl ?_)
                    refine w_og rfl rfl rfl rfl rfl (op_lt rfl rfl ?_)
                    refine w_o rfl rfl rfl (op_pick rfl rfl rfl ?_)
                    refine w_o rfl rfl rfl (op_move rfl ?_)
                    first | refine w_known (t := 60) rfl (fun g60 => ?_) (fun g60 => ?_) | refine w_knownB (t := 60) rfl (fun g60 => ?_) (fun g60 => ?_)
                    · exact absurd g60 (by omega) --closed
                    · refine w_og rfl rfl rfl rfl rfl (op_move rfl ?_)
                      refine w_og rfl rfl rfl rfl rfl (op_fieldAddr fa_24_0 rfl ?_)
                      refine w_og rfl rfl rfl rfl rfl (op_loadF agg_22 rfl el_ rfl ?_)
                      refine w_og rfl rfl rfl rfl rfl (op_lenC und_22 rfl h.lenC ?_)
                      refine w_og rfl rfl rfl rfl rfl (op_gt rfl rfl ?_)
                      refine w_o rfl rfl rfl (op_pick rfl rfl rfl ?_)
                      refine w_o rfl rfl rfl (op_move rfl ?_)
                      first | refine w_known (t := 67) rfl (fun g67 => ?_) (fun g67 => ?_) | refine w_knownB (t := 67) rfl (fun g67 => ?_) (fun g67 => ?_)
                      · exact absurd g67 (by omega) --closed
                      · refine w_og rfl rfl rfl rfl rfl (op_fieldAddr fa_24_1 rfl ?_)
                        refine w_og rfl rfl rfl rfl rfl (op_loadF agg_3 rfl el_ rfl ?_)
                        refine w_og rfl rfl rfl rfl rfl (op_move rfl ?_)
                        refine w_og rfl rfl rfl rfl rfl (op_lt rfl rfl ?_)
                        refine w_o rfl rfl rfl (op_pick rfl rfl rfl ?_)
                        refine w_o rfl rfl rfl (op_move rfl ?_)
                        first | refine w_known (t := 73) rfl (fun g73 => ?_) (fun g73 => ?_) | refine w_knownB (t := 73) rfl (fun g73 => ?_) (fun g73 => ?_)
                        · exact absurd g73 (by omega) --closed
                        · refine w_og rfl rfl rfl rfl rfl (op_fieldAddr fa_24_1 rfl ?_)
                          refine w_og rfl rfl rfl rfl rfl (op_loadF agg_3 rfl el_ rfl ?_)
                          refine w_og rfl rfl rfl rfl rfl (op_fieldAddr fa_24_0 rfl ?_)
                          refine w_og rfl rfl rfl rfl rfl (op_loadF agg_22 rfl el_ rfl ?_)
                          refine w_og rfl rfl rfl rfl rfl (op_lenC und_22 rfl hY.lenC ?_)
                          refine w_og rfl rfl rfl rfl rfl (op_gt rfl rfl ?_)
                          refine w_o rfl rfl rfl (op_pick rfl rfl rfl ?_)
                          refine w_end ?_
                          refine seq_normal ?_
                          refine w_condN rfl (by omega) ?_
                          refine w_skip ?_
                          refine seq_normal ?_
                          refine w_seq ?_
                          refine w_region ?_
                          refine w_o rfl rfl rfl (op_fieldAddr fa_24_0 rfl ?_)
                          refine w_o rfl rfl rfl (op_loadF agg_22 rfl el_ rfl ?_)
                          refine w_o rfl rfl rfl (op_move rfl ?_)
                          refine w_o rfl rfl rfl (op_move rfl ?_)
                          refine w_o rfl rfl rfl (op_sliceU (enc := encS) (xs := l) elm_22 siz_47 (by decide) rfl h subs_ (fun _ => rfl) rfl rfl (by omega) (by omega) (by omega) fun c85 h85 => ?_)
                          have e85 : (l.drop ((fromF l a.toNat : Nat) : Int).toNat).take (a.toNat - ((fromF l a.toNat : Nat) : Int).toNat) = wordV l a := rfl
                          rw [e85] at h85
                          refine w_o rfl rfl rfl (op_assign rfl ?_)
                          refine w_end ?_
                          refine seq_normal ?_
                          refine w_seq ?_
                          refine w_region ?_
                          refine w_o rfl rfl rfl (op_fieldAddr fa_24_0 rfl ?_)
                          refine w_o rfl rfl rfl (op_loadF agg_22 rfl el_ rfl ?_)
                          refine w_o rfl rfl rfl (op_move rfl ?_)
                          refine w_o rfl rfl rfl (op_fieldAddr fa_24_1 rfl ?_)
                          refine w_o rfl rfl rfl (op_loadF agg_3 rfl el_ rfl ?_)
                          refine w_o rfl rfl rfl (op_sliceU (enc := encS) (xs := insV l a d) elm_22 siz_47 (by decide) rfl hY subs_ (fun _ => rfl) rfl rfl (by omega) (by omega) (by omega) fun c91 h91 => ?_)
                          have e91 : ((insV l a d).drop ((fromF l a.toNat : Nat) : Int).toNat).take ((a + (d.length : Nat)).toNat - ((fromF l a.toNat : Nat) : Int).toNat) = wordV l a ++ d := hif
                          rw [e91] at h91
                          refine w_o rfl rfl rfl (op_assign rfl ?_)
                          refine w_end ?_
                          refine seq_normal ?_
                          refine w_seq ?_
                          refine w_region ?_
                          refine w_o rfl rfl rfl (op_move rfl ?_)
                          refine w_o rfl rfl rfl (op_call rfl rfl rfl ?_)
                          refine offAll_w (b := b) (L := L) mem_ (hL.sub subs_) (by omega) (fun x hx => by have := (hok.1 x hx).1; omega) fun c93 N93 hA => ?_
                          refine w_o rfl rfl rfl (op_assign rfl ?_)
                          refine w_end ?_
                          refine seq_normal ?_
                          refine w_seq ?_
                          refine w_seq ?_
                          refine w_region ?_
                          refine w_o rfl rfl rfl (op_assign rfl ?_)
                          refine w_end ?_
                          refine seq_normal ?_
                          refine w_block ?_
                          refine w_loop (fun q e H' => ∃ (i : Nat), i ≤ L.length ∧ q = L.length - i ∧ KVo H' L c93 ∧ Sl H' 47 2 c85 (wordV l a).length ((wordV l a).flatMap encS) ∧ Sl H' 47 2 c91 (wordV l a ++ d).length ((wordV l a ++ d).flatMap encS) ∧ e = [(10, .one (.c c85)), (11, .one (.c c91)), (12, .one (.c c93)), (13, vI (i : Nat))]) ?_ ?_
                          · exact ⟨_, _, _, ⟨0, Nat.zero_le _, rfl, hA, h85.sub subs_, h91.sub subs_, rfl⟩, env_, .refl _⟩
                          · rintro q e H' ⟨i, hi, rfl, hA', hw', hs', rfl⟩
                            have hA9 := hA'
                            obtain ⟨cs, a1, a2, a3⟩ := hA'
                            refine w_seq ?_
                            refine w_seq ?_
                            refine w_region ?_
                            refine w_o rfl rfl rfl (op_move rfl ?_)
                            refine w_o rfl rfl rfl (op_move rfl ?_)
                            refine w_o rfl rfl rfl (op_lenC und_25 rfl a1.lenC ?_)
                            refine w_o rfl rfl rfl (op_lt rfl rfl ?_)
                            refine w_end ?_
                            refine seq_normal ?_
                            first | refine w_cond rfl (fun hI4 => ?_) (fun hI4 => ?_) | refine w_condB rfl (fun hI4 => ?_) (fun hI4 => ?_)
                            · obtain ⟨x, hx⟩ : ∃ x, L[i]? = some x := ⟨_, List.getElem?_eq_getElem (by omega)⟩
                              have hxm := List.mem_of_getElem? hx
                              have hxk := hok.1 x hxm
                              refine w_skip ?_
                              refine seq_normal ?_
                              refine w_seq ?_
                              refine w_block ?_
                              refine w_seq ?_
                              refine w_seq ?_
                              refine w_region ?_
                              refine w_o rfl rfl rfl (op_move rfl ?_)
                              refine w_o rfl rfl rfl (op_move rfl ?_)
                              refine w_o rfl rfl rfl (op_indexT (enc := encC) (xs := cs) (j := i) und_25 siz_22 rfl rfl a1 (fun _ => rfl) rfl (by omega) fun b102 o102 z102 h102 e102 => ?_)
                              refine w_o rfl rfl rfl (op_load1 agg_22 rfl el_ ?_)
                              refine w_o rfl rfl rfl (op_lenC und_22 rfl (a3 i z102 x h102 hx).lenC ?_)
                              refine w_o rfl rfl rfl (op_move rfl ?_)
                              refine w_o rfl rfl rfl (op_lenC und_22 rfl hw'.lenC ?_)
                              refine w_o rfl rfl rfl (op_le rfl rfl ?_)
                              refine w_o rfl rfl rfl (op_move rfl ?_)
                              first | refine w_known (t := 108) rfl (fun g108 => ?_) (fun g108 => ?_) | refine w_knownB (t := 108) rfl (fun g108 => ?_) (fun g108 => ?_)
                              · exact absurd g108 (by omega) --closed
                              · refine w_og rfl rfl rfl rfl rfl (op_move rfl ?_)
                                refine w_og rfl rfl rfl rfl rfl (op_move rfl ?_)
                                refine w_og rfl rfl rfl rfl rfl (op_indexT (enc := encC) (xs := cs) (j := i) und_25 siz_22 rfl rfl a1 (fun _ => rfl) rfl (by omega) fun b111 o111 z111 h111 e111 => ?_)
                                refine w_og rfl rfl rfl rfl rfl (op_load1 agg_22 rfl el_ ?_)
                                refine w_og rfl rfl rfl rfl rfl (op_move rfl ?_)
                                refine w_og rfl rfl rfl rfl rfl (op_call rfl rfl rfl ?_)
                                refine R04At_w (a3 i z111 x h111 hx) (fun y hy => hy) hw' (fun y hy => hy) (by omega) ?_
                                rw [hxk.2.2.1]
                                refine w_og rfl rfl rfl rfl rfl (op_not rfl ?_)
                                refine w_o rfl rfl rfl (op_pick rfl rfl rfl ?_)
                                refine w_o rfl rfl rfl (op_move rfl ?_)
                                refine w_og rfl rfl rfl rfl rfl (op_move rfl ?_)
                                refine w_og rfl rfl rfl rfl rfl (op_move rfl ?_)
                                refine w_og rfl rfl rfl rfl rfl (op_indexT (enc := encC) (xs := cs) (j := i) und_25 siz_22 rfl rfl a1 (fun _ => rfl) rfl (by omega) fun b120 o120 z120 h120 e120 => ?_)
                                refine w_og rfl rfl rfl rfl rfl (op_load1 agg_22 rfl el_ ?_)
                                refine w_og rfl rfl rfl rfl rfl (op_move rfl ?_)
                                refine w_og rfl rfl rfl rfl rfl (op_call rfl rfl rfl ?_)
                                refine R04At_w (a3 i z120 x h120 hx) (fun y hy => hy) hs' (fun y hy => hy) (by omega) ?_
                                rw [hsb hxm]
                                refine w_og rfl rfl rfl rfl rfl (op_not rfl ?_)
                                refine w_o rfl rfl rfl (op_pick rfl rfl rfl ?_)
                                refine w_end ?_
                                refine seq_normal ?_
                                refine w_condF rfl ?_
                                refine w_skip ?_
                                refine seq_normal ?_
                                refine w_seq ?_
                                refine w_region ?_
                                refine w_o rfl rfl rfl (op_assign rfl ?_)
                                refine w_end ?_
                                refine seq_normal ?_
                                refine w_block ?_
                                refine w_loop (fun q e G' => ∃ (k : Nat), k ≤ i ∧ q = i - k ∧ H' = G' ∧ e = [(10, .one (.c c85)), (11, .one (.c c91)), (12, .one (.c c93)), (13, vI (i : Nat)), (14, vI (k : Nat))]) ?_ ?_
                                · exact ⟨_, _, _, ⟨0, Nat.zero_le _, rfl, rfl, rfl⟩, env_, .refl _⟩
                                · rintro q e G' ⟨k, hk, rfl, rfl, rfl⟩
                                  refine w_seq ?_
                                  refine w_seq ?_
                                  refine w_region ?_
                                  refine w_o rfl rfl rfl (op_move rfl ?_)
                                  refine w_o rfl rfl rfl (op_move rfl ?_)
                                  refine w_o rfl rfl rfl (op_lt rfl rfl ?_)
                                  refine w_end ?_
                                  refine seq_normal ?_
                                  first | refine w_cond rfl (fun hI6 => ?_) (fun hI6 => ?_) | refine w_condB rfl (fun hI6 => ?_) (fun hI6 => ?_)
                                  · obtain ⟨y, hy⟩ : ∃ y, L[k]? = some y := ⟨_, List.getElem?_eq_getElem (by omega)⟩
                                    have hyk := hok.1 y (List.mem_of_getElem? hy)
                                    refine w_skip ?_
                                    refine seq_normal ?_
                                    refine w_seq ?_
                                    refine w_block ?_
                                    refine w_seq ?_
                                    refine w_draw (by decide +kernel) (by decide +kernel) ?_
                                    refine w_d rfl rfl rfl (op_move rfl ?_)
                                    refine w_d rfl rfl rfl (op_move rfl ?_)
                                    refine w_d rfl rfl rfl (op_indexT (enc := encC) (xs := cs) (j := k) und_25 siz_22 rfl rfl a1 (fun _ => rfl) rfl (by omega) fun b133 o133 z133 h133 e133 => ?_)
                                    refine w_d rfl rfl rfl (op_load1 agg_22 rfl el_ ?_)
                                    refine w_d rfl rfl rfl (op_move rfl ?_)
                                    refine w_d rfl rfl rfl (op_move rfl ?_)
                                    refine w_d rfl rfl rfl (op_indexT (enc := encC) (xs := cs) (j := i) und_25 siz_22 rfl rfl a1 (fun _ => rfl) rfl (by omega) fun b137 o137 z137 h137 e137 => ?_)
                                    refine w_d rfl rfl rfl (op_load1 agg_22 rfl el_ ?_)
                                    refine w_d rfl rfl rfl (op_call rfl rfl rfl ?_)
                                    refine R04Same_w (a3 k z133 y h133 hy) (a3 i z137 x h137 hx) (by omega) ?_
                                    rw [decide_eq_false (hok.2 i k x y hx hy (by omega))]
                                    refine w_end ?_
                                    refine seq_normal ?_
                                    refine w_condF rfl ?_
                                    refine w_skip ?_
                                    refine block_normal ?_
                                    refine seq_normal ?_
                                    refine w_region ?_
                                    refine w_o rfl rfl rfl (op_move rfl ?_)
                                    refine w_o rfl rfl rfl (op_addi rfl rfl (by omega) (by omega) ?_)
                                    refine w_o rfl rfl rfl (op_assign rfl ?_)
                                    refine w_end ?_
                                    exact loop_normal (k' := i - (k + 1)) (by omega) ⟨k + 1, by omega, rfl, rfl, rfl⟩ env_ (.refl _)
                                  · refine w_exit ?_
                                    refine seq_exit ?_
                                    refine loop_exit ?_
                                    refine block_hit rfl ?_
                                    refine block_normal ?_
                                    refine seq_normal ?_
                                    refine w_region ?_
                                    refine w_o rfl rfl rfl (op_move rfl ?_)
                                    refine w_o rfl rfl rfl (op_addi rfl rfl (by omega) (by omega) ?_)
                                    refine w_o rfl rfl rfl (op_assign rfl ?_)
                                    refine w_end ?_
                                    exact loop_normal (k' := L.length - (i + 1)) (by omega) ⟨i + 1, by omega, rfl, hA9, hw', hs', rfl⟩ env_ (.refl _)
                            · refine w_exit ?_
                              refine seq_exit ?_
                              refine loop_exit ?_
                              refine block_hit rfl ?_
                              refine seq_normal ?_
                              refine w_seq ?_
                              refine w_region ?_
                              refine w_o rfl rfl rfl (op_assign rfl ?_)
                              refine w_end ?_
                              refine seq_normal ?_
                              refine w_ret ?_
                              exact ret_ret rfl (.refl _) rfl
      · refine w_o rfl rfl rfl (op_move rfl ?_)
        refine w_o rfl rfl rfl (op_extract rfl rfl ?_)
        refine w_o rfl rfl rfl (op_extract rfl rfl ?_)
        refine w_o rfl rfl rfl (op_assign rfl ?_)
        refine w_o rfl rfl rfl (op_assign rfl ?_)
        refine w_end ?_
        refine seq_normal ?_
        refine w_seq ?_
        refine w_seq ?_
        refine w_region ?_
        refine w_o rfl rfl rfl (op_move rfl ?_)
        refine w_o rfl rfl rfl (op_ne rfl rfl ?_)
        refine w_o rfl rfl rfl (op_move rfl ?_)
        first | refine w_known (t := 37) rfl (fun g37 => ?_) (fun g37 => ?_) | refine w_knownB (t := 37) rfl (fun g37 => ?_) (fun g37 => ?_)
        · try (first | exact absurd rfl g37 | exact absurd (by decide) g37)
          all_goals
            refine w_u rfl rfl rfl rfl rfl rfl ?_
            refine w_u rfl rfl rfl rfl rfl rfl ?_
            refine w_o rfl rfl rfl (op_pick rfl rfl rfl ?_)
            refine w_o rfl rfl rfl (op_move rfl ?_)
            refine w_u rfl rfl rfl rfl rfl rfl ?_
            refine w_u rfl rfl rfl rfl rfl rfl ?_
            refine w_u rfl rfl rfl rfl rfl rfl ?_
            refine w_o rfl rfl rfl (op_pick rfl rfl rfl ?_)
            refine w_end ?_
            refine seq_normal ?_
            refine w_condT rfl ?_
            refine w_seq ?_
            refine w_region ?_
            refine w_o rfl rfl rfl (op_assign rfl ?_)
            refine w_end ?_
            refine seq_normal ?_
            refine w_ret ?_
            refine seq_ret ?_
            exact ret_ret rfl (.refl _) rfl
        · try (first | exact absurd rfl g37 | exact absurd (by decide) g37)
          all_goals
            refine w_og rfl rfl rfl rfl rfl (op_move rfl ?_)
            refine w_og rfl rfl rfl rfl rfl (op_nilEq rfl rfl rfl (by simp only [nilKind, und_29]) ?_)
            refine w_o rfl rfl rfl (op_pick rfl rfl rfl ?_)
            refine w_o rfl rfl rfl (op_move rfl ?_)
            first | refine w_known (t := 41) rfl (fun g41 => ?_) (fun g41 => ?_) | refine w_knownB (t := 41) rfl (fun g41 => ?_) (fun g41 => ?_)
            · try (first | exact absurd rfl g41 | exact absurd g41 (by decide))
              all_goals
                refine w_u rfl rfl rfl rfl rfl rfl ?_
                refine w_u rfl rfl rfl rfl rfl rfl ?_
                refine w_u rfl rfl rfl rfl rfl rfl ?_
                refine w_o rfl rfl rfl (op_pick rfl rfl rfl ?_)
                refine w_end ?_
                refine seq_normal ?_
                refine w_condT rfl ?_
                refine w_seq ?_
                refine w_region ?_
                refine w_o rfl rfl rfl (op_assign rfl ?_)
                refine w_end ?_
                refine seq_normal ?_
                refine w_ret ?_
                refine seq_ret ?_
                exact ret_ret rfl (.refl _) rfl
            · try (first | exact absurd rfl g41 | exact absurd g41 (by decide))
              all_goals
                refine w_og rfl rfl rfl rfl rfl (op_loadA agg_24 siz_24 rfl rfl el_ ?_)
                refine w_og rfl rfl rfl rfl rfl (op_call rfl rfl rfl ?_)
                refine R17May_w h subs_ (by omega) ?_
                refine w_og rfl rfl rfl rfl rfl (op_not rfl ?_)
                refine w_o rfl rfl rfl (op_pick rfl rfl rfl ?_)
                refine w_end ?_
                refine seq_normal ?_
                first | refine w_cond rfl (fun hI2 => ?_) (fun hI2 => ?_) | refine w_condB rfl (fun hI2 => ?_) (fun hI2 => ?_)
                · refine w_seq ?_
                  refine w_region ?_
                  refine w_o rfl rfl rfl (op_assign rfl ?_)
                  refine w_end ?_
                  refine seq_normal ?_
                  refine w_ret ?_
                  refine seq_ret ?_
                  exact ret_ret rfl (.refl _) rfl
                · have hra : 0 ≤ a ∧ a ≤ l.length := by
                    have := of_decide_eq_true hr; exact ⟨this.1, this.2.1⟩
                  have hok := offP_ok (wordV l a) C hlt.2 C.length (Nat.le_refl _)
                  have hpl := offP_len (wordV l a) C C.length (Nat.le_refl _)
                  rw [show offP (wordV l a) C C.length = offL (wordV l a) C from rfl] at hok hpl
                  generalize hLL : offL (wordV l a) C = L at hok hpl hnz hL
                  have hfr := fromF_le l a.toNat
                  have hwn := wordV_len hra
                  have hge := chV_ge hok (by omega) (hand := -1) ⟨by omega, by omega⟩
                  have hdl : ((chV L (-1)).drop (wordV l a).length).length ≤ 40 := by rw [List.length_drop]; omega
                  have hin := insV_len (d := (chV L (-1)).drop (wordV l a).length) hra
                  have hif := insV_from (d := (chV L (-1)).drop (wordV l a).length) hra
                  have hsb := fun {x : List Sign} (hx : x ∈ L) => stem_begins hok hx
                  refine w_skip ?_
                  refine seq_normal ?_
                  refine w_seq ?_
                  refine w_region ?_
                  refine w_o rfl rfl rfl (op_loadA agg_24 siz_24 rfl rfl el_ ?_)
                  refine w_o rfl rfl rfl (op_call rfl rfl rfl ?_)
                  refine Word_w h subs_ (by omega) (fun _ => ?_) (fun q => by rw [hr] at q; cases q)
                  refine w_o rfl rfl rfl (op_move rfl ?_)
                  refine w_o rfl rfl rfl (op_extract rfl rfl ?_)
                  refine w_o rfl rfl rfl (op_extract rfl rfl ?_)
                  refine w_o rfl rfl rfl (op_assign rfl ?_)
                  refine w_o rfl rfl rfl (op_assign rfl ?_)
                  refine w_end ?_
                  refine seq_normal ?_
                  refine w_seq ?_
                  refine w_region ?_
                  refine w_o rfl rfl rfl (op_move rfl ?_)
                  refine w_o rfl rfl rfl (op_call rfl rfl rfl ?_)
                  refine offLine_w (b := b) (L := L) (w := wordV l a) mem_ (hL.sub subs_) (hX.sub subs_) (hW.sub subs_) (by omega) hra (by omega) (fun x hx => by have := (hok.1 x hx).1; omega) (by omega) hge.1 fun c52 N52 h52 => ?_
                  generalize hdd : (chV L (-1)).drop (wordV l a).length = d at *
                  have hY : Sl N52 47 2 c52 (insV l a d).length ((insV l a d).flatMap encS) := h52.slT (fun _ => rfl) (by decide) (fun _ q => q)
                  refine w_o rfl rfl rfl (op_alloc zer_24 fun b9 => ?_)
                  refine w_on rfl rfl (op_store siz_24 rfl rfl rfl (by (repeat (first | exact Pick.head _ _ _ | apply Pick.tail | apply Pick.app)); first | done | fail) (Nat.le_of_ble_eq_true rfl) rfl ?_)
                  refine w_end ?_
                  refine seq_normal ?_
                  refine w_seq ?_
                  refine w_seq ?_
                  refine w_region ?_
                  refine w_o rfl rfl rfl (op_move rfl ?_)
                  refine w_o rfl rfl rfl (op_lt rfl rfl ?_)
                  refine w_o rfl rfl rfl (op_move rfl ?_)
                  first | refine w_known (t := 55) rfl (fun g55 => ?_) (fun g55 => ?_) | refine w_knownB (t := 55) rfl (fun g55 => ?_) (fun g55 => ?_)
                  · exact absurd g55 (by omega) --closed
                  · refine w_og rfl rfl rfl rfl rfl (op_move rfl ?_)
                    refine w_og rfl rfl rfl rfl rfl (op_move rfl ?_)
                    refine w_og rfl rfl rfl rfl rfl (op_lt rfl rfl ?_)
                    refine w_o rfl rfl rfl (op_pick rfl rfl rfl ?_)
                    refine w_o rfl rfl rfl (op_move rfl ?_)
                    first | refine w_known (t := 60) rfl (fun g60 => ?_) (fun g60 => ?_) | refine w_knownB (t := 60) rfl (fun g60 => ?_) (fun g60 => ?_)
                    · exact absurd g60 (by omega) --closed
                    · refine w_og rfl rfl rfl rfl rfl (op_move rfl ?_)
                      refine w_og rfl rfl rfl rfl rfl (op_fieldAddr fa_24_0 rfl ?_)
                      refine w_og rfl rfl rfl rfl rfl (op_loadF agg_22 rfl el_ rfl ?_)
                      refine w_og rfl rfl rfl rfl rfl (op_lenC und_22 rfl h.lenC ?_)
                      refine w_og rfl rfl rfl rfl rfl (op_gt rfl rfl ?_)
                      refine w_o rfl rfl rfl (op_pick rfl rfl rfl ?_)
                      refine w_o rfl rfl rfl (op_move rfl ?_)
                      first | refine w_known (t := 67) rfl (fun g67 => ?_) (fun g67 => ?_) | refine w_knownB (t := 67) rfl (fun g67 => ?_) (fun g67 => ?_)
                      · exact absurd g67 (by omega) --closed
                      · refine w_og rfl rfl rfl rfl rfl (op_fieldAddr fa_24_1 rfl ?_)
                        refine w_og rfl rfl rfl rfl rfl (op_loadF agg_3 rfl el_ rfl ?_)
                        refine w_og rfl rfl rfl rfl rfl (op_move rfl ?_)
                        refine w_og rfl rfl rfl rfl rfl (op_lt rfl rfl ?_)
                        refine w_o rfl rfl rfl (op_pick rfl rfl rfl ?_)
                        refine w_o rfl rfl rfl (op_move rfl ?_)
                        first | refine w_known (t := 73) rfl (fun g73 => ?_) (fun g73 => ?_) | refine w_knownB (t := 73) rfl (fun g73 => ?_) (fun g73 => ?_)
                        · exact absurd g73 (by omega) --closed
                        · refine w_og rfl rfl rfl rfl rfl (op_fieldAddr fa_24_1 rfl ?_)
                          refine w_og rfl rfl rfl rfl rfl (op_loadF agg_3 rfl el_ rfl ?_)
                          refine w_og rfl rfl rfl rfl rfl (op_fieldAddr fa_24_0 rfl ?_)
                          refine w_og rfl rfl rfl rfl rfl (op_loadF agg_22 rfl el_ rfl ?_)
                          refine w_og rfl rfl rfl rfl rfl (op_lenC und_22 rfl hY.lenC ?_)
                          refine w_og rfl rfl rfl rfl rfl (op_gt rfl rfl ?_)
                          refine w_o rfl rfl rfl (op_pick rfl rfl rfl ?_)
                          refine w_end ?_
                          refine seq_normal ?_
                          refine w_condN rfl (by omega) ?_
                          refine w_skip ?_
                          refine seq_normal ?_
                          refine w_seq ?_
                          refine w_region ?_
                          refine w_o rfl rfl rfl (op_fieldAddr fa_24_0 rfl ?_)
                          refine w_o rfl rfl rfl (op_loadF agg_22 rfl el_ rfl ?_)
                          refine w_o rfl rfl rfl (op_move rfl ?_)
                          refine w_o rfl rfl rfl (op_move rfl ?_)
                          refine w_o rfl rfl rfl (op_sliceU (enc := encS) (xs := l) elm_22 siz_47 (by decide) rfl h subs_ (fun _ => rfl) rfl rfl (by omega) (by omega) (by omega) fun c85 h85 => ?_)
                          have e85 : (l.drop ((fromF l a.toNat : Nat) : Int).toNat).take (a.toNat - ((fromF l a.toNat : Nat) : Int).toNat) = wordV l a := rfl
                          rw [e85] at h85
                          refine w_o rfl rfl rfl (op_assign rfl ?_)
                          refine w_end ?_
                          refine seq_normal ?_
                          refine w_seq ?_
                          refine w_region ?_
                          refine w_o rfl rfl rfl (op_fieldAddr fa_24_0 rfl ?_)
                          refine w_o rfl rfl rfl (op_loadF agg_22 rfl el_ rfl ?_)
                          refine w_o rfl rfl rfl (op_move rfl ?_)
                          refine w_o rfl rfl rfl (op_fieldAddr fa_24_1 rfl ?_)
                          refine w_o rfl rfl rfl (op_loadF agg_3 rfl el_ rfl ?_)
                          refine w_o rfl rfl rfl (op_sliceU (enc := encS) (xs := insV l a d) elm_22 siz_47 (by decide) rfl hY subs_ (fun _ => rfl) rfl rfl (by omega) (by omega) (by omega) fun c91 h91 => ?_)
                          have e91 : ((insV l a d).drop ((fromF l a.toNat : Nat) : Int).toNat).take ((a + (d.length : Nat)).toNat - ((fromF l a.toNat : Nat) : Int).toNat) = wordV l a ++ d := hif
                          rw [e91] at h91
                          refine w_o rfl rfl rfl (op_assign rfl ?_)
                          refine w_end ?_
                          refine seq_normal ?_
                          refine w_seq ?_
                          refine w_region ?_
                          refine w_o rfl rfl rfl (op_move rfl ?_)
                          refine w_o rfl rfl rfl (op_call rfl rfl rfl ?_)
                          refine offAll_w (b := b) (L := L) mem_ (hL.sub subs_) (by omega) (fun x hx => by have := (hok.1 x hx).1; omega) fun c93 N93 hA => ?_
                          refine w_o rfl rfl rfl (op_assign rfl ?_)
                          refine w_end ?_
                          refine seq_normal ?_
                          refine w_seq ?_
                          refine w_seq ?_
                          refine w_region ?_
                          refine w_o rfl rfl rfl (op_assign rfl ?_)
                          refine w_end ?_
                          refine seq_normal ?_
                          refine w_block ?_
                          refine w_loop (fun q e H' => ∃ (i : Nat), i ≤ L.length ∧ q = L.length - i ∧ KVo H' L c93 ∧ Sl H' 47 2 c85 (wordV l a).length ((wordV l a).flatMap encS) ∧ Sl H' 47 2 c91 (wordV l a ++ d).length ((wordV l a ++ d).flatMap encS) ∧ e = [(10, .one (.c c85)), (11, .one (.c c91)), (12, .one (.c c93)), (13, vI (i : Nat))]) ?_ ?_
                          · exact ⟨_, _, _, ⟨0, Nat.zero_le _, rfl, hA, h85.sub subs_, h91.sub subs_, rfl⟩, env_, .refl _⟩
                          · rintro q e H' ⟨i, hi, rfl, hA', hw', hs', rfl⟩
                            have hA9 := hA'
                            obtain ⟨cs, a1, a2, a3⟩ := hA'
                            refine w_seq ?_
                            refine w_seq ?_
                            refine w_region ?_
                            refine w_o rfl rfl rfl (op_move rfl ?_)
                            refine w_o rfl rfl rfl (op_move rfl ?_)
                            refine w_o rfl rfl rfl (op_lenC und_25 rfl a1.lenC ?_)
                            refine w_o rfl rfl rfl (op_lt rfl rfl ?_)
                            refine w_end ?_
                            refine seq_normal ?_
                            first | refine w_cond rfl (fun hI4 => ?_) (fun hI4 => ?_) | refine w_condB rfl (fun hI4 => ?_) (fun hI4 => ?_)
                            · obtain ⟨x, hx⟩ : ∃ x, L[i]? = some x := ⟨_, List.getElem?_eq_getElem (by omega)⟩
                              have hxm := List.mem_of_getElem? hx
                              have hxk := hok.1 x hxm
                              refine w_skip ?_
                              refine seq_normal ?_
                              refine w_seq ?_
                              refine w_block ?_
                              refine w_seq ?_
                              refine w_seq ?_
                              refine w_region ?_
                              refine w_o rfl rfl rfl (op_move rfl ?_)
                              refine w_o rfl rfl rfl (op_move rfl ?_)
                              refine w_o rfl rfl rfl (op_indexT (enc := encC) (xs := cs) (j := i) und_25 siz_22 rfl rfl a1 (fun _ => rfl) rfl (by omega) fun b102 o102 z102 h102 e102 => ?_)
                              refine w_o rfl rfl rfl (op_load1 agg_22 rfl el_ ?_)
                              refine w_o rfl rfl rfl (op_lenC und_22 rfl (a3 i z102 x h102 hx).lenC ?_)
                              refine w_o rfl rfl rfl (op_move rfl ?_)
                              refine w_o rfl rfl rfl (op_lenC und_22 rfl hw'.lenC ?_)
                              refine w_o rfl rfl rfl (op_le rfl rfl ?_)
                              refine w_o rfl rfl rfl (op_move rfl ?_)
                              first | refine w_known (t := 108) rfl (fun g108 => ?_) (fun g108 => ?_) | refine w_knownB (t := 108) rfl (fun g108 => ?_) (fun g108 => ?_)
                              · exact absurd g108 (by omega) --closed
                              · refine w_og rfl rfl rfl rfl rfl (op_move rfl ?_)
                                refine w_og rfl rfl rfl rfl rfl (op_move rfl ?_)
                                refine w_og rfl rfl rfl rfl rfl (op_indexT (enc := encC) (xs := cs) (j := i) und_25 siz_22 rfl rfl a1 (fun _ => rfl) rfl (by omega) fun b111 o111 z111 h111 e111 => ?_)
                                refine w_og rfl rfl rfl rfl rfl (op_load1 agg_22 rfl el_ ?_)
                                refine w_og rfl rfl rfl rfl rfl (op_move rfl ?_)
                                refine w_og rfl rfl rfl rfl rfl (op_call rfl rfl rfl ?_)
                                refine R04At_w (a3 i z111 x h111 hx) (fun y hy => hy) hw' (fun y hy => hy) (by omega) ?_
                                rw [hxk.2.2.1]
                                refine w_og rfl rfl rfl rfl rfl (op_not rfl ?_)
                                refine w_o rfl rfl rfl (op_pick rfl rfl rfl ?_)
                                refine w_o rfl rfl rfl (op_move rfl ?_)
                                refine w_og rfl rfl rfl rfl rfl (op_move rfl ?_)
                                refine w_og rfl rfl rfl rfl rfl (op_move rfl ?_)
                                refine w_og rfl rfl rfl rfl rfl (op_indexT (enc := encC) (xs := cs) (j := i) und_25 siz_22 rfl rfl a1 (fun _ => rfl) rfl (by omega) fun b120 o120 z120 h120 e120 => ?_)
                                refine w_og rfl rfl rfl rfl rfl (op_load1 agg_22 rfl el_ ?_)
                                refine w_og rfl rfl rfl rfl rfl (op_move rfl ?_)
                                refine w_og rfl rfl rfl rfl rfl (op_call rfl rfl rfl ?_)
                                refine R04At_w (a3 i z120 x h120 hx) (fun y hy => hy) hs' (fun y hy => hy) (by omega) ?_
                                rw [hsb hxm]
                                refine w_og rfl rfl rfl rfl rfl (op_not rfl ?_)
                                refine w_o rfl rfl rfl (op_pick rfl rfl rfl ?_)
                                refine w_end ?_
                                refine seq_normal ?_
                                refine w_condF rfl ?_
                                refine w_skip ?_
                                refine seq_normal ?_
                                refine w_seq ?_
                                refine w_region ?_
                                refine w_o rfl rfl rfl (op_assign rfl ?_)
                                refine w_end ?_
                                refine seq_normal ?_
                                refine w_block ?_
                                refine w_loop (fun q e G' => ∃ (k : Nat), k ≤ i ∧ q = i - k ∧ H' = G' ∧ e = [(10, .one (.c c85)), (11, .one (.c c91)), (12, .one (.c c93)), (13, vI (i : Nat)), (14, vI (k : Nat))]) ?_ ?_
                                · exact ⟨_, _, _, ⟨0, Nat.zero_le _, rfl, rfl, rfl⟩, env_, .refl _⟩
                                · rintro q e G' ⟨k, hk, rfl, rfl, rfl⟩
                                  refine w_seq ?_
                                  refine w_seq ?_
                                  refine w_region ?_
                                  refine w_o rfl rfl rfl (op_move rfl ?_)
                                  refine w_o rfl rfl rfl (op_move rfl ?_)
                                  refine w_o rfl rfl rfl (op_lt rfl rfl ?_)
                                  refine w_end ?_
                                  refine seq_normal ?_
                                  first | refine w_cond rfl (fun hI6 => ?_) (fun hI6 => ?_) | refine w_condB rfl (fun hI6 => ?_) (fun hI6 => ?_)
                                  · obtain ⟨y, hy⟩ : ∃ y, L[k]? = some y := ⟨_, List.getElem?_eq_getElem (by omega)⟩
                                    have hyk := hok.1 y (List.mem_of_getElem? hy)
                                    refine w_skip ?_
                                    refine seq_normal ?_
                                    refine w_seq ?_
                                    refine w_block ?_
                                    refine w_seq ?_
                                    refine w_draw (by decide +kernel) (by decide +kernel) ?_
                                    refine w_d rfl rfl rfl (op_move rfl ?_)
                                    refine w_d rfl rfl rfl (op_move rfl ?_)
                                    refine w_d rfl rfl rfl (op_indexT (enc := encC) (xs := cs) (j := k) und_25 siz_22 rfl rfl a1 (fun _ => rfl) rfl (by omega) fun b133 o133 z133 h133 e133 => ?_)
                                    refine w_d rfl rfl rfl (op_load1 agg_22 rfl el_ ?_)
                                    refine w_d rfl rfl rfl (op_move rfl ?_)
                                    refine w_d rfl rfl rfl (op_move rfl ?_)
                                    refine w_d rfl rfl rfl (op_indexT (enc := encC) (xs := cs) (j := i) und_25 siz_22 rfl rfl a1 (fun _ => rfl) rfl (by omega) fun b137 o137 z137 h137 e137 => ?_)
                                    refine w_d rfl rfl rfl (op_load1 agg_22 rfl el_ ?_)
                                    refine w_d rfl rfl rfl (op_call rfl rfl rfl ?_)
                                    refine R04Same_w (a3 k z133 y h133 hy) (a3 i z137 x h137 hx) (by omega) ?_
                                    rw [decide_eq_false (hok.2 i k x y hx hy (by omega))]
                                    refine w_end ?_
                                    refine seq_normal ?_
                                    refine w_condF rfl ?_
                                    refine w_skip ?_
                                    refine block_normal ?_
                                    refine seq_normal ?_
                                    refine w_region ?_
                                    refine w_o rfl rfl rfl (op_move rfl ?_)
                                    refine w_o rfl rfl rfl (op_addi rfl rfl (by omega) (by omega) ?_)
                                    refine w_o rfl rfl rfl (op_assign rfl ?_)
                                    refine w_end ?_
                                    exact loop_normal (k' := i - (k + 1)) (by omega) ⟨k + 1, by omega, rfl, rfl, rfl⟩ env_ (.refl _)
                                  · refine w_exit ?_
                                    refine seq_exit ?_
                                    refine loop_exit ?_
                                    refine block_hit rfl ?_
                                    refine block_normal ?_
                                    refine seq_normal ?_
                                    refine w_region ?_
                                    refine w_o rfl rfl rfl (op_move rfl ?_)
                                    refine w_o rfl rfl rfl (op_addi rfl rfl (by omega) (by omega) ?_)
                                    refine w_o rfl rfl rfl (op_assign rfl ?_)
                                    refine w_end ?_
                                    exact loop_normal (k' := L.length - (i + 1)) (by omega) ⟨i + 1, by omega, rfl, hA9, hw', hs', rfl⟩ env_ (.refl _)
                            · refine w_exit ?_
                              refine seq_exit ?_
                              refine loop_exit ?_
                              refine block_hit rfl ?_
                              refine seq_normal ?_
                              refine w_seq ?_
                              refine w_region ?_
                              refine w_o rfl rfl rfl (op_assign rfl ?_)
                              refine w_end ?_
                              refine seq_normal ?_
                              refine w_ret ?_
                              exact ret_ret rfl (.refl _) rfl
      · refine w_o rfl rfl rfl (op_move rfl ?_)
        refine w_o rfl rfl rfl (op_extract rfl rfl ?_)
        refine w_o rfl rfl rfl (op_extract rfl rfl ?_)
        refine w_o rfl rfl rfl (op_assign rfl ?_)
        refine w_o rfl rfl rfl (op_assign rfl ?_)
        refine w_end ?_
        refine seq_normal ?_
        refine w_seq ?_
        refine w_seq ?_
        refine w_region ?_
        refine w_o rfl rfl rfl (op_move rfl ?_)
        refine w_o rfl rfl rfl (op_ne rfl rfl ?_)
        refine w_o rfl rfl rfl (op_move rfl ?_)
        first | refine w_known (t := 37) rfl (fun g37 => ?_) (fun g37 => ?_) | refine w_knownB (t := 37) rfl (fun g37 => ?_) (fun g37 => ?_)
        · try (first | exact absurd rfl g37 | exact absurd (by decide) g37)
          all_goals
            refine w_u rfl rfl rfl rfl rfl rfl ?_
            refine w_u rfl rfl rfl rfl rfl rfl ?_
            refine w_o rfl rfl rfl (op_pick rfl rfl rfl ?_)
            refine w_o rfl rfl rfl (op_move rfl ?_)
            refine w_u rfl rfl rfl rfl rfl rfl ?_
            refine w_u rfl rfl rfl rfl rfl rfl ?_
            refine w_u rfl rfl rfl rfl rfl rfl ?_
            refine w_o rfl rfl rfl (op_pick rfl rfl rfl ?_)
            refine w_end ?_
            refine seq_normal ?_
            refine w_condT rfl ?_
            refine w_seq ?_
            refine w_region ?_
            refine w_o rfl rfl rfl (op_assign rfl ?_)
            refine w_end ?_
            refine seq_normal ?_
            refine w_ret ?_
            refine seq_ret ?_
            exact ret_ret rfl (.refl _) rfl
        · try (first | exact absurd rfl g37 | exact absurd (by decide) g37)
          all_goals
            refine w_og rfl rfl rfl rfl rfl (op_move rfl ?_)
            refine w_og rfl rfl rfl rfl rfl (op_nilEq rfl rfl rfl (by simp only [nilKind, und_29]) ?_)
            refine w_o rfl rfl rfl (op_pick rfl rfl rfl ?_)
            refine w_o rfl rfl rfl (op_move rfl ?_)
            first | refine w_known (t := 41) rfl (fun g41 => ?_) (fun g41 => ?_) | refine w_knownB (t := 41) rfl (fun g41 => ?_) (fun g41 => ?_)
            · try (first | exact absurd rfl g41 | exact absurd g41 (by decide))
              all_goals
                refine w_u rfl rfl rfl rfl rfl rfl ?_
                refine w_u rfl rfl rfl rfl rfl rfl ?_
                refine w_u rfl rfl rfl rfl rfl rfl ?_
                refine w_o rfl rfl rfl (op_pick rfl rfl rfl ?_)
                refine w_end ?_
                refine seq_normal ?_
                refine w_condT rfl ?_
                refine w_seq ?_
                refine w_region ?_
                refine w_o rfl rfl rfl (op_assign rfl ?_)
                refine w_end ?_
                refine seq_normal ?_
                refine w_ret ?_
                refine seq_ret ?_
                exact ret_ret rfl (.refl _) rfl
            · try (first | exact absurd rfl g41 | exact absurd g41 (by decide))
              all_goals
                refine w_og rfl rfl rfl rfl rfl (op_loadA agg_24 siz_24 rfl rfl el_ ?_)
                refine w_og rfl rfl rfl rfl rfl (op_call rfl rfl rfl ?_)
                refine R17May_w h subs_ (by omega) ?_
                refine w_og rfl rfl rfl rfl rfl (op_not rfl ?_)
                refine w_o rfl rfl rfl (op_pick rfl rfl rfl ?_)
                refine w_end ?_
                refine seq_normal ?_
                first | refine w_cond rfl (fun hI2 => ?_) (fun hI2 => ?_) | refine w_condB rfl (fun hI2 => ?_) (fun hI2 => ?_)
                · refine w_seq ?_
                  refine w_region ?_
                  refine w_o rfl rfl rfl (op_assign rfl ?_)
                  refine w_end ?_
                  refine seq_normal ?_
                  refine w_ret ?_
                  refine seq_ret ?_
                  exact ret_ret rfl (.refl _) rfl
                · have hra : 0 ≤ a ∧ a ≤ l.length := by
                    have := of_decide_eq_true hr; exact ⟨this.1, this.2.1⟩
                  have hok := offP_ok (wordV l a) C hlt.2 C.length (Nat.le_refl _)
                  have hpl := offP_len (wordV l a) C C.length (Nat.le_refl _)
                  rw [show offP (wordV l a) C C.length = offL (wordV l a) C from rfl] at hok hpl
                  generalize hLL : offL (wordV l a) C = L at hok hpl hnz hL
                  have hfr := fromF_le l a.toNat
                  have hwn := wordV_len hra
                  have hge := chV_ge hok (by omega) (hand := -1) ⟨by omega, by omega⟩
                  have hdl : ((chV L (-1)).drop (wordV l a).length).length ≤ 40 := by rw [List.length_drop]; omega
                  have hin := insV_len (d := (chV L (-1)).drop (wordV l a).length) hra
                  have hif := insV_from (d := (chV L (-1)).drop (wordV l a).length) hra
                  have hsb := fun {x : List Sign} (hx : x ∈ L) => stem_begins hok hx
                  refine w_skip ?_
                  refine seq_normal ?_
                  refine w_seq ?_
                  refine w_region ?_
                  refine w_o rfl rfl rfl (op_loadA agg_24 siz_24 rfl rfl el_ ?_)
                  refine w_o rfl rfl rfl (op_call rfl rfl rfl ?_)
                  refine Word_w h subs_ (by omega) (fun _ => ?_) (fun q => by rw [hr] at q; cases q)
                  refine w_o rfl rfl rfl (op_move rfl ?_)
                  refine w_o rfl rfl rfl (op_extract rfl rfl ?_)
                  refine w_o rfl rfl rfl (op_extract rfl rfl ?_)
                  refine w_o rfl rfl rfl (op_assign rfl ?_)
                  refine w_o rfl rfl rfl (op_assign rfl ?_)
                  refine w_end ?_
                  refine seq_normal ?_
                  refine w_seq ?_
                  refine w_region ?_
                  refine w_o rfl rfl rfl (op_move rfl ?_)
                  refine w_o rfl rfl rfl (op_call rfl rfl rfl ?_)
                  refine offLine_w (b := b) (L := L) (w := wordV l a) mem_ (hL.sub subs_) (hX.sub subs_) (hW.sub subs_) (by omega) hra (by omega) (fun x hx => by have := (hok.1 x hx).1; omega) (by omega) hge.1 fun c52 N52 h52 => ?_
                  generalize hdd : (chV L (-1)).drop (wordV l a).length = d at *
                  have hY : Sl N52 47 2 c52 (insV l a d).length ((insV l a d).flatMap encS) := h52.slT (fun _ => rfl) (by decide) (fun _ q => q)
                  refine w_o rfl rfl rfl (op_alloc zer_24 fun b9 => ?_)
                  refine w_on rfl rfl (op_store siz_24 rfl rfl rfl (by (repeat (first | exact Pick.head _ _ _ | apply Pick.tail | apply Pick.app)); first | done | fail) (Nat.le_of_ble_eq_true rfl) rfl ?_)
                  refine w_end ?_
                  refine seq_normal ?_
                  refine w_seq ?_
                  refine w_seq ?_
                  refine w_region ?_
                  refine w_o rfl rfl rfl (op_move rfl ?_)
                  refine w_o rfl rfl rfl (op_lt rfl rfl ?_)
                  refine w_o rfl rfl rfl (op_move rfl ?_)
                  first | refine w_known (t := 55) rfl (fun g55 => ?_) (fun g55 => ?_) | refine w_knownB (t := 55) rfl (fun g55 => ?_) (fun g55 => ?_)
                  · exact absurd g55 (by omega) --closed
                  · refine w_og rfl rfl rfl rfl rfl (op_move rfl ?_)
                    refine w_og rfl rfl rfl rfl rfl (op_move rfl ?_)
                    refine w_og rfl rfl rfl rfl rfl (op_lt rfl rfl ?_)
                    refine w_o rfl rfl rfl (op_pick rfl rfl rfl ?_)
                    refine w_o rfl rfl rfl (op_move rfl ?_)
                    first | refine w_known (t := 60) rfl (fun g60 => ?_) (fun g60 => ?_) | refine w_knownB (t := 60) rfl (fun g60 => ?_) (fun g60 => ?_)
                    · exact absurd g60 (by omega) --closed
                    · refine w_og rfl rfl rfl rfl rfl (op_move rfl ?_)
                      refine w_og rfl rfl rfl rfl rfl (op_fieldAddr fa_24_0 rfl ?_)
                      refine w_og rfl rfl rfl rfl rfl (op_loadF agg_22 rfl el_ rfl ?_)
                      refine w_og rfl rfl rfl rfl rfl (op_lenC und_22 rfl h.lenC ?_)
                      refine w_og rfl rfl rfl rfl rfl (op_gt rfl rfl ?_)
                      refine w_o rfl rfl rfl (op_pick rfl rfl rfl ?_)
                      refine w_o rfl rfl rfl (op_move rfl ?_)
                      first | refine w_known (t := 67) rfl (fun g67 => ?_) (fun g67 => ?_) | refine w_knownB (t := 67) rfl (fun g67 => ?_) (fun g67 => ?_)
                      · exact absurd g67 (by omega) --closed
                      · refine w_og rfl rfl rfl rfl rfl (op_fieldAddr fa_24_1 rfl ?_)
                        refine w_og rfl rfl rfl rfl rfl (op_loadF agg_3 rfl el_ rfl ?_)
                        refine w_og rfl rfl rfl rfl rfl (op_move rfl ?_)
                        refine w_og rfl rfl rfl rfl rfl (op_lt rfl rfl ?_)
                        refine w_o rfl rfl rfl (op_pick rfl rfl rfl ?_)
                        refine w_o rfl rfl rfl (op_move rfl ?_)
                        first | refine w_known (t := 73) rfl (fun g73 => ?_) (fun g73 => ?_) | refine w_knownB (t := 73) rfl (fun g73 => ?_) (fun g73 => ?_)
                        · exact absurd g73 (by omega) --closed
                        · refine w_og rfl rfl rfl rfl rfl (op_fieldAddr fa_24_1 rfl ?_)
                          refine w_og rfl rfl rfl rfl rfl (op_loadF agg_3 rfl el_ rfl ?_)
                          refine w_og rfl rfl rfl rfl rfl (op_fieldAddr fa_24_0 rfl ?_)
                          refine w_og rfl rfl rfl rfl rfl (op_loadF agg_22 rfl el_ rfl ?_)
                          refine w_og rfl rfl rfl rfl rfl (op_lenC und_22 rfl hY.lenC ?_)
                          refine w_og rfl rfl rfl rfl rfl (op_gt rfl rfl ?_)
                          refine w_o rfl rfl rfl (op_pick rfl rfl rfl ?_)
                          refine w_end ?_
                          refine seq_normal ?_
                          refine w_condN rfl (by omega) ?_
                          refine w_skip ?_
                          refine seq_normal ?_
                          refine w_seq ?_
                          refine w_region ?_
                          refine w_o rfl rfl rfl (op_fieldAddr fa_24_0 rfl ?_)
                          refine w_o rfl rfl rfl (op_loadF agg_22 rfl el_ rfl ?_)
                          refine w_o rfl rfl rfl (op_move rfl ?_)
                          refine w_o rfl rfl rfl (op_move rfl ?_)
                          refine w_o rfl rfl rfl (op_sliceU (enc := encS) (xs := l) elm_22 siz_47 (by decide) rfl h subs_ (fun _ => rfl) rfl rfl (by omega) (by omega) (by omega) fun c85 h85 => ?_)
                          have e85 : (l.drop ((fromF l a.toNat : Nat) : Int).toNat).take (a.toNat - ((fromF l a.toNat : Nat) : Int).toNat) = wordV l a := rfl
                          rw [e85] at h85
                          refine w_o rfl rfl rfl (op_assign rfl ?_)
                          refine w_end ?_
                          refine seq_normal ?_
                          refine w_seq ?_
                          refine w_region ?_
                          refine w_o rfl rfl rfl (op_fieldAddr fa_24_0 rfl ?_)
                          refine w_o rfl rfl rfl (op_loadF agg_22 rfl el_ rfl ?_)
                          refine w_o rfl rfl rfl (op_move rfl ?_)
                          refine w_o rfl rfl rfl (op_fieldAddr fa_24_1 rfl ?_)
                          refine w_o rfl rfl rfl (op_loadF agg_3 rfl el_ rfl ?_)
                          refine w_o rfl rfl rfl (op_sliceU (enc := encS) (xs := insV l a d) elm_22 siz_47 (by decide) rfl hY subs_ (fun _ => rfl) rfl rfl (by omega) (by omega) (by omega) fun c91 h91 => ?_)
                          have e91 : ((insV l a d).drop ((fromF l a.toNat : Nat) : Int).toNat).take ((a + (d.length : Nat)).toNat - ((fromF l a.toNat : Nat) : Int).toNat) = wordV l a ++ d := hif
                          rw [e91] at h91
                          refine w_o rfl rfl rfl (op_assign rfl ?_)
                          refine w_end ?_
                          refine seq_normal ?_
                          refine w_seq ?_
                          refine w_region ?_
                          refine w_o rfl rfl rfl (op_move rfl ?_)
                          refine w_o rfl rfl rfl (op_call rfl rfl rfl ?_)
                          refine offAll_w (b := b) (L := L) mem_ (hL.sub subs_) (by omega) (fun x hx => by have := (hok.1 x hx).1; omega) fun c93 N93 hA => ?_
                          refine w_o rfl rfl rfl (op_assign rfl ?_)
                          refine w_end ?_
                          refine seq_normal ?_
                          refine w_seq ?_
                          refine w_seq ?_
                          refine w_region ?_
                          refine w_o rfl rfl rfl (op_assign rfl ?_)
                          refine w_end ?_
                          refine seq_normal ?_
                          refine w_block ?_
                          refine w_loop (fun q e H' => ∃ (i : Nat), i ≤ L.length ∧ q = L.length - i ∧ KVo H' L c93 ∧ Sl H' 47 2 c85 (wordV l a).length ((wordV l a).flatMap encS) ∧ Sl H' 47 2 c91 (wordV l a ++ d).length ((wordV l a ++ d).flatMap encS) ∧ e = [(10, .one (.c c85)), (11, .one (.c c91)), (12, .one (.c c93)), (13, vI (i : Nat))]) ?_ ?_
                          · exact ⟨_, _, _, ⟨0, Nat.zero_le _, rfl, hA, h85.sub subs_, h91.sub subs_, rfl⟩, env_, .refl _⟩
                          · rintro q e H' ⟨i, hi, rfl, hA', hw', hs', rfl⟩
                            have hA9 := hA'
                            obtain ⟨cs, a1, a2, a3⟩ := hA'
                            refine w_seq ?_
                            refine w_seq ?_
                            refine w_region ?_
                            refine w_o rfl rfl rfl (op_move rfl ?_)
                            refine w_o rfl rfl rfl (op_move rfl ?_)
                            refine w_o rfl rfl rfl (op_lenC und_25 rfl a1.lenC ?_)
                            refine w_o rfl rfl rfl (op_lt rfl rfl ?_)
                            refine w_end ?_
                            refine seq_normal ?_
                            first | refine w_cond rfl (fun hI4 => ?_) (fun hI4 => ?_) | refine w_condB rfl (fun hI4 => ?_) (fun hI4 => ?_)
                            · obtain ⟨x, hx⟩ : ∃ x, L[i]? = some x := ⟨_, List.getElem?_eq_getElem (by omega)⟩
                              have hxm := List.mem_of_getElem? hx
                              have hxk := hok.1 x hxm
                              refine w_skip ?_
                              refine seq_normal ?_
                              refine w_seq ?_
                              refine w_block ?_
                              refine w_seq ?_
                              refine w_seq ?_
                              refine w_region ?_
                              refine w_o rfl rfl rfl (op_move rfl ?_)
                              refine w_o rfl rfl rfl (op_move rfl ?_)
                              refine w_o rfl rfl rfl (op_indexT (enc := encC) (xs := cs) (j := i) und_25 siz_22 rfl rfl a1 (fun _ => rfl) rfl (by omega) fun b102 o102 z102 h102 e102 => ?_)
                              refine w_o rfl rfl rfl (op_load1 agg_22 rfl el_ ?_)
                              refine w_o rfl rfl rfl (op_lenC und_22 rfl (a3 i z102 x h102 hx).lenC ?_)
                              refine w_o rfl rfl rfl (op_move rfl ?_)
                              refine w_o rfl rfl rfl (op_lenC und_22 rfl hw'.lenC ?_)
                              refine w_o rfl rfl rfl (op_le rfl rfl ?_)
                              refine w_o rfl rfl rfl (op_move rfl ?_)
                              first | refine w_known (t := 108) rfl (fun g108 => ?_) (fun g108 => ?_) | refine w_knownB (t := 108) rfl (fun g108 => ?_) (fun g108 => ?_)
                              · exact absurd g108 (by omega) --closed
                              · refine w_og rfl rfl rfl rfl rfl (op_move rfl ?_)
                                refine w_og rfl rfl rfl rfl rfl (op_move rfl ?_)
                                refine w_og rfl rfl rfl rfl rfl (op_indexT (enc := encC) (xs := cs) (j := i) und_25 siz_22 rfl rfl a1 (fun _ => rfl) rfl (by omega) fun b111 o111 z111 h111 e111 => ?_)
                                refine w_og rfl rfl rfl rfl rfl (op_load1 agg_22 rfl el_ ?_)
                                refine w_og rfl rfl rfl rfl rfl (op_move rfl ?_)
                                refine w_og rfl rfl rfl rfl rfl (op_call rfl rfl rfl ?_)
                                refine R04At_w (a3 i z111 x h111 hx) (fun y hy => hy) hw' (fun y hy => hy) (by omega) ?_
                                rw [hxk.2.2.1]
                                refine w_og rfl rfl rfl rfl rfl (op_not rfl ?_)
                                refine w_o rfl rfl rfl (op_pick rfl rfl rfl ?_)
                                refine w_o rfl rfl rfl (op_move rfl ?_)
                                refine w_og rfl rfl rfl rfl rfl (op_move rfl ?_)
                                refine w_og rfl rfl rfl rfl rfl (op_move rfl ?_)
                                refine w_og rfl rfl rfl rfl rfl (op_indexT (enc := encC) (xs := cs) (j := i) und_25 siz_22 rfl rfl a1 (fun _ => rfl) rfl (by omega) fun b120 o120 z120 h120 e120 => ?_)
                                refine w_og rfl rfl rfl rfl rfl (op_load1 agg_22 rfl el_ ?_)
                                refine w_og rfl rfl rfl rfl rfl (op_move rfl ?_)
                                refine w_og rfl rfl rfl rfl rfl (op_call rfl rfl rfl ?_)
                                refine R04At_w (a3 i z120 x h120 hx) (fun y hy => hy) hs' (fun y hy => hy) (by omega) ?_
                                rw [hsb hxm]
                                refine w_og rfl rfl rfl rfl rfl (op_not rfl ?_)
                                refine w_o rfl rfl rfl (op_pick rfl rfl rfl ?_)
                                refine w_end ?_
                                refine seq_normal ?_
                                refine w_condF rfl ?_
                                refine w_skip ?_
                                refine seq_normal ?_
                                refine w_seq ?_
                                refine w_region ?_
                                refine w_o rfl rfl rfl (op_assign rfl ?_)
                                refine w_end ?_
                                refine seq_normal ?_
                                refine w_block ?_
                                refine w_loop (fun q e G' => ∃ (k : Nat), k ≤ i ∧ q = i - k ∧ H' = G' ∧ e = [(10, .one (.c c85)), (11, .one (.c c91)), (12, .one (.c c93)), (13, vI (i : Nat)), (14, vI (k : Nat))]) ?_ ?_
                                · exact ⟨_, _, _, ⟨0, Nat.zero_le _, rfl, rfl, rfl⟩, env_, .refl _⟩
                                · rintro q e G' ⟨k, hk, rfl, rfl, rfl⟩
                                  refine w_seq ?_
                                  refine w_seq ?_
                                  refine w_region ?_
                                  refine w_o rfl rfl rfl (op_move rfl ?_)
                                  refine w_o rfl rfl rfl (op_move rfl ?_)
                                  refine w_o rfl rfl rfl (op_lt rfl rfl ?_)
                                  refine w_end ?_
                                  refine seq_normal ?_
                                  first | refine w_cond rfl (fun hI6 => ?_) (fun hI6 => ?_) | refine w_condB rfl (fun hI6 => ?_) (fun hI6 => ?_)
                                  · obtain ⟨y, hy⟩ : ∃ y, L[k]? = some y := ⟨_, List.getElem?_eq_getElem (by omega)⟩
                                    have hyk := hok.1 y (List.mem_of_getElem? hy)
                                    refine w_skip ?_
                                    refine seq_normal ?_
                                    refine w_seq ?_
                                    refine w_block ?_
                                    refine w_seq ?_
                                    refine w_draw (by decide +kernel) (by decide +kernel) ?_
                                    refine w_d rfl rfl rfl (op_move rfl ?_)
                                    refine w_d rfl rfl rfl (op_move rfl ?_)
                                    refine w_d rfl rfl rfl (op_indexT (enc := encC) (xs := cs) (j := k) und_25 siz_22 rfl rfl a1 (fun _ => rfl) rfl (by omega) fun b133 o133 z133 h133 e133 => ?_)
                                    refine w_d rfl rfl rfl (op_load1 agg_22 rfl el_ ?_)
                                    refine w_d rfl rfl rfl (op_move rfl ?_)
                                    refine w_d rfl rfl rfl (op_move rfl ?_)
                                    refine w_d rfl rfl rfl (op_indexT (enc := encC) (xs := cs) (j := i) und_25 siz_22 rfl rfl a1 (fun _ => rfl) rfl (by omega) fun b137 o137 z137 h137 e137 => ?_)
                                    refine w_d rfl rfl rfl (op_load1 agg_22 rfl el_ ?_)
                                    refine w_d rfl rfl rfl (op_call rfl rfl rfl ?_)
                                    refine R04Same_w (a3 k z133 y h133 hy) (a3 i z137 x h137 hx) (by omega) ?_
                                    rw [decide_eq_false (hok.2 i k x y hx hy (by omega))]
                                    refine w_end ?_
                                    refine seq_normal ?_
                                    refine w_condF rfl ?_
                                    refine w_skip ?_
                                    refine block_normal ?_
                                    refine seq_normal ?_
                                    refine w_region ?_
                                    refine w_o rfl rfl rfl (op_move rfl ?_)
                                    refine w_o rfl rfl rfl (op_addi rfl rfl (by omega) (by omega) ?_)
                                    refine w_o rfl rfl rfl (op_assign rfl ?_)
                                    refine w_end ?_
                                    exact loop_normal (k' := i - (k + 1)) (by omega) ⟨k + 1, by omega, rfl, rfl, rfl⟩ env_ (.refl _)
                                  · refine w_exit ?_
                                    refine seq_exit ?_
                                    refine loop_exit ?_
                                    refine block_hit rfl ?_
                                    refine block_normal ?_
                                    refine seq_normal ?_
                                    refine w_region ?_
                                    refine w_o rfl rfl rfl (op_move rfl ?_)
                                    refine w_o rfl rfl rfl (op_addi rfl rfl (by omega) (by omega) ?_)
                                    refine w_o rfl rfl rfl (op_assign rfl ?_)
                                    refine w_end ?_
                                    exact loop_normal (k' := L.length - (i + 1)) (by omega) ⟨i + 1, by omega, rfl, hA9, hw', hs', rfl⟩ env_ (.refl _)
                            · refine w_exit ?_
                              refine seq_exit ?_
                              refine loop_exit ?_
                              refine block_hit rfl ?_
                              refine seq_normal ?_
                              refine w_seq ?_
                              refine w_region ?_
                              refine w_o rfl rfl rfl (op_assign rfl ?_)
                              refine w_end ?_
                              refine seq_normal ?_
                              refine w_ret ?_
                              exact ret_ret rfl (.refl _) rfl
end Go.Proofs.Ytlbbnimobbheiaa.AM.B
