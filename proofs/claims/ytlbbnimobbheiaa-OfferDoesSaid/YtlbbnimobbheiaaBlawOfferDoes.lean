/- The law OfferDoes: it answers true, whatever comes in. -/
import Derived.Test.YtlbbnimobbheiaaAX
import Derived.Test.YtlbbnimobbheiaaBoffer10
set_option linter.unusedVariables false
set_option linter.unusedSimpArgs false
set_option maxRecDepth 10000
set_option maxHeartbeats 4000000
namespace Go.Proofs.Ytlbbnimobbheiaa.AM.B
open Go Go.RowKit
def encB (b : Bool) : List Cell := [.bool b]
theorem OfferDoes_law {H : Hyp} {c cc ct : Cell} {l : List Sign} {a : Int} {C : List (List Sign)} {ts : List Bool} (h : Sl H 47 2 c l.length (l.flatMap encS)) (hC : KVo H C cc) (hCn : C.length ≤ 1000000000000000) (hT : Sl H 4 1 ct ts.length (ts.flatMap encB)) : CallW Try.prog Xs 3 [lineV c a, .one (.c cc), .one (.c ct)] H (fun v _ => v = vB true) := by
  refine call_of (n := 153) (fun _ => rfl) Try.func3 rfl rfl ?_
  refine w_seq ?_
  refine w_region ?_
  refine w_o rfl rfl rfl (op_box rfl fun b3 => ?_)
  refine w_o rfl rfl rfl (op_assign rfl ?_)
  refine w_end ?_
  refine seq_normal ?_
  refine w_seq ?_
  refine w_seq ?_
  refine w_region ?_
  refine w_o rfl rfl rfl (op_fieldAddr fa_24_0 rfl ?_)
  refine w_o rfl rfl rfl (op_loadF agg_22 rfl el_ rfl ?_)
  refine w_o rfl rfl rfl (op_lenC und_22 rfl h.lenC ?_)
  refine w_o rfl rfl rfl (op_gt rfl rfl ?_)
  refine w_o rfl rfl rfl (op_move rfl ?_)
  first | refine w_known (t := 18) rfl (fun g18 => ?_) (fun g18 => ?_) | refine w_knownB (t := 18) rfl (fun g18 => ?_) (fun g18 => ?_)
  · refine w_u rfl rfl rfl rfl rfl rfl ?_
    refine w_u rfl rfl rfl rfl rfl rfl ?_
    refine w_u rfl rfl rfl rfl rfl rfl ?_
    refine w_o rfl rfl rfl (op_pick rfl rfl rfl ?_)
    refine w_o rfl rfl rfl (op_move rfl ?_)
    refine w_u rfl rfl rfl rfl rfl rfl ?_
    refine w_u rfl rfl rfl rfl rfl rfl ?_
    refine w_o rfl rfl rfl (op_pick rfl rfl rfl ?_)
    refine w_end ?_
    refine seq_normal ?_
    refine w_condT rfl ?_
    refine w_seq ?_
    refine w_region ?_
    refine w_o rfl rfl rfl (op_call rfl rfl rfl ?_)
    refine awake_w ?_
    refine w_o rfl rfl rfl (op_assign rfl ?_)
    refine w_end ?_
    refine seq_normal ?_
    refine w_ret ?_
    refine seq_ret ?_
    exact ret_ret rfl (.refl _) rfl
  · have hl : l.length ≤ 60 := by omega
    refine w_og rfl rfl rfl rfl rfl (op_move rfl ?_)
    refine w_og rfl rfl rfl rfl rfl (op_call rfl rfl rfl ?_)
    refine light_w (hC.sub subs_) (by omega) ?_
    refine w_og rfl rfl rfl rfl rfl (op_not rfl ?_)
    refine w_o rfl rfl rfl (op_pick rfl rfl rfl ?_)
    refine w_o rfl rfl rfl (op_move rfl ?_)
    first | refine w_known (t := 23) rfl (fun g23 => ?_) (fun g23 => ?_) | refine w_knownB (t := 23) rfl (fun g23 => ?_) (fun g23 => ?_)
    · refine w_u rfl rfl rfl rfl rfl rfl ?_
      refine w_u rfl rfl rfl rfl rfl rfl ?_
      refine w_o rfl rfl rfl (op_pick rfl rfl rfl ?_)
      refine w_end ?_
      refine seq_normal ?_
      refine w_condT rfl ?_
      refine w_seq ?_
      refine w_region ?_
      refine w_o rfl rfl rfl (op_call rfl rfl rfl ?_)
      refine awake_w ?_
      refine w_o rfl rfl rfl (op_assign rfl ?_)
      refine w_end ?_
      refine seq_normal ?_
      refine w_ret ?_
      refine seq_ret ?_
      exact ret_ret rfl (.refl _) rfl
    · have hlt := of_decide_eq_true (show lightV C = true by simpa using g23)
      refine w_og rfl rfl rfl rfl rfl (op_call rfl rfl rfl ?_)
      refine awake_w ?_
      refine w_og rfl rfl rfl rfl rfl (op_not rfl ?_)
      refine w_o rfl rfl rfl (op_pick rfl rfl rfl ?_)
      refine w_end ?_
      refine seq_normal ?_
      refine w_condF rfl ?_
      refine w_skip ?_
      refine seq_normal ?_
      refine w_seq ?_
      refine w_region ?_
      refine w_o rfl rfl rfl (op_loadA agg_24 siz_24 rfl rfl el_ ?_)
      refine w_o rfl rfl rfl (op_move rfl ?_)
      refine w_o rfl rfl rfl (op_call rfl rfl rfl ?_)
      refine New_w h.cons (hC.sub subs_) (by omega) (by omega) hlt.2 (fun hr => ?_) (fun hr hz => ?_) (fun hr hnz b cx cw cl N hX hW hL => ?_)
      · refine w_o rfl rfl rfl (op_move rfl ?_)
        refine w_o rfl rfl rfl (op_extract rfl rfl ?_)
        refine w_o rfl rfl rfl (op_extract rfl rfl ?_)
        refine w_o rfl rfl rfl (op_assign rfl ?_)
        refine w_o rfl rfl rfl (op_assign rfl ?_)
        refine w_end ?_
        refine seq_normal ?_
        refine w_seq ?_
        refine w_region ?_
        refine w_o rfl rfl rfl (op_loadA agg_24 siz_24 rfl rfl el_ ?_)
        refine w_o rfl rfl rfl (op_call rfl rfl rfl ?_)
        first | refine Word_w h subs_ (by omega) (fun _ => ?_) (fun q => nomatch (hr.symm.trans q : true = false)) | refine Word_w h subs_ (by omega) (fun q => nomatch (q.symm.trans hr : true = false)) (fun _ => ?_)
        refine w_o rfl rfl rfl (op_move rfl ?_)
        refine w_o rfl rfl rfl (op_extract rfl rfl ?_)
        refine w_o rfl rfl rfl (op_extract rfl rfl ?_)
        refine w_o rfl rfl rfl (op_assign rfl ?_)
        refine w_o rfl rfl rfl (op_assign rfl ?_)
        refine w_end ?_
        refine seq_normal ?_
        refine w_seq ?_
        refine w_seq ?_
        refine w_region ?_
        refine w_o rfl rfl rfl (op_loadA agg_24 siz_24 rfl rfl el_ ?_)
        refine w_o rfl rfl rfl (op_call rfl rfl rfl ?_)
        refine R17May_w h subs_ (by omega) ?_
        refine w_o rfl rfl rfl (op_not rfl ?_)
        refine w_end ?_
        refine seq_normal ?_
        first | refine w_cond rfl (fun hI2 => ?_) (fun hI2 => ?_) | refine w_condB rfl (fun hI2 => ?_) (fun hI2 => ?_)
        · try (first | (exfalso; simp [hr] at hI2; done))
          all_goals
            refine w_seq ?_
            refine w_region ?_
            refine w_o rfl rfl rfl (op_move rfl ?_)
            refine w_o rfl rfl rfl (op_nilEq rfl rfl rfl (by simp only [nilKind, und_29]) ?_)
            refine w_o rfl rfl rfl (op_move rfl ?_)
            first | refine w_known (t := 44) rfl (fun g44 => ?_) (fun g44 => ?_) | refine w_knownB (t := 44) rfl (fun g44 => ?_) (fun g44 => ?_)
            · try (first | exact absurd g44 (by decide) | exact absurd rfl g44)
              all_goals
                refine w_og rfl rfl rfl rfl rfl (op_move rfl ?_)
                refine w_og rfl rfl rfl rfl rfl (op_eq rfl rfl ?_)
                refine w_o rfl rfl rfl (op_pick rfl rfl rfl ?_)
                refine w_o rfl rfl rfl (op_move rfl ?_)
                first | refine w_known (t := 48) rfl (fun g48 => ?_) (fun g48 => ?_) | refine w_knownB (t := 48) rfl (fun g48 => ?_) (fun g48 => ?_)
                · try (first | exact absurd rfl g48 | exact absurd g48 (by decide))
                  all_goals
                    refine w_og rfl rfl rfl rfl rfl (op_move rfl ?_)
                    refine w_og rfl rfl rfl rfl rfl (op_eq rfl rfl ?_)
                    refine w_o rfl rfl rfl (op_pick rfl rfl rfl ?_)
                    refine w_o rfl rfl rfl (op_move rfl ?_)
                    first | refine w_known (t := 52) rfl (fun g52 => ?_) (fun g52 => ?_) | refine w_knownB (t := 52) rfl (fun g52 => ?_) (fun g52 => ?_)
                    · try (first | exact absurd rfl g52 | exact absurd g52 (by decide))
                      all_goals
                        refine w_og rfl rfl rfl rfl rfl (op_move rfl ?_)
                        refine w_og rfl rfl rfl rfl rfl (op_eq rfl rfl ?_)
                        refine w_o rfl rfl rfl (op_pick rfl rfl rfl ?_)
                        refine w_o rfl rfl rfl (op_assign rfl ?_)
                        refine w_end ?_
                        refine seq_normal ?_
                        refine w_ret ?_
                        refine seq_ret ?_
                        exact ret_ret rfl (.refl _) rfl
                    · try (first | exact absurd rfl g52 | exact absurd g52 (by decide))
                      all_goals
                        refine w_u rfl rfl rfl rfl rfl rfl ?_
                        refine w_u rfl rfl rfl rfl rfl rfl ?_
                        refine w_o rfl rfl rfl (op_pick rfl rfl rfl ?_)
                        refine w_o rfl rfl rfl (op_assign rfl ?_)
                        refine w_end ?_
                        refine seq_normal ?_
                        refine w_ret ?_
                        refine seq_ret ?_
                        exact ret_ret rfl (.refl _) rfl
                · try (first | exact absurd rfl g48 | exact absurd g48 (by decide))
                  all_goals
                    refine w_u rfl rfl rfl rfl rfl rfl ?_
                    refine w_u rfl rfl rfl rfl rfl rfl ?_
                    refine w_o rfl rfl rfl (op_pick rfl rfl rfl ?_)
                    refine w_o rfl rfl rfl (op_move rfl ?_)
                    refine w_u rfl rfl rfl rfl rfl rfl ?_
                    refine w_u rfl rfl rfl rfl rfl rfl ?_
                    refine w_o rfl rfl rfl (op_pick rfl rfl rfl ?_)
                    refine w_o rfl rfl rfl (op_assign rfl ?_)
                    refine w_end ?_
                    refine seq_normal ?_
                    refine w_ret ?_
                    refine seq_ret ?_
                    exact ret_ret rfl (.refl _) rfl
            · try (first | exact absurd g44 (by decide) | exact absurd rfl g44)
              all_goals
                refine w_u rfl rfl rfl rfl rfl rfl ?_
                refine w_u rfl rfl rfl rfl rfl rfl ?_
                refine w_o rfl rfl rfl (op_pick rfl rfl rfl ?_)
                refine w_o rfl rfl rfl (op_move rfl ?_)
                refine w_u rfl rfl rfl rfl rfl rfl ?_
                refine w_u rfl rfl rfl rfl rfl rfl ?_
                refine w_o rfl rfl rfl (op_pick rfl rfl rfl ?_)
                refine w_o rfl rfl rfl (op_move rfl ?_)
                refine w_u rfl rfl rfl rfl rfl rfl ?_
                refine w_u rfl rfl rfl rfl rfl rfl ?_
                refine w_o rfl rfl rfl (op_pick rfl rfl rfl ?_)
                refine w_o rfl rfl rfl (op_assign rfl ?_)
                refine w_end ?_
                refine seq_normal ?_
                refine w_ret ?_
                refine seq_ret ?_
                exact ret_ret rfl (.refl _) rfl
        · try (first | (exfalso; simp [hr] at hI2; done))
          all_goals
            have hra : 0 ≤ a ∧ a ≤ l.length := by
              have := of_decide_eq_true hr; exact ⟨this.1, this.2.1⟩
            have hok := offP_ok (wordV l a) C hlt.2 C.length (Nat.le_refl _)
            have hpl := offP_len (wordV l a) C C.length (Nat.le_refl _)
            have hwl : (wordV l a).length ≤ l.length := seg_len l _ _
            have hfr := fromF_le l a.toNat
            have hwn := wordV_len hra
            refine w_skip ?_
            refine seq_normal ?_
            refine w_seq ?_
            refine w_drawF ((b3, .row true 24 1 [c, .int .i64 a]) :: H) sel_ (by decide +kernel) (by decide +kernel) ?_
            refine f_b (guard_none rfl) rfl rfl rfl rfl (op_fieldAddr fa_24_0 rfl ?_)
            refine f_l (guard_none rfl) rfl rfl rfl sel_ (op_loadF agg_22 rfl el_ rfl rfl) ?_
            refine f_a (guard_none rfl) rfl rfl rfl (by decide +kernel) (op_loadA agg_24 siz_24 rfl rfl el_ ?_)
            refine f_m (guard_none rfl) rfl rfl rfl (op_call rfl rfl rfl ?_)
            refine R26From_w h subs_ (by omega) hra ?_
            refine ⟨sel_, ?_⟩
            refine f_b (guard_none rfl) rfl rfl rfl rfl (op_fieldAddr fa_24_1 rfl ?_)
            refine f_l (guard_none rfl) rfl rfl rfl sel_ (op_loadF agg_3 rfl el_ rfl rfl) ?_
            refine f_sliceT (enc := encS) (xs := l) (guard_none rfl) rfl rfl rfl sel_ elm_22 siz_47 (by decide) rfl h (fun y hy => List.Mem.tail _ hy) (fun _ => rfl) rfl rfl (by omega) (by omega) (by omega) fun c62 h62 => ?_
            have e62 : (l.drop ((fromF l a.toNat : Nat) : Int).toNat).take (a.toNat - ((fromF l a.toNat : Nat) : Int).toNat) = wordV l a := rfl
            rw [e62] at h62
            refine f_b (guard_none rfl) rfl rfl rfl rfl (op_move rfl ?_)
            refine f_m (guard_none rfl) rfl rfl rfl (op_call rfl rfl rfl ?_)
            refine R26Offered_w (w := wordV l a) h62 subs_ (hC.sub subs_) (by omega) (by omega) hlt.2 fun c64 N64 hO => ?_
            rw [show offP (wordV l a) C C.length = offL (wordV l a) C from rfl] at hok hpl
            generalize hLL : offL (wordV l a) C = L at *
            have hO9 := hO
            obtain ⟨os, o1, o2, o3⟩ := hO9
            refine ⟨sel_, ?_⟩
            refine f_b (guard_none rfl) rfl rfl rfl rfl (op_assign rfl ?_)
            refine f_end ?_
            refine seq_normal ?_
            refine w_seq ?_
            refine w_seq ?_
            refine w_region ?_
            refine w_o rfl rfl rfl (op_move rfl ?_)
            refine w_o rfl rfl rfl (op_loadA agg_24 siz_24 rfl rfl el_ ?_)
            refine w_o rfl rfl rfl (op_call rfl rfl rfl ?_)
            refine R26From_w h subs_ (by omega) hra ?_
            refine w_o rfl rfl rfl (op_ne rfl rfl ?_)
            refine w_o rfl rfl rfl (op_move rfl ?_)
            first | refine w_known (t := 69) rfl (fun g69 => ?_) (fun g69 => ?_) | refine w_knownB (t := 69) rfl (fun g69 => ?_) (fun g69 => ?_)
            · exact absurd rfl g69 --closed
            · refine w_og rfl rfl rfl rfl rfl (op_move rfl ?_)
              refine w_og rfl rfl rfl rfl rfl (op_fieldAddr fa_24_1 rfl ?_)
              refine w_og rfl rfl rfl rfl rfl (op_loadF agg_3 rfl el_ rfl ?_)
              refine w_og rfl rfl rfl rfl rfl (op_ne rfl rfl ?_)
              refine w_o rfl rfl rfl (op_pick rfl rfl rfl ?_)
              refine w_end ?_
              refine seq_normal ?_
              refine w_condN rfl (by omega) ?_
              refine w_skip ?_
              refine seq_normal ?_
              refine w_seq ?_
              refine w_seq ?_
              refine w_region ?_
              refine w_o rfl rfl rfl (op_move rfl ?_)
              refine w_o rfl rfl rfl (op_lenC und_25 rfl o1.lenC ?_)
              refine w_o rfl rfl rfl (op_eq rfl rfl ?_)
              refine w_end ?_
              refine seq_normal ?_
              first | refine w_cond rfl (fun hI4 => ?_) (fun hI4 => ?_) | refine w_condB rfl (fun hI4 => ?_) (fun hI4 => ?_)
              · try (omega)
                all_goals
                  refine w_seq ?_
                  refine w_region ?_
                  refine w_o rfl rfl rfl (op_move rfl ?_)
                  refine w_o rfl rfl rfl (op_nilEq rfl rfl rfl (by simp only [nilKind, und_29]) ?_)
                  refine w_o rfl rfl rfl (op_move rfl ?_)
                  first | refine w_known (t := 80) rfl (fun g80 => ?_) (fun g80 => ?_) | refine w_knownB (t := 80) rfl (fun g80 => ?_) (fun g80 => ?_)
                  · try (first | exact absurd g80 (by decide) | exact absurd rfl g80)
                    all_goals
                      refine w_og rfl rfl rfl rfl rfl (op_move rfl ?_)
                      refine w_og rfl rfl rfl rfl rfl (op_eq rfl rfl ?_)
                      refine w_o rfl rfl rfl (op_pick rfl rfl rfl ?_)
                      refine w_o rfl rfl rfl (op_assign rfl ?_)
                      refine w_end ?_
                      refine seq_normal ?_
                      refine w_ret ?_
                      refine seq_ret ?_
                      exact ret_ret rfl (.refl _) rfl
                  · try (first | exact absurd g80 (by decide) | exact absurd rfl g80)
                    all_goals
                      refine w_u rfl rfl rfl rfl rfl rfl ?_
                      refine w_u rfl rfl rfl rfl rfl rfl ?_
                      refine w_o rfl rfl rfl (op_pick rfl rfl rfl ?_)
                      refine w_o rfl rfl rfl (op_assign rfl ?_)
                      refine w_end ?_
                      refine seq_normal ?_
                      refine w_ret ?_
                      refine seq_ret ?_
                      exact ret_ret rfl (.refl _) rfl
              · try (omega)
                all_goals
                  refine w_skip ?_
                  refine seq_normal ?_
                  refine w_seq ?_
                  refine w_seq ?_
                  refine w_region ?_
                  refine w_o rfl rfl rfl (op_move rfl ?_)
                  refine w_o rfl rfl rfl (op_ne rfl rfl ?_)
                  refine w_o rfl rfl rfl (op_move rfl ?_)
                  first | refine w_known (t := 86) rfl (fun g86 => ?_) (fun g86 => ?_) | refine w_knownB (t := 86) rfl (fun g86 => ?_) (fun g86 => ?_)
                  · exact absurd rfl g86 --closed
                  · refine w_og rfl rfl rfl rfl rfl (op_move rfl ?_)
                    refine w_og rfl rfl rfl rfl rfl (op_nilEq rfl rfl rfl (by simp only [nilKind, und_29]) ?_)
                    refine w_o rfl rfl rfl (op_pick rfl rfl rfl ?_)
                    refine w_o rfl rfl rfl (op_move rfl ?_)
                    first | refine w_known (t := 90) rfl (fun g90 => ?_) (fun g90 => ?_) | refine w_knownB (t := 90) rfl (fun g90 => ?_) (fun g90 => ?_)
                    · try (first | exact absurd rfl g90 | exact absurd g90 (by decide))
                      all_goals
                        refine w_u rfl rfl rfl rfl rfl rfl ?_
                        refine w_u rfl rfl rfl rfl rfl rfl ?_
                        refine w_u rfl rfl rfl rfl rfl rfl ?_
                        refine w_u rfl rfl rfl rfl rfl rfl ?_
                        refine w_u rfl rfl rfl rfl rfl rfl ?_
                        refine w_o rfl rfl rfl (op_pick rfl rfl rfl ?_)
                        refine w_o rfl rfl rfl (op_move rfl ?_)
                        refine w_u rfl rfl rfl rfl rfl rfl ?_
                        refine w_u rfl rfl rfl rfl rfl rfl ?_
                        refine w_u rfl rfl rfl rfl rfl rfl ?_
                        refine w_u rfl rfl rfl rfl rfl rfl ?_
                        refine w_u rfl rfl rfl rfl rfl rfl ?_
                        refine w_o rfl rfl rfl (op_pick rfl rfl rfl ?_)
                        refine w_end ?_
                        refine seq_normal ?_
                        refine w_condT rfl ?_
                        refine w_seq ?_
                        refine w_region ?_
                        refine w_o rfl rfl rfl (op_assign rfl ?_)
                        refine w_end ?_
                        refine seq_normal ?_
                        refine w_ret ?_
                        refine seq_ret ?_
                        exact ret_ret rfl (.refl _) (by assumption)
                    · try (first | exact absurd rfl g90 | exact absurd g90 (by decide))
                      all_goals
                        refine w_og rfl rfl rfl rfl rfl (op_move rfl ?_)
                        refine w_og rfl rfl rfl rfl rfl (op_call rfl rfl rfl ?_)
                        refine offAll_w (b := b) (L := L) mem_ (hL.sub subs_) (by omega) (fun x hx => by have := (hok.1 x hx).1; omega) fun c92 N92 hA => ?_
                        refine w_og rfl rfl rfl rfl rfl (op_move rfl ?_)
                        refine w_og rfl rfl rfl rfl rfl (op_call rfl rfl rfl ?_)
                        refine Lists_w hA (hO.sub subs_) (by omega) (fun x hx => by have := (hok.1 x hx).1; omega) ?_
                        refine w_og rfl rfl rfl rfl rfl (op_not rfl ?_)
                        refine w_o rfl rfl rfl (op_pick rfl rfl rfl ?_)
                        refine w_o rfl rfl rfl (op_move rfl ?_)
                        refine w_og rfl rfl rfl rfl rfl (op_move rfl ?_)
                        refine w_og rfl rfl rfl rfl rfl (op_call rfl rfl rfl ?_)
                        refine offLen_w (b := b) (L := L) mem_ (hL.sub subs_) ?_
                        refine w_og rfl rfl rfl rfl rfl (op_move rfl ?_)
                        refine w_og rfl rfl rfl rfl rfl (op_lenC und_25 rfl o1.lenC ?_)
                        refine w_og rfl rfl rfl rfl rfl (op_ne rfl rfl ?_)
                        refine w_o rfl rfl rfl (op_pick rfl rfl rfl ?_)
                        refine w_end ?_
                        refine seq_normal ?_
                        refine w_condN rfl (by omega) ?_
                        refine w_skip ?_
                        refine seq_normal ?_
                        refine w_seq ?_
                        refine w_region ?_
                        refine w_o rfl rfl rfl (op_assign rfl ?_)
                        refine w_end ?_
                        refine seq_normal ?_
                        refine w_seq ?_
                        refine w_seq ?_
                        refine w_region ?_
                        refine w_o rfl rfl rfl (op_assign rfl ?_)
                        refine w_end ?_
                        refine seq_normal ?_
                        refine w_block ?_
                        refine w_loop (fun q e H' => ∃ (i : Nat) (hand : Int) (M : Hyp), i ≤ 20 ∧ q = 20 - i ∧ -1 ≤ hand ∧ hand < L.length ∧ KVo M L cl ∧ KVo M L c64 ∧ Sl M 47 2 c l.length (l.flatMap encS) ∧ Sl M 47 2 cx l.length (l.flatMap encS) ∧ Sl M 47 2 cw (wordV l a).length ((wordV l a).flatMap encS) ∧ Sl M 4 1 ct ts.length (ts.flatMap encB) ∧ H' = (b, offRow cx a cw cl hand) :: (b3, .row true 24 1 [c, .int .i64 a]) :: M ∧ e = [(2, .one (.c ct)), (3, ptrV b3 0), (7, ptrV b 0), (11, .one (.c c64)), (12, vI hand), (13, vI (i : Nat))]) ?_ ?_
                        · exact ⟨_, _, _, ⟨0, -1, N64 ++ (N ++ H), Nat.zero_le _, rfl, by omega, by omega, hL.sub subs_, hO.sub subs_, h.sub subs_, hX.sub subs_, hW.sub subs_, hT.sub subs_, rfl, rfl⟩, env_, sel_⟩
                        · rintro q e H' ⟨i, hand, M, hi, rfl, hh1, hh2, mL, mO, mx, mX, mW, mT, rfl, rfl⟩
                          have hge := chV_ge hok (by omega) (hand := hand) ⟨by omega, by omega⟩
                          have hdl : ((chV L hand).drop (wordV l a).length).length ≤ 40 := by rw [List.length_drop]; omega
                          have hin := insV_len (d := (chV L hand).drop (wordV l a).length) hra
                          have t1 := turnV_next hh1 hh2
                          have t2 := turnV_prev hh1 hh2
                          refine w_seq ?_
                          refine w_seq ?_
                          refine w_region ?_
                          refine w_o rfl rfl rfl (op_move rfl ?_)
                          refine w_o rfl rfl rfl (op_move rfl ?_)
                          refine w_o rfl rfl rfl (op_lenC und_26 rfl hT.lenC ?_)
                          refine w_o rfl rfl rfl (op_le rfl rfl ?_)
                          refine w_o rfl rfl rfl (op_move rfl ?_)
                          first | refine w_known (t := 108) rfl (fun g108 => ?_) (fun g108 => ?_) | refine w_knownB (t := 108) rfl (fun g108 => ?_) (fun g108 => ?_)
                          · refine w_og rfl rfl rfl rfl rfl (op_move rfl ?_)
                            refine w_og rfl rfl rfl rfl rfl (op_lt rfl rfl ?_)
                            refine w_o rfl rfl rfl (op_pick rfl rfl rfl ?_)
                            refine w_end ?_
                            refine seq_normal ?_
                            first | refine w_cond rfl (fun hI6 => ?_) (fun hI6 => ?_) | refine w_condB rfl (fun hI6 => ?_) (fun hI6 => ?_)
                            · refine w_skip ?_
                              refine seq_normal ?_
                              refine w_seq ?_
                              refine w_block ?_
                              refine w_seq ?_
                              refine w_seq ?_
                              refine w_drawF ((b, offRow cx a cw cl hand) :: (b3, .row true 24 1 [c, .int .i64 a]) :: M) sel_ (by decide +kernel) (by decide +kernel) ?_
                              refine f_b (guard_none rfl) rfl rfl rfl rfl (op_move rfl ?_)
                              refine f_m (guard_none rfl) rfl rfl rfl (op_call rfl rfl rfl ?_)
                              refine offHand_w (b := b) mem_ ?_
                              refine ⟨sel_, ?_⟩
                              refine f_b (guard_none rfl) rfl rfl rfl rfl (op_move rfl ?_)
                              refine f_b (guard_none rfl) rfl rfl rfl rfl (op_ne rfl rfl ?_)
                              refine f_b (guard_none rfl) rfl rfl rfl rfl (op_move rfl ?_)
                              first | refine f_known (t := 118) rfl (fun g118 => ?_) (fun g118 => ?_) | refine f_knownB (t := 118) rfl (fun g118 => ?_) (fun g118 => ?_)
                              · exact absurd rfl g118 --closed
                              · refine f_b (guard_some rfl rfl rfl rfl) rfl rfl rfl rfl (op_move rfl ?_)
                                refine f_m (guard_some rfl rfl rfl rfl) rfl rfl rfl (op_call rfl rfl rfl ?_)
                                refine offLine_w (b := b) (L := L) (w := wordV l a) mem_ (mL.sub subs_) (mX.sub subs_) (mW.sub subs_) (by omega) hra (by omega) (fun x hx => by have := (hok.1 x hx).1; omega) (by omega) hge.1 fun c120 N120 h120 => ?_
                                refine ⟨sel_, ?_⟩
                                refine f_l (guard_some rfl rfl rfl rfl) rfl rfl rfl sel_ (op_loadA agg_24 siz_24 rfl rfl el_ rfl) ?_
                                refine f_b (guard_some rfl rfl rfl rfl) rfl rfl rfl rfl (op_move rfl ?_)
                                refine f_b (guard_some rfl rfl rfl rfl) rfl rfl rfl rfl (op_move rfl ?_)
                                refine f_m (guard_some rfl rfl rfl rfl) rfl rfl rfl (op_call rfl rfl rfl ?_)
                                refine R26Line_w (H1 := []) (L := L) (wl := (wordV l a).length) (mx.sub subs_) (mO.sub subs_) (by omega) hra hwn (by omega) (fun x hx => by have := (hok.1 x hx).1; omega) (by omega) hge.1 fun c124 N124 h124 => ?_
                                refine ⟨sel_, ?_⟩
                                refine f_m (guard_some rfl rfl rfl rfl) rfl rfl rfl (op_call rfl rfl rfl ?_)
                                generalize hdd : (chV L hand).drop (wordV l a).length = d at *
                                refine R16Same_w (l := insV l a d) (l' := insV l a d) (h120.slT (H := N120) (fun _ => rfl) (by decide) (fun _ q => q)) subs_ (h124.slT (H := N124) (fun _ => rfl) (by decide) (fun _ q => q)) subs_ (by omega) ?_
                                rw [decide_eq_true (⟨rfl, rfl⟩ : a + ((d.length : Nat) : Int) = a + ((d.length : Nat) : Int) ∧ insV l a d = insV l a d)]
                                refine ⟨sel_, ?_⟩
                                refine f_b (guard_some rfl rfl rfl rfl) rfl rfl rfl rfl (op_not rfl ?_)
                                refine f_b (guard_none rfl) rfl rfl rfl rfl (op_pick rfl rfl rfl ?_)
                                refine f_end ?_
                                refine seq_normal ?_
                                refine w_condF rfl ?_
                                refine w_skip ?_
                                refine seq_normal ?_
                                refine w_seq ?_
                                refine w_seq ?_
                                refine w_region ?_
                                refine w_o rfl rfl rfl (op_move rfl ?_)
                                refine w_o rfl rfl rfl (op_move rfl ?_)
                                refine w_o rfl rfl rfl (op_lenC und_26 rfl hT.lenC ?_)
                                refine w_o rfl rfl rfl (op_eq rfl rfl ?_)
                                refine w_end ?_
                                refine seq_normal ?_
                                first | refine w_cond rfl (fun hI8 => ?_) (fun hI8 => ?_) | refine w_condB rfl (fun hI8 => ?_) (fun hI8 => ?_)
                                · refine w_seq ?_
                                  refine w_region ?_
                                  refine w_o rfl rfl rfl (op_assign rfl ?_)
                                  refine w_end ?_
                                  refine seq_normal ?_
                                  refine w_ret ?_
                                  refine seq_ret ?_
                                  refine block_ret ?_
                                  refine seq_ret ?_
                                  refine loop_ret ?_
                                  refine block_ret ?_
                                  refine seq_ret ?_
                                  exact ret_ret rfl (.refl _) rfl
                                · refine w_skip ?_
                                  refine seq_normal ?_
                                  refine w_seq ?_
                                  refine w_region ?_
                                  refine w_o rfl rfl rfl (op_move rfl ?_)
                                  refine w_o rfl rfl rfl (op_move rfl ?_)
                                  refine w_o rfl rfl rfl (op_indexT (enc := encB) (xs := ts) (j := i) und_26 siz_4 rfl rfl (mT.sub subs_) (fun _ => rfl) rfl (by omega) fun b134 o134 z134 h134 e134 => ?_)
                                  refine w_o rfl rfl rfl (op_load1 agg_4 rfl el_ ?_)
                                  refine w_end ?_
                                  refine seq_normal ?_
                                  first | refine w_cond rfl (fun hI9 => ?_) (fun hI9 => ?_) | refine w_condB rfl (fun hI9 => ?_) (fun hI9 => ?_)
                                  · refine w_seq ?_
                                    refine w_region ?_
                                    refine w_o rfl rfl rfl (op_move rfl ?_)
                                    refine w_o rfl rfl rfl (op_call rfl rfl rfl ?_)
                                    refine CallW.weak (H' := (b, offRow cx a cw cl hand) :: (b3, .row true 24 1 [c, .int .i64 a]) :: M) sel_ (offNext_w (L := L) (mL.sub subs_) (by omega) (by omega) ?_)
                                    rw [t1]
                                    refine w_end ?_
                                    refine seq_normal ?_
                                    refine w_seq ?_
                                    refine w_region ?_
                                    refine w_o rfl rfl rfl (op_move rfl ?_)
                                    refine w_o rfl rfl rfl (op_addi rfl rfl (by omega) (by omega) ?_)
                                    refine w_o rfl rfl rfl (op_assign rfl ?_)
                                    refine w_end ?_
                                    refine seq_normal ?_
                                    refine w_seq ?_
                                    refine w_region ?_
                                    refine w_o rfl rfl rfl (op_move rfl ?_)
                                    refine w_o rfl rfl rfl (op_move rfl ?_)
                                    refine w_o rfl rfl rfl (op_lenC und_25 rfl o1.lenC ?_)
                                    refine w_o rfl rfl rfl (op_eq rfl rfl ?_)
                                    refine w_end ?_
                                    refine seq_normal ?_
                                    first | refine w_cond rfl (fun hI10 => ?_) (fun hI10 => ?_) | refine w_condB rfl (fun hI10 => ?_) (fun hI10 => ?_)
                                    · rw [if_pos (show hand + 1 = (L.length : Int) by omega)]
                                      refine w_region ?_
                                      refine w_o rfl rfl rfl (op_assign rfl ?_)
                                      refine w_end ?_
                                      refine block_normal ?_
                                      refine seq_normal ?_
                                      refine w_region ?_
                                      refine w_o rfl rfl rfl (op_move rfl ?_)
                                      refine w_o rfl rfl rfl (op_addi rfl rfl (by omega) (by omega) ?_)
                                      refine w_o rfl rfl rfl (op_assign rfl ?_)
                                      refine w_end ?_
                                      first
                                        | exact loop_normal (k' := 20 - (i + 1)) (by omega) ⟨i + 1, -1, M, by omega, rfl, by omega, by omega, mL, mO, mx, mX, mW, mT, rfl, rfl⟩ env_ sel_
                                        | exact loop_normal (k' := 20 - (i + 1)) (by omega) ⟨i + 1, hand + 1, M, by omega, rfl, by omega, by omega, mL, mO, mx, mX, mW, mT, rfl, rfl⟩ env_ sel_
                                        | exact loop_normal (k' := 20 - (i + 1)) (by omega) ⟨i + 1, hand - 1, M, by omega, rfl, by omega, by omega, mL, mO, mx, mX, mW, mT, rfl, rfl⟩ env_ sel_
                                        | exact loop_normal (k' := 20 - (i + 1)) (by omega) ⟨i + 1, (os.length : Int) - 1, M, by omega, rfl, by omega, by omega, mL, mO, mx, mX, mW, mT, rfl, rfl⟩ env_ sel_
                                    · rw [if_neg (show ¬ hand + 1 = (L.length : Int) by omega)]
                                      refine w_skip ?_
                                      refine block_normal ?_
                                      refine seq_normal ?_
                                      refine w_region ?_
                                      refine w_o rfl rfl rfl (op_move rfl ?_)
                                      refine w_o rfl rfl rfl (op_addi rfl rfl (by omega) (by omega) ?_)
                                      refine w_o rfl rfl rfl (op_assign rfl ?_)
                                      refine w_end ?_
                                      first
                                        | exact loop_normal (k' := 20 - (i + 1)) (by omega) ⟨i + 1, -1, M, by omega, rfl, by omega, by omega, mL, mO, mx, mX, mW, mT, rfl, rfl⟩ env_ sel_
                                        | exact loop_normal (k' := 20 - (i + 1)) (by omega) ⟨i + 1, hand + 1, M, by omega, rfl, by omega, by omega, mL, mO, mx, mX, mW, mT, rfl, rfl⟩ env_ sel_
                                        | exact loop_normal (k' := 20 - (i + 1)) (by omega) ⟨i + 1, hand - 1, M, by omega, rfl, by omega, by omega, mL, mO, mx, mX, mW, mT, rfl, rfl⟩ env_ sel_
                                        | exact loop_normal (k' := 20 - (i + 1)) (by omega) ⟨i + 1, (os.length : Int) - 1, M, by omega, rfl, by omega, by omega, mL, mO, mx, mX, mW, mT, rfl, rfl⟩ env_ sel_
                                  · refine w_seq ?_
                                    refine w_region ?_
                                    refine w_o rfl rfl rfl (op_move rfl ?_)
                                    refine w_o rfl rfl rfl (op_call rfl rfl rfl ?_)
                                    refine CallW.weak (H' := (b, offRow cx a cw cl hand) :: (b3, .row true 24 1 [c, .int .i64 a]) :: M) sel_ (offPrev_w (L := L) (mL.sub subs_) (by omega) (by omega) ?_)
                                    rw [t2]
                                    refine w_end ?_
                                    refine seq_normal ?_
                                    refine w_seq ?_
                                    refine w_region ?_
                                    refine w_o rfl rfl rfl (op_move rfl ?_)
                                    refine w_o rfl rfl rfl (op_subi rfl rfl (by omega) (by omega) ?_)
                                    refine w_o rfl rfl rfl (op_assign rfl ?_)
                                    refine w_end ?_
                                    refine seq_normal ?_
                                    refine w_seq ?_
                                    refine w_region ?_
                                    refine w_o rfl rfl rfl (op_move rfl ?_)
                                    refine w_o rfl rfl rfl (op_lt rfl rfl ?_)
                                    refine w_end ?_
                                    refine seq_normal ?_
                                    first | refine w_cond rfl (fun hI11 => ?_) (fun hI11 => ?_) | refine w_condB rfl (fun hI11 => ?_) (fun hI11 => ?_)
                                    · rw [if_pos (show hand - 1 < -1 by omega), show (L.length : Int) - 1 = (os.length : Int) - 1 by omega]
                                      refine w_region ?_
                                      refine w_o rfl rfl rfl (op_move rfl ?_)
                                      refine w_o rfl rfl rfl (op_lenC und_25 rfl o1.lenC ?_)
                                      refine w_o rfl rfl rfl (op_subi rfl rfl (by omega) (by omega) ?_)
                                      refine w_o rfl rfl rfl (op_assign rfl ?_)
                                      refine w_end ?_
                                      refine block_normal ?_
                                      refine seq_normal ?_
                                      refine w_region ?_
                                      refine w_o rfl rfl rfl (op_move rfl ?_)
                                      refine w_o rfl rfl rfl (op_addi rfl rfl (by omega) (by omega) ?_)
                                      refine w_o rfl rfl rfl (op_assign rfl ?_)
                                      refine w_end ?_
                                      first
                                        | exact loop_normal (k' := 20 - (i + 1)) (by omega) ⟨i + 1, -1, M, by omega, rfl, by omega, by omega, mL, mO, mx, mX, mW, mT, rfl, rfl⟩ env_ sel_
                                        | exact loop_normal (k' := 20 - (i + 1)) (by omega) ⟨i + 1, hand + 1, M, by omega, rfl, by omega, by omega, mL, mO, mx, mX, mW, mT, rfl, rfl⟩ env_ sel_
                                        | exact loop_normal (k' := 20 - (i + 1)) (by omega) ⟨i + 1, hand - 1, M, by omega, rfl, by omega, by omega, mL, mO, mx, mX, mW, mT, rfl, rfl⟩ env_ sel_
                                        | exact loop_normal (k' := 20 - (i + 1)) (by omega) ⟨i + 1, (os.length : Int) - 1, M, by omega, rfl, by omega, by omega, mL, mO, mx, mX, mW, mT, rfl, rfl⟩ env_ sel_
                                    · rw [if_neg (show ¬ hand - 1 < -1 by omega)]
                                      refine w_skip ?_
                                      refine block_normal ?_
                                      refine seq_normal ?_
                                      refine w_region ?_
                                      refine w_o rfl rfl rfl (op_move rfl ?_)
                                      refine w_o rfl rfl rfl (op_addi rfl rfl (by omega) (by omega) ?_)
                                      refine w_o rfl rfl rfl (op_assign rfl ?_)
                                      refine w_end ?_
                                      first
                                        | exact loop_normal (k' := 20 - (i + 1)) (by omega) ⟨i + 1, -1, M, by omega, rfl, by omega, by omega, mL, mO, mx, mX, mW, mT, rfl, rfl⟩ env_ sel_
                                        | exact loop_normal (k' := 20 - (i + 1)) (by omega) ⟨i + 1, hand + 1, M, by omega, rfl, by omega, by omega, mL, mO, mx, mX, mW, mT, rfl, rfl⟩ env_ sel_
                                        | exact loop_normal (k' := 20 - (i + 1)) (by omega) ⟨i + 1, hand - 1, M, by omega, rfl, by omega, by omega, mL, mO, mx, mX, mW, mT, rfl, rfl⟩ env_ sel_
                                        | exact loop_normal (k' := 20 - (i + 1)) (by omega) ⟨i + 1, (os.length : Int) - 1, M, by omega, rfl, by omega, by omega, mL, mO, mx, mX, mW, mT, rfl, rfl⟩ env_ sel_
                            · refine w_exit ?_
                              refine seq_exit ?_
                              refine loop_exit ?_
                              refine block_hit rfl ?_
                              refine seq_normal ?_
                              refine w_seq ?_
                              refine w_region ?_
                              refine w_o rfl rfl rfl (op_assign rfl ?_)
                              refine w_end ?_
                              refine seq_normal ?_
                              refine w_ret ?_
                              exact ret_ret rfl (.refl _) rfl
                          · refine w_u rfl rfl rfl rfl rfl rfl ?_
                            refine w_u rfl rfl rfl rfl rfl rfl ?_
                            refine w_o rfl rfl rfl (op_pick rfl rfl rfl ?_)
                            refine w_end ?_
                            refine seq_normal ?_
                            refine w_condF rfl ?_
                            refine w_exit ?_
                            refine seq_exit ?_
                            refine loop_exit ?_
                            refine block_hit rfl ?_
                            refine seq_normal ?_
                            refine w_seq ?_
                            refine w_region ?_
                            refine w_o rfl rfl rfl (op_assign rfl ?_)
                            refine w_end ?_
                            refine seq_normal ?_
                            refine w_ret ?_
                            exact ret_ret rfl (.refl _) rfl
      · refine w_o rfl rfl rfl (op_move rfl ?_)
        refine w_o rfl rfl rfl (op_extract rfl rfl ?_)
        refine w_o rfl rfl rfl (op_extract rfl rfl ?_)
        refine w_o rfl rfl rfl (op_assign rfl ?_)
        refine w_o rfl rfl rfl (op_assign rfl ?_)
        refine w_end ?_
        refine seq_normal ?_
        refine w_seq ?_
        refine w_region ?_
        refine w_o rfl rfl rfl (op_loadA agg_24 siz_24 rfl rfl el_ ?_)
        refine w_o rfl rfl rfl (op_call rfl rfl rfl ?_)
        first | refine Word_w h subs_ (by omega) (fun _ => ?_) (fun q => nomatch (hr.symm.trans q : true = false)) | refine Word_w h subs_ (by omega) (fun q => nomatch (q.symm.trans hr : true = false)) (fun _ => ?_)
        refine w_o rfl rfl rfl (op_move rfl ?_)
        refine w_o rfl rfl rfl (op_extract rfl rfl ?_)
        refine w_o rfl rfl rfl (op_extract rfl rfl ?_)
        refine w_o rfl rfl rfl (op_assign rfl ?_)
        refine w_o rfl rfl rfl (op_assign rfl ?_)
        refine w_end ?_
        refine seq_normal ?_
        refine w_seq ?_
        refine w_seq ?_
        refine w_region ?_
        refine w_o rfl rfl rfl (op_loadA agg_24 siz_24 rfl rfl el_ ?_)
        refine w_o rfl rfl rfl (op_call rfl rfl rfl ?_)
        refine R17May_w h subs_ (by omega) ?_
        refine w_o rfl rfl rfl (op_not rfl ?_)
        refine w_end ?_
        refine seq_normal ?_
        first | refine w_cond rfl (fun hI2 => ?_) (fun hI2 => ?_) | refine w_condB rfl (fun hI2 => ?_) (fun hI2 => ?_)
        · try (first | (exfalso; simp [hr] at hI2; done))
          all_goals
            refine w_seq ?_
            refine w_region ?_
            refine w_o rfl rfl rfl (op_move rfl ?_)
            refine w_o rfl rfl rfl (op_nilEq rfl rfl rfl (by simp only [nilKind, und_29]) ?_)
            refine w_o rfl rfl rfl (op_move rfl ?_)
            first | refine w_known (t := 44) rfl (fun g44 => ?_) (fun g44 => ?_) | refine w_knownB (t := 44) rfl (fun g44 => ?_) (fun g44 => ?_)
            · try (first | exact absurd g44 (by decide) | exact absurd rfl g44)
              all_goals
                refine w_og rfl rfl rfl rfl rfl (op_move rfl ?_)
                refine w_og rfl rfl rfl rfl rfl (op_eq rfl rfl ?_)
                refine w_o rfl rfl rfl (op_pick rfl rfl rfl ?_)
                refine w_o rfl rfl rfl (op_move rfl ?_)
                first | refine w_known (t := 48) rfl (fun g48 => ?_) (fun g48 => ?_) | refine w_knownB (t := 48) rfl (fun g48 => ?_) (fun g48 => ?_)
                · try (first | exact absurd rfl g48 | exact absurd g48 (by decide))
                  all_goals
                    refine w_og rfl rfl rfl rfl rfl (op_move rfl ?_)
                    refine w_og rfl rfl rfl rfl rfl (op_eq rfl rfl ?_)
                    refine w_o rfl rfl rfl (op_pick rfl rfl rfl ?_)
                    refine w_o rfl rfl rfl (op_move rfl ?_)
                    first | refine w_known (t := 52) rfl (fun g52 => ?_) (fun g52 => ?_) | refine w_knownB (t := 52) rfl (fun g52 => ?_) (fun g52 => ?_)
                    · try (first | exact absurd rfl g52 | exact absurd g52 (by decide))
                      all_goals
                        refine w_og rfl rfl rfl rfl rfl (op_move rfl ?_)
                        refine w_og rfl rfl rfl rfl rfl (op_eq rfl rfl ?_)
                        refine w_o rfl rfl rfl (op_pick rfl rfl rfl ?_)
                        refine w_o rfl rfl rfl (op_assign rfl ?_)
                        refine w_end ?_
                        refine seq_normal ?_
                        refine w_ret ?_
                        refine seq_ret ?_
                        exact ret_ret rfl (.refl _) rfl
                    · try (first | exact absurd rfl g52 | exact absurd g52 (by decide))
                      all_goals
                        refine w_u rfl rfl rfl rfl rfl rfl ?_
                        refine w_u rfl rfl rfl rfl rfl rfl ?_
                        refine w_o rfl rfl rfl (op_pick rfl rfl rfl ?_)
                        refine w_o rfl rfl rfl (op_assign rfl ?_)
                        refine w_end ?_
                        refine seq_normal ?_
                        refine w_ret ?_
                        refine seq_ret ?_
                        exact ret_ret rfl (.refl _) rfl
                · try (first | exact absurd rfl g48 | exact absurd g48 (by decide))
                  all_goals
                    refine w_u rfl rfl rfl rfl rfl rfl ?_
                    refine w_u rfl rfl rfl rfl rfl rfl ?_
                    refine w_o rfl rfl rfl (op_pick rfl rfl rfl ?_)
                    refine w_o rfl rfl rfl (op_move rfl ?_)
                    refine w_u rfl rfl rfl rfl rfl rfl ?_
                    refine w_u rfl rfl rfl rfl rfl rfl ?_
                    refine w_o rfl rfl rfl (op_pick rfl rfl rfl ?_)
                    refine w_o rfl rfl rfl (op_assign rfl ?_)
                    refine w_end ?_
                    refine seq_normal ?_
                    refine w_ret ?_
                    refine seq_ret ?_
                    exact ret_ret rfl (.refl _) rfl
            · try (first | exact absurd g44 (by decide) | exact absurd rfl g44)
              all_goals
                refine w_u rfl rfl rfl rfl rfl rfl ?_
                refine w_u rfl rfl rfl rfl rfl rfl ?_
                refine w_o rfl rfl rfl (op_pick rfl rfl rfl ?_)
                refine w_o rfl rfl rfl (op_move rfl ?_)
                refine w_u rfl rfl rfl rfl rfl rfl ?_
                refine w_u rfl rfl rfl rfl rfl rfl ?_
                refine w_o rfl rfl rfl (op_pick rfl rfl rfl ?_)
                refine w_o rfl rfl rfl (op_move rfl ?_)
                refine w_u rfl rfl rfl rfl rfl rfl ?_
                refine w_u rfl rfl rfl rfl rfl rfl ?_
                refine w_o rfl rfl rfl (op_pick rfl rfl rfl ?_)
                refine w_o rfl rfl rfl (op_assign rfl ?_)
                refine w_end ?_
                refine seq_normal ?_
                refine w_ret ?_
                refine seq_ret ?_
                exact ret_ret rfl (.refl _) rfl
        · try (first | (exfalso; simp [hr] at hI2; done))
          all_goals
            have hra : 0 ≤ a ∧ a ≤ l.length := by
              have := of_decide_eq_true hr; exact ⟨this.1, this.2.1⟩
            have hok := offP_ok (wordV l a) C hlt.2 C.length (Nat.le_refl _)
            have hpl := offP_len (wordV l a) C C.length (Nat.le_refl _)
            have hwl : (wordV l a).length ≤ l.length := seg_len l _ _
            have hfr := fromF_le l a.toNat
            have hwn := wordV_len hra
            refine w_skip ?_
            refine seq_normal ?_
            refine w_seq ?_
            refine w_drawF ((b3, .row true 24 1 [c, .int .i64 a]) :: H) sel_ (by decide +kernel) (by decide +kernel) ?_
            refine f_b (guard_none rfl) rfl rfl rfl rfl (op_fieldAddr fa_24_0 rfl ?_)
            refine f_l (guard_none rfl) rfl rfl rfl sel_ (op_loadF agg_22 rfl el_ rfl rfl) ?_
            refine f_a (guard_none rfl) rfl rfl rfl (by decide +kernel) (op_loadA agg_24 siz_24 rfl rfl el_ ?_)
            refine f_m (guard_none rfl) rfl rfl rfl (op_call rfl rfl rfl ?_)
            refine R26From_w h subs_ (by omega) hra ?_
            refine ⟨sel_, ?_⟩
            refine f_b (guard_none rfl) rfl rfl rfl rfl (op_fieldAddr fa_24_1 rfl ?_)
            refine f_l (guard_none rfl) rfl rfl rfl sel_ (op_loadF agg_3 rfl el_ rfl rfl) ?_
            refine f_sliceT (enc := encS) (xs := l) (guard_none rfl) rfl rfl rfl sel_ elm_22 siz_47 (by decide) rfl h (fun y hy => List.Mem.tail _ hy) (fun _ => rfl) rfl rfl (by omega) (by omega) (by omega) fun c62 h62 => ?_
            have e62 : (l.drop ((fromF l a.toNat : Nat) : Int).toNat).take (a.toNat - ((fromF l a.toNat : Nat) : Int).toNat) = wordV l a := rfl
            rw [e62] at h62
            refine f_b (guard_none rfl) rfl rfl rfl rfl (op_move rfl ?_)
            refine f_m (guard_none rfl) rfl rfl rfl (op_call rfl rfl rfl ?_)
            refine R26Offered_w (w := wordV l a) h62 subs_ (hC.sub subs_) (by omega) (by omega) hlt.2 fun c64 N64 hO => ?_
            rw [show offP (wordV l a) C C.length = offL (wordV l a) C from rfl] at hok hpl
            generalize hLL : offL (wordV l a) C = L at *
            have hO9 := hO
            obtain ⟨os, o1, o2, o3⟩ := hO9
            refine ⟨sel_, ?_⟩
            refine f_b (guard_none rfl) rfl rfl rfl rfl (op_assign rfl ?_)
            refine f_end ?_
            refine seq_normal ?_
            refine w_seq ?_
            refine w_seq ?_
            refine w_region ?_
            refine w_o rfl rfl rfl (op_move rfl ?_)
            refine w_o rfl rfl rfl (op_loadA agg_24 siz_24 rfl rfl el_ ?_)
            refine w_o rfl rfl rfl (op_call rfl rfl rfl ?_)
            refine R26From_w h subs_ (by omega) hra ?_
            refine w_o rfl rfl rfl (op_ne rfl rfl ?_)
            refine w_o rfl rfl rfl (op_move rfl ?_)
            first | refine w_known (t := 69) rfl (fun g69 => ?_) (fun g69 => ?_) | refine w_knownB (t := 69) rfl (fun g69 => ?_) (fun g69 => ?_)
            · exact absurd rfl g69 --closed
            · refine w_og rfl rfl rfl rfl rfl (op_move rfl ?_)
              refine w_og rfl rfl rfl rfl rfl (op_fieldAddr fa_24_1 rfl ?_)
              refine w_og rfl rfl rfl rfl rfl (op_loadF agg_3 rfl el_ rfl ?_)
              refine w_og rfl rfl rfl rfl rfl (op_ne rfl rfl ?_)
              refine w_o rfl rfl rfl (op_pick rfl rfl rfl ?_)
              refine w_end ?_
              refine seq_normal ?_
              refine w_condN rfl (by omega) ?_
              refine w_skip ?_
              refine seq_normal ?_
              refine w_seq ?_
              refine w_seq ?_
              refine w_region ?_
              refine w_o rfl rfl rfl (op_move rfl ?_)
              refine w_o rfl rfl rfl (op_lenC und_25 rfl o1.lenC ?_)
              refine w_o rfl rfl rfl (op_eq rfl rfl ?_)
              refine w_end ?_
              refine seq_normal ?_
              first | refine w_cond rfl (fun hI4 => ?_) (fun hI4 => ?_) | refine w_condB rfl (fun hI4 => ?_) (fun hI4 => ?_)
              · try (omega)
                all_goals
                  refine w_seq ?_
                  refine w_region ?_
                  refine w_o rfl rfl rfl (op_move rfl ?_)
                  refine w_o rfl rfl rfl (op_nilEq rfl rfl rfl (by simp only [nilKind, und_29]) ?_)
                  refine w_o rfl rfl rfl (op_move rfl ?_)
                  first | refine w_known (t := 80) rfl (fun g80 => ?_) (fun g80 => ?_) | refine w_knownB (t := 80) rfl (fun g80 => ?_) (fun g80 => ?_)
                  · try (first | exact absurd g80 (by decide) | exact absurd rfl g80)
                    all_goals
                      refine w_og rfl rfl rfl rfl rfl (op_move rfl ?_)
                      refine w_og rfl rfl rfl rfl rfl (op_eq rfl rfl ?_)
                      refine w_o rfl rfl rfl (op_pick rfl rfl rfl ?_)
                      refine w_o rfl rfl rfl (op_assign rfl ?_)
                      refine w_end ?_
                      refine seq_normal ?_
                      refine w_ret ?_
                      refine seq_ret ?_
                      exact ret_ret rfl (.refl _) rfl
                  · try (first | exact absurd g80 (by decide) | exact absurd rfl g80)
                    all_goals
                      refine w_u rfl rfl rfl rfl rfl rfl ?_
                      refine w_u rfl rfl rfl rfl rfl rfl ?_
                      refine w_o rfl rfl rfl (op_pick rfl rfl rfl ?_)
                      refine w_o rfl rfl rfl (op_assign rfl ?_)
                      refine w_end ?_
                      refine seq_normal ?_
                      refine w_ret ?_
                      refine seq_ret ?_
                      exact ret_ret rfl (.refl _) rfl
              · try (omega)
                all_goals
                  refine w_skip ?_
                  refine seq_normal ?_
                  refine w_seq ?_
                  refine w_seq ?_
                  refine w_region ?_
                  refine w_o rfl rfl rfl (op_move rfl ?_)
                  refine w_o rfl rfl rfl (op_ne rfl rfl ?_)
                  refine w_o rfl rfl rfl (op_move rfl ?_)
                  first | refine w_known (t := 86) rfl (fun g86 => ?_) (fun g86 => ?_) | refine w_knownB (t := 86) rfl (fun g86 => ?_) (fun g86 => ?_)
                  · exact absurd rfl g86 --closed
                  · refine w_og rfl rfl rfl rfl rfl (op_move rfl ?_)
                    refine w_og rfl rfl rfl rfl rfl (op_nilEq rfl rfl rfl (by simp only [nilKind, und_29]) ?_)
                    refine w_o rfl rfl rfl (op_pick rfl rfl rfl ?_)
                    refine w_o rfl rfl rfl (op_move rfl ?_)
                    first | refine w_known (t := 90) rfl (fun g90 => ?_) (fun g90 => ?_) | refine w_knownB (t := 90) rfl (fun g90 => ?_) (fun g90 => ?_)
                    · try (first | exact absurd rfl g90 | exact absurd g90 (by decide))
                      all_goals
                        refine w_u rfl rfl rfl rfl rfl rfl ?_
                        refine w_u rfl rfl rfl rfl rfl rfl ?_
                        refine w_u rfl rfl rfl rfl rfl rfl ?_
                        refine w_u rfl rfl rfl rfl rfl rfl ?_
                        refine w_u rfl rfl rfl rfl rfl rfl ?_
                        refine w_o rfl rfl rfl (op_pick rfl rfl rfl ?_)
                        refine w_o rfl rfl rfl (op_move rfl ?_)
                        refine w_u rfl rfl rfl rfl rfl rfl ?_
                        refine w_u rfl rfl rfl rfl rfl rfl ?_
                        refine w_u rfl rfl rfl rfl rfl rfl ?_
                        refine w_u rfl rfl rfl rfl rfl rfl ?_
                        refine w_u rfl rfl rfl rfl rfl rfl ?_
                        refine w_o rfl rfl rfl (op_pick rfl rfl rfl ?_)
                        refine w_end ?_
                        refine seq_normal ?_
                        refine w_condT rfl ?_
                        refine w_seq ?_
                        refine w_region ?_
                        refine w_o rfl rfl rfl (op_assign rfl ?_)
                        refine w_end ?_
                        refine seq_normal ?_
                        refine w_ret ?_
                        refine seq_ret ?_
                        exact ret_ret rfl (.refl _) (by assumption)
                    · try (first | exact absurd rfl g90 | exact absurd g90 (by decide))
                      all_goals
                        refine w_og rfl rfl rfl rfl rfl (op_move rfl ?_)
                        refine w_og rfl rfl rfl rfl rfl (op_call rfl rfl rfl ?_)
                        refine offAll_w (b := b) (L := L) mem_ (hL.sub subs_) (by omega) (fun x hx => by have := (hok.1 x hx).1; omega) fun c92 N92 hA => ?_
                        refine w_og rfl rfl rfl rfl rfl (op_move rfl ?_)
                        refine w_og rfl rfl rfl rfl rfl (op_call rfl rfl rfl ?_)
                        refine Lists_w hA (hO.sub subs_) (by omega) (fun x hx => by have := (hok.1 x hx).1; omega) ?_
                        refine w_og rfl rfl rfl rfl rfl (op_not rfl ?_)
                        refine w_o rfl rfl rfl (op_pick rfl rfl rfl ?_)
                        refine w_o rfl rfl rfl (op_move rfl ?_)
                        refine w_og rfl rfl rfl rfl rfl (op_move rfl ?_)
                        refine w_og rfl rfl rfl rfl rfl (op_call rfl rfl rfl ?_)
                        refine offLen_w (b := b) (L := L) mem_ (hL.sub subs_) ?_
                        refine w_og rfl rfl rfl rfl rfl (op_move rfl ?_)
                        refine w_og rfl rfl rfl rfl rfl (op_lenC und_25 rfl o1.lenC ?_)
                        refine w_og rfl rfl rfl rfl rfl (op_ne rfl rfl ?_)
                        refine w_o rfl rfl rfl (op_pick rfl rfl rfl ?_)
                        refine w_end ?_
                        refine seq_normal ?_
                        refine w_condN rfl (by omega) ?_
                        refine w_skip ?_
                        refine seq_normal ?_
                        refine w_seq ?_
                        refine w_region ?_
                        refine w_o rfl rfl rfl (op_assign rfl ?_)
                        refine w_end ?_
                        refine seq_normal ?_
                        refine w_seq ?_
                        refine w_seq ?_
                        refine w_region ?_
                        refine w_o rfl rfl rfl (op_assign rfl ?_)
                        refine w_end ?_
                        refine seq_normal ?_
                        refine w_block ?_
                        refine w_loop (fun q e H' => ∃ (i : Nat) (hand : Int) (M : Hyp), i ≤ 20 ∧ q = 20 - i ∧ -1 ≤ hand ∧ hand < L.length ∧ KVo M L cl ∧ KVo M L c64 ∧ Sl M 47 2 c l.length (l.flatMap encS) ∧ Sl M 47 2 cx l.length (l.flatMap encS) ∧ Sl M 47 2 cw (wordV l a).length ((wordV l a).flatMap encS) ∧ Sl M 4 1 ct ts.length (ts.flatMap encB) ∧ H' = (b, offRow cx a cw cl hand) :: (b3, .row true 24 1 [c, .int .i64 a]) :: M ∧ e = [(2, .one (.c ct)), (3, ptrV b3 0), (7, ptrV b 0), (11, .one (.c c64)), (12, vI hand), (13, vI (i : Nat))]) ?_ ?_
                        · exact ⟨_, _, _, ⟨0, -1, N64 ++ (N ++ H), Nat.zero_le _, rfl, by omega, by omega, hL.sub subs_, hO.sub subs_, h.sub subs_, hX.sub subs_, hW.sub subs_, hT.sub subs_, rfl, rfl⟩, env_, sel_⟩
                        · rintro q e H' ⟨i, hand, M, hi, rfl, hh1, hh2, mL, mO, mx, mX, mW, mT, rfl, rfl⟩
                          have hge := chV_ge hok (by omega) (hand := hand) ⟨by omega, by omega⟩
                          have hdl : ((chV L hand).drop (wordV l a).length).length ≤ 40 := by rw [List.length_drop]; omega
                          have hin := insV_len (d := (chV L hand).drop (wordV l a).length) hra
                          have t1 := turnV_next hh1 hh2
                          have t2 := turnV_prev hh1 hh2
                          refine w_seq ?_
                          refine w_seq ?_
                          refine w_region ?_
                          refine w_o rfl rfl rfl (op_move rfl ?_)
                          refine w_o rfl rfl rfl (op_move rfl ?_)
                          refine w_o rfl rfl rfl (op_lenC und_26 rfl hT.lenC ?_)
                          refine w_o rfl rfl rfl (op_le rfl rfl ?_)
                          refine w_o rfl rfl rfl (op_move rfl ?_)
                          first | refine w_known (t := 108) rfl (fun g108 => ?_) (fun g108 => ?_) | refine w_knownB (t := 108) rfl (fun g108 => ?_) (fun g108 => ?_)
                          · refine w_og rfl rfl rfl rfl rfl (op_move rfl ?_)
                            refine w_og rfl rfl rfl rfl rfl (op_lt rfl rfl ?_)
                            refine w_o rfl rfl rfl (op_pick rfl rfl rfl ?_)
                            refine w_end ?_
                            refine seq_normal ?_
                            first | refine w_cond rfl (fun hI6 => ?_) (fun hI6 => ?_) | refine w_condB rfl (fun hI6 => ?_) (fun hI6 => ?_)
                            · refine w_skip ?_
                              refine seq_normal ?_
                              refine w_seq ?_
                              refine w_block ?_
                              refine w_seq ?_
                              refine w_seq ?_
                              refine w_drawF ((b, offRow cx a cw cl hand) :: (b3, .row true 24 1 [c, .int .i64 a]) :: M) sel_ (by decide +kernel) (by decide +kernel) ?_
                              refine f_b (guard_none rfl) rfl rfl rfl rfl (op_move rfl ?_)
                              refine f_m (guard_none rfl) rfl rfl rfl (op_call rfl rfl rfl ?_)
                              refine offHand_w (b := b) mem_ ?_
                              refine ⟨sel_, ?_⟩
                              refine f_b (guard_none rfl) rfl rfl rfl rfl (op_move rfl ?_)
                              refine f_b (guard_none rfl) rfl rfl rfl rfl (op_ne rfl rfl ?_)
                              refine f_b (guard_none rfl) rfl rfl rfl rfl (op_move rfl ?_)
                              first | refine f_known (t := 118) rfl (fun g118 => ?_) (fun g118 => ?_) | refine f_knownB (t := 118) rfl (fun g118 => ?_) (fun g118 => ?_)
                              · exact absurd rfl g118 --closed
                              · refine f_b (guard_some rfl rfl rfl rfl) rfl rfl rfl rfl (op_move rfl ?_)
                                refine f_m (guard_some rfl rfl rfl rfl) rfl rfl rfl (op_call rfl rfl rfl ?_)
                                refine offLine_w (b := b) (L := L) (w := wordV l a) mem_ (mL.sub subs_) (mX.sub subs_) (mW.sub subs_) (by omega) hra (by omega) (fun x hx => by have := (hok.1 x hx).1; omega) (by omega) hge.1 fun c120 N120 h120 => ?_
                                refine ⟨sel_, ?_⟩
                                refine f_l (guard_some rfl rfl rfl rfl) rfl rfl rfl sel_ (op_loadA agg_24 siz_24 rfl rfl el_ rfl) ?_
                                refine f_b (guard_some rfl rfl rfl rfl) rfl rfl rfl rfl (op_move rfl ?_)
                                refine f_b (guard_some rfl rfl rfl rfl) rfl rfl rfl rfl (op_move rfl ?_)
                                refine f_m (guard_some rfl rfl rfl rfl) rfl rfl rfl (op_call rfl rfl rfl ?_)
                                refine R26Line_w (H1 := []) (L := L) (wl := (wordV l a).length) (mx.sub subs_) (mO.sub subs_) (by omega) hra hwn (by omega) (fun x hx => by have := (hok.1 x hx).1; omega) (by omega) hge.1 fun c124 N124 h124 => ?_
                                refine ⟨sel_, ?_⟩
                                refine f_m (guard_some rfl rfl rfl rfl) rfl rfl rfl (op_call rfl rfl rfl ?_)
                                generalize hdd : (chV L hand).drop (wordV l a).length = d at *
                                refine R16Same_w (l := insV l a d) (l' := insV l a d) (h120.slT (H := N120) (fun _ => rfl) (by decide) (fun _ q => q)) subs_ (h124.slT (H := N124) (fun _ => rfl) (by decide) (fun _ q => q)) subs_ (by omega) ?_
                                rw [decide_eq_true (⟨rfl, rfl⟩ : a + ((d.length : Nat) : Int) = a + ((d.length : Nat) : Int) ∧ insV l a d = insV l a d)]
                                refine ⟨sel_, ?_⟩
                                refine f_b (guard_some rfl rfl rfl rfl) rfl rfl rfl rfl (op_not rfl ?_)
                                refine f_b (guard_none rfl) rfl rfl rfl rfl (op_pick rfl rfl rfl ?_)
                                refine f_end ?_
                                refine seq_normal ?_
                                refine w_condF rfl ?_
                                refine w_skip ?_
                                refine seq_normal ?_
                                refine w_seq ?_
                                refine w_seq ?_
                                refine w_region ?_
                                refine w_o rfl rfl rfl (op_move rfl ?_)
                                refine w_o rfl rfl rfl (op_move rfl ?_)
                                refine w_o rfl rfl rfl (op_lenC und_26 rfl hT.lenC ?_)
                                refine w_o rfl rfl rfl (op_eq rfl rfl ?_)
                                refine w_end ?_
                                refine seq_normal ?_
                                first | refine w_cond rfl (fun hI8 => ?_) (fun hI8 => ?_) | refine w_condB rfl (fun hI8 => ?_) (fun hI8 => ?_)
                                · refine w_seq ?_
                                  refine w_region ?_
                                  refine w_o rfl rfl rfl (op_assign rfl ?_)
                                  refine w_end ?_
                                  refine seq_normal ?_
                                  refine w_ret ?_
                                  refine seq_ret ?_
                                  refine block_ret ?_
                                  refine seq_ret ?_
                                  refine loop_ret ?_
                                  refine block_ret ?_
                                  refine seq_ret ?_
                                  exact ret_ret rfl (.refl _) rfl
                                · refine w_skip ?_
                                  refine seq_normal ?_
                                  refine w_seq ?_
                                  refine w_region ?_
                                  refine w_o rfl rfl rfl (op_move rfl ?_)
                                  refine w_o rfl rfl rfl (op_move rfl ?_)
                                  refine w_o rfl rfl rfl (op_indexT (enc := encB) (xs := ts) (j := i) und_26 siz_4 rfl rfl (mT.sub subs_) (fun _ => rfl) rfl (by omega) fun b134 o134 z134 h134 e134 => ?_)
                                  refine w_o rfl rfl rfl (op_load1 agg_4 rfl el_ ?_)
                                  refine w_end ?_
                                  refine seq_normal ?_
                                  first | refine w_cond rfl (fun hI9 => ?_) (fun hI9 => ?_) | refine w_condB rfl (fun hI9 => ?_) (fun hI9 => ?_)
                                  · refine w_seq ?_
                                    refine w_region ?_
                                    refine w_o rfl rfl rfl (op_move rfl ?_)
                                    refine w_o rfl rfl rfl (op_call rfl rfl rfl ?_)
                                    refine CallW.weak (H' := (b, offRow cx a cw cl hand) :: (b3, .row true 24 1 [c, .int .i64 a]) :: M) sel_ (offNext_w (L := L) (mL.sub subs_) (by omega) (by omega) ?_)
                                    rw [t1]
                                    refine w_end ?_
                                    refine seq_normal ?_
                                    refine w_seq ?_
                                    refine w_region ?_
                                    refine w_o rfl rfl rfl (op_move rfl ?_)
                                    refine w_o rfl rfl rfl (op_addi rfl rfl (by omega) (by omega) ?_)
                                    refine w_o rfl rfl rfl (op_assign rfl ?_)
                                    refine w_end ?_
                                    refine seq_normal ?_
                                    refine w_seq ?_
                                    refine w_region ?_
                                    refine w_o rfl rfl rfl (op_move rfl ?_)
                                    refine w_o rfl rfl rfl (op_move rfl ?_)
                                    refine w_o rfl rfl rfl (op_lenC und_25 rfl o1.lenC ?_)
                                    refine w_o rfl rfl rfl (op_eq rfl rfl ?_)
                                    refine w_end ?_
                                    refine seq_normal ?_
                                    first | refine w_cond rfl (fun hI10 => ?_) (fun hI10 => ?_) | refine w_condB rfl (fun hI10 => ?_) (fun hI10 => ?_)
                                    · rw [if_pos (show hand + 1 = (L.length : Int) by omega)]
                                      refine w_region ?_
                                      refine w_o rfl rfl rfl (op_assign rfl ?_)
                                      refine w_end ?_
                                      refine block_normal ?_
                                      refine seq_normal ?_
                                      refine w_region ?_
                                      refine w_o rfl rfl rfl (op_move rfl ?_)
                                      refine w_o rfl rfl rfl (op_addi rfl rfl (by omega) (by omega) ?_)
                                      refine w_o rfl rfl rfl (op_assign rfl ?_)
                                      refine w_end ?_
                                      first
                                        | exact loop_normal (k' := 20 - (i + 1)) (by omega) ⟨i + 1, -1, M, by omega, rfl, by omega, by omega, mL, mO, mx, mX, mW, mT, rfl, rfl⟩ env_ sel_
                                        | exact loop_normal (k' := 20 - (i + 1)) (by omega) ⟨i + 1, hand + 1, M, by omega, rfl, by omega, by omega, mL, mO, mx, mX, mW, mT, rfl, rfl⟩ env_ sel_
                                        | exact loop_normal (k' := 20 - (i + 1)) (by omega) ⟨i + 1, hand - 1, M, by omega, rfl, by omega, by omega, mL, mO, mx, mX, mW, mT, rfl, rfl⟩ env_ sel_
                                        | exact loop_normal (k' := 20 - (i + 1)) (by omega) ⟨i + 1, (os.length : Int) - 1, M, by omega, rfl, by omega, by omega, mL, mO, mx, mX, mW, mT, rfl, rfl⟩ env_ sel_
                                    · rw [if_neg (show ¬ hand + 1 = (L.length : Int) by omega)]
                                      refine w_skip ?_
                                      refine block_normal ?_
                                      refine seq_normal ?_
                                      refine w_region ?_
                                      refine w_o rfl rfl rfl (op_move rfl ?_)
                                      refine w_o rfl rfl rfl (op_addi rfl rfl (by omega) (by omega) ?_)
                                      refine w_o rfl rfl rfl (op_assign rfl ?_)
                                      refine w_end ?_
                                      first
                                        | exact loop_normal (k' := 20 - (i + 1)) (by omega) ⟨i + 1, -1, M, by omega, rfl, by omega, by omega, mL, mO, mx, mX, mW, mT, rfl, rfl⟩ env_ sel_
                                        | exact loop_normal (k' := 20 - (i + 1)) (by omega) ⟨i + 1, hand + 1, M, by omega, rfl, by omega, by omega, mL, mO, mx, mX, mW, mT, rfl, rfl⟩ env_ sel_
                                        | exact loop_normal (k' := 20 - (i + 1)) (by omega) ⟨i + 1, hand - 1, M, by omega, rfl, by omega, by omega, mL, mO, mx, mX, mW, mT, rfl, rfl⟩ env_ sel_
                                        | exact loop_normal (k' := 20 - (i + 1)) (by omega) ⟨i + 1, (os.length : Int) - 1, M, by omega, rfl, by omega, by omega, mL, mO, mx, mX, mW, mT, rfl, rfl⟩ env_ sel_
                                  · refine w_seq ?_
                                    refine w_region ?_
                                    refine w_o rfl rfl rfl (op_move rfl ?_)
                                    refine w_o rfl rfl rfl (op_call rfl rfl rfl ?_)
                                    refine CallW.weak (H' := (b, offRow cx a cw cl hand) :: (b3, .row true 24 1 [c, .int .i64 a]) :: M) sel_ (offPrev_w (L := L) (mL.sub subs_) (by omega) (by omega) ?_)
                                    rw [t2]
                                    refine w_end ?_
                                    refine seq_normal ?_
                                    refine w_seq ?_
                                    refine w_region ?_
                                    refine w_o rfl rfl rfl (op_move rfl ?_)
                                    refine w_o rfl rfl rfl (op_subi rfl rfl (by omega) (by omega) ?_)
                                    refine w_o rfl rfl rfl (op_assign rfl ?_)
                                    refine w_end ?_
                                    refine seq_normal ?_
                                    refine w_seq ?_
                                    refine w_region ?_
                                    refine w_o rfl rfl rfl (op_move rfl ?_)
                                    refine w_o rfl rfl rfl (op_lt rfl rfl ?_)
                                    refine w_end ?_
                                    refine seq_normal ?_
                                    first | refine w_cond rfl (fun hI11 => ?_) (fun hI11 => ?_) | refine w_condB rfl (fun hI11 => ?_) (fun hI11 => ?_)
                                    · rw [if_pos (show hand - 1 < -1 by omega), show (L.length : Int) - 1 = (os.length : Int) - 1 by omega]
                                      refine w_region ?_
                                      refine w_o rfl rfl rfl (op_move rfl ?_)
                                      refine w_o rfl rfl rfl (op_lenC und_25 rfl o1.lenC ?_)
                                      refine w_o rfl rfl rfl (op_subi rfl rfl (by omega) (by omega) ?_)
                                      refine w_o rfl rfl rfl (op_assign rfl ?_)
                                      refine w_end ?_
                                      refine block_normal ?_
                                      refine seq_normal ?_
                                      refine w_region ?_
                                      refine w_o rfl rfl rfl (op_move rfl ?_)
                                      refine w_o rfl rfl rfl (op_addi rfl rfl (by omega) (by omega) ?_)
                                      refine w_o rfl rfl rfl (op_assign rfl ?_)
                                      refine w_end ?_
                                      first
                                        | exact loop_normal (k' := 20 - (i + 1)) (by omega) ⟨i + 1, -1, M, by omega, rfl, by omega, by omega, mL, mO, mx, mX, mW, mT, rfl, rfl⟩ env_ sel_
                                        | exact loop_normal (k' := 20 - (i + 1)) (by omega) ⟨i + 1, hand + 1, M, by omega, rfl, by omega, by omega, mL, mO, mx, mX, mW, mT, rfl, rfl⟩ env_ sel_
                                        | exact loop_normal (k' := 20 - (i + 1)) (by omega) ⟨i + 1, hand - 1, M, by omega, rfl, by omega, by omega, mL, mO, mx, mX, mW, mT, rfl, rfl⟩ env_ sel_
                                        | exact loop_normal (k' := 20 - (i + 1)) (by omega) ⟨i + 1, (os.length : Int) - 1, M, by omega, rfl, by omega, by omega, mL, mO, mx, mX, mW, mT, rfl, rfl⟩ env_ sel_
                                    · rw [if_neg (show ¬ hand - 1 < -1 by omega)]
                                      refine w_skip ?_
                                      refine block_normal ?_
                                      refine seq_normal ?_
                                      refine w_region ?_
                                      refine w_o rfl rfl rfl (op_move rfl ?_)
                                      refine w_o rfl rfl rfl (op_addi rfl rfl (by omega) (by omega) ?_)
                                      refine w_o rfl rfl rfl (op_assign rfl ?_)
                                      refine w_end ?_
                                      first
                                        | exact loop_normal (k' := 20 - (i + 1)) (by omega) ⟨i + 1, -1, M, by omega, rfl, by omega, by omega, mL, mO, mx, mX, mW, mT, rfl, rfl⟩ env_ sel_
                                        | exact loop_normal (k' := 20 - (i + 1)) (by omega) ⟨i + 1, hand + 1, M, by omega, rfl, by omega, by omega, mL, mO, mx, mX, mW, mT, rfl, rfl⟩ env_ sel_
                                        | exact loop_normal (k' := 20 - (i + 1)) (by omega) ⟨i + 1, hand - 1, M, by omega, rfl, by omega, by omega, mL, mO, mx, mX, mW, mT, rfl, rfl⟩ env_ sel_
                                        | exact loop_normal (k' := 20 - (i + 1)) (by omega) ⟨i + 1, (os.length : Int) - 1, M, by omega, rfl, by omega, by omega, mL, mO, mx, mX, mW, mT, rfl, rfl⟩ env_ sel_
                            · refine w_exit ?_
                              refine seq_exit ?_
                              refine loop_exit ?_
                              refine block_hit rfl ?_
                              refine seq_normal ?_
                              refine w_seq ?_
                              refine w_region ?_
                              refine w_o rfl rfl rfl (op_assign rfl ?_)
                              refine w_end ?_
                              refine seq_normal ?_
                              refine w_ret ?_
                              exact ret_ret rfl (.refl _) rfl
                          · refine w_u rfl rfl rfl rfl rfl rfl ?_
                            refine w_u rfl rfl rfl rfl rfl rfl ?_
                            refine w_o rfl rfl rfl (op_pick rfl rfl rfl ?_)
                            refine w_end ?_
                            refine seq_normal ?_
                            refine w_condF rfl ?_
                            refine w_exit ?_
                            refine seq_exit ?_
                            refine loop_exit ?_
                            refine block_hit rfl ?_
                            refine seq_normal ?_
                            refine w_seq ?_
                            refine w_region ?_
                            refine w_o rfl rfl rfl (op_assign rfl ?_)
                            refine w_end ?_
                            refine seq_normal ?_
                            refine w_ret ?_
                            exact ret_ret rfl (.refl _) rfl
      · refine w_o rfl rfl rfl (op_move rfl ?_)
        refine w_o rfl rfl rfl (op_extract rfl rfl ?_)
        refine w_o rfl rfl rfl (op_extract rfl rfl ?_)
        refine w_o rfl rfl rfl (op_assign rfl ?_)
        refine w_o rfl rfl rfl (op_assign rfl ?_)
        refine w_end ?_
        refine seq_normal ?_
        refine w_seq ?_
        refine w_region ?_
        refine w_o rfl rfl rfl (op_loadA agg_24 siz_24 rfl rfl el_ ?_)
        refine w_o rfl rfl rfl (op_call rfl rfl rfl ?_)
        first | refine Word_w h subs_ (by omega) (fun _ => ?_) (fun q => nomatch (hr.symm.trans q : true = false)) | refine Word_w h subs_ (by omega) (fun q => nomatch (q.symm.trans hr : true = false)) (fun _ => ?_)
        refine w_o rfl rfl rfl (op_move rfl ?_)
        refine w_o rfl rfl rfl (op_extract rfl rfl ?_)
        refine w_o rfl rfl rfl (op_extract rfl rfl ?_)
        refine w_o rfl rfl rfl (op_assign rfl ?_)
        refine w_o rfl rfl rfl (op_assign rfl ?_)
        refine w_end ?_
        refine seq_normal ?_
        refine w_seq ?_
        refine w_seq ?_
        refine w_region ?_
        refine w_o rfl rfl rfl (op_loadA agg_24 siz_24 rfl rfl el_ ?_)
        refine w_o rfl rfl rfl (op_call rfl rfl rfl ?_)
        refine R17May_w h subs_ (by omega) ?_
        refine w_o rfl rfl rfl (op_not rfl ?_)
        refine w_end ?_
        refine seq_normal ?_
        first | refine w_cond rfl (fun hI2 => ?_) (fun hI2 => ?_) | refine w_condB rfl (fun hI2 => ?_) (fun hI2 => ?_)
        · try (first | (exfalso; simp [hr] at hI2; done))
          all_goals
            refine w_seq ?_
            refine w_region ?_
            refine w_o rfl rfl rfl (op_move rfl ?_)
            refine w_o rfl rfl rfl (op_nilEq rfl rfl rfl (by simp only [nilKind, und_29]) ?_)
            refine w_o rfl rfl rfl (op_move rfl ?_)
            first | refine w_known (t := 44) rfl (fun g44 => ?_) (fun g44 => ?_) | refine w_knownB (t := 44) rfl (fun g44 => ?_) (fun g44 => ?_)
            · try (first | exact absurd g44 (by decide) | exact absurd rfl g44)
              all_goals
                refine w_og rfl rfl rfl rfl rfl (op_move rfl ?_)
                refine w_og rfl rfl rfl rfl rfl (op_eq rfl rfl ?_)
                refine w_o rfl rfl rfl (op_pick rfl rfl rfl ?_)
                refine w_o rfl rfl rfl (op_move rfl ?_)
                first | refine w_known (t := 48) rfl (fun g48 => ?_) (fun g48 => ?_) | refine w_knownB (t := 48) rfl (fun g48 => ?_) (fun g48 => ?_)
                · try (first | exact absurd rfl g48 | exact absurd g48 (by decide))
                  all_goals
                    refine w_og rfl rfl rfl rfl rfl (op_move rfl ?_)
                    refine w_og rfl rfl rfl rfl rfl (op_eq rfl rfl ?_)
                    refine w_o rfl rfl rfl (op_pick rfl rfl rfl ?_)
                    refine w_o rfl rfl rfl (op_move rfl ?_)
                    first | refine w_known (t := 52) rfl (fun g52 => ?_) (fun g52 => ?_) | refine w_knownB (t := 52) rfl (fun g52 => ?_) (fun g52 => ?_)
                    · try (first | exact absurd rfl g52 | exact absurd g52 (by decide))
                      all_goals
                        refine w_og rfl rfl rfl rfl rfl (op_move rfl ?_)
                        refine w_og rfl rfl rfl rfl rfl (op_eq rfl rfl ?_)
                        refine w_o rfl rfl rfl (op_pick rfl rfl rfl ?_)
                        refine w_o rfl rfl rfl (op_assign rfl ?_)
                        refine w_end ?_
                        refine seq_normal ?_
                        refine w_ret ?_
                        refine seq_ret ?_
                        exact ret_ret rfl (.refl _) rfl
                    · try (first | exact absurd rfl g52 | exact absurd g52 (by decide))
                      all_goals
                        refine w_u rfl rfl rfl rfl rfl rfl ?_
                        refine w_u rfl rfl rfl rfl rfl rfl ?_
                        refine w_o rfl rfl rfl (op_pick rfl rfl rfl ?_)
                        refine w_o rfl rfl rfl (op_assign rfl ?_)
                        refine w_end ?_
                        refine seq_normal ?_
                        refine w_ret ?_
                        refine seq_ret ?_
                        exact ret_ret rfl (.refl _) rfl
                · try (first | exact absurd rfl g48 | exact absurd g48 (by decide))
                  all_goals
                    refine w_u rfl rfl rfl rfl rfl rfl ?_
                    refine w_u rfl rfl rfl rfl rfl rfl ?_
                    refine w_o rfl rfl rfl (op_pick rfl rfl rfl ?_)
                    refine w_o rfl rfl rfl (op_move rfl ?_)
                    refine w_u rfl rfl rfl rfl rfl rfl ?_
                    refine w_u rfl rfl rfl rfl rfl rfl ?_
                    refine w_o rfl rfl rfl (op_pick rfl rfl rfl ?_)
                    refine w_o rfl rfl rfl (op_assign rfl ?_)
                    refine w_end ?_
                    refine seq_normal ?_
                    refine w_ret ?_
                    refine seq_ret ?_
                    exact ret_ret rfl (.refl _) rfl
            · try (first | exact absurd g44 (by decide) | exact absurd rfl g44)
              all_goals
                refine w_u rfl rfl rfl rfl rfl rfl ?_
                refine w_u rfl rfl rfl rfl rfl rfl ?_
                refine w_o rfl rfl rfl (op_pick rfl rfl rfl ?_)
                refine w_o rfl rfl rfl (op_move rfl ?_)
                refine w_u rfl rfl rfl rfl rfl rfl ?_
                refine w_u rfl rfl rfl rfl rfl rfl ?_
                refine w_o rfl rfl rfl (op_pick rfl rfl rfl ?_)
                refine w_o rfl rfl rfl (op_move rfl ?_)
                refine w_u rfl rfl rfl rfl rfl rfl ?_
                refine w_u rfl rfl rfl rfl rfl rfl ?_
                refine w_o rfl rfl rfl (op_pick rfl rfl rfl ?_)
                refine w_o rfl rfl rfl (op_assign rfl ?_)
                refine w_end ?_
                refine seq_normal ?_
                refine w_ret ?_
                refine seq_ret ?_
                exact ret_ret rfl (.refl _) rfl
        · try (first | (exfalso; simp [hr] at hI2; done))
          all_goals
            have hra : 0 ≤ a ∧ a ≤ l.length := by
              have := of_decide_eq_true hr; exact ⟨this.1, this.2.1⟩
            have hok := offP_ok (wordV l a) C hlt.2 C.length (Nat.le_refl _)
            have hpl := offP_len (wordV l a) C C.length (Nat.le_refl _)
            have hwl : (wordV l a).length ≤ l.length := seg_len l _ _
            have hfr := fromF_le l a.toNat
            have hwn := wordV_len hra
            refine w_skip ?_
            refine seq_normal ?_
            refine w_seq ?_
            refine w_drawF ((b3, .row true 24 1 [c, .int .i64 a]) :: H) sel_ (by decide +kernel) (by decide +kernel) ?_
            refine f_b (guard_none rfl) rfl rfl rfl rfl (op_fieldAddr fa_24_0 rfl ?_)
            refine f_l (guard_none rfl) rfl rfl rfl sel_ (op_loadF agg_22 rfl el_ rfl rfl) ?_
            refine f_a (guard_none rfl) rfl rfl rfl (by decide +kernel) (op_loadA agg_24 siz_24 rfl rfl el_ ?_)
            refine f_m (guard_none rfl) rfl rfl rfl (op_call rfl rfl rfl ?_)
            refine R26From_w h subs_ (by omega) hra ?_
            refine ⟨sel_, ?_⟩
            refine f_b (guard_none rfl) rfl rfl rfl rfl (op_fieldAddr fa_24_1 rfl ?_)
            refine f_l (guard_none rfl) rfl rfl rfl sel_ (op_loadF agg_3 rfl el_ rfl rfl) ?_
            refine f_sliceT (enc := encS) (xs := l) (guard_none rfl) rfl rfl rfl sel_ elm_22 siz_47 (by decide) rfl h (fun y hy => List.Mem.tail _ hy) (fun _ => rfl) rfl rfl (by omega) (by omega) (by omega) fun c62 h62 => ?_
            have e62 : (l.drop ((fromF l a.toNat : Nat) : Int).toNat).take (a.toNat - ((fromF l a.toNat : Nat) : Int).toNat) = wordV l a := rfl
            rw [e62] at h62
            refine f_b (guard_none rfl) rfl rfl rfl rfl (op_move rfl ?_)
            refine f_m (guard_none rfl) rfl rfl rfl (op_call rfl rfl rfl ?_)
            refine R26Offered_w (w := wordV l a) h62 subs_ (hC.sub subs_) (by omega) (by omega) hlt.2 fun c64 N64 hO => ?_
            rw [show offP (wordV l a) C C.length = offL (wordV l a) C from rfl] at hok hpl
            generalize hLL : offL (wordV l a) C = L at *
            have hO9 := hO
            obtain ⟨os, o1, o2, o3⟩ := hO9
            refine ⟨sel_, ?_⟩
            refine f_b (guard_none rfl) rfl rfl rfl rfl (op_assign rfl ?_)
            refine f_end ?_
            refine seq_normal ?_
            refine w_seq ?_
            refine w_seq ?_
            refine w_region ?_
            refine w_o rfl rfl rfl (op_move rfl ?_)
            refine w_o rfl rfl rfl (op_loadA agg_24 siz_24 rfl rfl el_ ?_)
            refine w_o rfl rfl rfl (op_call rfl rfl rfl ?_)
            refine R26From_w h subs_ (by omega) hra ?_
            refine w_o rfl rfl rfl (op_ne rfl rfl ?_)
            refine w_o rfl rfl rfl (op_move rfl ?_)
            first | refine w_known (t := 69) rfl (fun g69 => ?_) (fun g69 => ?_) | refine w_knownB (t := 69) rfl (fun g69 => ?_) (fun g69 => ?_)
            · exact absurd rfl g69 --closed
            · refine w_og rfl rfl rfl rfl rfl (op_move rfl ?_)
              refine w_og rfl rfl rfl rfl rfl (op_fieldAddr fa_24_1 rfl ?_)
              refine w_og rfl rfl rfl rfl rfl (op_loadF agg_3 rfl el_ rfl ?_)
              refine w_og rfl rfl rfl rfl rfl (op_ne rfl rfl ?_)
              refine w_o rfl rfl rfl (op_pick rfl rfl rfl ?_)
              refine w_end ?_
              refine seq_normal ?_
              refine w_condN rfl (by omega) ?_
              refine w_skip ?_
              refine seq_normal ?_
              refine w_seq ?_
              refine w_seq ?_
              refine w_region ?_
              refine w_o rfl rfl rfl (op_move rfl ?_)
              refine w_o rfl rfl rfl (op_lenC und_25 rfl o1.lenC ?_)
              refine w_o rfl rfl rfl (op_eq rfl rfl ?_)
              refine w_end ?_
              refine seq_normal ?_
              first | refine w_cond rfl (fun hI4 => ?_) (fun hI4 => ?_) | refine w_condB rfl (fun hI4 => ?_) (fun hI4 => ?_)
              · try (omega)
                all_goals
                  refine w_seq ?_
                  refine w_region ?_
                  refine w_o rfl rfl rfl (op_move rfl ?_)
                  refine w_o rfl rfl rfl (op_nilEq rfl rfl rfl (by simp only [nilKind, und_29]) ?_)
                  refine w_o rfl rfl rfl (op_move rfl ?_)
                  first | refine w_known (t := 80) rfl (fun g80 => ?_) (fun g80 => ?_) | refine w_knownB (t := 80) rfl (fun g80 => ?_) (fun g80 => ?_)
                  · try (first | exact absurd g80 (by decide) | exact absurd rfl g80)
                    all_goals
                      refine w_og rfl rfl rfl rfl rfl (op_move rfl ?_)
                      refine w_og rfl rfl rfl rfl rfl (op_eq rfl rfl ?_)
                      refine w_o rfl rfl rfl (op_pick rfl rfl rfl ?_)
                      refine w_o rfl rfl rfl (op_assign rfl ?_)
                      refine w_end ?_
                      refine seq_normal ?_
                      refine w_ret ?_
                      refine seq_ret ?_
                      exact ret_ret rfl (.refl _) rfl
                  · try (first | exact absurd g80 (by decide) | exact absurd rfl g80)
                    all_goals
                      refine w_u rfl rfl rfl rfl rfl rfl ?_
                      refine w_u rfl rfl rfl rfl rfl rfl ?_
                      refine w_o rfl rfl rfl (op_pick rfl rfl rfl ?_)
                      refine w_o rfl rfl rfl (op_assign rfl ?_)
                      refine w_end ?_
                      refine seq_normal ?_
                      refine w_ret ?_
                      refine seq_ret ?_
                      exact ret_ret rfl (.refl _) rfl
              · try (omega)
                all_goals
                  refine w_skip ?_
                  refine seq_normal ?_
                  refine w_seq ?_
                  refine w_seq ?_
                  refine w_region ?_
                  refine w_o rfl rfl rfl (op_move rfl ?_)
                  refine w_o rfl rfl rfl (op_ne rfl rfl ?_)
                  refine w_o rfl rfl rfl (op_move rfl ?_)
                  first | refine w_known (t := 86) rfl (fun g86 => ?_) (fun g86 => ?_) | refine w_knownB (t := 86) rfl (fun g86 => ?_) (fun g86 => ?_)
                  · exact absurd rfl g86 --closed
                  · refine w_og rfl rfl rfl rfl rfl (op_move rfl ?_)
                    refine w_og rfl rfl rfl rfl rfl (op_nilEq rfl rfl rfl (by simp only [nilKind, und_29]) ?_)
                    refine w_o rfl rfl rfl (op_pick rfl rfl rfl ?_)
                    refine w_o rfl rfl rfl (op_move rfl ?_)
                    first | refine w_known (t := 90) rfl (fun g90 => ?_) (fun g90 => ?_) | refine w_knownB (t := 90) rfl (fun g90 => ?_) (fun g90 => ?_)
                    · try (first | exact absurd rfl g90 | exact absurd g90 (by decide))
                      all_goals
                        refine w_u rfl rfl rfl rfl rfl rfl ?_
                        refine w_u rfl rfl rfl rfl rfl rfl ?_
                        refine w_u rfl rfl rfl rfl rfl rfl ?_
                        refine w_u rfl rfl rfl rfl rfl rfl ?_
                        refine w_u rfl rfl rfl rfl rfl rfl ?_
                        refine w_o rfl rfl rfl (op_pick rfl rfl rfl ?_)
                        refine w_o rfl rfl rfl (op_move rfl ?_)
                        refine w_u rfl rfl rfl rfl rfl rfl ?_
                        refine w_u rfl rfl rfl rfl rfl rfl ?_
                        refine w_u rfl rfl rfl rfl rfl rfl ?_
                        refine w_u rfl rfl rfl rfl rfl rfl ?_
                        refine w_u rfl rfl rfl rfl rfl rfl ?_
                        refine w_o rfl rfl rfl (op_pick rfl rfl rfl ?_)
                        refine w_end ?_
                        refine seq_normal ?_
                        refine w_condT rfl ?_
                        refine w_seq ?_
                        refine w_region ?_
                        refine w_o rfl rfl rfl (op_assign rfl ?_)
                        refine w_end ?_
                        refine seq_normal ?_
                        refine w_ret ?_
                        refine seq_ret ?_
                        exact ret_ret rfl (.refl _) (by assumption)
                    · try (first | exact absurd rfl g90 | exact absurd g90 (by decide))
                      all_goals
                        refine w_og rfl rfl rfl rfl rfl (op_move rfl ?_)
                        refine w_og rfl rfl rfl rfl rfl (op_call rfl rfl rfl ?_)
                        refine offAll_w (b := b) (L := L) mem_ (hL.sub subs_) (by omega) (fun x hx => by have := (hok.1 x hx).1; omega) fun c92 N92 hA => ?_
                        refine w_og rfl rfl rfl rfl rfl (op_move rfl ?_)
                        refine w_og rfl rfl rfl rfl rfl (op_call rfl rfl rfl ?_)
                        refine Lists_w hA (hO.sub subs_) (by omega) (fun x hx => by have := (hok.1 x hx).1; omega) ?_
                        refine w_og rfl rfl rfl rfl rfl (op_not rfl ?_)
                        refine w_o rfl rfl rfl (op_pick rfl rfl rfl ?_)
                        refine w_o rfl rfl rfl (op_move rfl ?_)
                        refine w_og rfl rfl rfl rfl rfl (op_move rfl ?_)
                        refine w_og rfl rfl rfl rfl rfl (op_call rfl rfl rfl ?_)
                        refine offLen_w (b := b) (L := L) mem_ (hL.sub subs_) ?_
                        refine w_og rfl rfl rfl rfl rfl (op_move rfl ?_)
                        refine w_og rfl rfl rfl rfl rfl (op_lenC und_25 rfl o1.lenC ?_)
                        refine w_og rfl rfl rfl rfl rfl (op_ne rfl rfl ?_)
                        refine w_o rfl rfl rfl (op_pick rfl rfl rfl ?_)
                        refine w_end ?_
                        refine seq_normal ?_
                        refine w_condN rfl (by omega) ?_
                        refine w_skip ?_
                        refine seq_normal ?_
                        refine w_seq ?_
                        refine w_region ?_
                        refine w_o rfl rfl rfl (op_assign rfl ?_)
                        refine w_end ?_
                        refine seq_normal ?_
                        refine w_seq ?_
                        refine w_seq ?_
                        refine w_region ?_
                        refine w_o rfl rfl rfl (op_assign rfl ?_)
                        refine w_end ?_
                        refine seq_normal ?_
                        refine w_block ?_
                        refine w_loop (fun q e H' => ∃ (i : Nat) (hand : Int) (M : Hyp), i ≤ 20 ∧ q = 20 - i ∧ -1 ≤ hand ∧ hand < L.length ∧ KVo M L cl ∧ KVo M L c64 ∧ Sl M 47 2 c l.length (l.flatMap encS) ∧ Sl M 47 2 cx l.length (l.flatMap encS) ∧ Sl M 47 2 cw (wordV l a).length ((wordV l a).flatMap encS) ∧ Sl M 4 1 ct ts.length (ts.flatMap encB) ∧ H' = (b, offRow cx a cw cl hand) :: (b3, .row true 24 1 [c, .int .i64 a]) :: M ∧ e = [(2, .one (.c ct)), (3, ptrV b3 0), (7, ptrV b 0), (11, .one (.c c64)), (12, vI hand), (13, vI (i : Nat))]) ?_ ?_
                        · exact ⟨_, _, _, ⟨0, -1, N64 ++ (N ++ H), Nat.zero_le _, rfl, by omega, by omega, hL.sub subs_, hO.sub subs_, h.sub subs_, hX.sub subs_, hW.sub subs_, hT.sub subs_, rfl, rfl⟩, env_, sel_⟩
                        · rintro q e H' ⟨i, hand, M, hi, rfl, hh1, hh2, mL, mO, mx, mX, mW, mT, rfl, rfl⟩
                          have hge := chV_ge hok (by omega) (hand := hand) ⟨by omega, by omega⟩
                          have hdl : ((chV L hand).drop (wordV l a).length).length ≤ 40 := by rw [List.length_drop]; omega
                          have hin := insV_len (d := (chV L hand).drop (wordV l a).length) hra
                          have t1 := turnV_next hh1 hh2
                          have t2 := turnV_prev hh1 hh2
                          refine w_seq ?_
                          refine w_seq ?_
                          refine w_region ?_
                          refine w_o rfl rfl rfl (op_move rfl ?_)
                          refine w_o rfl rfl rfl (op_move rfl ?_)
                          refine w_o rfl rfl rfl (op_lenC und_26 rfl hT.lenC ?_)
                          refine w_o rfl rfl rfl (op_le rfl rfl ?_)
                          refine w_o rfl rfl rfl (op_move rfl ?_)
                          first | refine w_known (t := 108) rfl (fun g108 => ?_) (fun g108 => ?_) | refine w_knownB (t := 108) rfl (fun g108 => ?_) (fun g108 => ?_)
                          · refine w_og rfl rfl rfl rfl rfl (op_move rfl ?_)
                            refine w_og rfl rfl rfl rfl rfl (op_lt rfl rfl ?_)
                            refine w_o rfl rfl rfl (op_pick rfl rfl rfl ?_)
                            refine w_end ?_
                            refine seq_normal ?_
                            first | refine w_cond rfl (fun hI6 => ?_) (fun hI6 => ?_) | refine w_condB rfl (fun hI6 => ?_) (fun hI6 => ?_)
                            · refine w_skip ?_
                              refine seq_normal ?_
                              refine w_seq ?_
                              refine w_block ?_
                              refine w_seq ?_
                              refine w_seq ?_
                              refine w_drawF ((b, offRow cx a cw cl hand) :: (b3, .row true 24 1 [c, .int .i64 a]) :: M) sel_ (by decide +kernel) (by decide +kernel) ?_
                              refine f_b (guard_none rfl) rfl rfl rfl rfl (op_move rfl ?_)
                              refine f_m (guard_none rfl) rfl rfl rfl (op_call rfl rfl rfl ?_)
                              refine offHand_w (b := b) mem_ ?_
                              refine ⟨sel_, ?_⟩
                              refine f_b (guard_none rfl) rfl rfl rfl rfl (op_move rfl ?_)
                              refine f_b (guard_none rfl) rfl rfl rfl rfl (op_ne rfl rfl ?_)
                              refine f_b (guard_none rfl) rfl rfl rfl rfl (op_move rfl ?_)
                              first | refine f_known (t := 118) rfl (fun g118 => ?_) (fun g118 => ?_) | refine f_knownB (t := 118) rfl (fun g118 => ?_) (fun g118 => ?_)
                              · exact absurd rfl g118 --closed
                              · refine f_b (guard_some rfl rfl rfl rfl) rfl rfl rfl rfl (op_move rfl ?_)
                                refine f_m (guard_some rfl rfl rfl rfl) rfl rfl rfl (op_call rfl rfl rfl ?_)
                                refine offLine_w (b := b) (L := L) (w := wordV l a) mem_ (mL.sub subs_) (mX.sub subs_) (mW.sub subs_) (by omega) hra (by omega) (fun x hx => by have := (hok.1 x hx).1; omega) (by omega) hge.1 fun c120 N120 h120 => ?_
                                refine ⟨sel_, ?_⟩
                                refine f_l (guard_some rfl rfl rfl rfl) rfl rfl rfl sel_ (op_loadA agg_24 siz_24 rfl rfl el_ rfl) ?_
                                refine f_b (guard_some rfl rfl rfl rfl) rfl rfl rfl rfl (op_move rfl ?_)
                                refine f_b (guard_some rfl rfl rfl rfl) rfl rfl rfl rfl (op_move rfl ?_)
                                refine f_m (guard_some rfl rfl rfl rfl) rfl rfl rfl (op_call rfl rfl rfl ?_)
                                refine R26Line_w (H1 := []) (L := L) (wl := (wordV l a).length) (mx.sub subs_) (mO.sub subs_) (by omega) hra hwn (by omega) (fun x hx => by have := (hok.1 x hx).1; omega) (by omega) hge.1 fun c124 N124 h124 => ?_
                                refine ⟨sel_, ?_⟩
                                refine f_m (guard_some rfl rfl rfl rfl) rfl rfl rfl (op_call rfl rfl rfl ?_)
                                generalize hdd : (chV L hand).drop (wordV l a).length = d at *
                                refine R16Same_w (l := insV l a d) (l' := insV l a d) (h120.slT (H := N120) (fun _ => rfl) (by decide) (fun _ q => q)) subs_ (h124.slT (H := N124) (fun _ => rfl) (by decide) (fun _ q => q)) subs_ (by omega) ?_
                                rw [decide_eq_true (⟨rfl, rfl⟩ : a + ((d.length : Nat) : Int) = a + ((d.length : Nat) : Int) ∧ insV l a d = insV l a d)]
                                refine ⟨sel_, ?_⟩
                                refine f_b (guard_some rfl rfl rfl rfl) rfl rfl rfl rfl (op_not rfl ?_)
                                refine f_b (guard_none rfl) rfl rfl rfl rfl (op_pick rfl rfl rfl ?_)
                                refine f_end ?_
                                refine seq_normal ?_
                                refine w_condF rfl ?_
                                refine w_skip ?_
                                refine seq_normal ?_
                                refine w_seq ?_
                                refine w_seq ?_
                                refine w_region ?_
                                refine w_o rfl rfl rfl (op_move rfl ?_)
                                refine w_o rfl rfl rfl (op_move rfl ?_)
                                refine w_o rfl rfl rfl (op_lenC und_26 rfl hT.lenC ?_)
                                refine w_o rfl rfl rfl (op_eq rfl rfl ?_)
                                refine w_end ?_
                                refine seq_normal ?_
                                first | refine w_cond rfl (fun hI8 => ?_) (fun hI8 => ?_) | refine w_condB rfl (fun hI8 => ?_) (fun hI8 => ?_)
                                · refine w_seq ?_
                                  refine w_region ?_
                                  refine w_o rfl rfl rfl (op_assign rfl ?_)
                                  refine w_end ?_
                                  refine seq_normal ?_
                                  refine w_ret ?_
                                  refine seq_ret ?_
                                  refine block_ret ?_
                                  refine seq_ret ?_
                                  refine loop_ret ?_
                                  refine block_ret ?_
                                  refine seq_ret ?_
                                  exact ret_ret rfl (.refl _) rfl
                                · refine w_skip ?_
                                  refine seq_normal ?_
                                  refine w_seq ?_
                                  refine w_region ?_
                                  refine w_o rfl rfl rfl (op_move rfl ?_)
                                  refine w_o rfl rfl rfl (op_move rfl ?_)
                                  refine w_o rfl rfl rfl (op_indexT (enc := encB) (xs := ts) (j := i) und_26 siz_4 rfl rfl (mT.sub subs_) (fun _ => rfl) rfl (by omega) fun b134 o134 z134 h134 e134 => ?_)
                                  refine w_o rfl rfl rfl (op_load1 agg_4 rfl el_ ?_)
                                  refine w_end ?_
                                  refine seq_normal ?_
                                  first | refine w_cond rfl (fun hI9 => ?_) (fun hI9 => ?_) | refine w_condB rfl (fun hI9 => ?_) (fun hI9 => ?_)
                                  · refine w_seq ?_
                                    refine w_region ?_
                                    refine w_o rfl rfl rfl (op_move rfl ?_)
                                    refine w_o rfl rfl rfl (op_call rfl rfl rfl ?_)
                                    refine CallW.weak (H' := (b, offRow cx a cw cl hand) :: (b3, .row true 24 1 [c, .int .i64 a]) :: M) sel_ (offNext_w (L := L) (mL.sub subs_) (by omega) (by omega) ?_)
                                    rw [t1]
                                    refine w_end ?_
                                    refine seq_normal ?_
                                    refine w_seq ?_
                                    refine w_region ?_
                                    refine w_o rfl rfl rfl (op_move rfl ?_)
                                    refine w_o rfl rfl rfl (op_addi rfl rfl (by omega) (by omega) ?_)
                                    refine w_o rfl rfl rfl (op_assign rfl ?_)
                                    refine w_end ?_
                                    refine seq_normal ?_
                                    refine w_seq ?_
                                    refine w_region ?_
                                    refine w_o rfl rfl rfl (op_move rfl ?_)
                                    refine w_o rfl rfl rfl (op_move rfl ?_)
                                    refine w_o rfl rfl rfl (op_lenC und_25 rfl o1.lenC ?_)
                                    refine w_o rfl rfl rfl (op_eq rfl rfl ?_)
                                    refine w_end ?_
                                    refine seq_normal ?_
                                    first | refine w_cond rfl (fun hI10 => ?_) (fun hI10 => ?_) | refine w_condB rfl (fun hI10 => ?_) (fun hI10 => ?_)
                                    · rw [if_pos (show hand + 1 = (L.length : Int) by omega)]
                                      refine w_region ?_
                                      refine w_o rfl rfl rfl (op_assign rfl ?_)
                                      refine w_end ?_
                                      refine block_normal ?_
                                      refine seq_normal ?_
                                      refine w_region ?_
                                      refine w_o rfl rfl rfl (op_move rfl ?_)
                                      refine w_o rfl rfl rfl (op_addi rfl rfl (by omega) (by omega) ?_)
                                      refine w_o rfl rfl rfl (op_assign rfl ?_)
                                      refine w_end ?_
                                      first
                                        | exact loop_normal (k' := 20 - (i + 1)) (by omega) ⟨i + 1, -1, M, by omega, rfl, by omega, by omega, mL, mO, mx, mX, mW, mT, rfl, rfl⟩ env_ sel_
                                        | exact loop_normal (k' := 20 - (i + 1)) (by omega) ⟨i + 1, hand + 1, M, by omega, rfl, by omega, by omega, mL, mO, mx, mX, mW, mT, rfl, rfl⟩ env_ sel_
                                        | exact loop_normal (k' := 20 - (i + 1)) (by omega) ⟨i + 1, hand - 1, M, by omega, rfl, by omega, by omega, mL, mO, mx, mX, mW, mT, rfl, rfl⟩ env_ sel_
                                        | exact loop_normal (k' := 20 - (i + 1)) (by omega) ⟨i + 1, (os.length : Int) - 1, M, by omega, rfl, by omega, by omega, mL, mO, mx, mX, mW, mT, rfl, rfl⟩ env_ sel_
                                    · rw [if_neg (show ¬ hand + 1 = (L.length : Int) by omega)]
                                      refine w_skip ?_
                                      refine block_normal ?_
                                      refine seq_normal ?_
                                      refine w_region ?_
                                      refine w_o rfl rfl rfl (op_move rfl ?_)
                                      refine w_o rfl rfl rfl (op_addi rfl rfl (by omega) (by omega) ?_)
                                      refine w_o rfl rfl rfl (op_assign rfl ?_)
                                      refine w_end ?_
                                      first
                                        | exact loop_normal (k' := 20 - (i + 1)) (by omega) ⟨i + 1, -1, M, by omega, rfl, by omega, by omega, mL, mO, mx, mX, mW, mT, rfl, rfl⟩ env_ sel_
                                        | exact loop_normal (k' := 20 - (i + 1)) (by omega) ⟨i + 1, hand + 1, M, by omega, rfl, by omega, by omega, mL, mO, mx, mX, mW, mT, rfl, rfl⟩ env_ sel_
                                        | exact loop_normal (k' := 20 - (i + 1)) (by omega) ⟨i + 1, hand - 1, M, by omega, rfl, by omega, by omega, mL, mO, mx, mX, mW, mT, rfl, rfl⟩ env_ sel_
                                        | exact loop_normal (k' := 20 - (i + 1)) (by omega) ⟨i + 1, (os.length : Int) - 1, M, by omega, rfl, by omega, by omega, mL, mO, mx, mX, mW, mT, rfl, rfl⟩ env_ sel_
                                  · refine w_seq ?_
                                    refine w_region ?_
                                    refine w_o rfl rfl rfl (op_move rfl ?_)
                                    refine w_o rfl rfl rfl (op_call rfl rfl rfl ?_)
                                    refine CallW.weak (H' := (b, offRow cx a cw cl hand) :: (b3, .row true 24 1 [c, .int .i64 a]) :: M) sel_ (offPrev_w (L := L) (mL.sub subs_) (by omega) (by omega) ?_)
                                    rw [t2]
                                    refine w_end ?_
                                    refine seq_normal ?_
                                    refine w_seq ?_
                                    refine w_region ?_
                                    refine w_o rfl rfl rfl (op_move rfl ?_)
                                    refine w_o rfl rfl rfl (op_subi rfl rfl (by omega) (by omega) ?_)
                                    refine w_o rfl rfl rfl (op_assign rfl ?_)
                                    refine w_end ?_
                                    refine seq_normal ?_
                                    refine w_seq ?_
                                    refine w_region ?_
                                    refine w_o rfl rfl rfl (op_move rfl ?_)
                                    refine w_o rfl rfl rfl (op_lt rfl rfl ?_)
                                    refine w_end ?_
                                    refine seq_normal ?_
                                    first | refine w_cond rfl (fun hI11 => ?_) (fun hI11 => ?_) | refine w_condB rfl (fun hI11 => ?_) (fun hI11 => ?_)
                                    · rw [if_pos (show hand - 1 < -1 by omega), show (L.length : Int) - 1 = (os.length : Int) - 1 by omega]
                                      refine w_region ?_
                                      refine w_o rfl rfl rfl (op_move rfl ?_)
                                      refine w_o rfl rfl rfl (op_lenC und_25 rfl o1.lenC ?_)
                                      refine w_o rfl rfl rfl (op_subi rfl rfl (by omega) (by omega) ?_)
                                      refine w_o rfl rfl rfl (op_assign rfl ?_)
                                      refine w_end ?_
                                      refine block_normal ?_
                                      refine seq_normal ?_
                                      refine w_region ?_
                                      refine w_o rfl rfl rfl (op_move rfl ?_)
                                      refine w_o rfl rfl rfl (op_addi rfl rfl (by omega) (by omega) ?_)
                                      refine w_o rfl rfl rfl (op_assign rfl ?_)
                                      refine w_end ?_
                                      first
                                        | exact loop_normal (k' := 20 - (i + 1)) (by omega) ⟨i + 1, -1, M, by omega, rfl, by omega, by omega, mL, mO, mx, mX, mW, mT, rfl, rfl⟩ env_ sel_
                                        | exact loop_normal (k' := 20 - (i + 1)) (by omega) ⟨i + 1, hand + 1, M, by omega, rfl, by omega, by omega, mL, mO, mx, mX, mW, mT, rfl, rfl⟩ env_ sel_
                                        | exact loop_normal (k' := 20 - (i + 1)) (by omega) ⟨i + 1, hand - 1, M, by omega, rfl, by omega, by omega, mL, mO, mx, mX, mW, mT, rfl, rfl⟩ env_ sel_
                                        | exact loop_normal (k' := 20 - (i + 1)) (by omega) ⟨i + 1, (os.length : Int) - 1, M, by omega, rfl, by omega, by omega, mL, mO, mx, mX, mW, mT, rfl, rfl⟩ env_ sel_
                                    · rw [if_neg (show ¬ hand - 1 < -1 by omega)]
                                      refine w_skip ?_
                                      refine block_normal ?_
                                      refine seq_normal ?_
                                      refine w_region ?_
                                      refine w_o rfl rfl rfl (op_move rfl ?_)
                                      refine w_o rfl rfl rfl (op_addi rfl rfl (by omega) (by omega) ?_)
                                      refine w_o rfl rfl rfl (op_assign rfl ?_)
                                      refine w_end ?_
                                      first
                                        | exact loop_normal (k' := 20 - (i + 1)) (by omega) ⟨i + 1, -1, M, by omega, rfl, by omega, by omega, mL, mO, mx, mX, mW, mT, rfl, rfl⟩ env_ sel_
                                        | exact loop_normal (k' := 20 - (i + 1)) (by omega) ⟨i + 1, hand + 1, M, by omega, rfl, by omega, by omega, mL, mO, mx, mX, mW, mT, rfl, rfl⟩ env_ sel_
                                        | exact loop_normal (k' := 20 - (i + 1)) (by omega) ⟨i + 1, hand - 1, M, by omega, rfl, by omega, by omega, mL, mO, mx, mX, mW, mT, rfl, rfl⟩ env_ sel_
                                        | exact loop_normal (k' := 20 - (i + 1)) (by omega) ⟨i + 1, (os.length : Int) - 1, M, by omega, rfl, by omega, by omega, mL, mO, mx, mX, mW, mT, rfl, rfl⟩ env_ sel_
                            · refine w_exit ?_
                              refine seq_exit ?_
                              refine loop_exit ?_
                              refine block_hit rfl ?_
                              refine seq_normal ?_
                              refine w_seq ?_
                              refine w_region ?_
                              refine w_o rfl rfl rfl (op_assign rfl ?_)
                              refine w_end ?_
                              refine seq_normal ?_
                              refine w_ret ?_
                              exact ret_ret rfl (.refl _) rfl
                          · refine w_u rfl rfl rfl rfl rfl rfl ?_
                            refine w_u rfl rfl rfl rfl rfl rfl ?_
                            refine w_o rfl rfl rfl (op_pick rfl rfl rfl ?_)
                            refine w_end ?_
                            refine seq_normal ?_
                            refine w_condF rfl ?_
                            refine w_exit ?_
                            refine seq_exit ?_
                            refine loop_exit ?_
                            refine block_hit rfl ?_
                            refine seq_normal ?_
                            refine w_seq ?_
                            refine w_region ?_
                            refine w_o rfl rfl rfl (op_assign rfl ?_)
                            refine w_end ?_
                            refine seq_normal ?_
                            refine w_ret ?_
                            exact ret_ret rfl (.refl _) rfl
end Go.Proofs.Ytlbbnimobbheiaa.AM.B
