/- The law ViewText: it answers true, whatever comes in. -/
import Derived.Test.YtkmdofkajcehpaaAX
import Derived.Test.YtkmdofkajcehpaaBviewtext
set_option linter.unusedVariables false
set_option linter.unusedSimpArgs false
set_option maxRecDepth 10000
set_option maxHeartbeats 4000000
namespace Go.Proofs.Ytkmdofkajcehpaa.AM.B
open Go Go.RowKit
theorem txtV_top (v : Int) : (txtV v).size ≤ 10 := Go.Proofs.Ytkmdofkajcehpaa.P.showT_top v
theorem ViewText_law {H : Hyp} {c c' : Cell} {p l : List Sign} (h : Sl H 23 2 c p.length (p.flatMap encS)) (h' : Sl H 23 2 c' l.length (l.flatMap encS)) : CallW Try.prog Xs 8 [.one (.c c), .one (.c c')] H (fun v _ => v = vB true) := by
  refine call_of (n := 63) (fun _ => rfl) Try.func8 rfl rfl ?_
  refine w_seq ?_
  refine w_region ?_
  refine w_o rfl rfl rfl (op_assign rfl ?_)
  refine w_end ?_
  refine seq_normal ?_
  refine w_seq ?_
  refine w_seq ?_
  refine w_region ?_
  refine w_o rfl rfl rfl (op_move rfl ?_)
  refine w_o rfl rfl rfl (op_lenC und_36 rfl h.lenC ?_)
  refine w_o rfl rfl rfl (op_gt rfl rfl ?_)
  refine w_o rfl rfl rfl (op_move rfl ?_)
  first | refine w_known (t := 13) rfl (fun g13 => ?_) (fun g13 => ?_) | refine w_knownB (t := 13) rfl (fun g13 => ?_) (fun g13 => ?_)
  · refine w_u rfl rfl rfl rfl rfl rfl ?_
    refine w_u rfl rfl rfl rfl rfl rfl ?_
    refine w_u rfl rfl rfl rfl rfl rfl ?_
    refine w_o rfl rfl rfl (op_pick rfl rfl rfl ?_)
    refine w_o rfl rfl rfl (op_move rfl ?_)
    refine w_u rfl rfl rfl rfl rfl rfl ?_
    refine w_u rfl rfl rfl rfl rfl rfl ?_
    refine w_u rfl rfl rfl rfl rfl rfl ?_
    refine w_o rfl rfl rfl (op_pick rfl rfl rfl ?_)
    refine w_o rfl rfl rfl (op_move rfl ?_)
    refine w_u rfl rfl rfl rfl rfl rfl ?_
    refine w_u rfl rfl rfl rfl rfl rfl ?_
    refine w_u rfl rfl rfl rfl rfl rfl ?_
    refine w_o rfl rfl rfl (op_pick rfl rfl rfl ?_)
    refine w_end ?_
    refine seq_normal ?_
    refine w_condT rfl ?_
    refine w_seq ?_
    refine w_region ?_
    refine w_o rfl rfl rfl (op_call rfl rfl rfl ?_)
    refine awake_w ?_
    refine w_o rfl rfl rfl (op_assign rfl ?_)
    refine w_end ?_
    refine seq_normal ?_
    refine w_ret ?_
    refine seq_ret ?_
    exact ret_ret rfl sel_ rfl
  · refine w_og rfl rfl rfl rfl rfl (op_move rfl ?_)
    refine w_og rfl rfl rfl rfl rfl (op_lenC und_36 rfl h'.lenC ?_)
    refine w_og rfl rfl rfl rfl rfl (op_gt rfl rfl ?_)
    refine w_o rfl rfl rfl (op_pick rfl rfl rfl ?_)
    refine w_o rfl rfl rfl (op_move rfl ?_)
    first | refine w_known (t := 18) rfl (fun g18 => ?_) (fun g18 => ?_) | refine w_knownB (t := 18) rfl (fun g18 => ?_) (fun g18 => ?_)
    · refine w_u rfl rfl rfl rfl rfl rfl ?_
      refine w_u rfl rfl rfl rfl rfl rfl ?_
      refine w_u rfl rfl rfl rfl rfl rfl ?_
      refine w_o rfl rfl rfl (op_pick rfl rfl rfl ?_)
      refine w_o rfl rfl rfl (op_move rfl ?_)
      refine w_u rfl rfl rfl rfl rfl rfl ?_
      refine w_u rfl rfl rfl rfl rfl rfl ?_
      refine w_u rfl rfl rfl rfl rfl rfl ?_
      refine w_o rfl rfl rfl (op_pick rfl rfl rfl ?_)
      refine w_end ?_
      refine seq_normal ?_
      refine w_condT rfl ?_
      refine w_seq ?_
      refine w_region ?_
      refine w_o rfl rfl rfl (op_call rfl rfl rfl ?_)
      refine awake_w ?_
      refine w_o rfl rfl rfl (op_assign rfl ?_)
      refine w_end ?_
      refine seq_normal ?_
      refine w_ret ?_
      refine seq_ret ?_
      exact ret_ret rfl sel_ rfl
    · have hpl : p.length ≤ 30 := by omega
      have hll : l.length ≤ 60 := by omega
      refine w_og rfl rfl rfl rfl rfl (op_move rfl ?_)
      refine w_og rfl rfl rfl rfl rfl (op_call rfl rfl rfl ?_)
      refine R04All_w h (by omega) ?_
      refine w_og rfl rfl rfl rfl rfl (op_not rfl ?_)
      refine w_o rfl rfl rfl (op_pick rfl rfl rfl ?_)
      refine w_o rfl rfl rfl (op_move rfl ?_)
      first | refine w_known (t := 23) rfl (fun g23 => ?_) (fun g23 => ?_) | refine w_knownB (t := 23) rfl (fun g23 => ?_) (fun g23 => ?_)
      · refine w_u rfl rfl rfl rfl rfl rfl ?_
        refine w_u rfl rfl rfl rfl rfl rfl ?_
        refine w_u rfl rfl rfl rfl rfl rfl ?_
        refine w_o rfl rfl rfl (op_pick rfl rfl rfl ?_)
        refine w_end ?_
        refine seq_normal ?_
        refine w_condT rfl ?_
        refine w_seq ?_
        refine w_region ?_
        refine w_o rfl rfl rfl (op_call rfl rfl rfl ?_)
        refine awake_w ?_
        refine w_o rfl rfl rfl (op_assign rfl ?_)
        refine w_end ?_
        refine seq_normal ?_
        refine w_ret ?_
        refine seq_ret ?_
        exact ret_ret rfl sel_ rfl
      · refine w_og rfl rfl rfl rfl rfl (op_move rfl ?_)
        refine w_og rfl rfl rfl rfl rfl (op_call rfl rfl rfl ?_)
        refine R04All_w h' (by omega) ?_
        refine w_og rfl rfl rfl rfl rfl (op_not rfl ?_)
        refine w_o rfl rfl rfl (op_pick rfl rfl rfl ?_)
        refine w_end ?_
        refine seq_normal ?_
        first | refine w_cond rfl (fun hI1 => ?_) (fun hI1 => ?_) | refine w_condB rfl (fun hI1 => ?_) (fun hI1 => ?_)
        · refine w_seq ?_
          refine w_region ?_
          refine w_o rfl rfl rfl (op_call rfl rfl rfl ?_)
          refine awake_w ?_
          refine w_o rfl rfl rfl (op_assign rfl ?_)
          refine w_end ?_
          refine seq_normal ?_
          refine w_ret ?_
          refine seq_ret ?_
          exact ret_ret rfl sel_ rfl
        · have hp1 : p.all rightS = true := by simpa using g23
          have hl1 : l.all rightS = true := by simpa using hI1
          have hq1 := promptC_len p
          have hq2 := lineC_len 0 l
          have hq4 : (viewC p l).length = (promptC p).length + (lineC 0 l).length := List.length_append
          have hq5 : (p ++ l).length = p.length + l.length := List.length_append
          refine w_skip ?_
          refine seq_normal ?_
          refine w_seq ?_
          refine w_region ?_
          refine w_o rfl rfl rfl (op_move rfl ?_)
          refine w_o rfl rfl rfl (op_move rfl ?_)
          refine w_o rfl rfl rfl (op_call rfl rfl rfl ?_)
          refine viewOf_w h h' (by omega) (by omega) (fun hr => absurd hr (by rw [hp1, hl1]; decide)) fun _ c32 N32 o32 => ?_
          refine w_o rfl rfl rfl (op_move rfl ?_)
          refine w_o rfl rfl rfl (op_extract rfl rfl ?_)
          refine w_o rfl rfl rfl (op_extract rfl rfl ?_)
          refine w_o rfl rfl rfl (op_assign rfl ?_)
          refine w_o rfl rfl rfl (op_assign rfl ?_)
          refine w_end ?_
          refine seq_normal ?_
          refine w_seq ?_
          refine w_region ?_
          refine w_o rfl rfl rfl (op_assign rfl ?_)
          refine w_end ?_
          refine seq_normal ?_
          refine w_seq ?_
          refine w_region ?_
          refine w_o rfl rfl rfl (op_move rfl ?_)
          refine w_o rfl rfl rfl (op_move rfl ?_)
          refine w_o rfl rfl rfl (op_call rfl rfl rfl ?_)
          refine Join_w h.app h'.app (by omega) fun c37 N37 o37 => ?_
          have hs37 : Sl (N37 ++ (N32 ++ H)) 23 2 c37 (p ++ l).length ((p ++ l).flatMap encS) := Own.slT o37 (fun _ => rfl) (by decide) subs_
          refine w_o rfl rfl rfl (op_assign rfl ?_)
          refine w_end ?_
          refine seq_normal ?_
          refine w_seq ?_
          refine w_seq ?_
          refine w_region ?_
          refine w_o rfl rfl rfl (op_assign rfl ?_)
          refine w_end ?_
          refine seq_normal ?_
          refine w_block ?_
          refine w_loop (fun m e H' => ∃ (i : Nat), i ≤ (p ++ l).length ∧ m = (p ++ l).length - i ∧ (textS ((p ++ l).take i)).size ≤ 10 * i ∧ N37 ++ (N32 ++ H) = H' ∧ e = [(5, .one (.c c32)), (6, vI 0), (7, vS (textS ((p ++ l).take i))), (8, .one (.c c37)), (9, vI (i : Nat))]) ?_ ?_
          · exact ⟨_, _, _, ⟨0, Nat.zero_le _, rfl, Nat.le_refl _, rfl, rfl⟩, env_, sel_⟩
          · rintro m e H' ⟨i, hi, rfl, hsz, rfl, rfl⟩
            refine w_seq ?_
            refine w_seq ?_
            refine w_region ?_
            refine w_o rfl rfl rfl (op_move rfl ?_)
            refine w_o rfl rfl rfl (op_move rfl ?_)
            refine w_o rfl rfl rfl (op_lenC und_36 rfl hs37.lenC ?_)
            refine w_o rfl rfl rfl (op_lt rfl rfl ?_)
            refine w_end ?_
            refine seq_normal ?_
            first | refine w_cond rfl (fun hI2 => ?_) (fun hI2 => ?_) | refine w_condB rfl (fun hI2 => ?_) (fun hI2 => ?_)
            · refine w_skip ?_
              refine seq_normal ?_
              refine w_seq ?_
              refine w_block ?_
              refine w_region ?_
              refine w_o rfl rfl rfl (op_move rfl ?_)
              refine w_o rfl rfl rfl (op_move rfl ?_)
              refine w_o rfl rfl rfl (op_move rfl ?_)
              refine w_o rfl rfl rfl (op_indexT (enc := encS) und_36 siz_23 rfl rfl hs37 (fun _ => rfl) rfl (by omega) fun b47 o47 z47 h47 e47 => ?_)
              have ht := textS_take h47
              have hz := txtV_top z47.f0
              have hsz2 : (textS ((p ++ l).take (i + 1))).size ≤ 10 * (i + 1) := by rw [ht, ByteArray.size_append]; omega
              refine w_o rfl rfl rfl (op_fieldAddr fa_23_0 rfl ?_)
              refine w_o rfl rfl rfl (op_loadF agg_3 rfl el_ rfl ?_)
              refine w_o rfl rfl rfl (op_call rfl rfl rfl ?_)
              refine dactylref06_Text_sw (Go.Proofs.Ytkmdofkajcehpaa.P.ref_Text z47.f0 100 (by decide)) ?_
              show WOps _ _ _ _ _ _ ((50, vS (txtV z47.f0)) :: _) _ _
              refine w_o rfl rfl rfl (op_stradd rfl rfl (by omega) ?_)
              refine w_o rfl rfl rfl (op_assign rfl ?_)
              refine w_end ?_
              refine block_normal ?_
              refine seq_normal ?_
              refine w_region ?_
              refine w_o rfl rfl rfl (op_move rfl ?_)
              refine w_o rfl rfl rfl (op_addi rfl rfl (by omega) (by omega) ?_)
              refine w_o rfl rfl rfl (op_assign rfl ?_)
              refine w_end ?_
              exact loop_normal (k' := (p ++ l).length - (i + 1)) (by omega) ⟨i + 1, by omega, rfl, hsz2, rfl, rfl⟩ (by rw [ht]; exact env_) sel_
            · have hi' : i = (p ++ l).length := by omega
              subst hi'
              rw [List.take_length]
              refine w_exit ?_
              refine seq_exit ?_
              refine loop_exit ?_
              refine block_hit rfl ?_
              refine seq_normal ?_
              refine w_seq ?_
              refine w_region ?_
              refine w_o rfl rfl rfl (op_call rfl rfl rfl ?_)
              refine awake_w ?_
              refine w_o rfl rfl rfl (op_move rfl ?_)
              refine w_og rfl rfl rfl rfl rfl (op_move rfl ?_)
              refine w_og rfl rfl rfl rfl rfl (op_eq rfl rfl ?_)
              refine w_o rfl rfl rfl (op_pick rfl rfl rfl ?_)
              refine w_o rfl rfl rfl (op_move rfl ?_)
              first | refine w_known (t := 57) rfl (fun g57 => ?_) (fun g57 => ?_) | refine w_knownB (t := 57) rfl (fun g57 => ?_) (fun g57 => ?_)
              · refine w_og rfl rfl rfl rfl rfl (op_move rfl ?_)
                refine w_og rfl rfl rfl rfl rfl (op_call rfl rfl rfl ?_)
                refine viewText_w (l := viewC p l) (Own.slT o32 (fun _ => rfl) (by decide) subs_) (by omega) ?_
                refine w_og rfl rfl rfl rfl rfl (op_move rfl ?_)
                refine w_og rfl rfl rfl rfl rfl (op_streq rfl rfl ?_)
                refine w_o rfl rfl rfl (op_pick rfl rfl rfl ?_)
                refine w_o rfl rfl rfl (op_assign rfl ?_)
                refine w_end ?_
                refine seq_normal ?_
                refine w_ret ?_
                exact ret_bool (b' := true) rfl sel_ (by simp [view_text hp1 hl1]) rfl
              · exact absurd rfl g57 --closed
end Go.Proofs.Ytkmdofkajcehpaa.AM.B
