/- The law ViewOf: it answers true, whatever comes in. -/
import Derived.Test.YtkmdofkajcehpaaAX
import Derived.Test.YtkmdofkajcehpaaBview
set_option linter.unusedVariables false
set_option linter.unusedSimpArgs false
set_option maxRecDepth 10000
set_option maxHeartbeats 4000000
namespace Go.Proofs.Ytkmdofkajcehpaa.AM.B
open Go Go.RowKit
theorem lineC_plen : ∀ (i : Int) (l : List Sign), ((lineC i l).length : Int) = ((promptC l).length : Int)
  | _, [] => rfl
  | i, s :: l => by
    have h1 := lineC_plen (i + 1) l
    have h2 := cellsV_cols s i
    have h3 := cellsV_cols s (-1)
    simp only [lineC, promptC, List.flatMap_cons, List.length_append] at *
    omega
theorem ViewOf_law {H : Hyp} {c c' : Cell} {p l : List Sign} (h : Sl H 23 2 c p.length (p.flatMap encS)) (h' : Sl H 23 2 c' l.length (l.flatMap encS)) : CallW Try.prog Xs 5 [.one (.c c), .one (.c c')] H (fun v _ => v = vB true) := by
  refine call_of (n := 62) (fun _ => rfl) Try.func5 rfl rfl ?_
  refine w_seq ?_
  refine w_region ?_
  refine w_o rfl rfl rfl (op_assign rfl ?_)
  refine w_end ?_
  refine seq_normal ?_
  refine w_seq ?_
  refine w_seq ?_
  refine w_region ?_
  refine w_o rfl rfl rfl (op_move rfl ?_)
  refine w_o rfl rfl rfl (op_lenC und_36 rfl h.lenC ?_)
  refine w_o rfl rfl rfl (op_gt rfl rfl ?_)
  refine w_o rfl rfl rfl (op_move rfl ?_)
  first | refine w_known (t := 10) rfl (fun g10 => ?_) (fun g10 => ?_) | refine w_knownB (t := 10) rfl (fun g10 => ?_) (fun g10 => ?_)
  · refine w_u rfl rfl rfl rfl rfl rfl ?_
    refine w_u rfl rfl rfl rfl rfl rfl ?_
    refine w_u rfl rfl rfl rfl rfl rfl ?_
    refine w_o rfl rfl rfl (op_pick rfl rfl rfl ?_)
    refine w_end ?_
    refine seq_normal ?_
    refine w_condT rfl ?_
    refine w_seq ?_
    refine w_region ?_
    refine w_o rfl rfl rfl (op_call rfl rfl rfl ?_)
    refine awake_w ?_
    refine w_o rfl rfl rfl (op_assign rfl ?_)
    refine w_end ?_
    refine seq_normal ?_
    refine w_ret ?_
    refine seq_ret ?_
    exact ret_ret rfl sel_ rfl
  · refine w_og rfl rfl rfl rfl rfl (op_move rfl ?_)
    refine w_og rfl rfl rfl rfl rfl (op_lenC und_36 rfl h'.lenC ?_)
    refine w_og rfl rfl rfl rfl rfl (op_gt rfl rfl ?_)
    refine w_o rfl rfl rfl (op_pick rfl rfl rfl ?_)
    refine w_end ?_
    refine seq_normal ?_
    first | refine w_cond rfl (fun hI1 => ?_) (fun hI1 => ?_) | refine w_condB rfl (fun hI1 => ?_) (fun hI1 => ?_)
    · refine w_seq ?_
      refine w_region ?_
      refine w_o rfl rfl rfl (op_call rfl rfl rfl ?_)
      refine awake_w ?_
      refine w_o rfl rfl rfl (op_assign rfl ?_)
      refine w_end ?_
      refine seq_normal ?_
      refine w_ret ?_
      refine seq_ret ?_
      exact ret_ret rfl sel_ rfl
    · have hpl : p.length ≤ 40 := by omega
      have hll : l.length ≤ 60 := by omega
      refine w_skip ?_
      refine seq_normal ?_
      refine w_seq ?_
      refine w_region ?_
      refine w_o rfl rfl rfl (op_move rfl ?_)
      refine w_o rfl rfl rfl (op_move rfl ?_)
      refine w_o rfl rfl rfl (op_call rfl rfl rfl ?_)
      refine viewOf_w h h' (by omega) (by omega) (fun hr => ?_) (fun hr c19 N19 o19 => ?_)
      · have hh := h
        have hh' := h'
        refine w_o rfl rfl rfl (op_move rfl ?_)
        refine w_o rfl rfl rfl (op_extract rfl rfl ?_)
        refine w_o rfl rfl rfl (op_extract rfl rfl ?_)
        refine w_o rfl rfl rfl (op_assign rfl ?_)
        refine w_o rfl rfl rfl (op_assign rfl ?_)
        refine w_end ?_
        refine seq_normal ?_
        refine w_seq ?_
        refine w_seq ?_
        refine w_region ?_
        refine w_o rfl rfl rfl (op_move rfl ?_)
        refine w_o rfl rfl rfl (op_call rfl rfl rfl ?_)
        refine R04All_w hh (by omega) ?_
        refine w_o rfl rfl rfl (op_not rfl ?_)
        refine w_o rfl rfl rfl (op_move rfl ?_)
        first | refine w_known (t := 25) rfl (fun g25 => ?_) (fun g25 => ?_) | refine w_knownB (t := 25) rfl (fun g25 => ?_) (fun g25 => ?_)
        · try (exfalso; revert hr g25; cases p.all rightS <;> cases l.all rightS <;> simp; done)
          all_goals
            refine w_u rfl rfl rfl rfl rfl rfl ?_
            refine w_u rfl rfl rfl rfl rfl rfl ?_
            refine w_u rfl rfl rfl rfl rfl rfl ?_
            refine w_o rfl rfl rfl (op_pick rfl rfl rfl ?_)
            refine w_end ?_
            refine seq_normal ?_
            refine w_condT rfl ?_
            refine w_seq ?_
            refine w_region ?_
            refine w_o rfl rfl rfl (op_call rfl rfl rfl ?_)
            refine awake_w ?_
            refine w_o rfl rfl rfl (op_move rfl ?_)
            refine w_og rfl rfl rfl rfl rfl (op_move rfl ?_)
            refine w_og rfl rfl rfl rfl rfl (op_eq rfl rfl ?_)
            refine w_o rfl rfl rfl (op_pick rfl rfl rfl ?_)
            refine w_o rfl rfl rfl (op_move rfl ?_)
            first | refine w_known (t := 35) rfl (fun g35 => ?_) (fun g35 => ?_) | refine w_knownB (t := 35) rfl (fun g35 => ?_) (fun g35 => ?_)
            · refine w_og rfl rfl rfl rfl rfl (op_move rfl ?_)
              refine w_og rfl rfl rfl rfl rfl (op_lenC und_24 rfl (by first | exact ⟨rfl, fun s e => by cases e⟩ | exact Sl.lenC (by assumption) | (refine Own.lenT (by assumption) ?_ ?_ <;> first | exact fun _ => rfl | decide)) ?_)
              refine w_og rfl rfl rfl rfl rfl (op_eq rfl rfl ?_)
              refine w_o rfl rfl rfl (op_pick rfl rfl rfl ?_)
              refine w_o rfl rfl rfl (op_assign rfl ?_)
              refine w_end ?_
              refine seq_normal ?_
              refine w_ret ?_
              refine seq_ret ?_
              exact ret_bool (b' := true) rfl sel_ (by simp) rfl
            · exact absurd rfl g35 --closed
        · try (exfalso; revert hr g25; cases p.all rightS <;> cases l.all rightS <;> simp; done)
          all_goals
            refine w_og rfl rfl rfl rfl rfl (op_move rfl ?_)
            refine w_og rfl rfl rfl rfl rfl (op_call rfl rfl rfl ?_)
            refine R04All_w hh' (by omega) ?_
            refine w_og rfl rfl rfl rfl rfl (op_not rfl ?_)
            refine w_o rfl rfl rfl (op_pick rfl rfl rfl ?_)
            refine w_end ?_
            refine seq_normal ?_
            first | refine w_cond rfl (fun hI2 => ?_) (fun hI2 => ?_) | refine w_condB rfl (fun hI2 => ?_) (fun hI2 => ?_)
            · try (exfalso; revert hr g25 hI2; cases p.all rightS <;> cases l.all rightS <;> simp; done)
              all_goals
                refine w_seq ?_
                refine w_region ?_
                refine w_o rfl rfl rfl (op_call rfl rfl rfl ?_)
                refine awake_w ?_
                refine w_o rfl rfl rfl (op_move rfl ?_)
                refine w_og rfl rfl rfl rfl rfl (op_move rfl ?_)
                refine w_og rfl rfl rfl rfl rfl (op_eq rfl rfl ?_)
                refine w_o rfl rfl rfl (op_pick rfl rfl rfl ?_)
                refine w_o rfl rfl rfl (op_move rfl ?_)
                first | refine w_known (t := 35) rfl (fun g35 => ?_) (fun g35 => ?_) | refine w_knownB (t := 35) rfl (fun g35 => ?_) (fun g35 => ?_)
                · refine w_og rfl rfl rfl rfl rfl (op_move rfl ?_)
                  refine w_og rfl rfl rfl rfl rfl (op_lenC und_24 rfl (by first | exact ⟨rfl, fun s e => by cases e⟩ | exact Sl.lenC (by assumption) | (refine Own.lenT (by assumption) ?_ ?_ <;> first | exact fun _ => rfl | decide)) ?_)
                  refine w_og rfl rfl rfl rfl rfl (op_eq rfl rfl ?_)
                  refine w_o rfl rfl rfl (op_pick rfl rfl rfl ?_)
                  refine w_o rfl rfl rfl (op_assign rfl ?_)
                  refine w_end ?_
                  refine seq_normal ?_
                  refine w_ret ?_
                  refine seq_ret ?_
                  exact ret_bool (b' := true) rfl sel_ (by simp) rfl
                · exact absurd rfl g35 --closed
            · try (exfalso; revert hr g25 hI2; cases p.all rightS <;> cases l.all rightS <;> simp; done)
              all_goals
                refine w_skip ?_
                refine seq_normal ?_
                refine w_seq ?_
                refine w_region ?_
                refine w_o rfl rfl rfl (op_call rfl rfl rfl ?_)
                refine awake_w ?_
                refine w_o rfl rfl rfl (op_move rfl ?_)
                refine w_og rfl rfl rfl rfl rfl (op_move rfl ?_)
                refine w_og rfl rfl rfl rfl rfl (op_eq rfl rfl ?_)
                refine w_o rfl rfl rfl (op_pick rfl rfl rfl ?_)
                refine w_o rfl rfl rfl (op_move rfl ?_)
                first | refine w_known (t := 45) rfl (fun g45 => ?_) (fun g45 => ?_) | refine w_knownB (t := 45) rfl (fun g45 => ?_) (fun g45 => ?_)
                · refine w_og rfl rfl rfl rfl rfl (op_move rfl ?_)
                  refine w_og rfl rfl rfl rfl rfl (op_move rfl ?_)
                  refine w_og rfl rfl rfl rfl rfl (op_move rfl ?_)
                  refine w_og rfl rfl rfl rfl rfl (op_call rfl rfl rfl ?_)
                  refine refViewOf_w hh hh' (by omega) (by omega) fun c49 N49 o49 => ?_
                  refine w_og rfl rfl rfl rfl rfl (op_call rfl rfl rfl ?_)
                  refine All_w (l := viewC p l) (l' := viewC p l) (Own.slT o19 (fun _ => rfl) (by decide) subs_) (Own.slT o49 (fun _ => rfl) (by decide) subs_) (by omega) ?_
                  refine w_o rfl rfl rfl (op_pick rfl rfl rfl ?_)
                  refine w_o rfl rfl rfl (op_move rfl ?_)
                  first | refine w_known (t := 52) rfl (fun g52 => ?_) (fun g52 => ?_) | refine w_knownB (t := 52) rfl (fun g52 => ?_) (fun g52 => ?_)
                  · refine w_og rfl rfl rfl rfl rfl (op_move rfl ?_)
                    refine w_og rfl rfl rfl rfl rfl (op_call rfl rfl rfl ?_)
                    refine viewCols_w hh.app (by omega) ?_
                    refine w_og rfl rfl rfl rfl rfl (op_move rfl ?_)
                    refine w_og rfl rfl rfl rfl rfl (op_call rfl rfl rfl ?_)
                    refine viewCols_w hh'.app (by omega) ?_
                    refine w_og rfl rfl rfl rfl rfl (op_addi rfl rfl (by omega) (by omega) ?_)
                    refine w_og rfl rfl rfl rfl rfl (op_move rfl ?_)
                    refine w_og rfl rfl rfl rfl rfl (op_lenC und_24 rfl (by first | exact ⟨rfl, fun s e => by cases e⟩ | exact Sl.lenC (by assumption) | (refine Own.lenT (by assumption) ?_ ?_ <;> first | exact fun _ => rfl | decide)) ?_)
                    refine w_og rfl rfl rfl rfl rfl (op_eq rfl rfl ?_)
                    refine w_o rfl rfl rfl (op_pick rfl rfl rfl ?_)
                    refine w_o rfl rfl rfl (op_assign rfl ?_)
                    refine w_end ?_
                    refine seq_normal ?_
                    refine w_ret ?_
                    have e : (((promptC p).length : Nat) : Int) + ((promptC l).length : Nat) = ((viewC p l).length : Nat) := by omega
                    exact ret_bool (b' := true) rfl sel_ (by simp [e]) rfl
                  · exact absurd rfl g52 --closed
                · exact absurd rfl g45 --closed
      · have hh := h.app (N := N19)
        have hh' := h'.app (N := N19)
        have hq1 := promptC_len p
        have hq2 := promptC_len l
        have hq3 := lineC_plen 0 l
        have hq4 : (viewC p l).length = (promptC p).length + (lineC 0 l).length := List.length_append
        refine w_o rfl rfl rfl (op_move rfl ?_)
        refine w_o rfl rfl rfl (op_extract rfl rfl ?_)
        refine w_o rfl rfl rfl (op_extract rfl rfl ?_)
        refine w_o rfl rfl rfl (op_assign rfl ?_)
        refine w_o rfl rfl rfl (op_assign rfl ?_)
        refine w_end ?_
        refine seq_normal ?_
        refine w_seq ?_
        refine w_seq ?_
        refine w_region ?_
        refine w_o rfl rfl rfl (op_move rfl ?_)
        refine w_o rfl rfl rfl (op_call rfl rfl rfl ?_)
        refine R04All_w hh (by omega) ?_
        refine w_o rfl rfl rfl (op_not rfl ?_)
        refine w_o rfl rfl rfl (op_move rfl ?_)
        first | refine w_known (t := 25) rfl (fun g25 => ?_) (fun g25 => ?_) | refine w_knownB (t := 25) rfl (fun g25 => ?_) (fun g25 => ?_)
        · try (exfalso; revert hr g25; cases p.all rightS <;> cases l.all rightS <;> simp; done)
          all_goals
            refine w_u rfl rfl rfl rfl rfl rfl ?_
            refine w_u rfl rfl rfl rfl rfl rfl ?_
            refine w_u rfl rfl rfl rfl rfl rfl ?_
            refine w_o rfl rfl rfl (op_pick rfl rfl rfl ?_)
            refine w_end ?_
            refine seq_normal ?_
            refine w_condT rfl ?_
            refine w_seq ?_
            refine w_region ?_
            refine w_o rfl rfl rfl (op_call rfl rfl rfl ?_)
            refine awake_w ?_
            refine w_o rfl rfl rfl (op_move rfl ?_)
            refine w_og rfl rfl rfl rfl rfl (op_move rfl ?_)
            refine w_og rfl rfl rfl rfl rfl (op_eq rfl rfl ?_)
            refine w_o rfl rfl rfl (op_pick rfl rfl rfl ?_)
            refine w_o rfl rfl rfl (op_move rfl ?_)
            first | refine w_known (t := 35) rfl (fun g35 => ?_) (fun g35 => ?_) | refine w_knownB (t := 35) rfl (fun g35 => ?_) (fun g35 => ?_)
            · refine w_og rfl rfl rfl rfl rfl (op_move rfl ?_)
              refine w_og rfl rfl rfl rfl rfl (op_lenC und_24 rfl (by first | exact ⟨rfl, fun s e => by cases e⟩ | exact Sl.lenC (by assumption) | (refine Own.lenT (by assumption) ?_ ?_ <;> first | exact fun _ => rfl | decide)) ?_)
              refine w_og rfl rfl rfl rfl rfl (op_eq rfl rfl ?_)
              refine w_o rfl rfl rfl (op_pick rfl rfl rfl ?_)
              refine w_o rfl rfl rfl (op_assign rfl ?_)
              refine w_end ?_
              refine seq_normal ?_
              refine w_ret ?_
              refine seq_ret ?_
              exact ret_bool (b' := true) rfl sel_ (by simp) rfl
            · exact absurd rfl g35 --closed
        · try (exfalso; revert hr g25; cases p.all rightS <;> cases l.all rightS <;> simp; done)
          all_goals
            refine w_og rfl rfl rfl rfl rfl (op_move rfl ?_)
            refine w_og rfl rfl rfl rfl rfl (op_call rfl rfl rfl ?_)
            refine R04All_w hh' (by omega) ?_
            refine w_og rfl rfl rfl rfl rfl (op_not rfl ?_)
            refine w_o rfl rfl rfl (op_pick rfl rfl rfl ?_)
            refine w_end ?_
            refine seq_normal ?_
            first | refine w_cond rfl (fun hI2 => ?_) (fun hI2 => ?_) | refine w_condB rfl (fun hI2 => ?_) (fun hI2 => ?_)
            · try (exfalso; revert hr g25 hI2; cases p.all rightS <;> cases l.all rightS <;> simp; done)
              all_goals
                refine w_seq ?_
                refine w_region ?_
                refine w_o rfl rfl rfl (op_call rfl rfl rfl ?_)
                refine awake_w ?_
                refine w_o rfl rfl rfl (op_move rfl ?_)
                refine w_og rfl rfl rfl rfl rfl (op_move rfl ?_)
                refine w_og rfl rfl rfl rfl rfl (op_eq rfl rfl ?_)
                refine w_o rfl rfl rfl (op_pick rfl rfl rfl ?_)
                refine w_o rfl rfl rfl (op_move rfl ?_)
                first | refine w_known (t := 35) rfl (fun g35 => ?_) (fun g35 => ?_) | refine w_knownB (t := 35) rfl (fun g35 => ?_) (fun g35 => ?_)
                · refine w_og rfl rfl rfl rfl rfl (op_move rfl ?_)
                  refine w_og rfl rfl rfl rfl rfl (op_lenC und_24 rfl (by first | exact ⟨rfl, fun s e => by cases e⟩ | exact Sl.lenC (by assumption) | (refine Own.lenT (by assumption) ?_ ?_ <;> first | exact fun _ => rfl | decide)) ?_)
                  refine w_og rfl rfl rfl rfl rfl (op_eq rfl rfl ?_)
                  refine w_o rfl rfl rfl (op_pick rfl rfl rfl ?_)
                  refine w_o rfl rfl rfl (op_assign rfl ?_)
                  refine w_end ?_
                  refine seq_normal ?_
                  refine w_ret ?_
                  refine seq_ret ?_
                  exact ret_bool (b' := true) rfl sel_ (by simp) rfl
                · exact absurd rfl g35 --closed
            · try (exfalso; revert hr g25 hI2; cases p.all rightS <;> cases l.all rightS <;> simp; done)
              all_goals
                refine w_skip ?_
                refine seq_normal ?_
                refine w_seq ?_
                refine w_region ?_
                refine w_o rfl rfl rfl (op_call rfl rfl rfl ?_)
                refine awake_w ?_
                refine w_o rfl rfl rfl (op_move rfl ?_)
                refine w_og rfl rfl rfl rfl rfl (op_move rfl ?_)
                refine w_og rfl rfl rfl rfl rfl (op_eq rfl rfl ?_)
                refine w_o rfl rfl rfl (op_pick rfl rfl rfl ?_)
                refine w_o rfl rfl rfl (op_move rfl ?_)
                first | refine w_known (t := 45) rfl (fun g45 => ?_) (fun g45 => ?_) | refine w_knownB (t := 45) rfl (fun g45 => ?_) (fun g45 => ?_)
                · refine w_og rfl rfl rfl rfl rfl (op_move rfl ?_)
                  refine w_og rfl rfl rfl rfl rfl (op_move rfl ?_)
                  refine w_og rfl rfl rfl rfl rfl (op_move rfl ?_)
                  refine w_og rfl rfl rfl rfl rfl (op_call rfl rfl rfl ?_)
                  refine refViewOf_w hh hh' (by omega) (by omega) fun c49 N49 o49 => ?_
                  refine w_og rfl rfl rfl rfl rfl (op_call rfl rfl rfl ?_)
                  refine All_w (l := viewC p l) (l' := viewC p l) (Own.slT o19 (fun _ => rfl) (by decide) subs_) (Own.slT o49 (fun _ => rfl) (by decide) subs_) (by omega) ?_
                  refine w_o rfl rfl rfl (op_pick rfl rfl rfl ?_)
                  refine w_o rfl rfl rfl (op_move rfl ?_)
                  first | refine w_known (t := 52) rfl (fun g52 => ?_) (fun g52 => ?_) | refine w_knownB (t := 52) rfl (fun g52 => ?_) (fun g52 => ?_)
                  · refine w_og rfl rfl rfl rfl rfl (op_move rfl ?_)
                    refine w_og rfl rfl rfl rfl rfl (op_call rfl rfl rfl ?_)
                    refine viewCols_w hh.app (by omega) ?_
                    refine w_og rfl rfl rfl rfl rfl (op_move rfl ?_)
                    refine w_og rfl rfl rfl rfl rfl (op_call rfl rfl rfl ?_)
                    refine viewCols_w hh'.app (by omega) ?_
                    refine w_og rfl rfl rfl rfl rfl (op_addi rfl rfl (by omega) (by omega) ?_)
                    refine w_og rfl rfl rfl rfl rfl (op_move rfl ?_)
                    refine w_og rfl rfl rfl rfl rfl (op_lenC und_24 rfl (by first | exact ⟨rfl, fun s e => by cases e⟩ | exact Sl.lenC (by assumption) | (refine Own.lenT (by assumption) ?_ ?_ <;> first | exact fun _ => rfl | decide)) ?_)
                    refine w_og rfl rfl rfl rfl rfl (op_eq rfl rfl ?_)
                    refine w_o rfl rfl rfl (op_pick rfl rfl rfl ?_)
                    refine w_o rfl rfl rfl (op_assign rfl ?_)
                    refine w_end ?_
                    refine seq_normal ?_
                    refine w_ret ?_
                    have e : (((promptC p).length : Nat) : Int) + ((promptC l).length : Nat) = ((viewC p l).length : Nat) := by omega
                    exact ret_bool (b' := true) rfl sel_ (by simp [e]) rfl
                  · exact absurd rfl g52 --closed
                · exact absurd rfl g45 --closed
end Go.Proofs.Ytkmdofkajcehpaa.AM.B
