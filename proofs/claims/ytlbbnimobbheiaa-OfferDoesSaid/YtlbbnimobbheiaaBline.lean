/- Lines: what line's functions answer. -/
import Derived.Test.YtlbbnimobbheiaaAX
import Derived.Test.YtlbbnimobbheiaaBwordref
set_option linter.unusedVariables false
set_option linter.unusedSimpArgs false
set_option maxRecDepth 10000
set_option maxHeartbeats 4000000
namespace Go.Proofs.Ytlbbnimobbheiaa.AM.B
open Go Go.RowKit
section
variable {P : Program} {X : Spec} {e : Env} {H : Hyp} {K : V → Hyp → Prop}
end
/-- A line's cells. -/
abbrev lineV (c : Cell) (a : Int) : V := .one (.agg [c, .int .i64 a])
def rightL (l : List Sign) (a : Int) : Bool := decide (0 ≤ a ∧ a ≤ l.length ∧ l.all rightS = true)
theorem rightL_no {l : List Sign} {a : Int} (h : ¬ (0 ≤ a ∧ a ≤ l.length)) : rightL l a = false := decide_eq_false fun w => h ⟨w.1, w.2.1⟩
theorem rightL_all {l : List Sign} {a : Int} (h : 0 ≤ a ∧ a ≤ l.length) : rightL l a = l.all rightS := by
  unfold rightL
  cases l.all rightS
  · exact decide_eq_false fun w => by cases w.2.2
  · exact decide_eq_true ⟨h.1, h.2, rfl⟩
theorem Right_line_w {H H1 : Hyp} {K : V → Hyp → Prop} {c : Cell} {l : List Sign} {a : Int} (h : Sl H1 47 2 c l.length (l.flatMap encS)) (hs : ∀ y ∈ H1, y ∈ H) (hl : l.length ≤ 1000) (k : K (vB (rightL l a)) H) : CallW Try.prog Xs 26 [lineV c a] H K := by
  refine call_of (n := 20) (fun _ => rfl) Try.func26 rfl rfl ?_
  refine w_seq ?_
  refine w_region ?_
  refine w_o rfl rfl rfl (op_box rfl fun b1 => ?_)
  refine w_o rfl rfl rfl (op_assign rfl ?_)
  refine w_end ?_
  refine seq_normal ?_
  refine w_seq ?_
  refine w_region ?_
  refine w_o rfl rfl rfl (op_fieldAddr fa_24_1 rfl ?_)
  refine w_o rfl rfl rfl (op_loadF agg_3 rfl el_ rfl ?_)
  refine w_o rfl rfl rfl (op_ge rfl rfl ?_)
  refine w_o rfl rfl rfl (op_move rfl ?_)
  first | refine w_known (t := 6) rfl (fun g6 => ?_) (fun g6 => ?_) | refine w_knownB (t := 6) rfl (fun g6 => ?_) (fun g6 => ?_)
  · refine w_og rfl rfl rfl rfl rfl (op_fieldAddr fa_24_1 rfl ?_)
    refine w_og rfl rfl rfl rfl rfl (op_loadF agg_3 rfl el_ rfl ?_)
    refine w_og rfl rfl rfl rfl rfl (op_fieldAddr fa_24_0 rfl ?_)
    refine w_og rfl rfl rfl rfl rfl (op_loadF agg_22 rfl el_ rfl ?_)
    refine w_og rfl rfl rfl rfl rfl (op_lenC und_22 rfl h.lenC ?_)
    refine w_og rfl rfl rfl rfl rfl (op_le rfl rfl ?_)
    refine w_o rfl rfl rfl (op_pick rfl rfl rfl ?_)
    refine w_o rfl rfl rfl (op_move rfl ?_)
    first | refine w_known (t := 14) rfl (fun g14 => ?_) (fun g14 => ?_) | refine w_knownB (t := 14) rfl (fun g14 => ?_) (fun g14 => ?_)
    · refine w_og rfl rfl rfl rfl rfl (op_fieldAddr fa_24_0 rfl ?_)
      refine w_og rfl rfl rfl rfl rfl (op_loadF agg_22 rfl el_ rfl ?_)
      refine w_og rfl rfl rfl rfl rfl (op_call rfl rfl rfl ?_)
      refine signCheck_w ((h.sub hs).cons) (by omega) ?_
      refine w_og rfl rfl rfl rfl rfl (op_eq rfl rfl ?_)
      have hv : decide ((if l.all rightS = true then (0 : Int) else 2) = 0) = rightL l a := by
        rw [rightL_all (by omega)]
        cases l.all rightS <;> rfl
      refine w_o rfl rfl rfl (op_pick rfl rfl rfl ?_)
      refine w_o rfl rfl rfl (op_assign rfl ?_)
      refine w_end ?_
      refine seq_normal ?_
      refine w_ret ?_
      exact ret_bool rfl sel_ hv k
    · have hv : false = rightL l a := (rightL_no (by omega)).symm
      refine w_u rfl rfl rfl rfl rfl rfl ?_
      refine w_u rfl rfl rfl rfl rfl rfl ?_
      refine w_u rfl rfl rfl rfl rfl rfl ?_
      refine w_u rfl rfl rfl rfl rfl rfl ?_
      refine w_o rfl rfl rfl (op_pick rfl rfl rfl ?_)
      refine w_o rfl rfl rfl (op_assign rfl ?_)
      refine w_end ?_
      refine seq_normal ?_
      refine w_ret ?_
      exact ret_bool rfl sel_ hv k
  · have hv : false = rightL l a := (rightL_no (by omega)).symm
    refine w_u rfl rfl rfl rfl rfl rfl ?_
    refine w_u rfl rfl rfl rfl rfl rfl ?_
    refine w_u rfl rfl rfl rfl rfl rfl ?_
    refine w_u rfl rfl rfl rfl rfl rfl ?_
    refine w_u rfl rfl rfl rfl rfl rfl ?_
    refine w_u rfl rfl rfl rfl rfl rfl ?_
    refine w_o rfl rfl rfl (op_pick rfl rfl rfl ?_)
    refine w_o rfl rfl rfl (op_move rfl ?_)
    refine w_u rfl rfl rfl rfl rfl rfl ?_
    refine w_u rfl rfl rfl rfl rfl rfl ?_
    refine w_u rfl rfl rfl rfl rfl rfl ?_
    refine w_u rfl rfl rfl rfl rfl rfl ?_
    refine w_o rfl rfl rfl (op_pick rfl rfl rfl ?_)
    refine w_o rfl rfl rfl (op_assign rfl ?_)
    refine w_end ?_
    refine seq_normal ?_
    refine w_ret ?_
    exact ret_bool rfl sel_ hv k
theorem R17May_w {H H1 : Hyp} {K : V → Hyp → Prop} {c : Cell} {l : List Sign} {a : Int} (h : Sl H1 47 2 c l.length (l.flatMap encS)) (hs : ∀ y ∈ H1, y ∈ H) (hl : l.length ≤ 1000) (k : K (vB (rightL l a)) H) : CallW Try.prog Xs 10 [lineV c a] H K := by
  refine call_of (n := 19) (fun _ => rfl) Try.func10 rfl rfl ?_
  refine w_seq ?_
  refine w_region ?_
  refine w_o rfl rfl rfl (op_box rfl fun b1 => ?_)
  refine w_o rfl rfl rfl (op_assign rfl ?_)
  refine w_end ?_
  refine seq_normal ?_
  refine w_seq ?_
  refine w_region ?_
  refine w_o rfl rfl rfl (op_fieldAddr fa_24_1 rfl ?_)
  refine w_o rfl rfl rfl (op_loadF agg_3 rfl el_ rfl ?_)
  refine w_o rfl rfl rfl (op_ge rfl rfl ?_)
  refine w_o rfl rfl rfl (op_move rfl ?_)
  first | refine w_known (t := 6) rfl (fun g6 => ?_) (fun g6 => ?_) | refine w_knownB (t := 6) rfl (fun g6 => ?_) (fun g6 => ?_)
  · refine w_og rfl rfl rfl rfl rfl (op_fieldAddr fa_24_1 rfl ?_)
    refine w_og rfl rfl rfl rfl rfl (op_loadF agg_3 rfl el_ rfl ?_)
    refine w_og rfl rfl rfl rfl rfl (op_fieldAddr fa_24_0 rfl ?_)
    refine w_og rfl rfl rfl rfl rfl (op_loadF agg_22 rfl el_ rfl ?_)
    refine w_og rfl rfl rfl rfl rfl (op_lenC und_22 rfl h.lenC ?_)
    refine w_og rfl rfl rfl rfl rfl (op_le rfl rfl ?_)
    refine w_o rfl rfl rfl (op_pick rfl rfl rfl ?_)
    refine w_o rfl rfl rfl (op_move rfl ?_)
    first | refine w_known (t := 14) rfl (fun g14 => ?_) (fun g14 => ?_) | refine w_knownB (t := 14) rfl (fun g14 => ?_) (fun g14 => ?_)
    · refine w_og rfl rfl rfl rfl rfl (op_fieldAddr fa_24_0 rfl ?_)
      refine w_og rfl rfl rfl rfl rfl (op_loadF agg_22 rfl el_ rfl ?_)
      refine w_og rfl rfl rfl rfl rfl (op_call rfl rfl rfl ?_)
      have hv : l.all rightS = rightL l a := (rightL_all (by omega)).symm
      refine R04All_w ((h.sub hs).cons) (by omega) ?_
      refine w_o rfl rfl rfl (op_pick rfl rfl rfl ?_)
      refine w_o rfl rfl rfl (op_assign rfl ?_)
      refine w_end ?_
      refine seq_normal ?_
      refine w_ret ?_
      exact ret_bool rfl sel_ hv k
    · have hv : false = rightL l a := (rightL_no (by omega)).symm
      refine w_u rfl rfl rfl rfl rfl rfl ?_
      refine w_u rfl rfl rfl rfl rfl rfl ?_
      refine w_u rfl rfl rfl rfl rfl rfl ?_
      refine w_o rfl rfl rfl (op_pick rfl rfl rfl ?_)
      refine w_o rfl rfl rfl (op_assign rfl ?_)
      refine w_end ?_
      refine seq_normal ?_
      refine w_ret ?_
      exact ret_bool rfl sel_ hv k
  · have hv : false = rightL l a := (rightL_no (by omega)).symm
    refine w_u rfl rfl rfl rfl rfl rfl ?_
    refine w_u rfl rfl rfl rfl rfl rfl ?_
    refine w_u rfl rfl rfl rfl rfl rfl ?_
    refine w_u rfl rfl rfl rfl rfl rfl ?_
    refine w_u rfl rfl rfl rfl rfl rfl ?_
    refine w_u rfl rfl rfl rfl rfl rfl ?_
    refine w_o rfl rfl rfl (op_pick rfl rfl rfl ?_)
    refine w_o rfl rfl rfl (op_move rfl ?_)
    refine w_u rfl rfl rfl rfl rfl rfl ?_
    refine w_u rfl rfl rfl rfl rfl rfl ?_
    refine w_u rfl rfl rfl rfl rfl rfl ?_
    refine w_o rfl rfl rfl (op_pick rfl rfl rfl ?_)
    refine w_o rfl rfl rfl (op_assign rfl ?_)
    refine w_end ?_
    refine seq_normal ?_
    refine w_ret ?_
    exact ret_bool rfl sel_ hv k
theorem R16Same_w {H H1 H2 : Hyp} {K : V → Hyp → Prop} {c c' : Cell} {l l' : List Sign} {a a' : Int} (h : Sl H1 47 2 c l.length (l.flatMap encS)) (hs : ∀ y ∈ H1, y ∈ H) (h' : Sl H2 47 2 c' l'.length (l'.flatMap encS)) (hs' : ∀ y ∈ H2, y ∈ H) (hl : l.length ≤ 1000) (k : K (vB (decide (a = a' ∧ l = l'))) H) : CallW Try.prog Xs 17 [lineV c a, lineV c' a'] H K := by
  refine call_of (n := 17) (fun _ => rfl) Try.func17 rfl rfl ?_
  refine w_seq ?_
  refine w_region ?_
  refine w_o rfl rfl rfl (op_box rfl fun b2 => ?_)
  refine w_o rfl rfl rfl (op_box rfl fun b3 => ?_)
  refine w_o rfl rfl rfl (op_assign rfl ?_)
  refine w_end ?_
  refine seq_normal ?_
  refine w_seq ?_
  refine w_region ?_
  refine w_o rfl rfl rfl (op_fieldAddr fa_24_1 rfl ?_)
  refine w_o rfl rfl rfl (op_loadF agg_3 rfl el_ rfl ?_)
  refine w_o rfl rfl rfl (op_fieldAddr fa_24_1 rfl ?_)
  refine w_o rfl rfl rfl (op_loadF agg_3 rfl el_ rfl ?_)
  refine w_o rfl rfl rfl (op_eq rfl rfl ?_)
  refine w_o rfl rfl rfl (op_move rfl ?_)
  first | refine w_known (t := 10) rfl (fun g10 => ?_) (fun g10 => ?_) | refine w_knownB (t := 10) rfl (fun g10 => ?_) (fun g10 => ?_)
  · refine w_og rfl rfl rfl rfl rfl (op_fieldAddr fa_24_0 rfl ?_)
    refine w_og rfl rfl rfl rfl rfl (op_loadF agg_22 rfl el_ rfl ?_)
    refine w_og rfl rfl rfl rfl rfl (op_fieldAddr fa_24_0 rfl ?_)
    refine w_og rfl rfl rfl rfl rfl (op_loadF agg_22 rfl el_ rfl ?_)
    refine w_og rfl rfl rfl rfl rfl (op_call rfl rfl rfl ?_)
    have hv : decide (l = l') = decide (a = a' ∧ l = l') := decide_eq_decide.2 ⟨fun w => ⟨g10, w⟩, fun w => w.2⟩
    refine R04Same_w ((h.sub hs).cons.cons) ((h'.sub hs').cons.cons) (by omega) ?_
    refine w_o rfl rfl rfl (op_pick rfl rfl rfl ?_)
    refine w_o rfl rfl rfl (op_assign rfl ?_)
    refine w_end ?_
    refine seq_normal ?_
    refine w_ret ?_
    exact ret_bool rfl sel_ hv k
  · have hv : false = decide (a = a' ∧ l = l') := (decide_eq_false fun w => g10 w.1).symm
    refine w_u rfl rfl rfl rfl rfl rfl ?_
    refine w_u rfl rfl rfl rfl rfl rfl ?_
    refine w_u rfl rfl rfl rfl rfl rfl ?_
    refine w_u rfl rfl rfl rfl rfl rfl ?_
    refine w_u rfl rfl rfl rfl rfl rfl ?_
    refine w_o rfl rfl rfl (op_pick rfl rfl rfl ?_)
    refine w_o rfl rfl rfl (op_assign rfl ?_)
    refine w_end ?_
    refine seq_normal ?_
    refine w_ret ?_
    exact ret_bool rfl sel_ hv k
end Go.Proofs.Ytlbbnimobbheiaa.AM.B
