/- What show's cells answer, and the reference's. -/
import Derived.Test.YtkmdofkajcehpaaAX
import Derived.Test.YtkmdofkajcehpaaBsigns
import Derived.Test.YtkmdofkajcehpaaP0
import Derived.Test.YtkmdofkajcehpaaQDanger
import Derived.Test.YtkmdofkajcehpaaQClass
import Derived.Test.YtkmdofkajcehpaaQShow
import Derived.Test.YtkmdofkajcehpaaQShowText
set_option linter.unusedVariables false
set_option linter.unusedSimpArgs false
set_option maxRecDepth 10000
set_option maxHeartbeats 4000000
namespace Go.Proofs.Ytkmdofkajcehpaa.AM.B
open Go Go.RowKit
abbrev DC := Go.Proofs.Ytkmdofkajcehpaa.P.S100
def encD (x : DC) : List Cell := [.int .i64 x.f0, .int .i64 x.f1, .int .i64 x.f2, .int .i64 x.f3, .int .i64 x.f4]
instance : DecidableEq DC := fun a b => decidable_of_iff (a.f0 = b.f0 ∧ a.f1 = b.f1 ∧ a.f2 = b.f2 ∧ a.f3 = b.f3 ∧ a.f4 = b.f4) ⟨fun h => by cases a; cases b; simp at h; simp [h], fun h => by rw [h]; exact ⟨rfl, rfl, rfl, rfl, rfl⟩⟩
abbrev clsV (v : Int) : Int := Go.Proofs.Ytkmdofkajcehpaa.P.class_Of.v v
abbrev txtV (v : Int) : ByteArray := Go.Proofs.Ytkmdofkajcehpaa.P.showT v (clsV v)
/-- A sign's looks. -/
def looksV (x : Sign) : Int := (if clsV x.f0 > 3 then 1 else 0) + (if 2 ≤ x.f1 ∧ x.f1 ≤ 4 then 2 else 0) + (if clsV x.f0 = 3 then 4 else 0)
theorem Looks_w {H : Hyp} {K : V → Hyp → Prop} {x : Sign} (k : K (vI (looksV x)) H) : CallW Try.prog Xs 18 [.one (.agg (encS x))] H K := by
  refine call_of (n := 26) (fun _ => rfl) Try.func18 rfl rfl ?_
  refine w_seq ?_
  refine w_region ?_
  refine w_o rfl rfl rfl (op_box rfl fun b1 => ?_)
  refine w_o rfl rfl rfl (op_assign rfl ?_)
  refine w_end ?_
  refine seq_normal ?_
  refine w_seq ?_
  refine w_region ?_
  refine w_o rfl rfl rfl (op_assign rfl ?_)
  refine w_end ?_
  refine seq_normal ?_
  refine w_seq ?_
  refine w_seq ?_
  refine w_region ?_
  refine w_o rfl rfl rfl (op_fieldAddr fa_23_0 rfl ?_)
  refine w_o rfl rfl rfl (op_loadF agg_3 rfl el_ rfl ?_)
  refine w_o rfl rfl rfl (op_call rfl rfl rfl ?_)
  refine class_Danger_sw (Go.Proofs.Ytkmdofkajcehpaa.P.class_Danger.at _ 100 (by decide)) ?_
  refine w_end ?_
  refine seq_normal ?_
  first | refine w_cond rfl (fun hI1 => ?_) (fun hI1 => ?_) | refine w_condB rfl (fun hI1 => ?_) (fun hI1 => ?_)
  · refine w_region ?_
    refine w_o rfl rfl rfl (op_move rfl ?_)
    refine w_o rfl rfl rfl (op_addi rfl rfl (by omega) (by omega) ?_)
    refine w_o rfl rfl rfl (op_assign rfl ?_)
    refine w_end ?_
    refine seq_normal ?_
    refine w_seq ?_
    refine w_seq ?_
    refine w_region ?_
    refine w_o rfl rfl rfl (op_fieldAddr fa_23_1 rfl ?_)
    refine w_o rfl rfl rfl (op_loadF agg_3 rfl el_ rfl ?_)
    refine w_o rfl rfl rfl (op_ge rfl rfl ?_)
    refine w_o rfl rfl rfl (op_move rfl ?_)
    first | refine w_known (t := 12) rfl (fun g12 => ?_) (fun g12 => ?_) | refine w_knownB (t := 12) rfl (fun g12 => ?_) (fun g12 => ?_)
    · refine w_og rfl rfl rfl rfl rfl (op_fieldAddr fa_23_1 rfl ?_)
      refine w_og rfl rfl rfl rfl rfl (op_loadF agg_3 rfl el_ rfl ?_)
      refine w_og rfl rfl rfl rfl rfl (op_le rfl rfl ?_)
      refine w_o rfl rfl rfl (op_pick rfl rfl rfl ?_)
      refine w_end ?_
      refine seq_normal ?_
      first | refine w_cond rfl (fun hI2 => ?_) (fun hI2 => ?_) | refine w_condB rfl (fun hI2 => ?_) (fun hI2 => ?_)
      · refine w_region ?_
        refine w_o rfl rfl rfl (op_move rfl ?_)
        refine w_o rfl rfl rfl (op_addi rfl rfl (by omega) (by omega) ?_)
        refine w_o rfl rfl rfl (op_assign rfl ?_)
        refine w_end ?_
        refine seq_normal ?_
        refine w_seq ?_
        refine w_seq ?_
        refine w_region ?_
        refine w_o rfl rfl rfl (op_fieldAddr fa_23_0 rfl ?_)
        refine w_o rfl rfl rfl (op_loadF agg_3 rfl el_ rfl ?_)
        refine w_o rfl rfl rfl (op_call rfl rfl rfl ?_)
        refine class_Of_sw (Go.Proofs.Ytkmdofkajcehpaa.P.class_Of.at _ 100 (by decide)) ?_
        refine w_o rfl rfl rfl (op_eq rfl rfl ?_)
        refine w_end ?_
        refine seq_normal ?_
        first | refine w_cond rfl (fun hI3 => ?_) (fun hI3 => ?_) | refine w_condB rfl (fun hI3 => ?_) (fun hI3 => ?_)
        · refine w_region ?_
          refine w_o rfl rfl rfl (op_move rfl ?_)
          refine w_o rfl rfl rfl (op_addi rfl rfl (by omega) (by omega) ?_)
          refine w_o rfl rfl rfl (op_assign rfl ?_)
          refine w_end ?_
          refine seq_normal ?_
          refine w_seq ?_
          refine w_region ?_
          refine w_o rfl rfl rfl (op_move rfl ?_)
          refine w_o rfl rfl rfl (op_assign rfl ?_)
          refine w_end ?_
          refine seq_normal ?_
          refine w_ret ?_
          exact ret_int rfl sel_ (by unfold looksV clsV; (repeat' split) <;> omega) k
        · refine w_skip ?_
          refine seq_normal ?_
          refine w_seq ?_
          refine w_region ?_
          refine w_o rfl rfl rfl (op_move rfl ?_)
          refine w_o rfl rfl rfl (op_assign rfl ?_)
          refine w_end ?_
          refine seq_normal ?_
          refine w_ret ?_
          exact ret_int rfl sel_ (by unfold looksV clsV; (repeat' split) <;> omega) k
      · refine w_skip ?_
        refine seq_normal ?_
        refine w_seq ?_
        refine w_seq ?_
        refine w_region ?_
        refine w_o rfl rfl rfl (op_fieldAddr fa_23_0 rfl ?_)
        refine w_o rfl rfl rfl (op_loadF agg_3 rfl el_ rfl ?_)
        refine w_o rfl rfl rfl (op_call rfl rfl rfl ?_)
        refine class_Of_sw (Go.Proofs.Ytkmdofkajcehpaa.P.class_Of.at _ 100 (by decide)) ?_
        refine w_o rfl rfl rfl (op_eq rfl rfl ?_)
        refine w_end ?_
        refine seq_normal ?_
        first | refine w_cond rfl (fun hI3 => ?_) (fun hI3 => ?_) | refine w_condB rfl (fun hI3 => ?_) (fun hI3 => ?_)
        · refine w_region ?_
          refine w_o rfl rfl rfl (op_move rfl ?_)
          refine w_o rfl rfl rfl (op_addi rfl rfl (by omega) (by omega) ?_)
          refine w_o rfl rfl rfl (op_assign rfl ?_)
          refine w_end ?_
          refine seq_normal ?_
          refine w_seq ?_
          refine w_region ?_
          refine w_o rfl rfl rfl (op_move rfl ?_)
          refine w_o rfl rfl rfl (op_assign rfl ?_)
          refine w_end ?_
          refine seq_normal ?_
          refine w_ret ?_
          exact ret_int rfl sel_ (by unfold looksV clsV; (repeat' split) <;> omega) k
        · refine w_skip ?_
          refine seq_normal ?_
          refine w_seq ?_
          refine w_region ?_
          refine w_o rfl rfl rfl (op_move rfl ?_)
          refine w_o rfl rfl rfl (op_assign rfl ?_)
          refine w_end ?_
          refine seq_normal ?_
          refine w_ret ?_
          exact ret_int rfl sel_ (by unfold looksV clsV; (repeat' split) <;> omega) k
    · refine w_u rfl rfl rfl rfl rfl rfl ?_
      refine w_u rfl rfl rfl rfl rfl rfl ?_
      refine w_u rfl rfl rfl rfl rfl rfl ?_
      refine w_o rfl rfl rfl (op_pick rfl rfl rfl ?_)
      refine w_end ?_
      refine seq_normal ?_
      refine w_condF rfl ?_
      refine w_skip ?_
      refine seq_normal ?_
      refine w_seq ?_
      refine w_seq ?_
      refine w_region ?_
      refine w_o rfl rfl rfl (op_fieldAddr fa_23_0 rfl ?_)
      refine w_o rfl rfl rfl (op_loadF agg_3 rfl el_ rfl ?_)
      refine w_o rfl rfl rfl (op_call rfl rfl rfl ?_)
      refine class_Of_sw (Go.Proofs.Ytkmdofkajcehpaa.P.class_Of.at _ 100 (by decide)) ?_
      refine w_o rfl rfl rfl (op_eq rfl rfl ?_)
      refine w_end ?_
      refine seq_normal ?_
      first | refine w_cond rfl (fun hI3 => ?_) (fun hI3 => ?_) | refine w_condB rfl (fun hI3 => ?_) (fun hI3 => ?_)
      · refine w_region ?_
        refine w_o rfl rfl rfl (op_move rfl ?_)
        refine w_o rfl rfl rfl (op_addi rfl rfl (by omega) (by omega) ?_)
        refine w_o rfl rfl rfl (op_assign rfl ?_)
        refine w_end ?_
        refine seq_normal ?_
        refine w_seq ?_
        refine w_region ?_
        refine w_o rfl rfl rfl (op_move rfl ?_)
        refine w_o rfl rfl rfl (op_assign rfl ?_)
        refine w_end ?_
        refine seq_normal ?_
        refine w_ret ?_
        exact ret_int rfl sel_ (by unfold looksV clsV; (repeat' split) <;> omega) k
      · refine w_skip ?_
        refine seq_normal ?_
        refine w_seq ?_
        refine w_region ?_
        refine w_o rfl rfl rfl (op_move rfl ?_)
        refine w_o rfl rfl rfl (op_assign rfl ?_)
        refine w_end ?_
        refine seq_normal ?_
        refine w_ret ?_
        exact ret_int rfl sel_ (by unfold looksV clsV; (repeat' split) <;> omega) k
  · refine w_skip ?_
    refine seq_normal ?_
    refine w_seq ?_
    refine w_seq ?_
    refine w_region ?_
    refine w_o rfl rfl rfl (op_fieldAddr fa_23_1 rfl ?_)
    refine w_o rfl rfl rfl (op_loadF agg_3 rfl el_ rfl ?_)
    refine w_o rfl rfl rfl (op_ge rfl rfl ?_)
    refine w_o rfl rfl rfl (op_move rfl ?_)
    first | refine w_known (t := 12) rfl (fun g12 => ?_) (fun g12 => ?_) | refine w_knownB (t := 12) rfl (fun g12 => ?_) (fun g12 => ?_)
    · refine w_og rfl rfl rfl rfl rfl (op_fieldAddr fa_23_1 rfl ?_)
      refine w_og rfl rfl rfl rfl rfl (op_loadF agg_3 rfl el_ rfl ?_)
      refine w_og rfl rfl rfl rfl rfl (op_le rfl rfl ?_)
      refine w_o rfl rfl rfl (op_pick rfl rfl rfl ?_)
      refine w_end ?_
      refine seq_normal ?_
      first | refine w_cond rfl (fun hI2 => ?_) (fun hI2 => ?_) | refine w_condB rfl (fun hI2 => ?_) (fun hI2 => ?_)
      · refine w_region ?_
        refine w_o rfl rfl rfl (op_move rfl ?_)
        refine w_o rfl rfl rfl (op_addi rfl rfl (by omega) (by omega) ?_)
        refine w_o rfl rfl rfl (op_assign rfl ?_)
        refine w_end ?_
        refine seq_normal ?_
        refine w_seq ?_
        refine w_seq ?_
        refine w_region ?_
        refine w_o rfl rfl rfl (op_fieldAddr fa_23_0 rfl ?_)
        refine w_o rfl rfl rfl (op_loadF agg_3 rfl el_ rfl ?_)
        refine w_o rfl rfl rfl (op_call rfl rfl rfl ?_)
        refine class_Of_sw (Go.Proofs.Ytkmdofkajcehpaa.P.class_Of.at _ 100 (by decide)) ?_
        refine w_o rfl rfl rfl (op_eq rfl rfl ?_)
        refine w_end ?_
        refine seq_normal ?_
        first | refine w_cond rfl (fun hI3 => ?_) (fun hI3 => ?_) | refine w_condB rfl (fun hI3 => ?_) (fun hI3 => ?_)
        · refine w_region ?_
          refine w_o rfl rfl rfl (op_move rfl ?_)
          refine w_o rfl rfl rfl (op_addi rfl rfl (by omega) (by omega) ?_)
          refine w_o rfl rfl rfl (op_assign rfl ?_)
          refine w_end ?_
          refine seq_normal ?_
          refine w_seq ?_
          refine w_region ?_
          refine w_o rfl rfl rfl (op_move rfl ?_)
          refine w_o rfl rfl rfl (op_assign rfl ?_)
          refine w_end ?_
          refine seq_normal ?_
          refine w_ret ?_
          exact ret_int rfl sel_ (by unfold looksV clsV; (repeat' split) <;> omega) k
        · refine w_skip ?_
          refine seq_normal ?_
          refine w_seq ?_
          refine w_region ?_
          refine w_o rfl rfl rfl (op_move rfl ?_)
          refine w_o rfl rfl rfl (op_assign rfl ?_)
          refine w_end ?_
          refine seq_normal ?_
          refine w_ret ?_
          exact ret_int rfl sel_ (by unfold looksV clsV; (repeat' split) <;> omega) k
      · refine w_skip ?_
        refine seq_normal ?_
        refine w_seq ?_
        refine w_seq ?_
        refine w_region ?_
        refine w_o rfl rfl rfl (op_fieldAddr fa_23_0 rfl ?_)
        refine w_o rfl rfl rfl (op_loadF agg_3 rfl el_ rfl ?_)
        refine w_o rfl rfl rfl (op_call rfl rfl rfl ?_)
        refine class_Of_sw (Go.Proofs.Ytkmdofkajcehpaa.P.class_Of.at _ 100 (by decide)) ?_
        refine w_o rfl rfl rfl (op_eq rfl rfl ?_)
        refine w_end ?_
        refine seq_normal ?_
        first | refine w_cond rfl (fun hI3 => ?_) (fun hI3 => ?_) | refine w_condB rfl (fun hI3 => ?_) (fun hI3 => ?_)
        · refine w_region ?_
          refine w_o rfl rfl rfl (op_move rfl ?_)
          refine w_o rfl rfl rfl (op_addi rfl rfl (by omega) (by omega) ?_)
          refine w_o rfl rfl rfl (op_assign rfl ?_)
          refine w_end ?_
          refine seq_normal ?_
          refine w_seq ?_
          refine w_region ?_
          refine w_o rfl rfl rfl (op_move rfl ?_)
          refine w_o rfl rfl rfl (op_assign rfl ?_)
          refine w_end ?_
          refine seq_normal ?_
          refine w_ret ?_
          exact ret_int rfl sel_ (by unfold looksV clsV; (repeat' split) <;> omega) k
        · refine w_skip ?_
          refine seq_normal ?_
          refine w_seq ?_
          refine w_region ?_
          refine w_o rfl rfl rfl (op_move rfl ?_)
          refine w_o rfl rfl rfl (op_assign rfl ?_)
          refine w_end ?_
          refine seq_normal ?_
          refine w_ret ?_
          exact ret_int rfl sel_ (by unfold looksV clsV; (repeat' split) <;> omega) k
    · refine w_u rfl rfl rfl rfl rfl rfl ?_
      refine w_u rfl rfl rfl rfl rfl rfl ?_
      refine w_u rfl rfl rfl rfl rfl rfl ?_
      refine w_o rfl rfl rfl (op_pick rfl rfl rfl ?_)
      refine w_end ?_
      refine seq_normal ?_
      refine w_condF rfl ?_
      refine w_skip ?_
      refine seq_normal ?_
      refine w_seq ?_
      refine w_seq ?_
      refine w_region ?_
      refine w_o rfl rfl rfl (op_fieldAddr fa_23_0 rfl ?_)
      refine w_o rfl rfl rfl (op_loadF agg_3 rfl el_ rfl ?_)
      refine w_o rfl rfl rfl (op_call rfl rfl rfl ?_)
      refine class_Of_sw (Go.Proofs.Ytkmdofkajcehpaa.P.class_Of.at _ 100 (by decide)) ?_
      refine w_o rfl rfl rfl (op_eq rfl rfl ?_)
      refine w_end ?_
      refine seq_normal ?_
      first | refine w_cond rfl (fun hI3 => ?_) (fun hI3 => ?_) | refine w_condB rfl (fun hI3 => ?_) (fun hI3 => ?_)
      · refine w_region ?_
        refine w_o rfl rfl rfl (op_move rfl ?_)
        refine w_o rfl rfl rfl (op_addi rfl rfl (by omega) (by omega) ?_)
        refine w_o rfl rfl rfl (op_assign rfl ?_)
        refine w_end ?_
        refine seq_normal ?_
        refine w_seq ?_
        refine w_region ?_
        refine w_o rfl rfl rfl (op_move rfl ?_)
        refine w_o rfl rfl rfl (op_assign rfl ?_)
        refine w_end ?_
        refine seq_normal ?_
        refine w_ret ?_
        exact ret_int rfl sel_ (by unfold looksV clsV; (repeat' split) <;> omega) k
      · refine w_skip ?_
        refine seq_normal ?_
        refine w_seq ?_
        refine w_region ?_
        refine w_o rfl rfl rfl (op_move rfl ?_)
        refine w_o rfl rfl rfl (op_assign rfl ?_)
        refine w_end ?_
        refine seq_normal ?_
        refine w_ret ?_
        exact ret_int rfl sel_ (by unfold looksV clsV; (repeat' split) <;> omega) k
theorem refLooks_w {H : Hyp} {K : V → Hyp → Prop} {x : Sign} (k : K (vI (looksV x)) H) : CallW Try.prog Xs 19 [.one (.agg (encS x))] H K := by
  refine call_of (n := 30) (fun _ => rfl) Try.func19 rfl rfl ?_
  refine w_seq ?_
  refine w_region ?_
  refine w_o rfl rfl rfl (op_box rfl fun b1 => ?_)
  refine w_o rfl rfl rfl (op_assign rfl ?_)
  refine w_end ?_
  refine seq_normal ?_
  refine w_seq ?_
  refine w_region ?_
  refine w_o rfl rfl rfl (op_assign rfl ?_)
  refine w_end ?_
  refine seq_normal ?_
  refine w_seq ?_
  refine w_region ?_
  refine w_o rfl rfl rfl (op_fieldAddr fa_23_0 rfl ?_)
  refine w_o rfl rfl rfl (op_loadF agg_3 rfl el_ rfl ?_)
  refine w_o rfl rfl rfl (op_call rfl rfl rfl ?_)
  refine dactylref03_Of_sw (Go.Proofs.Ytkmdofkajcehpaa.P.ref_Of _ 100 (by decide)) ?_
  refine w_o rfl rfl rfl (op_assign rfl ?_)
  refine w_end ?_
  refine seq_normal ?_
  refine w_seq ?_
  refine w_seq ?_
  refine w_region ?_
  refine w_o rfl rfl rfl (op_move rfl ?_)
  refine w_o rfl rfl rfl (op_gt rfl rfl ?_)
  refine w_end ?_
  refine seq_normal ?_
  first | refine w_cond rfl (fun hI1 => ?_) (fun hI1 => ?_) | refine w_condB rfl (fun hI1 => ?_) (fun hI1 => ?_)
  · refine w_region ?_
    refine w_o rfl rfl rfl (op_assign rfl ?_)
    refine w_end ?_
    refine seq_normal ?_
    refine w_seq ?_
    refine w_seq ?_
    refine w_region ?_
    refine w_o rfl rfl rfl (op_fieldAddr fa_23_1 rfl ?_)
    refine w_o rfl rfl rfl (op_loadF agg_3 rfl el_ rfl ?_)
    refine w_o rfl rfl rfl (op_eq rfl rfl ?_)
    refine w_o rfl rfl rfl (op_move rfl ?_)
    first | refine w_known (t := 13) rfl (fun g13 => ?_) (fun g13 => ?_) | refine w_knownB (t := 13) rfl (fun g13 => ?_) (fun g13 => ?_)
    · refine w_u rfl rfl rfl rfl rfl rfl ?_
      refine w_u rfl rfl rfl rfl rfl rfl ?_
      refine w_u rfl rfl rfl rfl rfl rfl ?_
      refine w_o rfl rfl rfl (op_pick rfl rfl rfl ?_)
      refine w_o rfl rfl rfl (op_move rfl ?_)
      refine w_u rfl rfl rfl rfl rfl rfl ?_
      refine w_u rfl rfl rfl rfl rfl rfl ?_
      refine w_u rfl rfl rfl rfl rfl rfl ?_
      refine w_o rfl rfl rfl (op_pick rfl rfl rfl ?_)
      refine w_end ?_
      refine seq_normal ?_
      refine w_condT rfl ?_
      refine w_region ?_
      refine w_o rfl rfl rfl (op_move rfl ?_)
      refine w_o rfl rfl rfl (op_addi rfl rfl (by omega) (by omega) ?_)
      refine w_o rfl rfl rfl (op_assign rfl ?_)
      refine w_end ?_
      refine seq_normal ?_
      refine w_seq ?_
      refine w_seq ?_
      refine w_region ?_
      refine w_o rfl rfl rfl (op_move rfl ?_)
      refine w_o rfl rfl rfl (op_eq rfl rfl ?_)
      refine w_end ?_
      refine seq_normal ?_
      first | refine w_cond rfl (fun hI3 => ?_) (fun hI3 => ?_) | refine w_condB rfl (fun hI3 => ?_) (fun hI3 => ?_)
      · refine w_region ?_
        refine w_o rfl rfl rfl (op_move rfl ?_)
        refine w_o rfl rfl rfl (op_addi rfl rfl (by omega) (by omega) ?_)
        refine w_o rfl rfl rfl (op_assign rfl ?_)
        refine w_end ?_
        refine seq_normal ?_
        refine w_seq ?_
        refine w_region ?_
        refine w_o rfl rfl rfl (op_move rfl ?_)
        refine w_o rfl rfl rfl (op_assign rfl ?_)
        refine w_end ?_
        refine seq_normal ?_
        refine w_ret ?_
        exact ret_int rfl sel_ (by unfold looksV clsV; (repeat' split) <;> (simp at *) <;> omega) k
      · refine w_skip ?_
        refine seq_normal ?_
        refine w_seq ?_
        refine w_region ?_
        refine w_o rfl rfl rfl (op_move rfl ?_)
        refine w_o rfl rfl rfl (op_assign rfl ?_)
        refine w_end ?_
        refine seq_normal ?_
        refine w_ret ?_
        exact ret_int rfl sel_ (by unfold looksV clsV; (repeat' split) <;> (simp at *) <;> omega) k
    · refine w_og rfl rfl rfl rfl rfl (op_fieldAddr fa_23_1 rfl ?_)
      refine w_og rfl rfl rfl rfl rfl (op_loadF agg_3 rfl el_ rfl ?_)
      refine w_og rfl rfl rfl rfl rfl (op_eq rfl rfl ?_)
      refine w_o rfl rfl rfl (op_pick rfl rfl rfl ?_)
      refine w_o rfl rfl rfl (op_move rfl ?_)
      first | refine w_known (t := 18) rfl (fun g18 => ?_) (fun g18 => ?_) | refine w_knownB (t := 18) rfl (fun g18 => ?_) (fun g18 => ?_)
      · refine w_u rfl rfl rfl rfl rfl rfl ?_
        refine w_u rfl rfl rfl rfl rfl rfl ?_
        refine w_u rfl rfl rfl rfl rfl rfl ?_
        refine w_o rfl rfl rfl (op_pick rfl rfl rfl ?_)
        refine w_end ?_
        refine seq_normal ?_
        refine w_condT rfl ?_
        refine w_region ?_
        refine w_o rfl rfl rfl (op_move rfl ?_)
        refine w_o rfl rfl rfl (op_addi rfl rfl (by omega) (by omega) ?_)
        refine w_o rfl rfl rfl (op_assign rfl ?_)
        refine w_end ?_
        refine seq_normal ?_
        refine w_seq ?_
        refine w_seq ?_
        refine w_region ?_
        refine w_o rfl rfl rfl (op_move rfl ?_)
        refine w_o rfl rfl rfl (op_eq rfl rfl ?_)
        refine w_end ?_
        refine seq_normal ?_
        first | refine w_cond rfl (fun hI3 => ?_) (fun hI3 => ?_) | refine w_condB rfl (fun hI3 => ?_) (fun hI3 => ?_)
        · refine w_region ?_
          refine w_o rfl rfl rfl (op_move rfl ?_)
          refine w_o rfl rfl rfl (op_addi rfl rfl (by omega) (by omega) ?_)
          refine w_o rfl rfl rfl (op_assign rfl ?_)
          refine w_end ?_
          refine seq_normal ?_
          refine w_seq ?_
          refine w_region ?_
          refine w_o rfl rfl rfl (op_move rfl ?_)
          refine w_o rfl rfl rfl (op_assign rfl ?_)
          refine w_end ?_
          refine seq_normal ?_
          refine w_ret ?_
          exact ret_int rfl sel_ (by unfold looksV clsV; (repeat' split) <;> (simp at *) <;> omega) k
        · refine w_skip ?_
          refine seq_normal ?_
          refine w_seq ?_
          refine w_region ?_
          refine w_o rfl rfl rfl (op_move rfl ?_)
          refine w_o rfl rfl rfl (op_assign rfl ?_)
          refine w_end ?_
          refine seq_normal ?_
          refine w_ret ?_
          exact ret_int rfl sel_ (by unfold looksV clsV; (repeat' split) <;> (simp at *) <;> omega) k
      · refine w_og rfl rfl rfl rfl rfl (op_fieldAddr fa_23_1 rfl ?_)
        refine w_og rfl rfl rfl rfl rfl (op_loadF agg_3 rfl el_ rfl ?_)
        refine w_og rfl rfl rfl rfl rfl (op_eq rfl rfl ?_)
        refine w_o rfl rfl rfl (op_pick rfl rfl rfl ?_)
        refine w_end ?_
        refine seq_normal ?_
        first | refine w_cond rfl (fun hI2 => ?_) (fun hI2 => ?_) | refine w_condB rfl (fun hI2 => ?_) (fun hI2 => ?_)
        · refine w_region ?_
          refine w_o rfl rfl rfl (op_move rfl ?_)
          refine w_o rfl rfl rfl (op_addi rfl rfl (by omega) (by omega) ?_)
          refine w_o rfl rfl rfl (op_assign rfl ?_)
          refine w_end ?_
          refine seq_normal ?_
          refine w_seq ?_
          refine w_seq ?_
          refine w_region ?_
          refine w_o rfl rfl rfl (op_move rfl ?_)
          refine w_o rfl rfl rfl (op_eq rfl rfl ?_)
          refine w_end ?_
          refine seq_normal ?_
          first | refine w_cond rfl (fun hI3 => ?_) (fun hI3 => ?_) | refine w_condB rfl (fun hI3 => ?_) (fun hI3 => ?_)
          · refine w_region ?_
            refine w_o rfl rfl rfl (op_move rfl ?_)
            refine w_o rfl rfl rfl (op_addi rfl rfl (by omega) (by omega) ?_)
            refine w_o rfl rfl rfl (op_assign rfl ?_)
            refine w_end ?_
            refine seq_normal ?_
            refine w_seq ?_
            refine w_region ?_
            refine w_o rfl rfl rfl (op_move rfl ?_)
            refine w_o rfl rfl rfl (op_assign rfl ?_)
            refine w_end ?_
            refine seq_normal ?_
            refine w_ret ?_
            exact ret_int rfl sel_ (by unfold looksV clsV; (repeat' split) <;> (simp at *) <;> omega) k
          · refine w_skip ?_
            refine seq_normal ?_
            refine w_seq ?_
            refine w_region ?_
            refine w_o rfl rfl rfl (op_move rfl ?_)
            refine w_o rfl rfl rfl (op_assign rfl ?_)
            refine w_end ?_
            refine seq_normal ?_
            refine w_ret ?_
            exact ret_int rfl sel_ (by unfold looksV clsV; (repeat' split) <;> (simp at *) <;> omega) k
        · refine w_skip ?_
          refine seq_normal ?_
          refine w_seq ?_
          refine w_seq ?_
          refine w_region ?_
          refine w_o rfl rfl rfl (op_move rfl ?_)
          refine w_o rfl rfl rfl (op_eq rfl rfl ?_)
          refine w_end ?_
          refine seq_normal ?_
          first | refine w_cond rfl (fun hI3 => ?_) (fun hI3 => ?_) | refine w_condB rfl (fun hI3 => ?_) (fun hI3 => ?_)
          · refine w_region ?_
            refine w_o rfl rfl rfl (op_move rfl ?_)
            refine w_o rfl rfl rfl (op_addi rfl rfl (by omega) (by omega) ?_)
            refine w_o rfl rfl rfl (op_assign rfl ?_)
            refine w_end ?_
            refine seq_normal ?_
            refine w_seq ?_
            refine w_region ?_
            refine w_o rfl rfl rfl (op_move rfl ?_)
            refine w_o rfl rfl rfl (op_assign rfl ?_)
            refine w_end ?_
            refine seq_normal ?_
            refine w_ret ?_
            exact ret_int rfl sel_ (by unfold looksV clsV; (repeat' split) <;> (simp at *) <;> omega) k
          · refine w_skip ?_
            refine seq_normal ?_
            refine w_seq ?_
            refine w_region ?_
            refine w_o rfl rfl rfl (op_move rfl ?_)
            refine w_o rfl rfl rfl (op_assign rfl ?_)
            refine w_end ?_
            refine seq_normal ?_
            refine w_ret ?_
            exact ret_int rfl sel_ (by unfold looksV clsV; (repeat' split) <;> (simp at *) <;> omega) k
  · refine w_skip ?_
    refine seq_normal ?_
    refine w_seq ?_
    refine w_seq ?_
    refine w_region ?_
    refine w_o rfl rfl rfl (op_fieldAddr fa_23_1 rfl ?_)
    refine w_o rfl rfl rfl (op_loadF agg_3 rfl el_ rfl ?_)
    refine w_o rfl rfl rfl (op_eq rfl rfl ?_)
    refine w_o rfl rfl rfl (op_move rfl ?_)
    first | refine w_known (t := 13) rfl (fun g13 => ?_) (fun g13 => ?_) | refine w_knownB (t := 13) rfl (fun g13 => ?_) (fun g13 => ?_)
    · refine w_u rfl rfl rfl rfl rfl rfl ?_
      refine w_u rfl rfl rfl rfl rfl rfl ?_
      refine w_u rfl rfl rfl rfl rfl rfl ?_
      refine w_o rfl rfl rfl (op_pick rfl rfl rfl ?_)
      refine w_o rfl rfl rfl (op_move rfl ?_)
      refine w_u rfl rfl rfl rfl rfl rfl ?_
      refine w_u rfl rfl rfl rfl rfl rfl ?_
      refine w_u rfl rfl rfl rfl rfl rfl ?_
      refine w_o rfl rfl rfl (op_pick rfl rfl rfl ?_)
      refine w_end ?_
      refine seq_normal ?_
      refine w_condT rfl ?_
      refine w_region ?_
      refine w_o rfl rfl rfl (op_move rfl ?_)
      refine w_o rfl rfl rfl (op_addi rfl rfl (by omega) (by omega) ?_)
      refine w_o rfl rfl rfl (op_assign rfl ?_)
      refine w_end ?_
      refine seq_normal ?_
      refine w_seq ?_
      refine w_seq ?_
      refine w_region ?_
      refine w_o rfl rfl rfl (op_move rfl ?_)
      refine w_o rfl rfl rfl (op_eq rfl rfl ?_)
      refine w_end ?_
      refine seq_normal ?_
      first | refine w_cond rfl (fun hI3 => ?_) (fun hI3 => ?_) | refine w_condB rfl (fun hI3 => ?_) (fun hI3 => ?_)
      · refine w_region ?_
        refine w_o rfl rfl rfl (op_move rfl ?_)
        refine w_o rfl rfl rfl (op_addi rfl rfl (by omega) (by omega) ?_)
        refine w_o rfl rfl rfl (op_assign rfl ?_)
        refine w_end ?_
        refine seq_normal ?_
        refine w_seq ?_
        refine w_region ?_
        refine w_o rfl rfl rfl (op_move rfl ?_)
        refine w_o rfl rfl rfl (op_assign rfl ?_)
        refine w_end ?_
        refine seq_normal ?_
        refine w_ret ?_
        exact ret_int rfl sel_ (by unfold looksV clsV; (repeat' split) <;> (simp at *) <;> omega) k
      · refine w_skip ?_
        refine seq_normal ?_
        refine w_seq ?_
        refine w_region ?_
        refine w_o rfl rfl rfl (op_move rfl ?_)
        refine w_o rfl rfl rfl (op_assign rfl ?_)
        refine w_end ?_
        refine seq_normal ?_
        refine w_ret ?_
        exact ret_int rfl sel_ (by unfold looksV clsV; (repeat' split) <;> (simp at *) <;> omega) k
    · refine w_og rfl rfl rfl rfl rfl (op_fieldAddr fa_23_1 rfl ?_)
      refine w_og rfl rfl rfl rfl rfl (op_loadF agg_3 rfl el_ rfl ?_)
      refine w_og rfl rfl rfl rfl rfl (op_eq rfl rfl ?_)
      refine w_o rfl rfl rfl (op_pick rfl rfl rfl ?_)
      refine w_o rfl rfl rfl (op_move rfl ?_)
      first | refine w_known (t := 18) rfl (fun g18 => ?_) (fun g18 => ?_) | refine w_knownB (t := 18) rfl (fun g18 => ?_) (fun g18 => ?_)
      · refine w_u rfl rfl rfl rfl rfl rfl ?_
        refine w_u rfl rfl rfl rfl rfl rfl ?_
        refine w_u rfl rfl rfl rfl rfl rfl ?_
        refine w_o rfl rfl rfl (op_pick rfl rfl rfl ?_)
        refine w_end ?_
        refine seq_normal ?_
        refine w_condT rfl ?_
        refine w_region ?_
        refine w_o rfl rfl rfl (op_move rfl ?_)
        refine w_o rfl rfl rfl (op_addi rfl rfl (by omega) (by omega) ?_)
        refine w_o rfl rfl rfl (op_assign rfl ?_)
        refine w_end ?_
        refine seq_normal ?_
        refine w_seq ?_
        refine w_seq ?_
        refine w_region ?_
        refine w_o rfl rfl rfl (op_move rfl ?_)
        refine w_o rfl rfl rfl (op_eq rfl rfl ?_)
        refine w_end ?_
        refine seq_normal ?_
        first | refine w_cond rfl (fun hI3 => ?_) (fun hI3 => ?_) | refine w_condB rfl (fun hI3 => ?_) (fun hI3 => ?_)
        · refine w_region ?_
          refine w_o rfl rfl rfl (op_move rfl ?_)
          refine w_o rfl rfl rfl (op_addi rfl rfl (by omega) (by omega) ?_)
          refine w_o rfl rfl rfl (op_assign rfl ?_)
          refine w_end ?_
          refine seq_normal ?_
          refine w_seq ?_
          refine w_region ?_
          refine w_o rfl rfl rfl (op_move rfl ?_)
          refine w_o rfl rfl rfl (op_assign rfl ?_)
          refine w_end ?_
          refine seq_normal ?_
          refine w_ret ?_
          exact ret_int rfl sel_ (by unfold looksV clsV; (repeat' split) <;> (simp at *) <;> omega) k
        · refine w_skip ?_
          refine seq_normal ?_
          refine w_seq ?_
          refine w_region ?_
          refine w_o rfl rfl rfl (op_move rfl ?_)
          refine w_o rfl rfl rfl (op_assign rfl ?_)
          refine w_end ?_
          refine seq_normal ?_
          refine w_ret ?_
          exact ret_int rfl sel_ (by unfold looksV clsV; (repeat' split) <;> (simp at *) <;> omega) k
      · refine w_og rfl rfl rfl rfl rfl (op_fieldAddr fa_23_1 rfl ?_)
        refine w_og rfl rfl rfl rfl rfl (op_loadF agg_3 rfl el_ rfl ?_)
        refine w_og rfl rfl rfl rfl rfl (op_eq rfl rfl ?_)
        refine w_o rfl rfl rfl (op_pick rfl rfl rfl ?_)
        refine w_end ?_
        refine seq_normal ?_
        first | refine w_cond rfl (fun hI2 => ?_) (fun hI2 => ?_) | refine w_condB rfl (fun hI2 => ?_) (fun hI2 => ?_)
        · refine w_region ?_
          refine w_o rfl rfl rfl (op_move rfl ?_)
          refine w_o rfl rfl rfl (op_addi rfl rfl (by omega) (by omega) ?_)
          refine w_o rfl rfl rfl (op_assign rfl ?_)
          refine w_end ?_
          refine seq_normal ?_
          refine w_seq ?_
          refine w_seq ?_
          refine w_region ?_
          refine w_o rfl rfl rfl (op_move rfl ?_)
          refine w_o rfl rfl rfl (op_eq rfl rfl ?_)
          refine w_end ?_
          refine seq_normal ?_
          first | refine w_cond rfl (fun hI3 => ?_) (fun hI3 => ?_) | refine w_condB rfl (fun hI3 => ?_) (fun hI3 => ?_)
          · refine w_region ?_
            refine w_o rfl rfl rfl (op_move rfl ?_)
            refine w_o rfl rfl rfl (op_addi rfl rfl (by omega) (by omega) ?_)
            refine w_o rfl rfl rfl (op_assign rfl ?_)
            refine w_end ?_
            refine seq_normal ?_
            refine w_seq ?_
            refine w_region ?_
            refine w_o rfl rfl rfl (op_move rfl ?_)
            refine w_o rfl rfl rfl (op_assign rfl ?_)
            refine w_end ?_
            refine seq_normal ?_
            refine w_ret ?_
            exact ret_int rfl sel_ (by unfold looksV clsV; (repeat' split) <;> (simp at *) <;> omega) k
          · refine w_skip ?_
            refine seq_normal ?_
            refine w_seq ?_
            refine w_region ?_
            refine w_o rfl rfl rfl (op_move rfl ?_)
            refine w_o rfl rfl rfl (op_assign rfl ?_)
            refine w_end ?_
            refine seq_normal ?_
            refine w_ret ?_
            exact ret_int rfl sel_ (by unfold looksV clsV; (repeat' split) <;> (simp at *) <;> omega) k
        · refine w_skip ?_
          refine seq_normal ?_
          refine w_seq ?_
          refine w_seq ?_
          refine w_region ?_
          refine w_o rfl rfl rfl (op_move rfl ?_)
          refine w_o rfl rfl rfl (op_eq rfl rfl ?_)
          refine w_end ?_
          refine seq_normal ?_
          first | refine w_cond rfl (fun hI3 => ?_) (fun hI3 => ?_) | refine w_condB rfl (fun hI3 => ?_) (fun hI3 => ?_)
          · refine w_region ?_
            refine w_o rfl rfl rfl (op_move rfl ?_)
            refine w_o rfl rfl rfl (op_addi rfl rfl (by omega) (by omega) ?_)
            refine w_o rfl rfl rfl (op_assign rfl ?_)
            refine w_end ?_
            refine seq_normal ?_
            refine w_seq ?_
            refine w_region ?_
            refine w_o rfl rfl rfl (op_move rfl ?_)
            refine w_o rfl rfl rfl (op_assign rfl ?_)
            refine w_end ?_
            refine seq_normal ?_
            refine w_ret ?_
            exact ret_int rfl sel_ (by unfold looksV clsV; (repeat' split) <;> (simp at *) <;> omega) k
          · refine w_skip ?_
            refine seq_normal ?_
            refine w_seq ?_
            refine w_region ?_
            refine w_o rfl rfl rfl (op_move rfl ?_)
            refine w_o rfl rfl rfl (op_assign rfl ?_)
            refine w_end ?_
            refine seq_normal ?_
            refine w_ret ?_
            exact ret_int rfl sel_ (by unfold looksV clsV; (repeat' split) <;> (simp at *) <;> omega) k
def cellAt (x : Sign) (own v k : Int) : DC := ⟨v, looksV x, own, x.f0, k⟩
def bytesC (x : Sign) (own : Int) (t : ByteArray) (n : Nat) : List DC := (List.range n).map fun (i : Nat) => cellAt x own (byteAt t i) i
theorem bytesC_succ (x : Sign) (own : Int) (t : ByteArray) (n : Nat) : bytesC x own t (n + 1) = bytesC x own t n ++ [cellAt x own (byteAt t n) n] := by
  unfold bytesC; rw [List.range_succ, List.map_append]; rfl
theorem bytesC_len (x : Sign) (own : Int) (t : ByteArray) (n : Nat) : (bytesC x own t n).length = n := by
  unfold bytesC; rw [List.length_map, List.length_range]
/-- A sign's cells. -/
def cellsV (x : Sign) (own : Int) : List DC :=
  if clsV x.f0 = 0 then [] else if clsV x.f0 = 2 then [cellAt x own x.f0 0, cellAt x own (-1) 1] else if clsV x.f0 ≤ 3 then [cellAt x own x.f0 0] else bytesC x own (txtV x.f0) (txtV x.f0).size
theorem cellsV_0 {x : Sign} {own : Int} (h : clsV x.f0 = 0) : cellsV x own = [] := by unfold cellsV; rw [if_pos h]
theorem cellsV_1 {x : Sign} {own : Int} (h : clsV x.f0 = 1 ∨ clsV x.f0 = 3) : cellsV x own = [cellAt x own x.f0 0] := by unfold cellsV; rw [if_neg (by omega), if_neg (by omega), if_pos (by omega)]
theorem cellsV_2 {x : Sign} {own : Int} (h : clsV x.f0 = 2) : cellsV x own = [cellAt x own x.f0 0, cellAt x own (-1) 1] := by unfold cellsV; rw [if_neg (by omega), if_pos h]
theorem cellsV_4 {x : Sign} {own : Int} (h : 3 < clsV x.f0) : cellsV x own = bytesC x own (txtV x.f0) (txtV x.f0).size := by unfold cellsV; rw [if_neg (by omega), if_neg (by omega), if_neg (by omega)]
theorem clsV_ge (v : Int) : 0 ≤ clsV v := by
  have := Go.Proofs.Ytkmdofkajcehpaa.P.class_where v
  unfold clsV; omega
theorem txtV_size {v : Int} (h : 3 < clsV v) : 2 ≤ (txtV v).size ∧ (txtV v).size ≤ 10 := (Go.Proofs.Ytkmdofkajcehpaa.P.showT_size v).2.2 h
theorem cellsV_len (x : Sign) (own : Int) : (cellsV x own).length ≤ 10 := by
  have h0 := clsV_ge x.f0
  by_cases h : 3 < clsV x.f0
  · rw [cellsV_4 h, bytesC_len]; exact (txtV_size h).2
  · have : clsV x.f0 = 0 ∨ (clsV x.f0 = 1 ∨ clsV x.f0 = 3) ∨ clsV x.f0 = 2 := by omega
    rcases this with h | h | h
    · rw [cellsV_0 h]; simp
    · rw [cellsV_1 h]; simp
    · rw [cellsV_2 h]; simp
theorem byteAt_in (s : ByteArray) (i : Int) : 0 ≤ byteAt s i ∧ byteAt s i ≤ 255 := by
  unfold byteAt
  have := ((s.data.toList[i.toNat]?).getD 0).toNat_lt
  omega
theorem Cells1_w {p pl pw ps : Nat} {c : Cell} {l : List DC} {N H : Hyp} {lk own v : Int} {x : Sign} {K : V → Hyp → Prop} (hl : l.length ≤ 1000) (h : Own 100 5 c (l.flatMap encD) N) (h1 : El H pl 0 [.int .i64 lk]) (h2 : El H pw 0 [.int .i64 own]) (h3 : El H ps 0 (encS x))
    (k : ∀ c' N', Own 100 5 c' ((l ++ [(⟨v, lk, own, x.f0, l.length⟩ : DC)]).flatMap encD) N' → K (.tup []) ((p, .row true 24 1 [c']) :: (N' ++ H))) :
    CallW Try.prog Xs 82 [vI v, ptrV p 0, ptrV pl 0, ptrV pw 0, ptrV ps 0] ((p, .row true 24 1 [c]) :: (N ++ H)) K := by
  refine call_of (n := 17) (fun _ => rfl) Try.func82 rfl rfl ?_
  refine w_region ?_
  refine w_o rfl rfl rfl (op_load1 agg_24 rfl el_ ?_)
  refine w_o rfl rfl rfl (op_move rfl ?_)
  refine w_o rfl rfl rfl (op_load1 agg_3 rfl el_ ?_)
  refine w_o rfl rfl rfl (op_load1 agg_3 rfl el_ ?_)
  refine w_o rfl rfl rfl (op_fieldAddr fa_23_0 rfl ?_)
  refine w_o rfl rfl rfl (op_loadF agg_3 rfl el_ rfl ?_)
  refine w_o rfl rfl rfl (op_load1 agg_24 rfl el_ ?_)
  refine w_o rfl rfl rfl (op_lenC und_24 rfl (by first | exact ⟨rfl, fun s e => by cases e⟩ | exact Sl.lenC (by assumption) | (refine Own.lenT (by assumption) ?_ ?_ <;> first | exact fun _ => rfl | decide)) ?_)
  refine w_o rfl rfl rfl (op_build rfl ((bld_100 _).trans (rfl : _ = some [_, _, _, _, _])) ?_)
  refine w_o rfl rfl rfl (op_buildSlice rfl (bsl_24 _ _ _ (rfl : _ = some [_, _, _, _, _]) rfl (by decide)) fun b15 => ?_)
  refine w_o rfl rfl rfl (op_append1 (enc := encD) (z0 := ⟨v, lk, own, x.f0, l.length⟩) elm_24 inf_100 zer_100 (by decide) und_24 rfl rfl (by assumption) (fun _ => rfl) (by (repeat (first | exact PickL.front _ _ | exact PickL.nil _ | apply PickL.skip | apply PickL.skipL)); first | done | fail) rfl (by omega) fun c16 N16 h16 => ?_)
  refine w_on rfl rfl (op_store siz_24 rfl rfl rfl (by (repeat (first | exact Pick.head _ _ _ | apply Pick.tail | apply Pick.app)); first | done | fail) (Nat.le_of_ble_eq_true rfl) rfl ?_)
  refine w_end ?_
  exact ret_normal rfl sel_ (k _ _ h16)
def restC (b2 b3 b6 : Nat) (x : Sign) (own : Int) (H : Hyp) : Hyp := (b6, .row true 3 1 [.int .i64 (looksV x)]) :: (b3, .row true 3 1 [.int .i64 own]) :: (b2, .row true 23 1 (encS x)) :: H
theorem add_w {b2 b3 b5 b6 : Nat} {c : Cell} {l : List DC} {N H : Hyp} {own v : Int} {x : Sign} {K : V → Hyp → Prop} (hl : l.length ≤ 1000) (h : Own 100 5 c (l.flatMap encD) N)
    (k : ∀ c' N', Own 100 5 c' ((l ++ [cellAt x own v l.length]).flatMap encD) N' → K (.tup []) ((b5, .row true 24 1 [c']) :: (N' ++ restC b2 b3 b6 x own H))) :
    CallW Try.prog Xs 82 [vI v, ptrV b5 0, ptrV b6 0, ptrV b3 0, ptrV b2 0] ((b5, .row true 24 1 [c]) :: (N ++ restC b2 b3 b6 x own H)) K :=
  Cells1_w hl h (El.row (by unfold restC; exact mem_)) (El.row (by unfold restC; exact mem_)) (El.row (by unfold restC; exact mem_)) k
theorem Cells_w {x : Sign} {own : Int} {H : Hyp} {K : V → Hyp → Prop} (k : ∀ c N, Own 100 5 c ((cellsV x own).flatMap encD) N → K (.one (.c c)) (N ++ H)) : CallW Try.prog Xs 15 [.one (.agg (encS x)), vI own] H K := by
  have hc0 : 0 ≤ Go.Proofs.Ytkmdofkajcehpaa.P.class_Of.v x.f0 := clsV_ge x.f0
  refine call_of (n := 49) (fun _ => rfl) Try.func15 rfl rfl ?_
  refine w_seq ?_
  refine w_region ?_
  refine w_o rfl rfl rfl (op_box rfl fun b2 => ?_)
  refine w_o rfl rfl rfl (op_box rfl fun b3 => ?_)
  refine w_o rfl rfl rfl (op_assign rfl ?_)
  refine w_end ?_
  refine seq_normal ?_
  refine w_seq ?_
  refine w_region ?_
  refine w_o rfl rfl rfl (op_alloc zer_24 fun b5 => ?_)
  refine w_end ?_
  refine seq_normal ?_
  refine w_seq ?_
  refine w_region ?_
  refine w_o rfl rfl rfl (op_loadA agg_23 siz_23 rfl rfl el_ ?_)
  refine w_o rfl rfl rfl (op_call rfl rfl rfl ?_)
  refine Looks_w (x := x) ?_
  refine w_o rfl rfl rfl (op_alloc zer_3 fun b6 => ?_)
  refine w_on rfl rfl (op_store siz_3 rfl rfl rfl (by (repeat (first | exact Pick.head _ _ _ | apply Pick.tail | apply Pick.app)); first | done | fail) (Nat.le_of_ble_eq_true rfl) rfl ?_)
  refine w_end ?_
  refine seq_normal ?_
  refine w_seq ?_
  refine w_region ?_
  refine w_o rfl rfl rfl (op_makeFunc rfl ?_)
  refine w_o rfl rfl rfl (op_assign rfl ?_)
  refine w_end ?_
  refine seq_normal ?_
  refine w_cut (fun e H' => ∃ (c : Cell) (N : Hyp), Own 100 5 c ((cellsV x own).flatMap encD) N ∧ H' = (b5, .row true 24 1 [c]) :: (N ++ H) ∧ e = [(5, ptrV b5 0)]) ?_ ?_
  · refine w_seq ?_
    refine w_region ?_
    refine w_o rfl rfl rfl (op_fieldAddr fa_23_0 rfl ?_)
    refine w_o rfl rfl rfl (op_loadF agg_3 rfl el_ rfl ?_)
    refine w_o rfl rfl rfl (op_call rfl rfl rfl ?_)
    refine class_Of_sw (Go.Proofs.Ytkmdofkajcehpaa.P.class_Of.at _ 100 (by decide)) ?_
    refine w_end ?_
    refine seq_normal ?_
    refine w_block ?_
    refine w_seq ?_
    refine w_region ?_
    refine w_o rfl rfl rfl (op_eq rfl rfl ?_)
    refine w_o rfl rfl rfl (op_assign rfl ?_)
    refine w_end ?_
    refine seq_normal ?_
    first | refine w_cond rfl (fun hI1 => ?_) (fun hI1 => ?_) | refine w_condB rfl (fun hI1 => ?_) (fun hI1 => ?_)
    · have o0 : Own 100 5 .nils ((cellsV x own).flatMap encD) [] := by rw [cellsV_0 hI1]; exact .nil
      refine w_skip ?_
      refine block_normal ?_
      first
        | exact mid_normal ⟨_, _, o0, rfl, rfl⟩ env_ sel_
        | exact mid_normal ⟨_, _, o1, rfl, rfl⟩ env_ sel_
        | exact mid_normal ⟨_, _, o2, rfl, rfl⟩ env_ sel_
        | exact mid_normal ⟨_, _, o4, rfl, rfl⟩ env_ sel_
    · refine w_seq ?_
      refine w_seq ?_
      refine w_region ?_
      refine w_o rfl rfl rfl (op_eq rfl rfl ?_)
      refine w_o rfl rfl rfl (op_assign rfl ?_)
      refine w_end ?_
      refine seq_normal ?_
      first | refine w_cond rfl (fun hI2 => ?_) (fun hI2 => ?_) | refine w_condB rfl (fun hI2 => ?_) (fun hI2 => ?_)
      · refine w_skip ?_
        refine seq_normal ?_
        first | refine w_cond rfl (fun hI3 => ?_) (fun hI3 => ?_) | refine w_condB rfl (fun hI3 => ?_) (fun hI3 => ?_)
        · try (exfalso; omega)
          all_goals
            have h3 : clsV x.f0 = 1 ∨ clsV x.f0 = 3 := by show Go.Proofs.Ytkmdofkajcehpaa.P.class_Of.v x.f0 = 1 ∨ Go.Proofs.Ytkmdofkajcehpaa.P.class_Of.v x.f0 = 3; omega
            refine w_region ?_
            refine w_o rfl rfl rfl (op_move rfl ?_)
            refine w_o rfl rfl rfl (op_fieldAddr fa_23_0 rfl ?_)
            refine w_o rfl rfl rfl (op_loadF agg_3 rfl el_ rfl ?_)
            refine w_o rfl rfl rfl (op_call rfl rfl rfl ?_)
            refine CallW.weak (H' := (b5, .row true 24 1 [.nils]) :: ([] ++ restC b2 b3 b6 x own H)) (by unfold restC; exact sel_) (add_w (l := []) (by decide) .nil fun c39 N39 o1 => ?_)
            rw [show [] ++ [cellAt x own x.f0 (([] : List DC).length : Nat)] = cellsV x own from (cellsV_1 h3).symm] at o1
            unfold restC
            refine w_end ?_
            refine block_normal ?_
            first
              | exact mid_normal ⟨_, _, o0, rfl, rfl⟩ env_ sel_
              | exact mid_normal ⟨_, _, o1, rfl, rfl⟩ env_ sel_
              | exact mid_normal ⟨_, _, o2, rfl, rfl⟩ env_ sel_
              | exact mid_normal ⟨_, _, o4, rfl, rfl⟩ env_ sel_
        · try (exfalso; omega)
          all_goals
            refine w_seq ?_
            refine w_region ?_
            refine w_o rfl rfl rfl (op_eq rfl rfl ?_)
            refine w_o rfl rfl rfl (op_assign rfl ?_)
            refine w_end ?_
            refine seq_normal ?_
            first | refine w_cond rfl (fun hI4 => ?_) (fun hI4 => ?_) | refine w_condB rfl (fun hI4 => ?_) (fun hI4 => ?_)
            · refine w_seq ?_
              refine w_region ?_
              refine w_o rfl rfl rfl (op_move rfl ?_)
              refine w_o rfl rfl rfl (op_fieldAddr fa_23_0 rfl ?_)
              refine w_o rfl rfl rfl (op_loadF agg_3 rfl el_ rfl ?_)
              refine w_o rfl rfl rfl (op_call rfl rfl rfl ?_)
              refine CallW.weak (H' := (b5, .row true 24 1 [.nils]) :: ([] ++ restC b2 b3 b6 x own H)) (by unfold restC; exact sel_) (add_w (l := []) (by decide) .nil fun c45 N45 o45 => ?_)
              refine w_end ?_
              refine seq_normal ?_
              refine w_region ?_
              refine w_o rfl rfl rfl (op_move rfl ?_)
              refine w_o rfl rfl rfl (op_call rfl rfl rfl ?_)
              refine add_w (l := [cellAt x own x.f0 0]) (by simp) o45 fun c47 N47 o2 => ?_
              rw [show [cellAt x own x.f0 0] ++ [cellAt x own (-1) (([cellAt x own x.f0 0] : List DC).length : Nat)] = cellsV x own from (cellsV_2 hI4).symm] at o2
              unfold restC
              refine w_end ?_
              refine block_normal ?_
              first
                | exact mid_normal ⟨_, _, o0, rfl, rfl⟩ env_ sel_
                | exact mid_normal ⟨_, _, o1, rfl, rfl⟩ env_ sel_
                | exact mid_normal ⟨_, _, o2, rfl, rfl⟩ env_ sel_
                | exact mid_normal ⟨_, _, o4, rfl, rfl⟩ env_ sel_
            · have h4 : 3 < clsV x.f0 := by show 3 < Go.Proofs.Ytkmdofkajcehpaa.P.class_Of.v x.f0; omega
              have hsz := txtV_size h4
              refine w_seq ?_
              refine w_region ?_
              refine w_o rfl rfl rfl (op_fieldAddr fa_23_0 rfl ?_)
              refine w_o rfl rfl rfl (op_loadF agg_3 rfl el_ rfl ?_)
              refine w_o rfl rfl rfl (op_call rfl rfl rfl ?_)
              refine show_Text_sw (Go.Proofs.Ytkmdofkajcehpaa.P.show_Text.at _ 100 (by decide)) ?_
              refine w_o rfl rfl rfl (op_assign rfl ?_)
              refine w_end ?_
              refine seq_normal ?_
              refine w_seq ?_
              refine w_region ?_
              refine w_o rfl rfl rfl (op_move rfl ?_)
              refine w_o rfl rfl rfl (op_lenS und_9 rfl ?_)
              refine w_o rfl rfl rfl (op_move rfl ?_)
              refine w_end ?_
              refine seq_normal ?_
              refine w_block ?_
              refine w_loop (fun m e H' => ∃ (i : Nat) (c : Cell) (N : Hyp), i ≤ (txtV x.f0).size ∧ m = (txtV x.f0).size - i ∧ Own 100 5 c ((bytesC x own (txtV x.f0) i).flatMap encD) N ∧ H' = (b5, .row true 24 1 [c]) :: (N ++ restC b2 b3 b6 x own H) ∧ e = [(5, ptrV b5 0), (7, .one (.c (.fn 82 [(b5, 0), (b6, 0), (b3, 0), (b2, 0)]))), (8, vS (txtV x.f0)), (20, vI ((txtV x.f0).size : Nat)), (21, vI (i : Nat))]) ?_ ?_
              · exact ⟨_, _, _, ⟨0, .nils, [], Nat.zero_le _, rfl, .nil, rfl, rfl⟩, env_, (by unfold restC; exact sel_)⟩
              · rintro m e H' ⟨i, c, N, hi, rfl, hO, rfl, rfl⟩
                refine w_seq ?_
                refine w_region ?_
                refine w_o rfl rfl rfl (op_lt rfl rfl ?_)
                refine w_end ?_
                refine seq_normal ?_
                refine w_seq ?_
                first | refine w_cond rfl (fun hI5 => ?_) (fun hI5 => ?_) | refine w_condB rfl (fun hI5 => ?_) (fun hI5 => ?_)
                · refine w_skip ?_
                  refine seq_normal ?_
                  refine w_seq ?_
                  refine w_block ?_
                  refine w_seq ?_
                  refine w_region ?_
                  refine w_o rfl rfl rfl (op_move rfl ?_)
                  refine w_o rfl rfl rfl (op_assign rfl ?_)
                  refine w_end ?_
                  refine seq_normal ?_
                  refine w_region ?_
                  refine w_o rfl rfl rfl (op_move rfl ?_)
                  refine w_o rfl rfl rfl (op_move rfl ?_)
                  refine w_o rfl rfl rfl (op_move rfl ?_)
                  refine w_o rfl rfl rfl (op_indexS und_9 rfl rfl (by omega) (by omega) ?_)
                  refine w_o rfl rfl rfl (op_convi und_5 und_3 rfl (wrap_i64 (by have := byteAt_in (txtV x.f0) i; omega) (by have := byteAt_in (txtV x.f0) i; omega)) ?_)
                  refine w_o rfl rfl rfl (op_call rfl rfl rfl ?_)
                  refine add_w (by rw [bytesC_len]; omega) hO fun c29 N29 o29 => ?_
                  rw [bytesC_len, ← bytesC_succ] at o29
                  refine w_end ?_
                  refine block_normal ?_
                  refine seq_normal ?_
                  refine w_region ?_
                  refine w_o rfl rfl rfl (op_addi rfl rfl (by omega) (by omega) ?_)
                  refine w_o rfl rfl rfl (op_move rfl ?_)
                  refine w_end ?_
                  exact loop_normal (k' := (txtV x.f0).size - (i + 1)) (by omega) ⟨i + 1, c29, N29, by omega, rfl, o29, rfl, rfl⟩ env_ sel_
                · have hi' : i = (txtV x.f0).size := by omega
                  subst hi'
                  have o4 : Own 100 5 c ((cellsV x own).flatMap encD) N := by rw [cellsV_4 h4]; exact hO
                  unfold restC
                  refine w_exit ?_
                  refine seq_exit ?_
                  refine loop_exit ?_
                  refine block_hit rfl ?_
                  refine block_normal ?_
                  first
                    | exact mid_normal ⟨_, _, o0, rfl, rfl⟩ env_ sel_
                    | exact mid_normal ⟨_, _, o1, rfl, rfl⟩ env_ sel_
                    | exact mid_normal ⟨_, _, o2, rfl, rfl⟩ env_ sel_
                    | exact mid_normal ⟨_, _, o4, rfl, rfl⟩ env_ sel_
      · refine w_region ?_
        refine w_o rfl rfl rfl (op_eq rfl rfl ?_)
        refine w_o rfl rfl rfl (op_assign rfl ?_)
        refine w_end ?_
        refine seq_normal ?_
        first | refine w_cond rfl (fun hI3 => ?_) (fun hI3 => ?_) | refine w_condB rfl (fun hI3 => ?_) (fun hI3 => ?_)
        · try (exfalso; omega)
          all_goals
            have h3 : clsV x.f0 = 1 ∨ clsV x.f0 = 3 := by show Go.Proofs.Ytkmdofkajcehpaa.P.class_Of.v x.f0 = 1 ∨ Go.Proofs.Ytkmdofkajcehpaa.P.class_Of.v x.f0 = 3; omega
            refine w_region ?_
            refine w_o rfl rfl rfl (op_move rfl ?_)
            refine w_o rfl rfl rfl (op_fieldAddr fa_23_0 rfl ?_)
            refine w_o rfl rfl rfl (op_loadF agg_3 rfl el_ rfl ?_)
            refine w_o rfl rfl rfl (op_call rfl rfl rfl ?_)
            refine CallW.weak (H' := (b5, .row true 24 1 [.nils]) :: ([] ++ restC b2 b3 b6 x own H)) (by unfold restC; exact sel_) (add_w (l := []) (by decide) .nil fun c39 N39 o1 => ?_)
            rw [show [] ++ [cellAt x own x.f0 (([] : List DC).length : Nat)] = cellsV x own from (cellsV_1 h3).symm] at o1
            unfold restC
            refine w_end ?_
            refine block_normal ?_
            first
              | exact mid_normal ⟨_, _, o0, rfl, rfl⟩ env_ sel_
              | exact mid_normal ⟨_, _, o1, rfl, rfl⟩ env_ sel_
              | exact mid_normal ⟨_, _, o2, rfl, rfl⟩ env_ sel_
              | exact mid_normal ⟨_, _, o4, rfl, rfl⟩ env_ sel_
        · try (exfalso; omega)
          all_goals
            refine w_seq ?_
            refine w_region ?_
            refine w_o rfl rfl rfl (op_eq rfl rfl ?_)
            refine w_o rfl rfl rfl (op_assign rfl ?_)
            refine w_end ?_
            refine seq_normal ?_
            first | refine w_cond rfl (fun hI4 => ?_) (fun hI4 => ?_) | refine w_condB rfl (fun hI4 => ?_) (fun hI4 => ?_)
            · refine w_seq ?_
              refine w_region ?_
              refine w_o rfl rfl rfl (op_move rfl ?_)
              refine w_o rfl rfl rfl (op_fieldAddr fa_23_0 rfl ?_)
              refine w_o rfl rfl rfl (op_loadF agg_3 rfl el_ rfl ?_)
              refine w_o rfl rfl rfl (op_call rfl rfl rfl ?_)
              refine CallW.weak (H' := (b5, .row true 24 1 [.nils]) :: ([] ++ restC b2 b3 b6 x own H)) (by unfold restC; exact sel_) (add_w (l := []) (by decide) .nil fun c45 N45 o45 => ?_)
              refine w_end ?_
              refine seq_normal ?_
              refine w_region ?_
              refine w_o rfl rfl rfl (op_move rfl ?_)
              refine w_o rfl rfl rfl (op_call rfl rfl rfl ?_)
              refine add_w (l := [cellAt x own x.f0 0]) (by simp) o45 fun c47 N47 o2 => ?_
              rw [show [cellAt x own x.f0 0] ++ [cellAt x own (-1) (([cellAt x own x.f0 0] : List DC).length : Nat)] = cellsV x own from (cellsV_2 hI4).symm] at o2
              unfold restC
              refine w_end ?_
              refine block_normal ?_
              first
                | exact mid_normal ⟨_, _, o0, rfl, rfl⟩ env_ sel_
                | exact mid_normal ⟨_, _, o1, rfl, rfl⟩ env_ sel_
                | exact mid_normal ⟨_, _, o2, rfl, rfl⟩ env_ sel_
                | exact mid_normal ⟨_, _, o4, rfl, rfl⟩ env_ sel_
            · have h4 : 3 < clsV x.f0 := by show 3 < Go.Proofs.Ytkmdofkajcehpaa.P.class_Of.v x.f0; omega
              have hsz := txtV_size h4
              refine w_seq ?_
              refine w_region ?_
              refine w_o rfl rfl rfl (op_fieldAddr fa_23_0 rfl ?_)
              refine w_o rfl rfl rfl (op_loadF agg_3 rfl el_ rfl ?_)
              refine w_o rfl rfl rfl (op_call rfl rfl rfl ?_)
              refine show_Text_sw (Go.Proofs.Ytkmdofkajcehpaa.P.show_Text.at _ 100 (by decide)) ?_
              refine w_o rfl rfl rfl (op_assign rfl ?_)
              refine w_end ?_
              refine seq_normal ?_
              refine w_seq ?_
              refine w_region ?_
              refine w_o rfl rfl rfl (op_move rfl ?_)
              refine w_o rfl rfl rfl (op_lenS und_9 rfl ?_)
              refine w_o rfl rfl rfl (op_move rfl ?_)
              refine w_end ?_
              refine seq_normal ?_
              refine w_block ?_
              refine w_loop (fun m e H' => ∃ (i : Nat) (c : Cell) (N : Hyp), i ≤ (txtV x.f0).size ∧ m = (txtV x.f0).size - i ∧ Own 100 5 c ((bytesC x own (txtV x.f0) i).flatMap encD) N ∧ H' = (b5, .row true 24 1 [c]) :: (N ++ restC b2 b3 b6 x own H) ∧ e = [(5, ptrV b5 0), (7, .one (.c (.fn 82 [(b5, 0), (b6, 0), (b3, 0), (b2, 0)]))), (8, vS (txtV x.f0)), (20, vI ((txtV x.f0).size : Nat)), (21, vI (i : Nat))]) ?_ ?_
              · exact ⟨_, _, _, ⟨0, .nils, [], Nat.zero_le _, rfl, .nil, rfl, rfl⟩, env_, (by unfold restC; exact sel_)⟩
              · rintro m e H' ⟨i, c, N, hi, rfl, hO, rfl, rfl⟩
                refine w_seq ?_
                refine w_region ?_
                refine w_o rfl rfl rfl (op_lt rfl rfl ?_)
                refine w_end ?_
                refine seq_normal ?_
                refine w_seq ?_
                first | refine w_cond rfl (fun hI5 => ?_) (fun hI5 => ?_) | refine w_condB rfl (fun hI5 => ?_) (fun hI5 => ?_)
                · refine w_skip ?_
                  refine seq_normal ?_
                  refine w_seq ?_
                  refine w_block ?_
                  refine w_seq ?_
                  refine w_region ?_
                  refine w_o rfl rfl rfl (op_move rfl ?_)
                  refine w_o rfl rfl rfl (op_assign rfl ?_)
                  refine w_end ?_
                  refine seq_normal ?_
                  refine w_region ?_
                  refine w_o rfl rfl rfl (op_move rfl ?_)
                  refine w_o rfl rfl rfl (op_move rfl ?_)
                  refine w_o rfl rfl rfl (op_move rfl ?_)
                  refine w_o rfl rfl rfl (op_indexS und_9 rfl rfl (by omega) (by omega) ?_)
                  refine w_o rfl rfl rfl (op_convi und_5 und_3 rfl (wrap_i64 (by have := byteAt_in (txtV x.f0) i; omega) (by have := byteAt_in (txtV x.f0) i; omega)) ?_)
                  refine w_o rfl rfl rfl (op_call rfl rfl rfl ?_)
                  refine add_w (by rw [bytesC_len]; omega) hO fun c29 N29 o29 => ?_
                  rw [bytesC_len, ← bytesC_succ] at o29
                  refine w_end ?_
                  refine block_normal ?_
                  refine seq_normal ?_
                  refine w_region ?_
                  refine w_o rfl rfl rfl (op_addi rfl rfl (by omega) (by omega) ?_)
                  refine w_o rfl rfl rfl (op_move rfl ?_)
                  refine w_end ?_
                  exact loop_normal (k' := (txtV x.f0).size - (i + 1)) (by omega) ⟨i + 1, c29, N29, by omega, rfl, o29, rfl, rfl⟩ env_ sel_
                · have hi' : i = (txtV x.f0).size := by omega
                  subst hi'
                  have o4 : Own 100 5 c ((cellsV x own).flatMap encD) N := by rw [cellsV_4 h4]; exact hO
                  unfold restC
                  refine w_exit ?_
                  refine seq_exit ?_
                  refine loop_exit ?_
                  refine block_hit rfl ?_
                  refine block_normal ?_
                  first
                    | exact mid_normal ⟨_, _, o0, rfl, rfl⟩ env_ sel_
                    | exact mid_normal ⟨_, _, o1, rfl, rfl⟩ env_ sel_
                    | exact mid_normal ⟨_, _, o2, rfl, rfl⟩ env_ sel_
                    | exact mid_normal ⟨_, _, o4, rfl, rfl⟩ env_ sel_
  · rintro e H' ⟨c, N, hO, rfl, rfl⟩
    refine w_seq ?_
    refine w_region ?_
    refine w_o rfl rfl rfl (op_load1 agg_24 rfl el_ ?_)
    refine w_o rfl rfl rfl (op_assign rfl ?_)
    refine w_end ?_
    refine seq_normal ?_
    refine w_ret ?_
    exact ret_ret rfl sel_ (k _ _ hO)
end Go.Proofs.Ytkmdofkajcehpaa.AM.B
