/- The law ShowCells: it answers true, whatever comes in. -/
import Derived.Test.YtkmdofkajcehpaaAX
import Derived.Test.YtkmdofkajcehpaaBshowref
set_option linter.unusedVariables false
set_option linter.unusedSimpArgs false
set_option maxRecDepth 10000
set_option maxHeartbeats 4000000
namespace Go.Proofs.Ytkmdofkajcehpaa.AM.B
open Go Go.RowKit
theorem ShowCells_law {x q : Sign} {own : Int} {H : Hyp} : CallW Try.prog Xs 3 [.one (.agg (encS x)), .one (.agg (encS q)), vI own] H (fun v _ => v = vB true) := by
  have hl1 := cellsV_len x own
  have hl2 := cellsV_len q own
  refine call_of (n := 49) (fun _ => rfl) Try.func3 rfl rfl ?_
  refine w_seq ?_
  refine w_region ?_
  refine w_o rfl rfl rfl (op_box rfl fun b3 => ?_)
  refine w_o rfl rfl rfl (op_box rfl fun b4 => ?_)
  refine w_o rfl rfl rfl (op_assign rfl ?_)
  refine w_end ?_
  refine seq_normal ?_
  refine w_seq ?_
  refine w_region ?_
  refine w_o rfl rfl rfl (op_loadA agg_23 siz_23 rfl rfl el_ ?_)
  refine w_o rfl rfl rfl (op_move rfl ?_)
  refine w_o rfl rfl rfl (op_call rfl rfl rfl ?_)
  refine Cells_w fun c11 N11 o11 => ?_
  refine w_o rfl rfl rfl (op_assign rfl ?_)
  refine w_end ?_
  refine seq_normal ?_
  refine w_seq ?_
  refine w_region ?_
  refine w_o rfl rfl rfl (op_loadA agg_23 siz_23 rfl rfl el_ ?_)
  refine w_o rfl rfl rfl (op_move rfl ?_)
  refine w_o rfl rfl rfl (op_call rfl rfl rfl ?_)
  refine refCells_w fun c14 N14 o14 => ?_
  refine w_o rfl rfl rfl (op_assign rfl ?_)
  refine w_end ?_
  refine seq_normal ?_
  refine w_seq ?_
  refine w_drawF (_) sel_ (by decide +kernel) (by decide +kernel) ?_
  refine f_m (guard_none rfl) rfl rfl rfl (op_call rfl rfl rfl ?_)
  refine awake_w ?_
  refine ⟨sel_, ?_⟩
  refine f_b (guard_none rfl) rfl rfl rfl rfl (op_move rfl ?_)
  refine f_l (guard_some rfl rfl rfl rfl) rfl rfl rfl sel_ (op_loadA agg_23 siz_23 rfl rfl el_ rfl) ?_
  refine f_m (guard_some rfl rfl rfl rfl) rfl rfl rfl (op_call rfl rfl rfl ?_)
  refine Looks_w (x := x) ?_
  refine ⟨sel_, ?_⟩
  refine f_l (guard_some rfl rfl rfl rfl) rfl rfl rfl sel_ (op_loadA agg_23 siz_23 rfl rfl el_ rfl) ?_
  refine f_m (guard_some rfl rfl rfl rfl) rfl rfl rfl (op_call rfl rfl rfl ?_)
  refine refLooks_w (x := x) ?_
  refine ⟨sel_, ?_⟩
  refine f_b (guard_some rfl rfl rfl rfl) rfl rfl rfl rfl (op_eq rfl rfl ?_)
  refine f_b (guard_none rfl) rfl rfl rfl rfl (op_pick rfl rfl rfl ?_)
  refine f_b (guard_none rfl) rfl rfl rfl rfl (op_move rfl ?_)
  first | refine f_known (t := 23) rfl (fun g23 => ?_) (fun g23 => ?_) | refine f_knownB (t := 23) rfl (fun g23 => ?_) (fun g23 => ?_)
  · refine f_b (guard_some rfl rfl rfl rfl) rfl rfl rfl rfl (op_move rfl ?_)
    refine f_l (guard_some rfl rfl rfl rfl) rfl rfl rfl sel_ (op_loadA agg_23 siz_23 rfl rfl el_ rfl) ?_
    refine f_b (guard_some rfl rfl rfl rfl) rfl rfl rfl rfl (op_move rfl ?_)
    refine f_m (guard_some rfl rfl rfl rfl) rfl rfl rfl (op_call rfl rfl rfl ?_)
    refine refCells_w (x := x) fun c27 N27 o27 => ?_
    refine ⟨sel_, ?_⟩
    refine f_m (guard_some rfl rfl rfl rfl) rfl rfl rfl (op_call rfl rfl rfl ?_)
    refine All_w (l := cellsV x own) (l' := cellsV x own) (Own.slT o11 (fun _ => rfl) (by decide) subs_) (Own.slT o27 (fun _ => rfl) (by decide) subs_) (by omega) ?_
    refine ⟨sel_, ?_⟩
    refine f_b (guard_none rfl) rfl rfl rfl rfl (op_pick rfl rfl rfl ?_)
    refine f_b (guard_none rfl) rfl rfl rfl rfl (op_move rfl ?_)
    first | refine f_known (t := 30) rfl (fun g30 => ?_) (fun g30 => ?_) | refine f_knownB (t := 30) rfl (fun g30 => ?_) (fun g30 => ?_)
    · refine f_b (guard_some rfl rfl rfl rfl) rfl rfl rfl rfl (op_move rfl ?_)
      refine f_b (guard_some rfl rfl rfl rfl) rfl rfl rfl rfl (op_lenC und_24 rfl (by first | exact ⟨rfl, fun s e => by cases e⟩ | exact Sl.lenC (by assumption) | (refine Own.lenT (by assumption) ?_ ?_ <;> first | exact fun _ => rfl | decide)) ?_)
      refine f_b (guard_some rfl rfl rfl rfl) rfl rfl rfl rfl (op_fieldAddr fa_23_0 rfl ?_)
      refine f_l (guard_some rfl rfl rfl rfl) rfl rfl rfl sel_ (op_loadF agg_3 rfl el_ rfl rfl) ?_
      refine f_m (guard_some rfl rfl rfl rfl) rfl rfl rfl (op_call rfl rfl rfl ?_)
      refine dactylref06_Cols_sw (Go.Proofs.Ytkmdofkajcehpaa.P.ref_Cols x.f0 100 (by decide)) ?_
      refine ⟨sel_, ?_⟩
      refine f_b (guard_some rfl rfl rfl rfl) rfl rfl rfl rfl (op_eq rfl rfl ?_)
      refine f_b (guard_none rfl) rfl rfl rfl rfl (op_pick rfl rfl rfl ?_)
      refine f_b (guard_none rfl) rfl rfl rfl rfl (op_move rfl ?_)
      first | refine f_known (t := 38) rfl (fun g38 => ?_) (fun g38 => ?_) | refine f_knownB (t := 38) rfl (fun g38 => ?_) (fun g38 => ?_)
      · refine f_b (guard_some rfl rfl rfl rfl) rfl rfl rfl rfl (op_move rfl ?_)
        refine f_b (guard_some rfl rfl rfl rfl) rfl rfl rfl rfl (op_move rfl ?_)
        refine f_m (guard_some rfl rfl rfl rfl) rfl rfl rfl (op_call rfl rfl rfl ?_)
        refine Same_w (l := cellsV x own) (l' := cellsV q own) (Own.slT o11 (fun _ => rfl) (by decide) subs_) (Own.slT o14 (fun _ => rfl) (by decide) subs_) (by omega) ?_
        refine ⟨sel_, ?_⟩
        refine f_l (guard_some rfl rfl rfl rfl) rfl rfl rfl sel_ (op_loadA agg_23 siz_23 rfl rfl el_ rfl) ?_
        refine f_b (guard_some rfl rfl rfl rfl) rfl rfl rfl rfl (op_move rfl ?_)
        refine f_m (guard_some rfl rfl rfl rfl) rfl rfl rfl (op_call rfl rfl rfl ?_)
        refine refCells_w (x := x) fun c44 N44 o44 => ?_
        refine ⟨sel_, ?_⟩
        refine f_b (guard_some rfl rfl rfl rfl) rfl rfl rfl rfl (op_move rfl ?_)
        refine f_m (guard_some rfl rfl rfl rfl) rfl rfl rfl (op_call rfl rfl rfl ?_)
        refine refSame_w (l := cellsV x own) (l' := cellsV q own) (Own.slT o44 (fun _ => rfl) (by decide) subs_) (Own.slT o14 (fun _ => rfl) (by decide) subs_) (by omega) ?_
        refine ⟨sel_, ?_⟩
        refine f_b (guard_some rfl rfl rfl rfl) rfl rfl rfl rfl (op_booleq und_4 rfl rfl ?_)
        refine f_b (guard_none rfl) rfl rfl rfl rfl (op_pick rfl rfl rfl ?_)
        refine f_b (guard_none rfl) rfl rfl rfl rfl (op_assign rfl ?_)
        refine f_end ?_
        refine seq_normal ?_
        refine w_ret ?_
        exact ret_bool (b' := true) rfl sel_ (by simp) rfl
      · exact absurd (cellsV_cols x own) g38 --closed
    · exact absurd rfl g30 --closed
  · exact absurd rfl g23 --closed
end Go.Proofs.Ytkmdofkajcehpaa.AM.B
