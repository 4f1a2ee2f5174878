/- The law ShowCells, over what comes in. -/
import Derived.Test.YtkmdofkajcehpaaAX
import Derived.Test.YtkmdofkajcehpaaBlawShowCells
set_option linter.unusedVariables false
set_option linter.unusedSimpArgs false
set_option maxRecDepth 10000
set_option maxHeartbeats 4000000
namespace Go.Proofs.Ytkmdofkajcehpaa.AM.B
open Go Go.RowKit
theorem rdA_23 : RdA Try.prog 23 2 (layFlat encS) (fun x => (Lit.int .i64 x.f0).wf = true ∧ (Lit.int .i64 x.f1).wf = true) :=
  rdA_map (lay := layIso (layPair (layFlat fun n => [.int .i64 n]) (layFlat fun n => [.int .i64 n])) (fun x : Sign => (x.f0, x.f1))) (fun H x cs h => by
    obtain ⟨c1, c2, rfl, h1, h2⟩ := h
    simp only [layFlat] at h1 h2
    rw [h1, h2]; rfl) (fun _ h => h) (rdA_iso (fun x => ⟨x.1, x.2⟩) (fun _ => rfl) (rdA_struct Try.underlying23 (by kernel_rfl) (rdAL_cons rfl (by kernel_rfl) (layFlat_mono _) (rdA_int und_3) (rdAL_one rfl (by kernel_rfl) (rdA_int und_3)))))
theorem ShowCells_in {H : Hyp} {l0 l1 : Sign} {l2 : Int} {cs0 cs1 cs2 : List Cell} (h0 : layFlat encS H l0 cs0) (h1 : layFlat encS H l1 cs1) (h2 : layFlat (fun n => [.int .i64 n]) H l2 cs2)
    (g0 : (Lit.int .i64 l0.f0).wf = true ∧ (Lit.int .i64 l0.f1).wf = true) (g1 : (Lit.int .i64 l1.f0).wf = true ∧ (Lit.int .i64 l1.f1).wf = true) (g2 : (Lit.int .i64 l2).wf = true) :
    ∃ c2, cs2 = [c2] ∧ CallW Try.prog Xs 3 [.one (.agg cs0), .one (.agg cs1), .one (.c c2)] H (fun v _ => v = vB true) := by
  simp only [layFlat] at h0 h1 h2
  subst h0; subst h1
  exact ⟨.int .i64 l2, h2, ShowCells_law⟩
end Go.Proofs.Ytkmdofkajcehpaa.AM.B
