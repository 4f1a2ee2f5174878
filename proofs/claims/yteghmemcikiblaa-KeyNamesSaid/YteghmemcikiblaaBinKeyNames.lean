/- The law KeyNames, over what comes in. -/
import Derived.Test.YteghmemcikiblaaAX
import Derived.Test.YteghmemcikiblaaBlawKeyNames
set_option linter.unusedVariables false
set_option linter.unusedSimpArgs false
set_option maxRecDepth 10000
set_option maxHeartbeats 4000000
namespace Go.Proofs.Yteghmemcikiblaa.AM.B
open Go Go.RowKit
abbrev layK : Lay (Int × (Int × (ByteArray × Bool))) := layPair (layFlat fun n => [.int .i64 n]) (layPair (layFlat fun n => [.int .i64 n]) (layPair (layFlat fun b => [.str b]) (layFlat fun b => [.bool b])))
theorem rdA_23 : RdA Try.prog 23 4 (layFlat encK) (fun _ => True) :=
  rdA_map (lay := layIso layK (fun x : KeyS => (x.f0, x.f1, x.f2, x.f3))) (fun H x cs h => by
    obtain ⟨c1, c2, rfl, h1, c3, c4, rfl, h2, c5, c6, rfl, h3, h4⟩ := h
    simp only [layFlat] at h1 h2 h3 h4
    rw [h1, h2, h3, h4]; rfl) (fun _ _ => trivial) (rdA_iso (fun x => ⟨x.1, x.2.1, x.2.2.1, x.2.2.2⟩) (fun _ => rfl) (rdA_struct Try.underlying23 (by kernel_rfl)
      (rdAL_cons rfl (by kernel_rfl) (layFlat_mono _) (rdA_int und_3) (rdAL_cons rfl (by kernel_rfl) (layFlat_mono _) (rdA_int und_3) (rdAL_cons rfl (by kernel_rfl) (layFlat_mono _) (rdA_string und_9) (rdAL_one rfl (by kernel_rfl) (rdA_bool und_4)))))))
theorem KeyNames_in {H : Hyp} {l0 : KeyS} {cs0 : List Cell} (h0 : layFlat encK H l0 cs0) (g0 : True) : CallW Try.prog Xs 3 [.one (.agg cs0)] H (fun v _ => v = vB true) := by
  simp only [layFlat] at h0
  subst h0
  exact KeyNames_law
end Go.Proofs.Yteghmemcikiblaa.AM.B
