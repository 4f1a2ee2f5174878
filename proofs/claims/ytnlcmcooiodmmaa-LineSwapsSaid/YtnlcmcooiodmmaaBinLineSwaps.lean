/- The law LineSwaps, over what comes in. -/
import Derived.Test.YtnlcmcooiodmmaaAX
import Derived.Test.YtnlcmcooiodmmaaBlawLineSwaps
set_option linter.unusedVariables false
set_option linter.unusedSimpArgs false
set_option maxRecDepth 10000
set_option maxHeartbeats 4000000
namespace Go.Proofs.Ytnlcmcooiodmmaa.AM.B
open Go Go.RowKit
abbrev LineS := Go.Proofs.Ytnlcmcooiodmmaa.P.S24
def layLine : Lay LineS := layIso (layPair (laySl 47 2 (layFlat encS)) (layFlat fun n => [.int .i64 n])) (fun x : LineS => (x.f0, x.f1))
theorem rdA_24 : RdA Try.prog 24 2 layLine (fun _ => True) :=
  rdA_map (fun _ _ _ h => h) (fun _ _ => trivial) (rdA_iso (fun x => ⟨x.1, x.2⟩) (fun _ => rfl) (rdA_struct Try.underlying24 (by kernel_rfl)
    (rdAL_cons rfl (by kernel_rfl) (laySl_mono (layFlat_mono _)) (rdA_slice (B := 16) und_22 (by kernel_rfl) (by kernel_rfl) (by decide) (layFlat_mono _) rdA_47) (rdAL_one rfl (by kernel_rfl) (rdA_int und_3)))))
theorem LineSwaps_in {H : Hyp} {l0 : LineS} {cs0 : List Cell} (h0 : layLine H l0 cs0) (g0 : True) : CallW Try.prog Xs 6 [.one (.agg cs0)] H (fun v _ => v = vB true) := by
  obtain ⟨c1, c2, rfl, h1, h2⟩ := h0
  obtain ⟨c, rfl, hS⟩ := laySl_flat h1
  simp only [layFlat] at h2
  subst h2
  exact LineSwaps_law hS
end Go.Proofs.Ytnlcmcooiodmmaa.AM.B
