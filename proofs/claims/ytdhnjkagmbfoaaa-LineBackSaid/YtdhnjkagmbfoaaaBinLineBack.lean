/- The law LineBack, over what comes in. -/
import Derived.Test.YtdhnjkagmbfoaaaAX
import Derived.Test.YtdhnjkagmbfoaaaBlawLineBack
set_option linter.unusedVariables false
set_option linter.unusedSimpArgs false
set_option maxRecDepth 10000
set_option maxHeartbeats 4000000
namespace Go.Proofs.Ytdhnjkagmbfoaaa.AM.B
open Go Go.RowKit
abbrev LineS := Go.Proofs.Ytdhnjkagmbfoaaa.P.S24
def layLine : Lay LineS := layIso (layPair (laySl 39 2 (layFlat encS)) (layFlat fun n => [.int .i64 n])) (fun x : LineS => (x.f0, x.f1))
theorem mono_24 : layLine.mono := by
  intro H H' x cs hs h
  obtain ⟨c1, c2, rfl, h1, h2⟩ := h
  exact ⟨c1, c2, rfl, laySl_mono (layFlat_mono _) _ _ _ _ hs h1, h2⟩
theorem rdA_24 : RdA Try.prog 24 2 layLine (fun _ => True) :=
  rdA_map (fun _ _ _ h => h) (fun _ _ => trivial) (rdA_iso (fun x => ⟨x.1, x.2⟩) (fun _ => rfl) (rdA_struct Try.underlying24 (by kernel_rfl)
    (rdAL_cons rfl (by kernel_rfl) (laySl_mono (layFlat_mono _)) (rdA_slice (B := 16) und_22 (by kernel_rfl) (by kernel_rfl) (by decide) (layFlat_mono _) rdA_39) (rdAL_one rfl (by kernel_rfl) (rdA_int und_3)))))
abbrev TwoS := Go.Proofs.Ytdhnjkagmbfoaaa.P.S31
def encT (x : TwoS) : List Cell := [.int .i64 x.f0, .int .i64 x.f1, .int .i64 x.f2]
theorem rdA_31 : RdA Try.prog 31 3 (layFlat encT) (fun _ => True) :=
  rdA_map (lay := layIso (layPair (layFlat fun n => [.int .i64 n]) (layPair (layFlat fun n => [.int .i64 n]) (layFlat fun n => [.int .i64 n]))) (fun x : TwoS => (x.f0, x.f1, x.f2))) (fun H x cs h => by
    obtain ⟨c1, c2, rfl, h1, c3, c4, rfl, h2, h3⟩ := h
    simp only [layFlat] at h1 h2 h3
    rw [h1, h2, h3]; rfl) (fun _ _ => trivial) (rdA_iso (fun x => ⟨x.1, x.2.1, x.2.2⟩) (fun _ => rfl) (rdA_struct Try.underlying31 (by kernel_rfl)
      (rdAL_cons rfl (by kernel_rfl) (layFlat_mono _) (rdA_int und_3) (rdAL_cons rfl (by kernel_rfl) (layFlat_mono _) (rdA_int und_3) (rdAL_one rfl (by kernel_rfl) (rdA_int und_3))))))
theorem LineBack_in {H : Hyp} {l0 : LineS} {l1 : TwoS} {cs0 cs1 : List Cell} (h0 : layLine H l0 cs0) (h1 : layFlat encT H l1 cs1) (g0 : True) (g1 : True) : CallW Try.prog Xs 4 [.one (.agg cs0), .one (.agg cs1)] H (fun v _ => v = vB true) := by
  obtain ⟨d1, d2, rfl, q1, q2⟩ := h0
  obtain ⟨c, rfl, hS⟩ := laySl_flat q1
  simp only [layFlat] at q2 h1
  subst q2
  subst h1
  exact LineBack_law hS
end Go.Proofs.Ytdhnjkagmbfoaaa.AM.B
