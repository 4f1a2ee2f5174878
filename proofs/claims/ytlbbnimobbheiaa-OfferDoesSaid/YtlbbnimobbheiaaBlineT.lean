/- How a line and lists of signs come in. -/
import Derived.Test.YtlbbnimobbheiaaAX
import Derived.Test.YtlbbnimobbheiaaBoffer10
set_option linter.unusedVariables false
set_option linter.unusedSimpArgs false
set_option maxRecDepth 10000
set_option maxHeartbeats 4000000
namespace Go.Proofs.Ytlbbnimobbheiaa.AM.B
open Go Go.RowKit
abbrev LineS := Go.Proofs.Ytlbbnimobbheiaa.P.S24
def layLine : Lay LineS := layIso (layPair (laySl 47 2 (layFlat encS)) (layFlat fun n => [.int .i64 n])) (fun x : LineS => (x.f0, x.f1))
theorem mono_24 : layLine.mono := by
  intro H H' x cs hs h
  obtain ⟨c1, c2, rfl, h1, h2⟩ := h
  exact ⟨c1, c2, rfl, laySl_mono (layFlat_mono _) _ _ _ _ hs h1, h2⟩
theorem rdA_24 : RdA Try.prog 24 2 layLine (fun _ => True) :=
  rdA_map (fun _ _ _ h => h) (fun _ _ => trivial) (rdA_iso (fun x => ⟨x.1, x.2⟩) (fun _ => rfl) (rdA_struct Try.underlying24 (by kernel_rfl)
    (rdAL_cons rfl (by kernel_rfl) (laySl_mono (layFlat_mono _)) (rdA_slice (B := 16) und_22 (by kernel_rfl) (by kernel_rfl) (by decide) (layFlat_mono _) rdA_47) (rdAL_one rfl (by kernel_rfl) (rdA_int und_3)))))
theorem layKVo {H : Hyp} {L : List (List Sign)} {cs : List Cell} (h : laySl 22 1 (laySl 47 2 (layFlat encS)) H L cs) : ∃ c, cs = [c] ∧ KVo H L c := by
  obtain ⟨c0, ds, rfl, hl, hs, hin⟩ := laySl_ones h
  refine ⟨c0, rfl, ds, hs, hl, fun i d x hd hx => ?_⟩
  obtain ⟨c, hc, hsl⟩ := laySl_flat (hin i d x hd hx)
  cases hc
  exact hsl
end Go.Proofs.Ytlbbnimobbheiaa.AM.B
