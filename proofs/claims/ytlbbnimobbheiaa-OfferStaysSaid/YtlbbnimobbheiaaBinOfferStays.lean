/- The law OfferStays, over what comes in. -/
import Derived.Test.YtlbbnimobbheiaaAX
import Derived.Test.YtlbbnimobbheiaaBlawOfferStays
import Derived.Test.YtlbbnimobbheiaaBlineT
set_option linter.unusedVariables false
set_option linter.unusedSimpArgs false
set_option maxRecDepth 10000
set_option maxHeartbeats 4000000
namespace Go.Proofs.Ytlbbnimobbheiaa.AM.B
open Go Go.RowKit
theorem OfferStays_in {H : Hyp} {l0 : LineS} {l1 : List (List Sign)} {cs0 cs1 : List Cell} (h0 : layLine H l0 cs0) (h1 : laySl 22 1 (laySl 47 2 (layFlat encS)) H l1 cs1) (g0 : True)
    (g1 : l1.length * 24 ≤ 140737488351232 ∧ ∀ x ∈ l1, x.length * 16 ≤ 140737488351232 ∧ ∀ y ∈ x, (Lit.int .i64 y.f0).wf = true ∧ (Lit.int .i64 y.f1).wf = true) : ∃ c1, cs1 = [c1] ∧ CallW Try.prog Xs 4 [.one (.agg cs0), .one (.c c1)] H (fun v _ => v = vB true) := by
  obtain ⟨d1, d2, rfl, q1, q2⟩ := h0
  obtain ⟨c, rfl, hS⟩ := laySl_flat q1
  simp only [layFlat] at q2
  subst q2
  obtain ⟨c1, rfl, hC⟩ := layKVo h1
  exact ⟨c1, rfl, OfferStays_law hS hC (by omega)⟩
end Go.Proofs.Ytlbbnimobbheiaa.AM.B
