/- Machine side of the laws of this seat: each Go function as a plain Lean function, and its contract over the model; written by a program of this session (gprint.py) round the kit's print. Not trusted: Lean checks it. -/
import Derived.Test.YtlmmeihgjpgooaaP0
namespace Go.Proofs.Ytlmmeihgjpgooaa.P
open Go.RowKit Go.Proofs.YtlmmeihgjpgooaaW.PrintWords Go.Proofs.YtlmmeihgjpgooaaW.PrintLast Go.Proofs.YtlmmeihgjpgooaaW.PrintMore
attribute [local go_sem] max2_int min2_int max_two min_two max_three min_three max_four min_four   -- for this text's walks alone
set_option linter.unusedVariables false
set_option linter.unusedSimpArgs false

/-! ### dactyllaw43_awake: function 36 -/
def dactyllaw43_awake.f : Option Bool := some true
set_option maxRecDepth 1000000 in
theorem dactyllaw43_awake.calls (r : Bool) (w : World) (h : dactyllaw43_awake.f = some r) :
    Calls Try.prog 36 #[] w fun e w' => e = .returned (.bool r) ∧ Below w.heap.size w w' := by
  obtain rfl : true = r := Option.some.inj h
  exact AM.true_of am_mixed am_spec_ok am_names (n := 1000000) (by decide +kernel) w

end Go.Proofs.Ytlmmeihgjpgooaa.P
