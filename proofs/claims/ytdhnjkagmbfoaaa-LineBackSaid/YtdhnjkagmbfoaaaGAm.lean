/- What the abstract machine asks of this seat's program. -/
import Derived.Test.YtdhnjkagmbfoaaaProg
import Derived.Test.YtdhnjkagmbfoaaaAMS
import Derived.Laws.Externs
namespace Go.Proofs.Ytdhnjkagmbfoaaa.P
set_option maxRecDepth 1000000
theorem am_names : AM.PlainNames Try.prog := AM.plainNames_of (by decide +kernel)
theorem am_mixed : Try.prog.follows .mixedOrders = true := by decide +kernel
def am_spec : AM.Spec := AM.noSpec
theorem am_spec_ok : AM.SpecOK Try.prog am_spec := AM.noSpec_ok
end Go.Proofs.Ytdhnjkagmbfoaaa.P
