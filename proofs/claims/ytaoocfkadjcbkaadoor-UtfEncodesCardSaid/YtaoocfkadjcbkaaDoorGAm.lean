/- What the abstract machine asks of this seat's program. -/
import Derived.Test.YtaoocfkadjcbkaaDoorProg
import Derived.Test.YtaoocfkadjcbkaaDoorAMS
import Derived.Laws.Externs
namespace Go.Proofs.YtaoocfkadjcbkaaDoor.P
set_option maxRecDepth 1000000
theorem am_names : AM.PlainNames Tryd.prog := AM.plainNames_of (by decide +kernel)
theorem am_mixed : Tryd.prog.follows .mixedOrders = true := by decide +kernel
def am_spec : AM.Spec := AM.noSpec
theorem am_spec_ok : AM.SpecOK Tryd.prog am_spec := AM.noSpec_ok
end Go.Proofs.YtaoocfkadjcbkaaDoor.P
