/- What the abstract machine asks of this seat's program. -/
import Derived.Test.YtlmmeihgjpgooaaProg
import Derived.Test.YtlmmeihgjpgooaaAMS16
namespace Go.Proofs.Ytlmmeihgjpgooaa.P
set_option maxRecDepth 1000000
theorem am_names : AM.PlainNames Try.prog := AM.plainNames_of (by decide +kernel)
theorem am_mixed : Try.prog.follows .mixedOrders = true := by decide +kernel
end Go.Proofs.Ytlmmeihgjpgooaa.P
