/- Plain words of this seat: where the first element stands of which a test holds. -/
import Derived.WalkKit
set_option linter.unusedSimpArgs false
namespace Go.Proofs.YtaoocfkadjcbkaaDoor.P
end Go.Proofs.YtaoocfkadjcbkaaDoor.P
namespace Go.Proofs.YtaoocfkadjcbkaaDoor.P
end Go.Proofs.YtaoocfkadjcbkaaDoor.P
namespace Go.Proofs.YtaoocfkadjcbkaaDoor.P
end Go.Proofs.YtaoocfkadjcbkaaDoor.P
