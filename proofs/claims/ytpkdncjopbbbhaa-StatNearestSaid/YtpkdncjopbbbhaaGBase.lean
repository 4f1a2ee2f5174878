/- Plain words of this seat: where the first element stands of which a test holds. -/
import Derived.WalkKit
set_option linter.unusedSimpArgs false
namespace Go.Proofs.Ytpkdncjopbbbhaa.P
end Go.Proofs.Ytpkdncjopbbbhaa.P
namespace Go.Proofs.Ytpkdncjopbbbhaa.P
end Go.Proofs.Ytpkdncjopbbbhaa.P
namespace Go.Proofs.Ytpkdncjopbbbhaa.P
end Go.Proofs.Ytpkdncjopbbbhaa.P
