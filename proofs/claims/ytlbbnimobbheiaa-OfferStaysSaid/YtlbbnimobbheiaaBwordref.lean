/- Words, by the document's answer. -/
import Derived.Test.YtlbbnimobbheiaaAX
import Derived.Test.YtlbbnimobbheiaaBword
set_option linter.unusedVariables false
set_option linter.unusedSimpArgs false
set_option maxRecDepth 10000
set_option maxHeartbeats 4000000
namespace Go.Proofs.Ytlbbnimobbheiaa.AM.B
open Go Go.RowKit
end Go.Proofs.Ytlbbnimobbheiaa.AM.B
