/- The shown text of any value: which bytes it has; two values that are both dangerous, or both not, have two texts. -/
import Derived.Test.YtkmdofkajcehpaaQShow
import Derived.Test.YtkmdofkajcehpaaQClass
import Derived.Test.YtkmdofkajcehpaaPshow
import Derived.Test.YtkmdofkajcehpaaPnum
import Derived.Test.YtkmdofkajcehpaaPutf
import Derived.Test.YtkmdofkajcehpaaPLibUtf8
namespace Go.Proofs.Ytkmdofkajcehpaa.P
open Go.RowKit Go.Proofs.Ytkmdofkajcehpaa.P Go.Proofs.YtkmdofkajcehpaaW.PrintWords Go.Proofs.YtkmdofkajcehpaaW.PrintLast
set_option linter.unusedVariables false
set_option linter.unusedSimpArgs false
end Go.Proofs.Ytkmdofkajcehpaa.P
