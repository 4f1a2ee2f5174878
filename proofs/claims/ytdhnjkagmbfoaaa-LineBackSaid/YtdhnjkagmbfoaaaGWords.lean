/- Words of this seat over the print's own: rows laid as literals. -/
import Derived.Test.YtdhnjkagmbfoaaaWWords
import Derived.Test.YtdhnjkagmbfoaaaGBase
import Derived.Laws.Rows
import Derived.Maps.AppendAt
import Derived.Laws.AppendOwn
namespace Go.Proofs.Ytdhnjkagmbfoaaa.P
open Go.RowKit Go.Proofs.YtdhnjkagmbfoaaaW.PrintWords Go.Proofs.YtdhnjkagmbfoaaaW.PrintLast
set_option linter.unusedVariables false
set_option linter.unusedSimpArgs false
section
variable {P : Program}
variable {ops : Array Oper} {rest : List Oper} {o : Oper} {a : Act} {Q : Exit → Act → World → Prop} {α : Type}
end
end Go.Proofs.Ytdhnjkagmbfoaaa.P
