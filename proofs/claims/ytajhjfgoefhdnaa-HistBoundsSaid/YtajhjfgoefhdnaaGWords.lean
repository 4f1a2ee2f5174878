/- Words of this seat over the print's own: rows laid as literals. -/
import Derived.Test.YtajhjfgoefhdnaaWWords
import Derived.Test.YtajhjfgoefhdnaaGBase
import Derived.Laws.Rows
import Derived.Maps.AppendAt
import Derived.Laws.AppendOwn
namespace Go.Proofs.Ytajhjfgoefhdnaa.P
open Go.RowKit Go.Proofs.YtajhjfgoefhdnaaW.PrintWords Go.Proofs.YtajhjfgoefhdnaaW.PrintLast
set_option linter.unusedVariables false
set_option linter.unusedSimpArgs false
section
variable {P : Program}
variable {ops : Array Oper} {rest : List Oper} {o : Oper} {a : Act} {Q : Exit → Act → World → Prop} {α : Type}
end
end Go.Proofs.Ytajhjfgoefhdnaa.P
