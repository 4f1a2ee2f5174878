/- Words: where the next one ends, and where the one ahead begins. -/
import Derived.Test.YtlbbnimobbheiaaAX
import Derived.Test.YtlbbnimobbheiaaBsign
import Derived.Test.YtlbbnimobbheiaaQKind
import Derived.Test.YtlbbnimobbheiaaBmore
set_option linter.unusedVariables false
set_option linter.unusedSimpArgs false
set_option maxRecDepth 10000
set_option maxHeartbeats 4000000
namespace Go.Proofs.Ytlbbnimobbheiaa.AM.B
open Go Go.RowKit
abbrev kindV (v : Int) : Int := Go.Proofs.Ytlbbnimobbheiaa.P.kindW v
/-- The kind of the sign at a place; where none stands, what is told. -/
def kindO (l : List Sign) (no i : Int) : Int := if i < 0 then no else match l[i.toNat]? with | none => no | some x => kindV x.f0
theorem kindO_at {l : List Sign} {no i : Int} {x : Sign} (h0 : 0 ≤ i) (h : l[i.toNat]? = some x) : kindO l no i = kindV x.f0 := by
  unfold kindO; rw [if_neg (by omega), h]
/-- Does a word's sign stand at a place? -/
def isW (l : List Sign) (i : Int) : Bool := decide (kindO l 0 i = 1)
/-! ### The program -/
end Go.Proofs.Ytlbbnimobbheiaa.AM.B
