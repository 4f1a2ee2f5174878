/- Signs, and words, change places: the program's and the document's. -/
import Derived.Test.YtlbbnimobbheiaaAX
import Derived.Test.YtlbbnimobbheiaaBline
set_option linter.unusedVariables false
set_option linter.unusedSimpArgs false
set_option maxRecDepth 10000
set_option maxHeartbeats 4000000
namespace Go.Proofs.Ytlbbnimobbheiaa.AM.B
open Go Go.RowKit
/-! ### Two words -/
def seg (l : List Sign) (i j : Int) : List Sign := (l.drop i.toNat).take (j.toNat - i.toNat)
theorem seg_len (l : List Sign) (i j : Int) : (seg l i j).length ≤ l.length := by
  unfold seg; rw [List.length_take, List.length_drop]; omega
def wordsOK (l : List Sign) (s1 e1 s2 : Int) : Prop := s1 < s2 ∧ e1 ≤ s2 ∧ isW l s1 = true ∧ isW l s2 = true
instance (l : List Sign) (s1 e1 s2 : Int) : Decidable (wordsOK l s1 e1 s2) := by unfold wordsOK; infer_instance
end Go.Proofs.Ytlbbnimobbheiaa.AM.B
