/- The danger of any value. -/
import Derived.Test.YtkmdofkajcehpaaQClass
import Derived.Test.YtkmdofkajcehpaaPclass
namespace Go.Proofs.Ytkmdofkajcehpaa.P
open Go.RowKit Go.Proofs.Ytkmdofkajcehpaa.P Go.Proofs.YtkmdofkajcehpaaW.PrintWords Go.Proofs.YtkmdofkajcehpaaW.PrintLast
set_option linter.unusedVariables false
set_option linter.unusedSimpArgs false
theorem class_Danger.at (v : Int) (k : Nat) (hk : 1 ≤ k) : class_Danger.f k v = some (decide (class_Of.v v > 3)) := by
  unfold class_Danger.f
  rw [class_Of.at v k hk]; rfl
end Go.Proofs.Ytkmdofkajcehpaa.P
