/- The danger of any value. -/
import Derived.Test.YtkembaghhahnpaaQClass
import Derived.Test.YtkembaghhahnpaaPclass
namespace Go.Proofs.Ytkembaghhahnpaa.P
open Go.RowKit Go.Proofs.Ytkembaghhahnpaa.P Go.Proofs.YtkembaghhahnpaaW.PrintWords Go.Proofs.YtkembaghhahnpaaW.PrintLast
set_option linter.unusedVariables false
set_option linter.unusedSimpArgs false
theorem class_Danger.at (v : Int) (k : Nat) (hk : 1 ≤ k) : class_Danger.f k v = some (decide (class_Of.v v > 3)) := by
  unfold class_Danger.f
  rw [class_Of.at v k hk]; rfl

end Go.Proofs.Ytkembaghhahnpaa.P
