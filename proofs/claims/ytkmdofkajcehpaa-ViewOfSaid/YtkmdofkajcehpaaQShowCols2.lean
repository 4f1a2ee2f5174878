/- The columns of any value, as the program tells them. -/
import Derived.Test.YtkmdofkajcehpaaQRefText
import Derived.Test.YtkmdofkajcehpaaQDanger
import Derived.Test.YtkmdofkajcehpaaQShow
import Derived.Test.YtkmdofkajcehpaaQClass
import Derived.Test.YtkmdofkajcehpaaQWidth
import Derived.Test.YtkmdofkajcehpaaPclass
import Derived.Test.YtkmdofkajcehpaaPshow
namespace Go.Proofs.Ytkmdofkajcehpaa.P
open Go.RowKit Go.Proofs.Ytkmdofkajcehpaa.P Go.Proofs.YtkmdofkajcehpaaW.PrintWords Go.Proofs.YtkmdofkajcehpaaW.PrintLast
set_option linter.unusedVariables false
set_option linter.unusedSimpArgs false
theorem show_Cols.at (v : Int) (k : Nat) (hk : 4 ≤ k) : show_Cols.f k v = some (colsV v) := by
  unfold show_Cols.f colsV
  rw [class_Danger.at v k (by omega), show_Text.at v k hk, class_Width.at v k (by omega)]
  simp only [Option.bind_some]
  by_cases h : class_Of.v v > 3
  · rw [if_pos (decide_eq_true h), if_pos h]
  · rw [if_neg (by simpa using h), if_neg h]; rfl
end Go.Proofs.Ytkmdofkajcehpaa.P
