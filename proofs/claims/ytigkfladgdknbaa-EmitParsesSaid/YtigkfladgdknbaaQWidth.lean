/- The width and the danger of any value: the program's and the document's are one. -/
import Derived.Test.YtigkfladgdknbaaQClass
import Derived.Test.YtigkfladgdknbaaPclass
namespace Go.Proofs.Ytigkfladgdknbaa.P
open Go.RowKit Go.Proofs.Ytigkfladgdknbaa.P Go.Proofs.YtigkfladgdknbaaW.PrintWords Go.Proofs.YtigkfladgdknbaaW.PrintLast
set_option linter.unusedVariables false
set_option linter.unusedSimpArgs false
/-- How many columns a class has. -/
def widthC (c : Int) : Int := if c = 1 then 1 else if c = 3 then 1 else if c = 2 then 2 else 0
theorem class_Width.at (v : Int) (k : Nat) (hk : 1 ≤ k) : class_Width.f k v = some (widthC (class_Of.v v)) := by
  obtain ⟨k, rfl⟩ : ∃ m, k = m + 1 := ⟨k - 1, by omega⟩
  unfold class_Width.f
  rw [class_Of.at v (k + 1) hk]
  simp only [Option.bind_some, class_Width.j0]
  generalize class_Of.v v = c
  unfold widthC
  by_cases h1 : c = 1
  · simp [h1]
  · by_cases h3 : c = 3
    · simp [h3]
    · by_cases h2 : c = 2
      · simp [h2]
      · simp [h1, h2, h3]
end Go.Proofs.Ytigkfladgdknbaa.P
