/- The width of any value: the document's is the program's. -/
import Derived.Test.YtigkfladgdknbaaQWidth
import Derived.Test.YtigkfladgdknbaaQClass
import Derived.Test.YtigkfladgdknbaaPdactylref03
namespace Go.Proofs.Ytigkfladgdknbaa.P
open Go.RowKit Go.Proofs.Ytigkfladgdknbaa.P Go.Proofs.YtigkfladgdknbaaW.PrintWords Go.Proofs.YtigkfladgdknbaaW.PrintLast
set_option linter.unusedVariables false
set_option linter.unusedSimpArgs false
theorem ref_Width (v : Int) (k : Nat) (hk : 60 ≤ k) : dactylref03_Width.f k v = some (widthC (class_Of.v v)) := by
  unfold dactylref03_Width.f
  rw [ref_Of v k hk]
  simp only [Option.bind_some]
  generalize class_Of.v v = c
  unfold widthC
  by_cases h2 : c = 2
  · simp [h2]
  · by_cases h1 : c = 1
    · simp [h1]
    · by_cases h3 : c = 3
      · simp [h3]
      · simp [h1, h2, h3]
end Go.Proofs.Ytigkfladgdknbaa.P
