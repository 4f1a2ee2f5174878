/- Each value that may be has from 1 to 10 columns. -/
import Derived.Test.YtkembaghhahnpaaPdactyllaw06ShowCols
import Derived.Test.YtkembaghhahnpaaQShow
import Derived.Test.YtkembaghhahnpaaQWidth
import Derived.Test.YtkembaghhahnpaaQClass
namespace Go.Proofs.Ytkembaghhahnpaa.Pure
open Go.RowKit Go.Proofs.Ytkembaghhahnpaa.P Go.Proofs.YtkembaghhahnpaaW.PrintWords Go.Proofs.YtkembaghhahnpaaW.PrintLast
set_option linter.unusedVariables false
set_option linter.unusedSimpArgs false
theorem nil_toList : (⟨#[]⟩ : ByteArray).toList = [] := by rw [ByteArray.toList_eq]
theorem list_ne (s : ByteArray) (h : 1 ≤ s.size) : ¬ s.toList = [] := by
  intro e
  have h2 : s.toList.length = s.size := by rw [ByteArray.toList_eq]; rfl
  rw [e] at h2
  have h3 : ([] : List UInt8).length = 0 := rfl
  omega
theorem ShowCols : dactyllaw06_ShowCols.Pure := by
  intro v hv
  refine ⟨100, ?_⟩
  have hT := show_Text.at v 100 (by omega)
  have hD := class_Danger.at v 100 (by omega)
  have hW := class_Width.at v 100 (by omega)
  have hC : show_Cols.f 100 v = some (if class_Of.v v > 3 then ((showT v (class_Of.v v)).size : Int) else widthC (class_Of.v v)) := by
    unfold show_Cols.f
    rw [hD, hT, hW]
    simp only [Option.bind_some]
    by_cases h : class_Of.v v > 3
    · rw [if_pos (decide_eq_true h), if_pos h]
    · rw [if_neg (by simpa using h), if_neg h]
  unfold dactyllaw06_ShowCols.f
  rw [hC, hT, right_same, ref_Of v 100 (by omega)]
  simp only [Option.bind_some, dactyllaw06_awake.f]
  have hw := class_where v
  obtain ⟨s1, s2, s3⟩ := showT_size v
  generalize showT v (class_Of.v v) = t at *
  generalize class_Of.v v = c at *
  rcases hw with ⟨rfl, hr⟩ | ⟨hr, hc⟩
  · rw [if_neg (by simpa using hr), s1 rfl, if_pos trivial, if_pos (show (if (0 : Int) > 3 then _ else widthC 0) = 0 by rw [if_neg (by decide)]; decide), nil_toList]
    rfl
  · rw [if_pos (decide_eq_true hr), if_pos trivial]
    have hne := list_ne t (s2 (by omega))
    by_cases h : c > 3
    · rw [if_pos h, if_pos (by have := s3 h; omega), if_pos (by have := s3 h; omega), if_neg hne, if_neg (by omega), if_pos rfl]
      exact congrArg some (decide_eq_true (by have := s3 h; omega))
    · have hc3 : c = 1 ∨ c = 2 ∨ c = 3 := by omega
      rw [if_neg h, if_neg hne, if_pos (show c ≤ 3 by omega)]
      rcases hc3 with rfl | rfl | rfl <;> decide

end Go.Proofs.Ytkembaghhahnpaa.Pure
