/- Two unlike values that may be are shown by unlike texts, or just one of them is dangerous; no text has a byte below 32, nor 127. -/
import Derived.Test.YtkembaghhahnpaaPdactyllaw06ShowApart
import Derived.Test.YtkembaghhahnpaaQShowText
import Derived.Test.YtkembaghhahnpaaQShow
import Derived.Test.YtkembaghhahnpaaQDanger
import Derived.Test.YtkembaghhahnpaaQClass
namespace Go.Proofs.Ytkembaghhahnpaa.Pure
open Go.RowKit Go.Proofs.Ytkembaghhahnpaa.P Go.Proofs.YtkembaghhahnpaaW.PrintWords Go.Proofs.YtkembaghhahnpaaW.PrintLast
set_option linter.unusedVariables false
set_option linter.unusedSimpArgs false
theorem w64 (i : Int) (h0 : -9223372036854775808 ≤ i) (h1 : i ≤ 9223372036854775807) : wrap64 i = i := by unfold wrap64; omega
theorem looks_at (v : Int) (k : Nat) (hk : 4 ≤ k) : show_Looks.f k v 0 = some (if class_Of.v v > 3 then 1 else if class_Of.v v = 3 then 4 else 0) := by
  obtain ⟨k, rfl⟩ : ∃ q, k = q + 2 := ⟨k - 2, by omega⟩
  unfold show_Looks.f
  rw [class_Danger.at v (k + 2) (by omega)]
  simp only [Option.bind_some, show_Looks.j0, show_Looks.j1]
  rw [class_Of.at v k (by omega)]
  simp only [Option.bind_some]
  generalize class_Of.v v = c
  by_cases h : c > 3
  · rw [if_pos (decide_eq_true h), if_pos h, if_neg (by omega), if_neg (by decide), if_neg (by omega)]; rfl
  · rw [if_neg (by simpa using h), if_neg h, if_neg (by omega), if_neg (by decide)]
    by_cases h3 : c = 3
    · rw [if_pos h3, if_pos h3, w64 _ (by omega) (by omega)]; rfl
    · rw [if_neg h3, if_neg h3]
theorem apart_end (v w : Int) (k : Nat) (hk : 10 ≤ k) (s t : ByteArray) (hs : s = showT v (class_Of.v v)) (ht : t = showT w (class_Of.v w)) (i : Int) (hi : ¬ i < (s.size : Int)) : dactyllaw06_ShowApart.l0 k v w s t i = some true := by
  obtain ⟨k, rfl⟩ : ∃ q, k = q + 1 := ⟨k - 1, by omega⟩
  simp only [dactyllaw06_ShowApart.l0]
  rw [if_neg hi]
  simp only [dactyllaw06_awake.f, Option.bind_some, if_true]
  by_cases hvw : v = w
  · rw [if_pos hvw]
  · rw [if_neg hvw, right_same, right_same]
    simp only [Option.bind_some]
    have a := class_where v
    have b := class_where w
    by_cases hr : (0 ≤ v ∧ v < 55296 ∨ 57343 < v ∧ v ≤ 1114111 ∨ 1114240 ≤ v ∧ v ≤ 1114367)
    · rw [if_pos (decide_eq_true hr)]
      by_cases gr : (0 ≤ w ∧ w < 55296 ∨ 57343 < w ∧ w ≤ 1114111 ∨ 1114240 ≤ w ∧ w ≤ 1114367)
      · rw [if_pos (decide_eq_true gr)]
        by_cases he : s.toList = t.toList
        · rw [if_pos he, looks_at v k (by omega), looks_at w k (by omega)]
          simp only [Option.bind_some]
          have hst : s = t := by
            rw [ByteArray.toList_eq, ByteArray.toList_eq] at he
            cases s; cases t
            simp only at he
            exact congrArg ByteArray.mk (Array.toList_inj.1 he)
          have hne : ¬ (3 < class_Of.v v ↔ 3 < class_Of.v w) := fun q => hvw (showT_inj v w (by omega) (by omega) q (by rw [← hs, ← ht, hst]))
          by_cases p : 3 < class_Of.v v
          · have p2 : ¬ class_Of.v w > 3 := fun q => hne ⟨fun _ => q, fun _ => p⟩
            rw [if_pos p, if_neg p2]
            by_cases p3 : class_Of.v w = 3
            · rw [if_pos p3]; rfl
            · rw [if_neg p3]; rfl
          · have p2 : class_Of.v w > 3 := by
              rcases Int.lt_or_le 3 (class_Of.v w) with q | q
              · exact q
              · exact absurd ⟨fun h => absurd h p, fun h => absurd h (by omega)⟩ hne
            rw [if_neg p, if_pos p2]
            by_cases p3 : class_Of.v v = 3
            · rw [if_pos p3]; rfl
            · rw [if_neg p3]; rfl
        · rw [if_neg he]
      · rw [if_neg (by simpa using gr)]
    · rw [if_neg (by simpa using hr)]
theorem apart_l0 (v w : Int) (s t : ByteArray) (hs : s = showT v (class_Of.v v)) (ht : t = showT w (class_Of.v w)) : ∀ (d i k : Nat), s.size - i = d → i ≤ s.size → d + 10 ≤ k → dactyllaw06_ShowApart.l0 k v w s t (i : Int) = some true
  | 0, i, k, hd, hi, hk => apart_end v w k (by omega) s t hs ht i (by omega)
  | d + 1, i, k, hd, hi, hk => by
    obtain ⟨k, rfl⟩ : ∃ q, k = q + 1 := ⟨k - 1, by omega⟩
    simp only [dactyllaw06_ShowApart.l0]
    have hlt : i < s.size := by omega
    have hb : 32 ≤ bt s (i : Int) ∧ bt s (i : Int) ≠ 127 := by
      have hm : s[i] ∈ s.data.toList := by rw [Array.mem_toList_iff]; exact Array.getElem_mem _
      have hq := showT_bytes v
      rw [← hs] at hq
      have := hq _ hm
      have e := bt_at s (i : Int) (by simpa using hlt)
      simp only [Int.toNat_natCast] at e
      omega
    have htop := showT_top v
    rw [← hs] at htop
    rw [if_pos (by omega), if_pos (by omega), if_neg (by omega), if_neg hb.2, w64 _ (by omega) (by omega)]
    exact apart_l0 v w s t hs ht d (i + 1) k (by omega) (by omega) (by omega)
theorem ShowApart : dactyllaw06_ShowApart.Pure := by
  intro v w hv hw
  refine ⟨100, ?_⟩
  unfold dactyllaw06_ShowApart.f
  rw [show_Text.at v 100 (by omega), show_Text.at w 100 (by omega)]
  simp only [Option.bind_some]
  have htop := showT_top v
  exact apart_l0 v w _ _ rfl rfl _ 0 100 rfl (by omega) (by omega)

end Go.Proofs.Ytkembaghhahnpaa.Pure
