/- The reference's shown text and columns of any value: they are the program's. -/
import Derived.Test.YtkmdofkajcehpaaQShow
import Derived.Test.YtkmdofkajcehpaaQClass
import Derived.Test.YtkmdofkajcehpaaPshow
import Derived.Test.YtkmdofkajcehpaaPnum
import Derived.Test.YtkmdofkajcehpaaPutf
import Derived.Test.YtkmdofkajcehpaaPdactylref03
import Derived.Test.YtkmdofkajcehpaaPdactylref01
import Derived.Test.YtkmdofkajcehpaaPdactylref02
import Derived.Test.YtkmdofkajcehpaaPdactylref06
import Derived.Test.YtkmdofkajcehpaaPLibUtf8
namespace Go.Proofs.Ytkmdofkajcehpaa.P
open Go.RowKit Go.Proofs.Ytkmdofkajcehpaa.P Go.Proofs.YtkmdofkajcehpaaW.PrintWords Go.Proofs.YtkmdofkajcehpaaW.PrintLast
set_option linter.unusedVariables false
set_option linter.unusedSimpArgs false
theorem refDigit (d : Nat) (h : d < 16) : dactylref01_Digit.f (d : Int) = some (digitsB.extract d (d + 1)) := by
  unfold dactylref01_Digit.f
  have e : wrap64 ((d : Int) + 1) = ((d + 1 : Nat) : Int) := by rw [wrap_small _ (by omega) (by omega)]; omega
  rw [e, if_pos (by omega), if_pos (by omega), if_pos (by omega)]
  rfl
theorem w_div16 (n : Nat) (h : n ≤ 9223372036854775807) : wrap64 (Int.tdiv (n : Int) 16) = ((n / 16 : Nat) : Int) := by
  rw [Int.tdiv_eq_ediv_of_nonneg (by omega), wrap_small _ (by omega) (by omega)]; omega
theorem w_pred (l : Int) (h1 : -200 ≤ l) (h2 : l ≤ 200) : wrap64 (l - 1) = l - 1 := wrap_small _ (by omega) (by omega)
theorem w_mod16 (n : Nat) : Int.tmod (n : Int) 16 = ((n % 16 : Nat) : Int) := by
  rw [Int.tmod_eq_emod_of_nonneg (by omega)]; omega
theorem refHex (L : Nat) (hL16 : L ≤ 16) : ∀ (j m k n : Nat) (l : Int) (s : ByteArray), n < 16 ^ j → n ≤ 9223372036854775807 → l ≤ j → j ≤ 60 → (j : Int) ≤ l + 100 → l + s.size = L → (0 < n ∨ 1 ≤ l) → j ≤ m → 2 * j + 2 ≤ k →
    ∃ h, dactylref01_Hex.f k (n : Int) l = some h ∧ laidL 16 (L : Int) m n s = h ++ s ∧ h.size ≤ j
  | 0, m, k, n, l, s, h1, _, h2, _, _, h3, h4, h5, h6 => by
    have : n = 0 := by simpa using h1
    omega
  | j + 1, m, k, n, l, s, h1, h1b, h2, h2b, h2c, h3, h4, h5, h6 => by
    obtain ⟨m, rfl⟩ : ∃ q, m = q + 1 := ⟨m - 1, by omega⟩
    obtain ⟨k, rfl⟩ : ∃ q, k = q + 2 := ⟨k - 2, by omega⟩
    have hd := digit_size (n % 16) (Nat.mod_lt _ (by omega))
    have hs : (digitsB.extract (n % 16) (n % 16 + 1) ++ s).size = s.size + 1 := by rw [ByteArray.size_append, hd]; omega
    have e1 : laidL 16 (L : Int) (m + 1) n s = laidL 16 (L : Int) m (n / 16) (digitsB.extract (n % 16) (n % 16 + 1) ++ s) := by
      simp only [laidL]; rw [if_pos (by omega)]
    by_cases q : n < 16 ∧ l ≤ 1
    · have e2 : laidL 16 (L : Int) m (n / 16) (digitsB.extract (n % 16) (n % 16 + 1) ++ s) = digitsB.extract (n % 16) (n % 16 + 1) ++ s := by
        have h0 : n / 16 = 0 := by omega
        rw [h0]
        cases m with
        | zero => rfl
        | succ m => simp only [laidL]; rw [if_neg (by omega)]
      have e3 : n % 16 = n := by omega
      refine ⟨digitsB.extract n (n + 1), ?_, ?_, ?_⟩
      · simp only [dactylref01_Hex.f, dactylref01_Hex.j0]
        rw [if_pos (by omega), if_pos (decide_eq_true q.2), refDigit n q.1]; rfl
      · rw [e1, e2, e3]
      · rw [← e3, hd]; omega
    · have h16 : n / 16 < 16 ^ j := by rw [Nat.pow_succ] at h1; exact Nat.div_lt_of_lt_mul (by rw [Nat.mul_comm]; exact h1)
      obtain ⟨h, f1, f2, f3⟩ := refHex L hL16 j m k (n / 16) (l - 1) (digitsB.extract (n % 16) (n % 16 + 1) ++ s) h16 (by omega) (by omega) (by omega) (by omega) (by omega) (by omega) (by omega) (by omega)
      refine ⟨h ++ digitsB.extract (n % 16) (n % 16 + 1), ?_, ?_, ?_⟩
      · have e4 : dactylref01_Hex.j0 (k + 1) (n : Int) l false = some (h ++ digitsB.extract (n % 16) (n % 16 + 1)) := by
          simp only [dactylref01_Hex.j0]
          rw [if_neg (by decide), w_div16 n h1b, w_pred l (by omega) (by omega), w_mod16, f1, refDigit _ (Nat.mod_lt _ (by omega))]
          simp only [Option.bind_some]
          rw [if_pos (by rw [hd]; omega)]
        show dactylref01_Hex.f (k + 1 + 1) (n : Int) l = _
        simp only [dactylref01_Hex.f]
        by_cases q1 : (n : Int) < 16
        · rw [if_pos q1, decide_eq_false (by omega)]; exact e4
        · rw [if_neg q1]; exact e4
      · rw [e1, f2, ByteArray.append_assoc]
      · rw [ByteArray.size_append, hd]; omega
theorem refHex_at (n : Int) (L j k : Nat) (h0 : 0 ≤ n) (h1 : n ≤ 9223372036854775807) (hL : 1 ≤ L) (hL16 : L ≤ 16) (hj : n.toNat < 16 ^ j) (hLj : L ≤ j) (hj2 : j ≤ 40) (hk : 100 ≤ k) : dactylref01_Hex.f k n (L : Int) = some (num_Hex.v n (L : Int)) ∧ (num_Hex.v n (L : Int)).size ≤ j := by
  obtain ⟨h, f1, f2, f3⟩ := refHex L hL16 j 81 k n.toNat (L : Int) ByteArray.empty hj (by omega) (by omega) (by omega) (by omega) (by simp) (by omega) (by omega) (by omega)
  rw [Int.toNat_of_nonneg h0] at f1
  rw [hex_eq n L hL hL16, f2, ByteArray.append_empty]
  exact ⟨f1, f3⟩
theorem refBytes (v : Int) (h : 0 ≤ v ∧ v < 55296 ∨ 57343 < v ∧ v ≤ 1114111) : dactylref02_Bytes.f v = some (strOfNums (encB v)) := by
  have e : encB v = Lib.encodeRuneZ v := by unfold encB; rw [if_pos (by omega)]
  rw [e]
  unfold dactylref02_Bytes.f Lib.encodeRuneZ
  have d64 : Int.tdiv v 64 = v / 64 := Int.tdiv_eq_ediv_of_nonneg (by omega)
  have d4 : Int.tdiv v 4096 = v / 4096 := Int.tdiv_eq_ediv_of_nonneg (by omega)
  have d26 : Int.tdiv v 262144 = v / 262144 := Int.tdiv_eq_ediv_of_nonneg (by omega)
  have m64 : Int.tmod v 64 = v % 64 := Int.tmod_eq_emod_of_nonneg (by omega)
  rw [d64, d4, d26, m64]
  have w1 : wrap64 (v / 64) = v / 64 := wrap_small _ (by omega) (by omega)
  have w2 : wrap64 (v / 4096) = v / 4096 := wrap_small _ (by omega) (by omega)
  have w3 : wrap64 (v / 262144) = v / 262144 := wrap_small _ (by omega) (by omega)
  rw [w1, w2, w3]
  clear w1 w2 w3
  have m1 : Int.tmod (v / 64) 64 = v / 64 % 64 := Int.tmod_eq_emod_of_nonneg (by omega)
  have m2 : Int.tmod (v / 4096) 64 = v / 4096 % 64 := Int.tmod_eq_emod_of_nonneg (by omega)
  rw [m1, m2]
  by_cases c1 : v < 128
  · rw [if_pos c1, if_pos (show 0 ≤ v ∧ v ≤ 127 by omega), show v % 256 = v by omega]
  · rw [if_neg c1, if_neg (show ¬ (0 ≤ v ∧ v ≤ 127) by omega)]
    have x1 : wrap64 (128 + v % 64) % 256 = 128 + v % 64 := by rw [wrap_small _ (by omega) (by omega)]; omega
    have x2 : wrap64 (128 + v / 64 % 64) % 256 = 128 + v / 64 % 64 := by rw [wrap_small _ (by omega) (by omega)]; omega
    have x3 : wrap64 (128 + v / 4096 % 64) % 256 = 128 + v / 4096 % 64 := by rw [wrap_small _ (by omega) (by omega)]; omega
    by_cases c2 : v < 2048
    · have x4 : wrap64 (192 + v / 64) % 256 = 192 + v / 64 := by rw [wrap_small _ (by omega) (by omega)]; omega
      rw [if_pos c2, if_pos (show 128 ≤ v ∧ v ≤ 2047 by omega), x1, x4]
    · rw [if_neg c2, if_neg (show ¬ (128 ≤ v ∧ v ≤ 2047) by omega)]
      by_cases c3 : v < 65536
      · have x4 : wrap64 (224 + v / 4096) % 256 = 224 + v / 4096 := by rw [wrap_small _ (by omega) (by omega)]; omega
        rw [if_pos c3, if_pos (show (2048 ≤ v ∧ v < 55296) ∨ (57343 < v ∧ v ≤ 65535) by omega), x1, x2, x4]
      · have x4 : wrap64 (240 + v / 262144) % 256 = 240 + v / 262144 := by rw [wrap_small _ (by omega) (by omega)]; omega
        rw [if_neg c3, if_neg (show ¬ ((2048 ≤ v ∧ v < 55296) ∨ (57343 < v ∧ v ≤ 65535)) by omega), if_pos (show v ≤ 1114111 by omega), if_pos (show 65536 ≤ v ∧ v ≤ 1114111 by omega), x1, x2, x3, x4]
/-- The reference's text is the program's. -/
theorem ref_Text (v : Int) (k : Nat) (hk : 100 ≤ k) : dactylref06_Text.f k v = some (showT v (class_Of.v v)) := by
  unfold dactylref06_Text.f
  rw [ref_Of v k (by omega)]
  simp only [Option.bind_some]
  have hw := class_where v
  generalize class_Of.v v = c at *
  unfold showT
  rcases hw with ⟨rfl, _⟩ | ⟨hr, ⟨rfl, hv⟩ | ⟨hv, hc1, hc3⟩ | ⟨rfl, h0, h31⟩ | ⟨rfl, rfl⟩ | ⟨hv, h6, h11⟩⟩
  · rfl
  · obtain ⟨f1, f2⟩ := refHex_at (v - 1114112) 2 2 k (by omega) (by omega) (by omega) (by omega) (by omega) (by omega) (by omega) hk
    simp only [show ((2 : Nat) : Int) = 2 from rfl] at f1 f2
    rw [wrap_small (v - 1114112) (by omega) (by omega), f1]
    simp
    omega
  · rw [if_neg (by omega), if_pos hc3, if_neg (by omega), if_pos hc3, refBytes v (by omega)]; rfl
  · have e : encB (v + 64) = [v + 64] := by unfold encB; rw [if_pos (by omega), Lib.encodeRuneZ_one (by omega) (by omega)]
    have e2 : wrap64 (v + 64) % 256 = v + 64 := by rw [wrap_small _ (by omega) (by omega)]; omega
    rw [e, e2]
    rfl
  · rfl
  · obtain ⟨f1, f2⟩ := refHex_at v 4 6 k (by omega) (by omega) (by omega) (by omega) (by omega) (by omega) (by omega) hk
    simp only [show ((4 : Nat) : Int) = 4 from rfl] at f1 f2
    rw [f1]
    have n0 : ¬ c = 0 := by omega
    have n4 : ¬ c = 4 := by omega
    have n5 : ¬ c = 5 := by omega
    have n12 : ¬ c = 12 := by omega
    have nle : ¬ c ≤ 3 := by omega
    have h60 : (⟨#[60, 85, 43]⟩ : ByteArray).size = 3 := rfl
    simp [n0, n4, n5, n12, nle, h60]
    omega
/-- How many columns a class has. -/
def widthD (c : Int) : Int := if c = 1 then 1 else if c = 3 then 1 else if c = 2 then 2 else 0
/-- How many columns a value has. -/
def colsV (v : Int) : Int := if class_Of.v v > 3 then ((showT v (class_Of.v v)).size : Int) else widthD (class_Of.v v)
end Go.Proofs.Ytkmdofkajcehpaa.P
