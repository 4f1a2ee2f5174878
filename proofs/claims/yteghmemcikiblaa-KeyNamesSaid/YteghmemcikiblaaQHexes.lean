/- Hex digits: the reference's are the program's. -/
import Derived.Test.YteghmemcikiblaaPnum
import Derived.Test.YteghmemcikiblaaPdactylref01
namespace Go.Proofs.Yteghmemcikiblaa.P
open Go.RowKit Go.Proofs.Yteghmemcikiblaa.P Go.Proofs.YteghmemcikiblaaW.PrintWords Go.Proofs.YteghmemcikiblaaW.PrintLast
set_option linter.unusedVariables false
set_option linter.unusedSimpArgs false
theorem hx_w64 (i : Int) (h0 : -9223372036854775808 ≤ i) (h1 : i ≤ 9223372036854775807) : wrap64 i = i := by unfold wrap64; omega
theorem hx_eq (n : Int) (L : Nat) (h1 : 1 ≤ L) (h2 : L ≤ 16) : num_Hex.v n (L : Int) = laidL 16 (L : Int) 81 n.toNat ByteArray.empty := by
  unfold num_Hex.v
  rw [show min (max (L : Int) 1) 16 = (L : Int) by omega]
theorem hx_f (n : Int) (l : Int) (h0 : 0 ≤ n) (h1 : n ≤ 9223372036854775807) : num_Hex.f n l = some (num_Hex.v n l) := by
  unfold num_Hex.f
  rw [if_neg (by omega), if_pos h1]
theorem hx_refDigit (d : Nat) (h : d < 16) : dactylref01_Digit.f (d : Int) = some (digitsB.extract d (d + 1)) := by
  unfold dactylref01_Digit.f
  have e : wrap64 ((d : Int) + 1) = ((d + 1 : Nat) : Int) := by rw [hx_w64 _ (by omega) (by omega)]; omega
  rw [e, if_pos (by omega), if_pos (by omega), if_pos (by omega)]
  rfl
theorem hx_w_div16 (n : Nat) (h : n ≤ 9223372036854775807) : wrap64 (Int.tdiv (n : Int) 16) = ((n / 16 : Nat) : Int) := by
  rw [Int.tdiv_eq_ediv_of_nonneg (by omega), hx_w64 _ (by omega) (by omega)]; omega
theorem hx_w_pred (l : Int) (h1 : -200 ≤ l) (h2 : l ≤ 200) : wrap64 (l - 1) = l - 1 := hx_w64 _ (by omega) (by omega)
theorem hx_w_mod16 (n : Nat) : Int.tmod (n : Int) 16 = ((n % 16 : Nat) : Int) := by
  rw [Int.tmod_eq_emod_of_nonneg (by omega)]; omega
theorem hx_refHex (L : Nat) (hL16 : L ≤ 16) : ∀ (j m k n : Nat) (l : Int) (s : ByteArray), n < 16 ^ j → n ≤ 9223372036854775807 → l ≤ j → j ≤ 60 → (j : Int) ≤ l + 100 → l + s.size = L → (0 < n ∨ 1 ≤ l) → j ≤ m → 2 * j + 2 ≤ k →
    ∃ h, dactylref01_Hex.f k (n : Int) l = some h ∧ laidL 16 (L : Int) m n s = h ++ s ∧ h.size ≤ j
  | 0, m, k, n, l, s, h1, _, h2, _, _, h3, h4, h5, h6 => by
    have : n = 0 := by simpa using h1
    omega
  | j + 1, m, k, n, l, s, h1, h1b, h2, h2b, h2c, h3, h4, h5, h6 => by
    obtain ⟨m, rfl⟩ : ∃ q, m = q + 1 := ⟨m - 1, by omega⟩
    obtain ⟨k, rfl⟩ : ∃ q, k = q + 2 := ⟨k - 2, by omega⟩
    have hd := digit_size (n % 16) (Nat.mod_lt _ (by omega))
    have hs : (digitsB.extract (n % 16) (n % 16 + 1) ++ s).size = s.size + 1 := by rw [ByteArray.size_append, hd]; omega
    have e1 : laidL 16 (L : Int) (m + 1) n s = laidL 16 (L : Int) m (n / 16) (digitsB.extract (n % 16) (n % 16 + 1) ++ s) := by
      simp only [laidL]; rw [if_pos (by omega)]
    by_cases q : n < 16 ∧ l ≤ 1
    · have e2 : laidL 16 (L : Int) m (n / 16) (digitsB.extract (n % 16) (n % 16 + 1) ++ s) = digitsB.extract (n % 16) (n % 16 + 1) ++ s := by
        have h0 : n / 16 = 0 := by omega
        rw [h0]
        cases m with
        | zero => rfl
        | succ m => simp only [laidL]; rw [if_neg (by omega)]
      have e3 : n % 16 = n := by omega
      refine ⟨digitsB.extract n (n + 1), ?_, ?_, ?_⟩
      · simp only [dactylref01_Hex.f, dactylref01_Hex.j0]
        rw [if_pos (by omega), if_pos (decide_eq_true q.2), hx_refDigit n q.1]; rfl
      · rw [e1, e2, e3]
      · rw [← e3, hd]; omega
    · have h16 : n / 16 < 16 ^ j := by rw [Nat.pow_succ] at h1; exact Nat.div_lt_of_lt_mul (by rw [Nat.mul_comm]; exact h1)
      obtain ⟨h, f1, f2, f3⟩ := hx_refHex L hL16 j m k (n / 16) (l - 1) (digitsB.extract (n % 16) (n % 16 + 1) ++ s) h16 (by omega) (by omega) (by omega) (by omega) (by omega) (by omega) (by omega) (by omega)
      refine ⟨h ++ digitsB.extract (n % 16) (n % 16 + 1), ?_, ?_, ?_⟩
      · have e4 : dactylref01_Hex.j0 (k + 1) (n : Int) l false = some (h ++ digitsB.extract (n % 16) (n % 16 + 1)) := by
          simp only [dactylref01_Hex.j0]
          rw [if_neg (by decide), hx_w_div16 n h1b, hx_w_pred l (by omega) (by omega), hx_w_mod16, f1, hx_refDigit _ (Nat.mod_lt _ (by omega))]
          simp only [Option.bind_some]
          rw [if_pos (by rw [hd]; omega)]
        show dactylref01_Hex.f (k + 1 + 1) (n : Int) l = _
        simp only [dactylref01_Hex.f]
        by_cases q1 : (n : Int) < 16
        · rw [if_pos q1, decide_eq_false (by omega)]; exact e4
        · rw [if_neg q1]; exact e4
      · rw [e1, f2, ByteArray.append_assoc]
      · rw [ByteArray.size_append, hd]; omega
theorem hx_refHex_at (n : Int) (L j k : Nat) (h0 : 0 ≤ n) (h1 : n ≤ 9223372036854775807) (hL : 1 ≤ L) (hL16 : L ≤ 16) (hj : n.toNat < 16 ^ j) (hLj : L ≤ j) (hj2 : j ≤ 40) (hk : 100 ≤ k) : dactylref01_Hex.f k n (L : Int) = some (num_Hex.v n (L : Int)) ∧ (num_Hex.v n (L : Int)).size ≤ j := by
  obtain ⟨h, f1, f2, f3⟩ := hx_refHex L hL16 j 81 k n.toNat (L : Int) ByteArray.empty hj (by omega) (by omega) (by omega) (by omega) (by simp) (by omega) (by omega) (by omega)
  rw [Int.toNat_of_nonneg h0] at f1
  rw [hx_eq n L hL hL16, f2, ByteArray.append_empty]
  exact ⟨f1, f3⟩
end Go.Proofs.Yteghmemcikiblaa.P
