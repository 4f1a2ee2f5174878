/- The shown text of any value: which bytes it has; two values that are both dangerous, or both not, have two texts. -/
import Derived.Test.YtkmdofkajcehpaaQShow
import Derived.Test.YtkmdofkajcehpaaQClass
import Derived.Test.YtkmdofkajcehpaaPshow
import Derived.Test.YtkmdofkajcehpaaPnum
import Derived.Test.YtkmdofkajcehpaaPutf
import Derived.Test.YtkmdofkajcehpaaPLibUtf8
namespace Go.Proofs.Ytkmdofkajcehpaa.P
open Go.RowKit Go.Proofs.Ytkmdofkajcehpaa.P Go.Proofs.YtkmdofkajcehpaaW.PrintWords Go.Proofs.YtkmdofkajcehpaaW.PrintLast
set_option linter.unusedVariables false
set_option linter.unusedSimpArgs false
/-- A digit's number. -/
def digV (x : UInt8) : Nat := if x.toNat ≤ 57 then x.toNat - 48 else x.toNat - 55
theorem digit_list (d : Nat) (h : d < 16) : ∃ x : UInt8, (digitsB.extract d (d + 1)).data.toList = [x] ∧ digV x = d ∧ 48 ≤ x.toNat ∧ x.toNat ≤ 70 := by
  have key : ∀ d, d < 16 → (match (digitsB.extract d (d + 1)).data.toList with | [x] => decide (digV x = d ∧ 48 ≤ x.toNat ∧ x.toNat ≤ 70) | _ => false) = true := by decide +kernel
  have := key d h
  split at this
  · rename_i x e
    have h2 := of_decide_eq_true this
    exact ⟨x, e, h2.1, h2.2.1, h2.2.2⟩
  · cases this
theorem laidL_bytes (b L : Nat) (hb2 : 2 ≤ b) (hb16 : b ≤ 16) : ∀ (m u : Nat) (s : ByteArray), (∀ x ∈ s.data.toList, 48 ≤ x.toNat ∧ x.toNat ≤ 70) → ∀ x ∈ (laidL b (L : Int) m u s).data.toList, 48 ≤ x.toNat ∧ x.toNat ≤ 70
  | 0, u, s, h => h
  | m + 1, u, s, h => by
    simp only [laidL]
    split
    · obtain ⟨x, hx, _, hv⟩ := digit_list (u % b) (Nat.lt_of_lt_of_le (Nat.mod_lt _ (by omega)) hb16)
      refine laidL_bytes b L hb2 hb16 m (u / b) _ ?_
      intro y hy
      rw [ByteArray.data_append, Array.toList_append, hx] at hy
      simp only [List.mem_append, List.mem_singleton] at hy
      rcases hy with rfl | hy
      · exact hv
      · exact h y hy
    · exact h
theorem low_class : ∀ n : Nat, n < 32 → class_Of.v (n : Int) = 4 := by decide +kernel
theorem del_class : class_Of.v 127 = 5 := by decide +kernel
theorem low_where (v : Int) (h1 : 1 ≤ class_Of.v v) (h3 : class_Of.v v ≤ 3) (h0 : 0 ≤ v) : 32 ≤ v ∧ v ≠ 127 := by
  refine ⟨?_, ?_⟩
  · rcases Int.lt_or_le v 32 with h | h
    · have := low_class v.toNat (by omega)
      rw [show ((v.toNat : Nat) : Int) = v by omega] at this
      omega
    · exact h
  · rintro rfl
    rw [del_class] at h3
    omega
theorem hex_bytes (n : Int) (L : Nat) (h1 : 1 ≤ L) (h2 : L ≤ 16) : ∀ x ∈ (num_Hex.v n (L : Int)).data.toList, 48 ≤ x.toNat ∧ x.toNat ≤ 70 := by
  rw [hex_eq n L h1 h2]
  exact laidL_bytes 16 L (by omega) (by omega) 81 n.toNat ByteArray.empty (by intro x hx; cases hx)
/-- Its bytes, by its class. -/
theorem list12 (v : Int) : (showT v 12).data.toList = 92 :: 120 :: (num_Hex.v (v - 1114112) 2).data.toList := by
  unfold showT
  rw [if_neg (by omega), if_neg (by omega), if_neg (by omega), if_neg (by omega), if_pos rfl, ByteArray.data_append, Array.toList_append]; rfl
theorem list4 (v : Int) (h0 : 0 ≤ v) (h1 : v ≤ 31) : (showT v 4).data.toList = [94, UInt8.ofNat (v + 64).toNat] := by
  unfold showT
  rw [if_neg (by omega), if_neg (by omega), if_pos rfl, ByteArray.data_append, Array.toList_append, strOfNums_data]
  unfold encB
  rw [if_pos (by omega), Lib.encodeRuneZ_one (by omega) (by omega)]; rfl
theorem list5 (v : Int) : (showT v 5).data.toList = [94, 63] := by
  unfold showT
  rw [if_neg (by omega), if_neg (by omega), if_neg (by omega), if_pos rfl]
theorem listU (v c : Int) (h6 : 6 ≤ c) (h11 : c ≤ 11) : (showT v c).data.toList = 60 :: 85 :: 43 :: ((num_Hex.v v 4).data.toList ++ [62]) := by
  unfold showT
  rw [if_neg (by omega), if_neg (by omega), if_neg (by omega), if_neg (by omega), if_neg (by omega), ByteArray.data_append, Array.toList_append, ByteArray.data_append, Array.toList_append]; rfl
theorem listP (v c : Int) (h1 : 1 ≤ c) (h3 : c ≤ 3) (hv : v ≤ 1114111) : showT v c = strOfNums (Lib.encodeRuneZ v) := by
  unfold showT encB
  rw [if_neg (by omega), if_pos h3, if_pos hv]
theorem u8_num (n : Nat) (h : n < 256) : (UInt8.ofNat n).toNat = n := by simp [UInt8.toNat_ofNat']; omega
theorem showT_top (v : Int) : (showT v (class_Of.v v)).size ≤ 10 := by
  have hs := showT_size v
  have hw := class_where v
  have he := encB_size v
  by_cases h3 : 3 < class_Of.v v
  · exact (hs.2.2 h3).2
  · by_cases h0 : class_Of.v v = 0
    · rw [hs.1 h0]; decide
    · unfold showT
      rw [if_neg h0, if_pos (by omega), strOfNums_size]; omega
end Go.Proofs.Ytkmdofkajcehpaa.P
