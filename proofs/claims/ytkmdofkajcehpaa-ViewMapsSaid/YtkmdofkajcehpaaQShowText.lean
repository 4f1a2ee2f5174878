/- The shown text of any value: which bytes it has; two values that are both dangerous, or both not, have two texts. -/
import Derived.Test.YtkmdofkajcehpaaQShow
import Derived.Test.YtkmdofkajcehpaaQClass
import Derived.Test.YtkmdofkajcehpaaPshow
import Derived.Test.YtkmdofkajcehpaaPnum
import Derived.Test.YtkmdofkajcehpaaPutf
import Derived.Test.YtkmdofkajcehpaaPLibUtf8
namespace Go.Proofs.Ytkmdofkajcehpaa.P
open Go.RowKit Go.Proofs.Ytkmdofkajcehpaa.P Go.Proofs.YtkmdofkajcehpaaW.PrintWords Go.Proofs.YtkmdofkajcehpaaW.PrintLast
set_option linter.unusedVariables false
set_option linter.unusedSimpArgs false
/-- A digit's number. -/
def digV (x : UInt8) : Nat := if x.toNat ≤ 57 then x.toNat - 48 else x.toNat - 55
def hexV (b : Nat) : List UInt8 → Nat
  | [] => 0
  | x :: l => digV x * b ^ l.length + hexV b l
theorem digit_list (d : Nat) (h : d < 16) : ∃ x : UInt8, (digitsB.extract d (d + 1)).data.toList = [x] ∧ digV x = d ∧ 48 ≤ x.toNat ∧ x.toNat ≤ 70 := by
  have key : ∀ d, d < 16 → (match (digitsB.extract d (d + 1)).data.toList with | [x] => decide (digV x = d ∧ 48 ≤ x.toNat ∧ x.toNat ≤ 70) | _ => false) = true := by decide +kernel
  have := key d h
  split at this
  · rename_i x e
    have h2 := of_decide_eq_true this
    exact ⟨x, e, h2.1, h2.2.1, h2.2.2⟩
  · cases this
theorem laidL_val (b L : Nat) (hb2 : 2 ≤ b) (hb16 : b ≤ 16) : ∀ (m u : Nat) (s : ByteArray), u < b ^ m → hexV b (laidL b (L : Int) m u s).data.toList = u * b ^ s.size + hexV b s.data.toList
  | 0, u, s, h => by
    have hu : u = 0 := by simpa using h
    subst hu; simp [laidL]
  | m + 1, u, s, h => by
    simp only [laidL]
    split
    · obtain ⟨x, hx, hv, _⟩ := digit_list (u % b) (Nat.lt_of_lt_of_le (Nat.mod_lt _ (by omega)) hb16)
      have h2 : u / b < b ^ m := by rw [Nat.pow_succ] at h; exact Nat.div_lt_of_lt_mul (by rw [Nat.mul_comm]; exact h)
      have hl : (digitsB.extract (u % b) (u % b + 1) ++ s).data.toList = x :: s.data.toList := by rw [ByteArray.data_append, Array.toList_append, hx]; rfl
      have hsz : (digitsB.extract (u % b) (u % b + 1) ++ s).size = s.size + 1 := by
        show (digitsB.extract (u % b) (u % b + 1) ++ s).data.size = s.data.size + 1
        rw [← Array.length_toList, hl]; simp
      rw [laidL_val b L hb2 hb16 m (u / b) _ h2, hl, hsz]
      simp only [hexV, hv]
      rw [show s.data.toList.length = s.size from rfl]
      have e := Nat.div_add_mod u b
      have : u * b ^ s.size = (u / b) * b ^ (s.size + 1) + (u % b) * b ^ s.size := by
        conv => lhs; rw [← e]
        rw [Nat.add_mul, Nat.pow_succ, Nat.mul_comm b (u / b), Nat.mul_assoc, Nat.mul_comm b]
      omega
    · rename_i hg
      have hu : u = 0 := by omega
      subst hu; simp
/-- Bytes as numbers are one form of a text. -/
theorem strOfNums_inj {a b : List Int} (ha : ∀ x ∈ a, 0 ≤ x ∧ x < 256) (hb : ∀ x ∈ b, 0 ≤ x ∧ x < 256) (h : strOfNums a = strOfNums b) : a = b := by
  have h2 : (a.map fun n => UInt8.ofNat n.toNat) = b.map fun n => UInt8.ofNat n.toNat := by rw [← strOfNums_data, ← strOfNums_data, h]
  clear h
  induction a generalizing b with
  | nil => cases b with
    | nil => rfl
    | cons y b => simp at h2
  | cons x a ih =>
    cases b with
    | nil => simp at h2
    | cons y b =>
      simp only [List.map_cons, List.cons.injEq] at h2
      have hx := ha x (by simp)
      have hy := hb y (by simp)
      have e := congrArg UInt8.toNat h2.1
      simp only [UInt8.toNat_ofNat'] at e
      rw [ih (fun z hz => ha z (by simp [hz])) (fun z hz => hb z (by simp [hz])) h2.2]
      congr 1
      omega
theorem encodeRuneZ_inj {v w : Int} (hv : 0 ≤ v ∧ v < 55296 ∨ 57343 < v ∧ v ≤ 1114111) (hw : 0 ≤ w ∧ w < 55296 ∨ 57343 < w ∧ w ≤ 1114111) (h : Lib.encodeRuneZ v = Lib.encodeRuneZ w) : v = w := by
  have key : ∀ v : Int, (0 ≤ v ∧ v < 55296 ∨ 57343 < v ∧ v ≤ 1114111) → (v ≤ 127 ∧ Lib.encodeRuneZ v = [v]) ∨ (128 ≤ v ∧ v ≤ 2047 ∧ Lib.encodeRuneZ v = [192 + v / 64, 128 + v % 64]) ∨ (2048 ≤ v ∧ v ≤ 65535 ∧ Lib.encodeRuneZ v = [224 + v / 4096, 128 + v / 64 % 64, 128 + v % 64]) ∨ (65536 ≤ v ∧ Lib.encodeRuneZ v = [240 + v / 262144, 128 + v / 4096 % 64, 128 + v / 64 % 64, 128 + v % 64]) := by
    intro v hv
    by_cases h1 : v ≤ 127
    · exact .inl ⟨h1, Lib.encodeRuneZ_one (by omega) h1⟩
    · by_cases h2 : v ≤ 2047
      · exact .inr (.inl ⟨by omega, h2, Lib.encodeRuneZ_two (by omega) h2⟩)
      · by_cases h3 : v ≤ 65535
        · exact .inr (.inr (.inl ⟨by omega, h3, Lib.encodeRuneZ_three (by omega)⟩))
        · exact .inr (.inr (.inr ⟨by omega, Lib.encodeRuneZ_four (by omega) (by omega)⟩))
  rcases key v hv with ⟨a1, a2⟩ | ⟨a1, a2, a3⟩ | ⟨a1, a2, a3⟩ | ⟨a1, a2⟩ <;> rcases key w hw with ⟨b1, b2⟩ | ⟨b1, b2, b3⟩ | ⟨b1, b2, b3⟩ | ⟨b1, b2⟩
  all_goals (simp only [*, List.cons.injEq, reduceCtorEq, and_false, and_true, false_and] at h)
  all_goals omega
theorem low_class : ∀ n : Nat, n < 32 → class_Of.v (n : Int) = 4 := by decide +kernel
theorem del_class : class_Of.v 127 = 5 := by decide +kernel
theorem low_where (v : Int) (h1 : 1 ≤ class_Of.v v) (h3 : class_Of.v v ≤ 3) (h0 : 0 ≤ v) : 32 ≤ v ∧ v ≠ 127 := by
  refine ⟨?_, ?_⟩
  · rcases Int.lt_or_le v 32 with h | h
    · have := low_class v.toNat (by omega)
      rw [show ((v.toNat : Nat) : Int) = v by omega] at this
      omega
    · exact h
  · rintro rfl
    rw [del_class] at h3
    omega
theorem hex_val (n : Int) (L : Nat) (h1 : 1 ≤ L) (h2 : L ≤ 16) (hn : n ≤ 9223372036854775807) : hexV 16 (num_Hex.v n (L : Int)).data.toList = n.toNat := by
  rw [hex_eq n L h1 h2, laidL_val 16 L (by omega) (by omega) 81 n.toNat ByteArray.empty (by
    have : (9223372036854775807 : Nat) < 16 ^ 81 := by decide
    omega)]
  show n.toNat * 16 ^ 0 + 0 = n.toNat
  omega
/-- Its bytes, by its class. -/
theorem list12 (v : Int) : (showT v 12).data.toList = 92 :: 120 :: (num_Hex.v (v - 1114112) 2).data.toList := by
  unfold showT
  rw [if_neg (by omega), if_neg (by omega), if_neg (by omega), if_neg (by omega), if_pos rfl, ByteArray.data_append, Array.toList_append]; rfl
theorem list4 (v : Int) (h0 : 0 ≤ v) (h1 : v ≤ 31) : (showT v 4).data.toList = [94, UInt8.ofNat (v + 64).toNat] := by
  unfold showT
  rw [if_neg (by omega), if_neg (by omega), if_pos rfl, ByteArray.data_append, Array.toList_append, strOfNums_data]
  unfold encB
  rw [if_pos (by omega), Lib.encodeRuneZ_one (by omega) (by omega)]; rfl
theorem list5 (v : Int) : (showT v 5).data.toList = [94, 63] := by
  unfold showT
  rw [if_neg (by omega), if_neg (by omega), if_neg (by omega), if_pos rfl]
theorem listU (v c : Int) (h6 : 6 ≤ c) (h11 : c ≤ 11) : (showT v c).data.toList = 60 :: 85 :: 43 :: ((num_Hex.v v 4).data.toList ++ [62]) := by
  unfold showT
  rw [if_neg (by omega), if_neg (by omega), if_neg (by omega), if_neg (by omega), if_neg (by omega), ByteArray.data_append, Array.toList_append, ByteArray.data_append, Array.toList_append]; rfl
theorem listP (v c : Int) (h1 : 1 ≤ c) (h3 : c ≤ 3) (hv : v ≤ 1114111) : showT v c = strOfNums (Lib.encodeRuneZ v) := by
  unfold showT encB
  rw [if_neg (by omega), if_pos h3, if_pos hv]
theorem u8_num (n : Nat) (h : n < 256) : (UInt8.ofNat n).toNat = n := by simp [UInt8.toNat_ofNat']; omega
theorem hex_one (n m : Int) (L : Nat) (h1 : 1 ≤ L) (h2 : L ≤ 16) (hn0 : 0 ≤ n) (hm0 : 0 ≤ m) (hn : n ≤ 9223372036854775807) (hm : m ≤ 9223372036854775807) (h : (num_Hex.v n (L : Int)).data.toList = (num_Hex.v m (L : Int)).data.toList) : n = m := by
  have a := hex_val n L h1 h2 hn
  have b := hex_val m L h1 h2 hm
  rw [h, b] at a
  omega
/-- Two values of one side, of one text, are one. -/
theorem showT_inj (v w : Int) (hv0 : class_Of.v v ≠ 0) (hw0 : class_Of.v w ≠ 0) (hs : 3 < class_Of.v v ↔ 3 < class_Of.v w) (h : showT v (class_Of.v v) = showT w (class_Of.v w)) : v = w := by
  have a := class_where v
  have b := class_where w
  have la := low_where v
  have lb := low_where w
  generalize class_Of.v v = c at *
  generalize class_Of.v w = d at *
  have hl : (showT v c).data.toList = (showT w d).data.toList := by rw [h]
  rcases a with ⟨rfl, _⟩ | ⟨hr, ⟨rfl, hv⟩ | ⟨hv, hc1, hc3⟩ | ⟨rfl, h0, h31⟩ | ⟨rfl, rfl⟩ | ⟨hv, h6, h11⟩⟩ <;>
    rcases b with ⟨rfl, _⟩ | ⟨gr, ⟨rfl, gv⟩ | ⟨gv, gc1, gc3⟩ | ⟨rfl, g0, g31⟩ | ⟨rfl, rfl⟩ | ⟨gv, g6, g11⟩⟩
  all_goals first
    | (exfalso; omega)
    | skip
  · rw [list12, list12] at hl
    simp only [List.cons.injEq, true_and] at hl
    have := hex_one (v - 1114112) (w - 1114112) 2 (by omega) (by omega) (by omega) (by omega) (by omega) (by omega) hl
    omega
  · rw [list12, list4 w g0 g31] at hl
    simp at hl
  · rw [list12, list5] at hl
    simp at hl
  · rw [list12, listU w d g6 g11] at hl
    simp at hl
  · rw [listP v c hc1 hc3 hv, listP w d gc1 gc3 gv] at h
    exact encodeRuneZ_inj (by omega) (by omega) (strOfNums_inj (Lib.encodeRuneZ_byte v) (Lib.encodeRuneZ_byte w) h)
  · rw [list4 v h0 h31, list12] at hl
    simp at hl
  · rw [list4 v h0 h31, list4 w g0 g31] at hl
    simp only [List.cons.injEq, and_true, true_and] at hl
    have e := congrArg UInt8.toNat hl
    rw [u8_num _ (by omega), u8_num _ (by omega)] at e
    omega
  · rw [list4 v h0 h31, list5] at hl
    simp only [List.cons.injEq, and_true, true_and] at hl
    have e := congrArg UInt8.toNat hl
    rw [u8_num _ (by omega)] at e
    have : (63 : UInt8).toNat = 63 := rfl
    omega
  · rw [list4 v h0 h31, listU w d g6 g11] at hl
    simp at hl
  · rw [list5, list12] at hl
    simp at hl
  · rw [list5, list4 w g0 g31] at hl
    simp only [List.cons.injEq, and_true, true_and] at hl
    have e := congrArg UInt8.toNat hl
    rw [u8_num _ (by omega)] at e
    have : (63 : UInt8).toNat = 63 := rfl
    omega
  · rfl
  · rw [list5, listU w d g6 g11] at hl
    simp at hl
  · rw [listU v c h6 h11, list12] at hl
    simp at hl
  · rw [listU v c h6 h11, list4 w g0 g31] at hl
    simp at hl
  · rw [listU v c h6 h11, list5] at hl
    simp at hl
  · rw [listU v c h6 h11, listU w d g6 g11] at hl
    simp only [List.cons.injEq, true_and] at hl
    exact hex_one v w 4 (by omega) (by omega) (by omega) (by omega) (by omega) (by omega) (List.append_cancel_right hl)
end Go.Proofs.Ytkmdofkajcehpaa.P
