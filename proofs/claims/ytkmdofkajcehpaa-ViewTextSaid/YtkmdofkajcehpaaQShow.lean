/- The shown text of any value: what it is, and how long. -/
import Derived.Test.YtkmdofkajcehpaaQClass
import Derived.Test.YtkmdofkajcehpaaPshow
import Derived.Test.YtkmdofkajcehpaaPnum
import Derived.Test.YtkmdofkajcehpaaPutf
import Derived.Test.YtkmdofkajcehpaaPLibUtf8
namespace Go.Proofs.Ytkmdofkajcehpaa.P
open Go.RowKit Go.Proofs.Ytkmdofkajcehpaa.P Go.Proofs.YtkmdofkajcehpaaW.PrintWords Go.Proofs.YtkmdofkajcehpaaW.PrintLast
set_option linter.unusedVariables false
set_option linter.unusedSimpArgs false
theorem laidL_le (b L : Nat) (hb2 : 2 ≤ b) (hb16 : b ≤ 16) : ∀ (m j u : Nat) (s : ByteArray), u < b ^ j → (laidL b (L : Int) m u s).size ≤ max (s.size + j) L
  | 0, j, u, s, _ => by unfold laidL; omega
  | m + 1, j, u, s, h => by
    have hd := digit_size (u % b) (Nat.lt_of_lt_of_le (Nat.mod_lt _ (by omega)) hb16)
    have hs : (digitsB.extract (u % b) (u % b + 1) ++ s).size = s.size + 1 := by rw [ByteArray.size_append, hd]; omega
    simp only [laidL]
    split
    · rename_i hg
      cases j with
      | zero =>
        have hu : u = 0 := by simpa using h
        subst hu
        have := laidL_le b L hb2 hb16 m 0 (0 / b) (digitsB.extract (0 % b) (0 % b + 1) ++ s) (by simp)
        omega
      | succ j =>
        have h2 : u / b < b ^ j := by rw [Nat.pow_succ] at h; exact Nat.div_lt_of_lt_mul (by rw [Nat.mul_comm]; exact h)
        have := laidL_le b L hb2 hb16 m j (u / b) (digitsB.extract (u % b) (u % b + 1) ++ s) h2
        omega
    · omega
theorem laidL_ge (b L : Nat) (hb2 : 2 ≤ b) (hb16 : b ≤ 16) : ∀ (m u : Nat) (s : ByteArray), L ≤ s.size + m → L ≤ (laidL b (L : Int) m u s).size
  | 0, u, s, h => by unfold laidL; omega
  | m + 1, u, s, h => by
    have hd := digit_size (u % b) (Nat.lt_of_lt_of_le (Nat.mod_lt _ (by omega)) hb16)
    have hs : (digitsB.extract (u % b) (u % b + 1) ++ s).size = s.size + 1 := by rw [ByteArray.size_append, hd]; omega
    simp only [laidL]
    split
    · exact laidL_ge b L hb2 hb16 m (u / b) _ (by omega)
    · omega
/-- A value's bytes, as numbers. -/
def encB (v : Int) : List Int := if v ≤ 1114111 then Lib.encodeRuneZ v else [v - 1114112]
theorem enc1 (v : Int) (k : Nat) (hk : 2 ≤ k) (hr : 0 ≤ v ∧ v < 55296 ∨ 57343 < v ∧ v ≤ 1114111 ∨ 1114240 ≤ v ∧ v ≤ 1114367) : utf_Encode.f k [v] = some (strOfNums (encB v)) := by
  obtain ⟨k, rfl⟩ : ∃ q, k = q + 2 := ⟨k - 2, by omega⟩
  unfold utf_Encode.f
  simp only [utf_Encode.l0]
  have hrd : rd [v] 0 = v := rfl
  have hlen : (([v] : List Int).length : Int) = 1 := rfl
  rw [hlen, if_pos (by decide), if_pos (by decide), if_pos (by decide), hrd]
  by_cases hp : v ≤ 1114111
  · have e1 : utf_point.f v = some true := by
      unfold utf_point.f
      rw [if_pos (by omega), if_pos hp]
      by_cases h : v < 55296
      · rw [if_pos h]
      · rw [if_neg h, decide_eq_true (by omega)]
    have e2 : utf8_AppendRune.f [] (wrap32 v) = some (encB v) := by
      unfold utf8_AppendRune.f encB
      rw [IntWalk.wrap32_in v (by omega), if_pos ⟨by omega, by omega, by simp⟩, if_pos hp]
      rfl
    rw [e1]
    simp only [Option.bind_some, if_true]
    rw [e2]
    simp only [Option.bind_some]
    rw [show wrap64 (0 + 1) = 1 from wrap_small 1 (by omega) (by omega), if_neg (by decide)]
  · have e1 : utf_point.f v = some false := by
      unfold utf_point.f
      rw [if_pos (by omega), if_neg hp]
    have e2 : utf_Right.f v = some true := by rw [right_iff]; exact congrArg some (decide_eq_true (by omega))
    have e3 : wrap64 (v - 1114112) % 256 = v - 1114112 := by rw [wrap_small _ (by omega) (by omega)]; omega
    rw [e1]
    simp only [Option.bind_some]
    rw [if_neg (by decide), e2]
    simp only [Option.bind_some, if_true]
    rw [if_pos (by simp), show wrap64 (0 + 1) = 1 from wrap_small 1 (by omega) (by omega), if_neg (by decide), e3]
    unfold encB
    rw [if_neg hp]
    rfl
theorem clsL_in (l : List (Int × Int × Int)) (v : Int) (h : clsL l v ≠ 0) : ∃ x ∈ l, x.1 ≤ v ∧ v ≤ x.2.1 ∧ clsL l v = x.2.2 := by
  induction l with
  | nil => exact absurd rfl h
  | cons x l ih =>
    obtain ⟨a, b, c⟩ := x
    unfold clsL at h ⊢
    by_cases q : a ≤ v ∧ v ≤ b
    · exact ⟨(a, b, c), by simp, q.1, q.2, by rw [if_pos q]⟩
    · rw [if_neg q] at h ⊢
      obtain ⟨y, h1, h2⟩ := ih h
      exact ⟨y, by simp [h1], h2⟩
theorem odd_ends : ∀ x ∈ oddT, (x.2.2 = 4 → x.1 = 0 ∧ x.2.1 = 31) ∧ (x.2.2 = 5 → x.1 = 127 ∧ x.2.1 = 127) ∧ x.2.2 ≠ 12 ∧ 4 ≤ x.2.2 ∧ 0 ≤ x.1 := by decide +kernel
/-- Where a class may be. -/
theorem class_where (v : Int) : (class_Of.v v = 0 ∧ ¬ (0 ≤ v ∧ v < 55296 ∨ 57343 < v ∧ v ≤ 1114111 ∨ 1114240 ≤ v ∧ v ≤ 1114367)) ∨
    ((0 ≤ v ∧ v < 55296 ∨ 57343 < v ∧ v ≤ 1114111 ∨ 1114240 ≤ v ∧ v ≤ 1114367) ∧ ((class_Of.v v = 12 ∧ 1114111 < v) ∨ (v ≤ 1114111 ∧ 1 ≤ class_Of.v v ∧ class_Of.v v ≤ 3) ∨ (class_Of.v v = 4 ∧ 0 ≤ v ∧ v ≤ 31) ∨ (class_Of.v v = 5 ∧ v = 127) ∨ (v ≤ 1114111 ∧ 6 ≤ class_Of.v v ∧ class_Of.v v ≤ 11))) := by
  have hrange := class_Of.range v
  have heq := class_Of.v_eq v
  rw [right_iff] at heq
  by_cases hr : (0 ≤ v ∧ v < 55296 ∨ 57343 < v ∧ v ≤ 1114111 ∨ 1114240 ≤ v ∧ v ≤ 1114367)
  · right
    refine ⟨hr, ?_⟩
    rw [if_pos (congrArg some (decide_eq_true hr))] at heq
    by_cases h1 : v > 1114111
    · rw [if_pos h1] at heq; exact .inl ⟨heq, h1⟩
    · rw [if_neg h1] at heq
      by_cases h2 : v > 31 ∧ v < 127
      · rw [if_pos h2] at heq; right; left; omega
      · rw [if_neg h2] at heq
        by_cases h3 : clsL spansT v = 0
        · rw [if_pos h3] at heq
          right; left
          refine ⟨by omega, ?_⟩
          rw [heq]
          split
          · split <;> omega
          · omega
        · rw [if_neg h3] at heq
          rw [spans_odd] at heq h3
          obtain ⟨x, hx, q1, q2, q3⟩ := clsL_in _ _ h3
          have := odd_ends x hx
          omega
  · left
    rw [if_neg (by simp only [Option.some.injEq, decide_eq_true_eq]; exact hr)] at heq
    exact ⟨heq, hr⟩
/-- The shown text, by its class. -/
def showT (v c : Int) : ByteArray := if c = 0 then ⟨#[]⟩ else if c ≤ 3 then strOfNums (encB v) else if c = 4 then (⟨#[94]⟩ : ByteArray) ++ strOfNums (encB (v + 64)) else if c = 5 then ⟨#[94, 63]⟩ else if c = 12 then (⟨#[92, 120]⟩ : ByteArray) ++ num_Hex.v (v - 1114112) 2 else ((⟨#[60, 85, 43]⟩ : ByteArray) ++ num_Hex.v v 4) ++ (⟨#[62]⟩ : ByteArray)
theorem hex_eq (n : Int) (L : Nat) (h1 : 1 ≤ L) (h2 : L ≤ 16) : num_Hex.v n (L : Int) = laidL 16 (L : Int) 81 n.toNat ByteArray.empty := by
  unfold num_Hex.v
  rw [show min (max (L : Int) 1) 16 = (L : Int) by omega]
theorem hex_le (n : Int) (L j : Nat) (h1 : 1 ≤ L) (h2 : L ≤ 16) (hj : n.toNat < 16 ^ j) : (num_Hex.v n (L : Int)).size ≤ max j L := by
  rw [hex_eq n L h1 h2]
  have := laidL_le 16 L (by omega) (by omega) 81 j n.toNat ByteArray.empty hj
  simpa using this
theorem hex_ge (n : Int) (L : Nat) (h1 : 1 ≤ L) (h2 : L ≤ 16) : L ≤ (num_Hex.v n (L : Int)).size := by
  rw [hex_eq n L h1 h2]
  exact laidL_ge 16 L (by omega) (by omega) 81 n.toNat ByteArray.empty (by omega)
theorem hex_f (n : Int) (l : Int) (h0 : 0 ≤ n) (h1 : n ≤ 9223372036854775807) : num_Hex.f n l = some (num_Hex.v n l) := by
  unfold num_Hex.f
  rw [if_neg (by omega), if_pos h1]
theorem encB_size (v : Int) : 1 ≤ (encB v).length ∧ (encB v).length ≤ 4 ∧ (0 ≤ v → v ≤ 127 → (encB v).length = 1) := by
  unfold encB Lib.encodeRuneZ
  refine ⟨?_, ?_, ?_⟩
  · repeat' split
    all_goals simp
  · repeat' split
    all_goals simp
  · intro h0 h1
    rw [if_pos (by omega), if_pos ⟨h0, h1⟩]; rfl
theorem show_Text.at (v : Int) (k : Nat) (hk : 4 ≤ k) : show_Text.f k v = some (showT v (class_Of.v v)) := by
  obtain ⟨k, rfl⟩ : ∃ q, k = q + 1 := ⟨k - 1, by omega⟩
  unfold show_Text.f
  rw [class_Of.at v (k + 1) (by omega)]
  simp only [Option.bind_some, show_Text.j0]
  have hw := class_where v
  have e1 := enc1 v k (by omega)
  generalize class_Of.v v = c at *
  unfold showT
  rcases hw with ⟨rfl, _⟩ | ⟨hr, ⟨rfl, hv⟩ | ⟨hv, hc1, hc3⟩ | ⟨rfl, h0, h31⟩ | ⟨rfl, rfl⟩ | ⟨hv, h6, h11⟩⟩
  · rfl
  · have h2 := hex_le (v - 1114112) 2 2 (by omega) (by omega) (by omega)
    simp only [show ((2 : Nat) : Int) = 2 from rfl] at h2
    rw [wrap_small (v - 1114112) (by omega) (by omega), hex_f (v - 1114112) 2 (by omega) (by omega)]
    simp
    omega
  · rw [e1 hr]
    have hc : c = 1 ∨ c = 2 ∨ c = 3 := by omega
    rcases hc with rfl | rfl | rfl <;> simp
  · have e2 := enc1 (v + 64) k (by omega) (.inl ⟨by omega, by omega⟩)
    have e3 := (encB_size (v + 64)).2.1
    rw [wrap_small (v + 64) (by omega) (by omega), e2]
    simp [strOfNums_size]
    omega
  · simp
  · have h2 := hex_le v 4 6 (by omega) (by omega) (by omega)
    simp only [show ((4 : Nat) : Int) = 4 from rfl] at h2
    rw [hex_f v 4 (by omega) (by omega)]
    have n0 : ¬ c = 0 := by omega
    have n1 : ¬ c = 1 := by omega
    have n2 : ¬ c = 2 := by omega
    have n3 : ¬ c = 3 := by omega
    have n4 : ¬ c = 4 := by omega
    have n5 : ¬ c = 5 := by omega
    have n12 : ¬ c = 12 := by omega
    have nle : ¬ c ≤ 3 := by omega
    have h60 : (⟨#[60, 85, 43]⟩ : ByteArray).size = 3 := rfl
    simp [n0, n1, n2, n3, n4, n5, n12, nle, h60]
    omega
/-- How long it is. -/
theorem showT_size (v : Int) : (class_Of.v v = 0 → showT v (class_Of.v v) = ⟨#[]⟩) ∧ (class_Of.v v ≠ 0 → 1 ≤ (showT v (class_Of.v v)).size) ∧ (3 < class_Of.v v → 2 ≤ (showT v (class_Of.v v)).size ∧ (showT v (class_Of.v v)).size ≤ 10) := by
  have hw := class_where v
  have e0 := encB_size v
  generalize class_Of.v v = c at *
  unfold showT
  rcases hw with ⟨rfl, _⟩ | ⟨hr, ⟨rfl, hv⟩ | ⟨hv, hc1, hc3⟩ | ⟨rfl, h0, h31⟩ | ⟨rfl, rfl⟩ | ⟨hv, h6, h11⟩⟩
  · simp
  · have h2 := hex_le (v - 1114112) 2 2 (by omega) (by omega) (by omega)
    have h3 := hex_ge (v - 1114112) 2 (by omega) (by omega)
    have hs : ((⟨#[92, 120]⟩ : ByteArray) ++ num_Hex.v (v - 1114112) 2).size = 2 + (num_Hex.v (v - 1114112) 2).size := by rw [ByteArray.size_append]; rfl
    simp only [show ((2 : Nat) : Int) = 2 from rfl] at h2 h3
    refine ⟨by omega, fun _ => ?_, fun _ => ?_⟩
    · rw [if_neg (by omega), if_neg (by omega), if_neg (by omega), if_neg (by omega), if_pos rfl, hs]; omega
    · rw [if_neg (by omega), if_neg (by omega), if_neg (by omega), if_neg (by omega), if_pos rfl, hs]; omega
  · refine ⟨by omega, fun _ => ?_, fun _ => by omega⟩
    rw [if_neg (by omega), if_pos hc3, strOfNums_size]; omega
  · have e3 := (encB_size (v + 64)).2.2 (by omega) (by omega)
    have hs : ((⟨#[94]⟩ : ByteArray) ++ strOfNums (encB (v + 64))).size = 1 + (strOfNums (encB (v + 64))).size := by rw [ByteArray.size_append]; rfl
    rw [strOfNums_size, e3] at hs
    refine ⟨by omega, fun _ => ?_, fun _ => ?_⟩
    · rw [if_neg (by omega), if_neg (by omega), if_pos rfl, hs]; omega
    · rw [if_neg (by omega), if_neg (by omega), if_pos rfl, hs]; omega
  · refine ⟨by omega, fun _ => ?_, fun _ => ?_⟩ <;> (rw [if_neg (by omega), if_neg (by omega), if_neg (by omega), if_pos rfl]; decide)
  · have h2 := hex_le v 4 6 (by omega) (by omega) (by omega)
    have h3 := hex_ge v 4 (by omega) (by omega)
    have hs : (((⟨#[60, 85, 43]⟩ : ByteArray) ++ num_Hex.v v 4) ++ (⟨#[62]⟩ : ByteArray)).size = 4 + (num_Hex.v v 4).size := by rw [ByteArray.size_append, ByteArray.size_append]; show 3 + _ + 1 = _; omega
    simp only [show ((4 : Nat) : Int) = 4 from rfl] at h2 h3
    refine ⟨by omega, fun _ => ?_, fun _ => ?_⟩
    · rw [if_neg (by omega), if_neg (by omega), if_neg (by omega), if_neg (by omega), if_neg (by omega), hs]; omega
    · rw [if_neg (by omega), if_neg (by omega), if_neg (by omega), if_neg (by omega), if_neg (by omega), hs]; omega
end Go.Proofs.Ytkmdofkajcehpaa.P
