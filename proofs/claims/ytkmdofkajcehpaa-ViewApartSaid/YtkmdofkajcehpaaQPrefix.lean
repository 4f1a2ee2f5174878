/- No shown text of a dangerous value is a beginning of another one. -/
import Derived.Test.YtkmdofkajcehpaaQShowText
import Derived.Test.YtkmdofkajcehpaaQShow
import Derived.Test.YtkmdofkajcehpaaQClass
import Derived.Test.YtkmdofkajcehpaaPnum
import Derived.Test.YtkmdofkajcehpaaPutf
import Derived.Test.YtkmdofkajcehpaaPLibUtf8
namespace Go.Proofs.Ytkmdofkajcehpaa.P
open Go.RowKit Go.Proofs.Ytkmdofkajcehpaa.P Go.Proofs.YtkmdofkajcehpaaW.PrintWords Go.Proofs.YtkmdofkajcehpaaW.PrintLast
set_option linter.unusedVariables false
set_option linter.unusedSimpArgs false
theorem digit_ne62 : ∀ d : Nat, d < 16 → ∀ x ∈ (digitsB.extract d (d + 1)).data.toList, x ≠ 62 := by decide +kernel
theorem laidL_ne62 (b L : Nat) (hb2 : 2 ≤ b) (hb16 : b ≤ 16) : ∀ (m u : Nat) (s : ByteArray), (∀ x ∈ s.data.toList, x ≠ 62) → ∀ x ∈ (laidL b (L : Int) m u s).data.toList, x ≠ 62
  | 0, u, s, h => h
  | m + 1, u, s, h => by
    simp only [laidL]
    split
    · refine laidL_ne62 b L hb2 hb16 m (u / b) _ ?_
      intro y hy
      rw [ByteArray.data_append, Array.toList_append] at hy
      rcases List.mem_append.1 hy with hy | hy
      · exact digit_ne62 (u % b) (Nat.lt_of_lt_of_le (Nat.mod_lt _ (by omega)) hb16) y hy
      · exact h y hy
    · exact h
theorem hex_ne62 (n : Int) (L : Nat) (h1 : 1 ≤ L) (h2 : L ≤ 16) : ∀ x ∈ (num_Hex.v n (L : Int)).data.toList, x ≠ 62 := by
  rw [hex_eq n L h1 h2]
  exact laidL_ne62 16 L (by omega) (by omega) 81 n.toNat ByteArray.empty (by intro x hx; cases hx)
theorem end_one {α : Type} {z : α} {R : List α} : ∀ (a b : List α), a ++ [z] = b ++ z :: R → (∀ x ∈ a, x ≠ z) → R = []
  | [], [], h, _ => by simpa using h.symm
  | x :: a, [], h, hz => by simp at h; exact absurd h.1 (hz x (by simp))
  | [], y :: b, h, _ => by simp at h
  | x :: a, y :: b, h, hz => end_one a b (by simp at h; simpa using h.2) fun q hq => hz q (by simp [hq])
theorem showT_prefix (v w : Int) (hv3 : 3 < class_Of.v v) (hw3 : 3 < class_Of.v w) (R : List UInt8) (h : (showT w (class_Of.v w)).data.toList = (showT v (class_Of.v v)).data.toList ++ R) : R = [] := by
  have a := class_where v
  have b := class_where w
  have hx : ∀ n : Int, 0 ≤ n → n ≤ 255 → (num_Hex.v n 2).data.toList.length = 2 := by
    intro n h0 h1
    have h2 := hex_le n 2 2 (by omega) (by omega) (by omega)
    have h3 := hex_ge n 2 (by omega) (by omega)
    simp only [show ((2 : Nat) : Int) = 2 from rfl] at h2 h3
    have : (num_Hex.v n 2).data.toList.length = (num_Hex.v n 2).size := rfl
    omega
  generalize class_Of.v v = c at *
  generalize class_Of.v w = d at *
  have end0 : ∀ {l m : List UInt8}, l = m ++ R → l.length = m.length → R = [] := by
    intro l m q1 q2
    have := congrArg List.length q1
    rw [List.length_append] at this
    exact List.eq_nil_of_length_eq_zero (by omega)
  rcases a with ⟨rfl, _⟩ | ⟨hr, ⟨rfl, hv⟩ | ⟨hv, hc1, hc3⟩ | ⟨rfl, h0, h31⟩ | ⟨rfl, rfl⟩ | ⟨hv, h6, h11⟩⟩ <;>
    rcases b with ⟨rfl, _⟩ | ⟨gr, ⟨rfl, gv⟩ | ⟨gv, gc1, gc3⟩ | ⟨rfl, g0, g31⟩ | ⟨rfl, rfl⟩ | ⟨gv, g6, g11⟩⟩
  all_goals first
    | (exfalso; omega)
    | skip
  · rw [list12, list12] at h
    exact end0 h (by simp only [List.length_cons]; rw [hx _ (by omega) (by omega), hx _ (by omega) (by omega)])
  · rw [list12, list4 w g0 g31] at h; simp at h
  · rw [list12, list5] at h; simp at h
  · rw [list12, listU w d g6 g11] at h; simp at h
  · rw [list12, list4 v h0 h31] at h; simp at h
  · rw [list4 v h0 h31, list4 w g0 g31] at h; exact end0 h rfl
  · rw [list4 v h0 h31, list5] at h; exact end0 h rfl
  · rw [list4 v h0 h31, listU w d g6 g11] at h; simp at h
  · rw [list12, list5] at h; simp at h
  · rw [list5, list4 w g0 g31] at h; exact end0 h rfl
  · rw [list5] at h; exact end0 h rfl
  · rw [list5, listU w d g6 g11] at h; simp at h
  · rw [list12, listU v c h6 h11] at h; simp at h
  · rw [list4 w g0 g31, listU v c h6 h11] at h; simp at h
  · rw [list5, listU v c h6 h11] at h; simp at h
  · rw [listU v c h6 h11, listU w d g6 g11] at h
    simp only [List.cons_append, List.cons.injEq, true_and, List.append_assoc, List.nil_append] at h
    exact end_one _ _ h (hex_ne62 w 4 (by omega) (by omega))
end Go.Proofs.Ytkmdofkajcehpaa.P
