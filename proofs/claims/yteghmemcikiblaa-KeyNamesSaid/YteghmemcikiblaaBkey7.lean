/- The names of keys, as lists of bytes. -/
import Derived.Test.YteghmemcikiblaaAX
import Derived.Test.YteghmemcikiblaaBkey6
set_option linter.unusedVariables false
set_option linter.unusedSimpArgs false
set_option maxRecDepth 10000
set_option maxHeartbeats 4000000
namespace Go.Proofs.Yteghmemcikiblaa.AM.B
open Go Go.RowKit
abbrev bl (s : ByteArray) : List UInt8 := s.data.toList
theorem bl_app (a b : ByteArray) : bl (a ++ b) = bl a ++ bl b := by unfold bl; rw [ByteArray.data_append, Array.toList_append]
theorem bl_ext (s : ByteArray) (a b : Nat) : bl (s.extract a b) = ((bl s).drop a).take (b - a) := by
  unfold bl
  rw [ByteArray.data_extract, Array.toList_extract]
theorem bl_inj {a b : ByteArray} (h : bl a = bl b) : a = b := by
  cases a; cases b; exact congrArg ByteArray.mk (Array.toList_inj.1 h)
theorem bl_size (s : ByteArray) : s.size = (bl s).length := rfl
theorem hasPre_iff (s p : ByteArray) : hasPre s p = true ↔ bl p <+: bl s := by
  unfold hasPre
  rw [Bool.and_eq_true, decide_eq_true_eq, decide_eq_true_eq]
  constructor
  · rintro ⟨_, h⟩
    have := congrArg bl h
    rw [bl_ext, List.drop_zero, Nat.sub_zero] at this
    exact ⟨(bl s).drop p.size, by rw [← this]; exact List.take_append_drop _ _⟩
  · rintro ⟨r, hr⟩
    have hl : (bl s).length = (bl p).length + r.length := by rw [← hr, List.length_append]
    refine ⟨by rw [bl_size, bl_size]; omega, bl_inj ?_⟩
    rw [bl_ext, List.drop_zero, Nat.sub_zero, ← hr, bl_size, List.take_left]
theorem hasPre_no {s p : ByteArray} (h : ¬ bl p <+: bl s) : hasPre s p = false := by
  cases q : hasPre s p
  · rfl
  · exact absurd ((hasPre_iff s p).1 q) h
theorem hasPre_yes {s p : ByteArray} {r : List UInt8} (h : bl s = bl p ++ r) : hasPre s p = true ∧ bl (s.extract p.size s.size) = r := by
  refine ⟨(hasPre_iff s p).2 ⟨r, h.symm⟩, ?_⟩
  rw [bl_ext, bl_size, bl_size, h, List.drop_left, List.length_append, Nat.add_sub_cancel_left, List.take_length]
theorem hasSuf_yes {s p : ByteArray} {r : List UInt8} (h : bl s = r ++ bl p) : hasSuf s p = true ∧ bl (s.extract 0 (s.size - p.size)) = r := by
  have hl : (bl s).length = r.length + (bl p).length := by rw [h, List.length_append]
  have e : s.size - p.size = r.length := by rw [bl_size, bl_size]; omega
  constructor
  · unfold hasSuf
    rw [Bool.and_eq_true, decide_eq_true_eq, decide_eq_true_eq]
    refine ⟨by rw [bl_size, bl_size]; omega, bl_inj ?_⟩
    rw [bl_ext, e, h, List.drop_left, bl_size, hl, Nat.add_sub_cancel_left, List.take_length]
  · rw [bl_ext, e, List.drop_zero, Nat.sub_zero, h, List.take_left]
theorem hasSuf_no {s p : ByteArray} {x : UInt8} (hp : bl p = [x]) (h : ∀ y ∈ bl s, y ≠ x) : hasSuf s p = false := by
  cases q : hasSuf s p
  · rfl
  · exfalso
    unfold hasSuf at q
    rw [Bool.and_eq_true, decide_eq_true_eq, decide_eq_true_eq] at q
    have h2 := congrArg bl q.2
    rw [bl_ext, hp] at h2
    have hx : x ∈ ((bl s).drop (s.size - p.size)).take (s.size - (s.size - p.size)) := by rw [h2]; simp
    exact h x (List.mem_of_mem_drop (List.mem_of_mem_take hx)) rfl
/-! ### Signs -/
theorem signV_1 {v : Int} (h : 32 < v ∧ v < 127 ∧ v ≠ 60) : signV v = bsOf [v] := if_pos h
theorem signV_2 {v : Int} (h : ¬ (32 < v ∧ v < 127 ∧ v ≠ 60)) (h2 : 32 ≤ v) : bl (signV v) = 60 :: (hexL v 1 ++ [62]) := by
  unfold signV
  rw [if_neg h, if_pos h2, bl_app, bl_app]; rfl
theorem signV_3 {v : Int} (h : v < 32) (h0 : 0 ≤ v) : bl (signV v) = [67, 45, UInt8.ofNat (if 1 ≤ v ∧ v ≤ 26 then v + 96 else v + 64).toNat] := by
  unfold signV
  rw [if_neg (by omega), if_neg (by omega)]
  split
  · rw [bl_app]; rfl
  · rw [bl_app]; rfl
/-! ### The table's names -/
theorem tab_heads : ∀ n ∈ tableV, (match bl n.f2 with | a :: b :: _ => decide (a ≠ 60 ∧ a ≠ 67 ∧ a ≠ 77 ∧ (a = 80 → b = 71)) | _ => false) = true := by decide +kernel
theorem tab_none {s : ByteArray} (h : (∃ x, bl s = [x]) ∨ (∃ a l, bl s = a :: l ∧ (a = 60 ∨ a = 67 ∨ a = 77)) ∨ ∃ l, bl s = 80 :: 45 :: l) : tableV.any (guessP s) = false := by
  rw [List.any_eq_false]
  intro n hn hq
  have h1 := tab_heads n hn
  have h2 : bl n.f2 = bl s := congrArg bl (of_decide_eq_true hq)
  rw [h2] at h1
  rcases h with ⟨x, e⟩ | ⟨a, l, e, ha⟩ | ⟨l, e⟩
  · rw [e] at h1; cases h1
  · rw [e] at h1
    cases l with
    | nil => cases h1
    | cons b l =>
      have := of_decide_eq_true h1
      rcases ha with rfl | rfl | rfl
      · exact this.1 rfl
      · exact this.2.1 rfl
      · exact this.2.2.1 rfl
  · rw [e] at h1
    have := of_decide_eq_true h1
    exact absurd (this.2.2.2 rfl) (by decide)
def guessL (s : ByteArray) (n : NamedS) : Bool := decide (bl n.f2 = bl s)
theorem guessP_eq (s : ByteArray) : guessP s = guessL s := by
  funext n
  unfold guessP guessL
  exact decide_eq_decide.2 ⟨congrArg bl, bl_inj⟩
theorem tab_keys : ∀ p ∈ ([(4, 13), (4, 10), (5, 0), (6, 0), (7, 0), (8, 0), (9, 0), (10, 0), (11, 0), (12, 0), (13, 0), (14, 0), (14, 1)] : List (Int × Int)), tableV.any (guessL (foundV (fun n => decide (n.f0 = p.1) && decide (n.f1 = p.2))).f2) = true ∧ (foundV (guessL (foundV (fun n => decide (n.f0 = p.1) && decide (n.f1 = p.2))).f2)).f0 = p.1 ∧ (foundV (guessL (foundV (fun n => decide (n.f0 = p.1) && decide (n.f1 = p.2))).f2)).f1 = p.2 := by decide +kernel
theorem tab_guess {x : KeyS} (h : tableV.any (ofP x) = true) : tableV.any (guessP (foundV (ofP x)).f2) = true ∧ (foundV (guessP (foundV (ofP x)).f2)).f0 = x.f0 ∧ (foundV (guessP (foundV (ofP x)).f2)).f1 = x.f1 := by
  have hh := any_tab h
  have e : ofP x = fun n => decide (n.f0 = x.f0) && decide (n.f1 = x.f1) := rfl
  rw [guessP_eq, e]
  have hm : (x.f0, x.f1) ∈ ([(4, 13), (4, 10), (5, 0), (6, 0), (7, 0), (8, 0), (9, 0), (10, 0), (11, 0), (12, 0), (13, 0), (14, 0), (14, 1)] : List (Int × Int)) := by
    have : (x.f0 = 4 ∧ x.f1 = 13) ∨ (x.f0 = 4 ∧ x.f1 = 10) ∨ (x.f0 = 5 ∧ x.f1 = 0) ∨ (x.f0 = 6 ∧ x.f1 = 0) ∨ (x.f0 = 7 ∧ x.f1 = 0) ∨ (x.f0 = 8 ∧ x.f1 = 0) ∨ (x.f0 = 9 ∧ x.f1 = 0) ∨ (x.f0 = 10 ∧ x.f1 = 0) ∨ (x.f0 = 11 ∧ x.f1 = 0) ∨ (x.f0 = 12 ∧ x.f1 = 0) ∨ (x.f0 = 13 ∧ x.f1 = 0) ∨ (x.f0 = 14 ∧ x.f1 = 0) ∨ (x.f0 = 14 ∧ x.f1 = 1) := by
      rcases hh with ⟨h1, h2 | h2⟩ | ⟨h1, h2, h3⟩ | ⟨h1, h2 | h2⟩
      · exact .inl ⟨h1, h2⟩
      · exact .inr (.inl ⟨h1, h2⟩)
      · have : x.f0 = 5 ∨ x.f0 = 6 ∨ x.f0 = 7 ∨ x.f0 = 8 ∨ x.f0 = 9 ∨ x.f0 = 10 ∨ x.f0 = 11 ∨ x.f0 = 12 ∨ x.f0 = 13 := by clear e; omega
        rcases this with h | h | h | h | h | h | h | h | h <;> simp [h, h3]
      · simp [h1, h2]
      · simp [h1, h2]
    rcases this with ⟨h1, h2⟩ | ⟨h1, h2⟩ | ⟨h1, h2⟩ | ⟨h1, h2⟩ | ⟨h1, h2⟩ | ⟨h1, h2⟩ | ⟨h1, h2⟩ | ⟨h1, h2⟩ | ⟨h1, h2⟩ | ⟨h1, h2⟩ | ⟨h1, h2⟩ | ⟨h1, h2⟩ | ⟨h1, h2⟩ <;> (rw [h1, h2]; decide)
  have hk := tab_keys _ hm
  simp only at hk
  exact hk
end Go.Proofs.Yteghmemcikiblaa.AM.B
