/- Whether a text begins with a whole rune: over the model, from Go's own tables. -/
import Derived.Test.YtaoocfkadjcbkaaDoorProg
import Derived.Lib.LaidU8T
import Derived.WalkKit
import Derived.ProofKit
import Derived.Below
import Derived.RowKit
import Derived.Tactics
import Derived.BigQuiet
import Derived.WalkSmall
namespace Go.Proofs.YtaoocfkadjcbkaaDoor.P
open Go Go.RowKit Go.Lib Go.Proofs Go.Shelf
set_option linter.unusedVariables false
set_option linter.unusedSimpArgs false
/-- Whether n bytes begin with a whole rune. -/
def fullN (n b0 b1 b2 : Nat) : Bool :=
  if n = 0 then false
  else if firstT b0 % 8 ≤ n then true
  else if 1 < n ∧ (b1 < accLo (firstT b0 / 16) ∨ accHi (firstT b0 / 16) < b1) then true
  else if 2 < n ∧ (b2 < 128 ∨ 191 < b2) then true
  else false
set_option maxHeartbeats 4000000 in
set_option maxRecDepth 1000000 in
theorem fullRune (s : ByteArray) (w : World) (hT : Lib.Utf8Tabs 0 1 w) (hsz : s.size ≤ 9223372036854775807) :
    Calls Tryd.prog 24 #[.string s] w fun e w' => e = .returned (.bool (fullN s.size (s.get! 0).toNat (s.get! 1).toNat (s.get! 2).toNat)) ∧ Below w.heap.size w w' := by
  by_cases h0 : s.size = 0
  · have hz : (s.size : Int) = 0 := by omega
    simp only [fullN, h0, if_true]
    go_enter Tryd.func24, Tryd.ntmps24
    go_wp2
    go_ret
    exact ⟨rfl, Below.refl _ _⟩
  · have hz0 : (0 : Int) < (s.size : Int) := by omega
    have hz1 : ¬ (s.size : Int) = 0 := by omega
    obtain ⟨x0, hx0⟩ : ∃ x0, s.get! 0 = x0 := ⟨_, rfl⟩
    obtain ⟨x1, hx1⟩ : ∃ x1, s.get! 1 = x1 := ⟨_, rfl⟩
    obtain ⟨x2, hx2⟩ : ∃ x2, s.get! 2 = x2 := ⟨_, rfl⟩
    have hs0 : s[0]'(by omega) = x0 := by rw [← hx0]; exact (Utf8W.get!_of_lt s 0 (by omega)).symm
    have l0 := x0.toNat_lt; have l1 := x1.toNat_lt; have l2 := x2.toNat_lt
    rw [hx0, hx1, hx2]
    have hc0 := hT.1 x0.toNat (by omega)
    rcases Lib.firstT_cases x0.toNat with hX | hX | hX | hX | hX | hX | hX | hX | hX
    · rw [hX] at hc0
      have e : fullN s.size x0.toNat x1.toNat x2.toNat = true := by unfold fullN; rw [if_neg h0, hX, if_pos (by omega)]
      rw [e]
      clear hT hX e
      go_enter Tryd.func24, Tryd.ntmps24
      go_wp2
      go_ret
      exact ⟨rfl, Below.refl _ _⟩
    · rw [hX] at hc0
      have ha0 := (hT.2 15 (by omega)).1
      have ha1 := (hT.2 15 (by omega)).2
      simp only [accLo, accHi, Nat.reduceMul, Nat.reduceAdd, Nat.reduceEqDiff, if_true, if_false] at ha0 ha1
      have hf : fullN s.size x0.toNat x1.toNat x2.toNat = if 1 ≤ s.size then true else if 1 < s.size ∧ (x1.toNat < 0 ∨ 0 < x1.toNat) then true else if 2 < s.size ∧ (x2.toNat < 128 ∨ 191 < x2.toNat) then true else false := by
        unfold fullN; rw [if_neg h0, hX]; rfl
      rw [hf]
      clear hT hX hf
      by_cases hn : 1 ≤ s.size
      · rw [if_pos hn]
        have hnz : (1 : Int) ≤ (s.size : Int) := by omega
        go_enter Tryd.func24, Tryd.ntmps24
        go_wp2
        go_ret
        exact ⟨rfl, Below.refl _ _⟩
      · rw [if_neg hn]
        exact absurd hn (by omega)
    · rw [hX] at hc0
      have ha0 := (hT.2 0 (by omega)).1
      have ha1 := (hT.2 0 (by omega)).2
      simp only [accLo, accHi, Nat.reduceMul, Nat.reduceAdd, Nat.reduceEqDiff, if_true, if_false] at ha0 ha1
      have hf : fullN s.size x0.toNat x1.toNat x2.toNat = if 2 ≤ s.size then true else if 1 < s.size ∧ (x1.toNat < 128 ∨ 191 < x1.toNat) then true else if 2 < s.size ∧ (x2.toNat < 128 ∨ 191 < x2.toNat) then true else false := by
        unfold fullN; rw [if_neg h0, hX]; rfl
      rw [hf]
      clear hT hX hf
      by_cases hn : 2 ≤ s.size
      · rw [if_pos hn]
        have hnz : (2 : Int) ≤ (s.size : Int) := by omega
        go_enter Tryd.func24, Tryd.ntmps24
        go_wp2
        go_ret
        exact ⟨rfl, Below.refl _ _⟩
      · rw [if_neg hn]
        have hnz : ¬ (2 : Int) ≤ (s.size : Int) := by omega
        have h1 : ¬ 1 < s.size := by omega
        · skip
          rw [if_neg (fun q => h1 q.1), if_neg (fun q => h1 (by omega))]
          have h1z : ¬ (1 : Int) < (s.size : Int) := by omega
          have h2z : ¬ (2 : Int) < (s.size : Int) := by omega
          have g1 : decide ((1 : Int) < (s.size : Int)) = false := decide_eq_false h1z
          go_enter Tryd.func24, Tryd.ntmps24
          go_wp2
          go_quiet (skip)
          go_wp2
          go_ret
          exact ⟨rfl, ((Below.refl _ _).alloc (Nat.le_refl _) _).trans ⟨rfl, rfl, rfl, Nat.le_refl _, fun _ _ => rfl⟩⟩
    · rw [hX] at hc0
      have ha0 := (hT.2 1 (by omega)).1
      have ha1 := (hT.2 1 (by omega)).2
      simp only [accLo, accHi, Nat.reduceMul, Nat.reduceAdd, Nat.reduceEqDiff, if_true, if_false] at ha0 ha1
      have hf : fullN s.size x0.toNat x1.toNat x2.toNat = if 3 ≤ s.size then true else if 1 < s.size ∧ (x1.toNat < 160 ∨ 191 < x1.toNat) then true else if 2 < s.size ∧ (x2.toNat < 128 ∨ 191 < x2.toNat) then true else false := by
        unfold fullN; rw [if_neg h0, hX]; rfl
      rw [hf]
      clear hT hX hf
      by_cases hn : 3 ≤ s.size
      · rw [if_pos hn]
        have hnz : (3 : Int) ≤ (s.size : Int) := by omega
        go_enter Tryd.func24, Tryd.ntmps24
        go_wp2
        go_ret
        exact ⟨rfl, Below.refl _ _⟩
      · rw [if_neg hn]
        have hnz : ¬ (3 : Int) ≤ (s.size : Int) := by omega
        by_cases h1 : 1 < s.size
        · have h1z : (1 : Int) < (s.size : Int) := by omega
          have g1 : decide ((1 : Int) < (s.size : Int)) = true := decide_eq_true h1z
          have hs1 : s[1]'(by omega) = x1 := by rw [← hx1]; exact (Utf8W.get!_of_lt s 1 (by omega)).symm
          by_cases c1 : x1.toNat < 160
          · rw [if_pos ⟨h1, .inl c1⟩]
            have gc1 : decide ((x1.toNat : Int) < 160) = true := decide_eq_true (by omega)
            go_enter Tryd.func24, Tryd.ntmps24
            go_wp2
            go_quiet (skip)
            go_wp2
            go_ret
            exact ⟨rfl, ((Below.refl _ _).alloc (Nat.le_refl _) _).trans ⟨rfl, rfl, rfl, Nat.le_refl _, fun _ _ => rfl⟩⟩
          · have c1z : ¬ (x1.toNat : Int) < 160 := by omega
            have gc1 : decide ((x1.toNat : Int) < 160) = false := decide_eq_false c1z
            by_cases c2 : 191 < x1.toNat
            · rw [if_pos ⟨h1, .inr c2⟩]
              have gc2 : decide ((191 : Int) < (x1.toNat : Int)) = true := decide_eq_true (by omega)
              go_enter Tryd.func24, Tryd.ntmps24
              go_wp2
              go_quiet (skip)
              go_wp2
              go_ret
              exact ⟨rfl, ((Below.refl _ _).alloc (Nat.le_refl _) _).trans ⟨rfl, rfl, rfl, Nat.le_refl _, fun _ _ => rfl⟩⟩
            · rw [if_neg (fun q => q.2.elim c1 c2)]
              have c2z : ¬ (191 : Int) < (x1.toNat : Int) := by omega
              have gc2 : decide ((191 : Int) < (x1.toNat : Int)) = false := decide_eq_false c2z
              have h2 : ¬ 2 < s.size := by omega
              rw [if_neg (fun q => h2 q.1)]
              have h2z : ¬ (2 : Int) < (s.size : Int) := by omega
              have g2 : decide ((2 : Int) < (s.size : Int)) = false := decide_eq_false h2z
              go_enter Tryd.func24, Tryd.ntmps24
              go_wp2
              go_quiet (skip)
              go_wp2
              go_ret
              exact ⟨rfl, ((Below.refl _ _).alloc (Nat.le_refl _) _).trans ⟨rfl, rfl, rfl, Nat.le_refl _, fun _ _ => rfl⟩⟩
        · skip
          rw [if_neg (fun q => h1 q.1), if_neg (fun q => h1 (by omega))]
          have h1z : ¬ (1 : Int) < (s.size : Int) := by omega
          have h2z : ¬ (2 : Int) < (s.size : Int) := by omega
          have g1 : decide ((1 : Int) < (s.size : Int)) = false := decide_eq_false h1z
          go_enter Tryd.func24, Tryd.ntmps24
          go_wp2
          go_quiet (skip)
          go_wp2
          go_ret
          exact ⟨rfl, ((Below.refl _ _).alloc (Nat.le_refl _) _).trans ⟨rfl, rfl, rfl, Nat.le_refl _, fun _ _ => rfl⟩⟩
    · rw [hX] at hc0
      have ha0 := (hT.2 0 (by omega)).1
      have ha1 := (hT.2 0 (by omega)).2
      simp only [accLo, accHi, Nat.reduceMul, Nat.reduceAdd, Nat.reduceEqDiff, if_true, if_false] at ha0 ha1
      have hf : fullN s.size x0.toNat x1.toNat x2.toNat = if 3 ≤ s.size then true else if 1 < s.size ∧ (x1.toNat < 128 ∨ 191 < x1.toNat) then true else if 2 < s.size ∧ (x2.toNat < 128 ∨ 191 < x2.toNat) then true else false := by
        unfold fullN; rw [if_neg h0, hX]; rfl
      rw [hf]
      clear hT hX hf
      by_cases hn : 3 ≤ s.size
      · rw [if_pos hn]
        have hnz : (3 : Int) ≤ (s.size : Int) := by omega
        go_enter Tryd.func24, Tryd.ntmps24
        go_wp2
        go_ret
        exact ⟨rfl, Below.refl _ _⟩
      · rw [if_neg hn]
        have hnz : ¬ (3 : Int) ≤ (s.size : Int) := by omega
        by_cases h1 : 1 < s.size
        · have h1z : (1 : Int) < (s.size : Int) := by omega
          have g1 : decide ((1 : Int) < (s.size : Int)) = true := decide_eq_true h1z
          have hs1 : s[1]'(by omega) = x1 := by rw [← hx1]; exact (Utf8W.get!_of_lt s 1 (by omega)).symm
          by_cases c1 : x1.toNat < 128
          · rw [if_pos ⟨h1, .inl c1⟩]
            have gc1 : decide ((x1.toNat : Int) < 128) = true := decide_eq_true (by omega)
            go_enter Tryd.func24, Tryd.ntmps24
            go_wp2
            go_quiet (skip)
            go_wp2
            go_ret
            exact ⟨rfl, ((Below.refl _ _).alloc (Nat.le_refl _) _).trans ⟨rfl, rfl, rfl, Nat.le_refl _, fun _ _ => rfl⟩⟩
          · have c1z : ¬ (x1.toNat : Int) < 128 := by omega
            have gc1 : decide ((x1.toNat : Int) < 128) = false := decide_eq_false c1z
            by_cases c2 : 191 < x1.toNat
            · rw [if_pos ⟨h1, .inr c2⟩]
              have gc2 : decide ((191 : Int) < (x1.toNat : Int)) = true := decide_eq_true (by omega)
              go_enter Tryd.func24, Tryd.ntmps24
              go_wp2
              go_quiet (skip)
              go_wp2
              go_ret
              exact ⟨rfl, ((Below.refl _ _).alloc (Nat.le_refl _) _).trans ⟨rfl, rfl, rfl, Nat.le_refl _, fun _ _ => rfl⟩⟩
            · rw [if_neg (fun q => q.2.elim c1 c2)]
              have c2z : ¬ (191 : Int) < (x1.toNat : Int) := by omega
              have gc2 : decide ((191 : Int) < (x1.toNat : Int)) = false := decide_eq_false c2z
              have h2 : ¬ 2 < s.size := by omega
              rw [if_neg (fun q => h2 q.1)]
              have h2z : ¬ (2 : Int) < (s.size : Int) := by omega
              have g2 : decide ((2 : Int) < (s.size : Int)) = false := decide_eq_false h2z
              go_enter Tryd.func24, Tryd.ntmps24
              go_wp2
              go_quiet (skip)
              go_wp2
              go_ret
              exact ⟨rfl, ((Below.refl _ _).alloc (Nat.le_refl _) _).trans ⟨rfl, rfl, rfl, Nat.le_refl _, fun _ _ => rfl⟩⟩
        · skip
          rw [if_neg (fun q => h1 q.1), if_neg (fun q => h1 (by omega))]
          have h1z : ¬ (1 : Int) < (s.size : Int) := by omega
          have h2z : ¬ (2 : Int) < (s.size : Int) := by omega
          have g1 : decide ((1 : Int) < (s.size : Int)) = false := decide_eq_false h1z
          go_enter Tryd.func24, Tryd.ntmps24
          go_wp2
          go_quiet (skip)
          go_wp2
          go_ret
          exact ⟨rfl, ((Below.refl _ _).alloc (Nat.le_refl _) _).trans ⟨rfl, rfl, rfl, Nat.le_refl _, fun _ _ => rfl⟩⟩
    · rw [hX] at hc0
      have ha0 := (hT.2 2 (by omega)).1
      have ha1 := (hT.2 2 (by omega)).2
      simp only [accLo, accHi, Nat.reduceMul, Nat.reduceAdd, Nat.reduceEqDiff, if_true, if_false] at ha0 ha1
      have hf : fullN s.size x0.toNat x1.toNat x2.toNat = if 3 ≤ s.size then true else if 1 < s.size ∧ (x1.toNat < 128 ∨ 159 < x1.toNat) then true else if 2 < s.size ∧ (x2.toNat < 128 ∨ 191 < x2.toNat) then true else false := by
        unfold fullN; rw [if_neg h0, hX]; rfl
      rw [hf]
      clear hT hX hf
      by_cases hn : 3 ≤ s.size
      · rw [if_pos hn]
        have hnz : (3 : Int) ≤ (s.size : Int) := by omega
        go_enter Tryd.func24, Tryd.ntmps24
        go_wp2
        go_ret
        exact ⟨rfl, Below.refl _ _⟩
      · rw [if_neg hn]
        have hnz : ¬ (3 : Int) ≤ (s.size : Int) := by omega
        by_cases h1 : 1 < s.size
        · have h1z : (1 : Int) < (s.size : Int) := by omega
          have g1 : decide ((1 : Int) < (s.size : Int)) = true := decide_eq_true h1z
          have hs1 : s[1]'(by omega) = x1 := by rw [← hx1]; exact (Utf8W.get!_of_lt s 1 (by omega)).symm
          by_cases c1 : x1.toNat < 128
          · rw [if_pos ⟨h1, .inl c1⟩]
            have gc1 : decide ((x1.toNat : Int) < 128) = true := decide_eq_true (by omega)
            go_enter Tryd.func24, Tryd.ntmps24
            go_wp2
            go_quiet (skip)
            go_wp2
            go_ret
            exact ⟨rfl, ((Below.refl _ _).alloc (Nat.le_refl _) _).trans ⟨rfl, rfl, rfl, Nat.le_refl _, fun _ _ => rfl⟩⟩
          · have c1z : ¬ (x1.toNat : Int) < 128 := by omega
            have gc1 : decide ((x1.toNat : Int) < 128) = false := decide_eq_false c1z
            by_cases c2 : 159 < x1.toNat
            · rw [if_pos ⟨h1, .inr c2⟩]
              have gc2 : decide ((159 : Int) < (x1.toNat : Int)) = true := decide_eq_true (by omega)
              go_enter Tryd.func24, Tryd.ntmps24
              go_wp2
              go_quiet (skip)
              go_wp2
              go_ret
              exact ⟨rfl, ((Below.refl _ _).alloc (Nat.le_refl _) _).trans ⟨rfl, rfl, rfl, Nat.le_refl _, fun _ _ => rfl⟩⟩
            · rw [if_neg (fun q => q.2.elim c1 c2)]
              have c2z : ¬ (159 : Int) < (x1.toNat : Int) := by omega
              have gc2 : decide ((159 : Int) < (x1.toNat : Int)) = false := decide_eq_false c2z
              have h2 : ¬ 2 < s.size := by omega
              rw [if_neg (fun q => h2 q.1)]
              have h2z : ¬ (2 : Int) < (s.size : Int) := by omega
              have g2 : decide ((2 : Int) < (s.size : Int)) = false := decide_eq_false h2z
              go_enter Tryd.func24, Tryd.ntmps24
              go_wp2
              go_quiet (skip)
              go_wp2
              go_ret
              exact ⟨rfl, ((Below.refl _ _).alloc (Nat.le_refl _) _).trans ⟨rfl, rfl, rfl, Nat.le_refl _, fun _ _ => rfl⟩⟩
        · skip
          rw [if_neg (fun q => h1 q.1), if_neg (fun q => h1 (by omega))]
          have h1z : ¬ (1 : Int) < (s.size : Int) := by omega
          have h2z : ¬ (2 : Int) < (s.size : Int) := by omega
          have g1 : decide ((1 : Int) < (s.size : Int)) = false := decide_eq_false h1z
          go_enter Tryd.func24, Tryd.ntmps24
          go_wp2
          go_quiet (skip)
          go_wp2
          go_ret
          exact ⟨rfl, ((Below.refl _ _).alloc (Nat.le_refl _) _).trans ⟨rfl, rfl, rfl, Nat.le_refl _, fun _ _ => rfl⟩⟩
    · rw [hX] at hc0
      have ha0 := (hT.2 3 (by omega)).1
      have ha1 := (hT.2 3 (by omega)).2
      simp only [accLo, accHi, Nat.reduceMul, Nat.reduceAdd, Nat.reduceEqDiff, if_true, if_false] at ha0 ha1
      have hf : fullN s.size x0.toNat x1.toNat x2.toNat = if 4 ≤ s.size then true else if 1 < s.size ∧ (x1.toNat < 144 ∨ 191 < x1.toNat) then true else if 2 < s.size ∧ (x2.toNat < 128 ∨ 191 < x2.toNat) then true else false := by
        unfold fullN; rw [if_neg h0, hX]; rfl
      rw [hf]
      clear hT hX hf
      by_cases hn : 4 ≤ s.size
      · rw [if_pos hn]
        have hnz : (4 : Int) ≤ (s.size : Int) := by omega
        go_enter Tryd.func24, Tryd.ntmps24
        go_wp2
        go_ret
        exact ⟨rfl, Below.refl _ _⟩
      · rw [if_neg hn]
        have hnz : ¬ (4 : Int) ≤ (s.size : Int) := by omega
        by_cases h1 : 1 < s.size
        · have h1z : (1 : Int) < (s.size : Int) := by omega
          have g1 : decide ((1 : Int) < (s.size : Int)) = true := decide_eq_true h1z
          have hs1 : s[1]'(by omega) = x1 := by rw [← hx1]; exact (Utf8W.get!_of_lt s 1 (by omega)).symm
          by_cases c1 : x1.toNat < 144
          · rw [if_pos ⟨h1, .inl c1⟩]
            have gc1 : decide ((x1.toNat : Int) < 144) = true := decide_eq_true (by omega)
            go_enter Tryd.func24, Tryd.ntmps24
            go_wp2
            go_quiet (skip)
            go_wp2
            go_ret
            exact ⟨rfl, ((Below.refl _ _).alloc (Nat.le_refl _) _).trans ⟨rfl, rfl, rfl, Nat.le_refl _, fun _ _ => rfl⟩⟩
          · have c1z : ¬ (x1.toNat : Int) < 144 := by omega
            have gc1 : decide ((x1.toNat : Int) < 144) = false := decide_eq_false c1z
            by_cases c2 : 191 < x1.toNat
            · rw [if_pos ⟨h1, .inr c2⟩]
              have gc2 : decide ((191 : Int) < (x1.toNat : Int)) = true := decide_eq_true (by omega)
              go_enter Tryd.func24, Tryd.ntmps24
              go_wp2
              go_quiet (skip)
              go_wp2
              go_ret
              exact ⟨rfl, ((Below.refl _ _).alloc (Nat.le_refl _) _).trans ⟨rfl, rfl, rfl, Nat.le_refl _, fun _ _ => rfl⟩⟩
            · rw [if_neg (fun q => q.2.elim c1 c2)]
              have c2z : ¬ (191 : Int) < (x1.toNat : Int) := by omega
              have gc2 : decide ((191 : Int) < (x1.toNat : Int)) = false := decide_eq_false c2z
              by_cases h2 : 2 < s.size
              · have h2z : (2 : Int) < (s.size : Int) := by omega
                have g2 : decide ((2 : Int) < (s.size : Int)) = true := decide_eq_true h2z
                have hs2 : s[2]'(by omega) = x2 := by rw [← hx2]; exact (Utf8W.get!_of_lt s 2 (by omega)).symm
                by_cases c3 : x2.toNat < 128
                · rw [if_pos ⟨h2, .inl c3⟩]
                  have c3z : (x2.toNat : Int) < 128 := by omega
                  have gc3 : decide ((x2.toNat : Int) < 128) = true := decide_eq_true c3z
                  go_enter Tryd.func24, Tryd.ntmps24
                  go_wp2
                  go_quiet (skip)
                  go_wp2
                  go_ret
                  exact ⟨rfl, ((Below.refl _ _).alloc (Nat.le_refl _) _).trans ⟨rfl, rfl, rfl, Nat.le_refl _, fun _ _ => rfl⟩⟩
                · have c3z : ¬ (x2.toNat : Int) < 128 := by omega
                  have gc3 : decide ((x2.toNat : Int) < 128) = false := decide_eq_false c3z
                  by_cases c4 : 191 < x2.toNat
                  · rw [if_pos ⟨h2, .inr c4⟩]
                    have c4z : (191 : Int) < (x2.toNat : Int) := by omega
                    have gc4 : decide ((191 : Int) < (x2.toNat : Int)) = true := decide_eq_true c4z
                    go_enter Tryd.func24, Tryd.ntmps24
                    go_wp2
                    go_quiet (skip)
                    go_wp2
                    go_ret
                    exact ⟨rfl, ((Below.refl _ _).alloc (Nat.le_refl _) _).trans ⟨rfl, rfl, rfl, Nat.le_refl _, fun _ _ => rfl⟩⟩
                  · rw [if_neg (fun q => q.2.elim c3 c4)]
                    have c4z : ¬ (191 : Int) < (x2.toNat : Int) := by omega
                    have gc4 : decide ((191 : Int) < (x2.toNat : Int)) = false := decide_eq_false c4z
                    go_enter Tryd.func24, Tryd.ntmps24
                    go_wp2
                    go_quiet (skip)
                    go_wp2
                    go_ret
                    exact ⟨rfl, ((Below.refl _ _).alloc (Nat.le_refl _) _).trans ⟨rfl, rfl, rfl, Nat.le_refl _, fun _ _ => rfl⟩⟩
              · rw [if_neg (fun q => h2 q.1)]
                have h2z : ¬ (2 : Int) < (s.size : Int) := by omega
                have g2 : decide ((2 : Int) < (s.size : Int)) = false := decide_eq_false h2z
                go_enter Tryd.func24, Tryd.ntmps24
                go_wp2
                go_quiet (skip)
                go_wp2
                go_ret
                exact ⟨rfl, ((Below.refl _ _).alloc (Nat.le_refl _) _).trans ⟨rfl, rfl, rfl, Nat.le_refl _, fun _ _ => rfl⟩⟩
        · skip
          rw [if_neg (fun q => h1 q.1), if_neg (fun q => h1 (by omega))]
          have h1z : ¬ (1 : Int) < (s.size : Int) := by omega
          have h2z : ¬ (2 : Int) < (s.size : Int) := by omega
          have g1 : decide ((1 : Int) < (s.size : Int)) = false := decide_eq_false h1z
          go_enter Tryd.func24, Tryd.ntmps24
          go_wp2
          go_quiet (skip)
          go_wp2
          go_ret
          exact ⟨rfl, ((Below.refl _ _).alloc (Nat.le_refl _) _).trans ⟨rfl, rfl, rfl, Nat.le_refl _, fun _ _ => rfl⟩⟩
    · rw [hX] at hc0
      have ha0 := (hT.2 0 (by omega)).1
      have ha1 := (hT.2 0 (by omega)).2
      simp only [accLo, accHi, Nat.reduceMul, Nat.reduceAdd, Nat.reduceEqDiff, if_true, if_false] at ha0 ha1
      have hf : fullN s.size x0.toNat x1.toNat x2.toNat = if 4 ≤ s.size then true else if 1 < s.size ∧ (x1.toNat < 128 ∨ 191 < x1.toNat) then true else if 2 < s.size ∧ (x2.toNat < 128 ∨ 191 < x2.toNat) then true else false := by
        unfold fullN; rw [if_neg h0, hX]; rfl
      rw [hf]
      clear hT hX hf
      by_cases hn : 4 ≤ s.size
      · rw [if_pos hn]
        have hnz : (4 : Int) ≤ (s.size : Int) := by omega
        go_enter Tryd.func24, Tryd.ntmps24
        go_wp2
        go_ret
        exact ⟨rfl, Below.refl _ _⟩
      · rw [if_neg hn]
        have hnz : ¬ (4 : Int) ≤ (s.size : Int) := by omega
        by_cases h1 : 1 < s.size
        · have h1z : (1 : Int) < (s.size : Int) := by omega
          have g1 : decide ((1 : Int) < (s.size : Int)) = true := decide_eq_true h1z
          have hs1 : s[1]'(by omega) = x1 := by rw [← hx1]; exact (Utf8W.get!_of_lt s 1 (by omega)).symm
          by_cases c1 : x1.toNat < 128
          · rw [if_pos ⟨h1, .inl c1⟩]
            have gc1 : decide ((x1.toNat : Int) < 128) = true := decide_eq_true (by omega)
            go_enter Tryd.func24, Tryd.ntmps24
            go_wp2
            go_quiet (skip)
            go_wp2
            go_ret
            exact ⟨rfl, ((Below.refl _ _).alloc (Nat.le_refl _) _).trans ⟨rfl, rfl, rfl, Nat.le_refl _, fun _ _ => rfl⟩⟩
          · have c1z : ¬ (x1.toNat : Int) < 128 := by omega
            have gc1 : decide ((x1.toNat : Int) < 128) = false := decide_eq_false c1z
            by_cases c2 : 191 < x1.toNat
            · rw [if_pos ⟨h1, .inr c2⟩]
              have gc2 : decide ((191 : Int) < (x1.toNat : Int)) = true := decide_eq_true (by omega)
              go_enter Tryd.func24, Tryd.ntmps24
              go_wp2
              go_quiet (skip)
              go_wp2
              go_ret
              exact ⟨rfl, ((Below.refl _ _).alloc (Nat.le_refl _) _).trans ⟨rfl, rfl, rfl, Nat.le_refl _, fun _ _ => rfl⟩⟩
            · rw [if_neg (fun q => q.2.elim c1 c2)]
              have c2z : ¬ (191 : Int) < (x1.toNat : Int) := by omega
              have gc2 : decide ((191 : Int) < (x1.toNat : Int)) = false := decide_eq_false c2z
              by_cases h2 : 2 < s.size
              · have h2z : (2 : Int) < (s.size : Int) := by omega
                have g2 : decide ((2 : Int) < (s.size : Int)) = true := decide_eq_true h2z
                have hs2 : s[2]'(by omega) = x2 := by rw [← hx2]; exact (Utf8W.get!_of_lt s 2 (by omega)).symm
                by_cases c3 : x2.toNat < 128
                · rw [if_pos ⟨h2, .inl c3⟩]
                  have c3z : (x2.toNat : Int) < 128 := by omega
                  have gc3 : decide ((x2.toNat : Int) < 128) = true := decide_eq_true c3z
                  go_enter Tryd.func24, Tryd.ntmps24
                  go_wp2
                  go_quiet (skip)
                  go_wp2
                  go_ret
                  exact ⟨rfl, ((Below.refl _ _).alloc (Nat.le_refl _) _).trans ⟨rfl, rfl, rfl, Nat.le_refl _, fun _ _ => rfl⟩⟩
                · have c3z : ¬ (x2.toNat : Int) < 128 := by omega
                  have gc3 : decide ((x2.toNat : Int) < 128) = false := decide_eq_false c3z
                  by_cases c4 : 191 < x2.toNat
                  · rw [if_pos ⟨h2, .inr c4⟩]
                    have c4z : (191 : Int) < (x2.toNat : Int) := by omega
                    have gc4 : decide ((191 : Int) < (x2.toNat : Int)) = true := decide_eq_true c4z
                    go_enter Tryd.func24, Tryd.ntmps24
                    go_wp2
                    go_quiet (skip)
                    go_wp2
                    go_ret
                    exact ⟨rfl, ((Below.refl _ _).alloc (Nat.le_refl _) _).trans ⟨rfl, rfl, rfl, Nat.le_refl _, fun _ _ => rfl⟩⟩
                  · rw [if_neg (fun q => q.2.elim c3 c4)]
                    have c4z : ¬ (191 : Int) < (x2.toNat : Int) := by omega
                    have gc4 : decide ((191 : Int) < (x2.toNat : Int)) = false := decide_eq_false c4z
                    go_enter Tryd.func24, Tryd.ntmps24
                    go_wp2
                    go_quiet (skip)
                    go_wp2
                    go_ret
                    exact ⟨rfl, ((Below.refl _ _).alloc (Nat.le_refl _) _).trans ⟨rfl, rfl, rfl, Nat.le_refl _, fun _ _ => rfl⟩⟩
              · rw [if_neg (fun q => h2 q.1)]
                have h2z : ¬ (2 : Int) < (s.size : Int) := by omega
                have g2 : decide ((2 : Int) < (s.size : Int)) = false := decide_eq_false h2z
                go_enter Tryd.func24, Tryd.ntmps24
                go_wp2
                go_quiet (skip)
                go_wp2
                go_ret
                exact ⟨rfl, ((Below.refl _ _).alloc (Nat.le_refl _) _).trans ⟨rfl, rfl, rfl, Nat.le_refl _, fun _ _ => rfl⟩⟩
        · skip
          rw [if_neg (fun q => h1 q.1), if_neg (fun q => h1 (by omega))]
          have h1z : ¬ (1 : Int) < (s.size : Int) := by omega
          have h2z : ¬ (2 : Int) < (s.size : Int) := by omega
          have g1 : decide ((1 : Int) < (s.size : Int)) = false := decide_eq_false h1z
          go_enter Tryd.func24, Tryd.ntmps24
          go_wp2
          go_quiet (skip)
          go_wp2
          go_ret
          exact ⟨rfl, ((Below.refl _ _).alloc (Nat.le_refl _) _).trans ⟨rfl, rfl, rfl, Nat.le_refl _, fun _ _ => rfl⟩⟩
    · rw [hX] at hc0
      have ha0 := (hT.2 4 (by omega)).1
      have ha1 := (hT.2 4 (by omega)).2
      simp only [accLo, accHi, Nat.reduceMul, Nat.reduceAdd, Nat.reduceEqDiff, if_true, if_false] at ha0 ha1
      have hf : fullN s.size x0.toNat x1.toNat x2.toNat = if 4 ≤ s.size then true else if 1 < s.size ∧ (x1.toNat < 128 ∨ 143 < x1.toNat) then true else if 2 < s.size ∧ (x2.toNat < 128 ∨ 191 < x2.toNat) then true else false := by
        unfold fullN; rw [if_neg h0, hX]; rfl
      rw [hf]
      clear hT hX hf
      by_cases hn : 4 ≤ s.size
      · rw [if_pos hn]
        have hnz : (4 : Int) ≤ (s.size : Int) := by omega
        go_enter Tryd.func24, Tryd.ntmps24
        go_wp2
        go_ret
        exact ⟨rfl, Below.refl _ _⟩
      · rw [if_neg hn]
        have hnz : ¬ (4 : Int) ≤ (s.size : Int) := by omega
        by_cases h1 : 1 < s.size
        · have h1z : (1 : Int) < (s.size : Int) := by omega
          have g1 : decide ((1 : Int) < (s.size : Int)) = true := decide_eq_true h1z
          have hs1 : s[1]'(by omega) = x1 := by rw [← hx1]; exact (Utf8W.get!_of_lt s 1 (by omega)).symm
          by_cases c1 : x1.toNat < 128
          · rw [if_pos ⟨h1, .inl c1⟩]
            have gc1 : decide ((x1.toNat : Int) < 128) = true := decide_eq_true (by omega)
            go_enter Tryd.func24, Tryd.ntmps24
            go_wp2
            go_quiet (skip)
            go_wp2
            go_ret
            exact ⟨rfl, ((Below.refl _ _).alloc (Nat.le_refl _) _).trans ⟨rfl, rfl, rfl, Nat.le_refl _, fun _ _ => rfl⟩⟩
          · have c1z : ¬ (x1.toNat : Int) < 128 := by omega
            have gc1 : decide ((x1.toNat : Int) < 128) = false := decide_eq_false c1z
            by_cases c2 : 143 < x1.toNat
            · rw [if_pos ⟨h1, .inr c2⟩]
              have gc2 : decide ((143 : Int) < (x1.toNat : Int)) = true := decide_eq_true (by omega)
              go_enter Tryd.func24, Tryd.ntmps24
              go_wp2
              go_quiet (skip)
              go_wp2
              go_ret
              exact ⟨rfl, ((Below.refl _ _).alloc (Nat.le_refl _) _).trans ⟨rfl, rfl, rfl, Nat.le_refl _, fun _ _ => rfl⟩⟩
            · rw [if_neg (fun q => q.2.elim c1 c2)]
              have c2z : ¬ (143 : Int) < (x1.toNat : Int) := by omega
              have gc2 : decide ((143 : Int) < (x1.toNat : Int)) = false := decide_eq_false c2z
              by_cases h2 : 2 < s.size
              · have h2z : (2 : Int) < (s.size : Int) := by omega
                have g2 : decide ((2 : Int) < (s.size : Int)) = true := decide_eq_true h2z
                have hs2 : s[2]'(by omega) = x2 := by rw [← hx2]; exact (Utf8W.get!_of_lt s 2 (by omega)).symm
                by_cases c3 : x2.toNat < 128
                · rw [if_pos ⟨h2, .inl c3⟩]
                  have c3z : (x2.toNat : Int) < 128 := by omega
                  have gc3 : decide ((x2.toNat : Int) < 128) = true := decide_eq_true c3z
                  go_enter Tryd.func24, Tryd.ntmps24
                  go_wp2
                  go_quiet (skip)
                  go_wp2
                  go_ret
                  exact ⟨rfl, ((Below.refl _ _).alloc (Nat.le_refl _) _).trans ⟨rfl, rfl, rfl, Nat.le_refl _, fun _ _ => rfl⟩⟩
                · have c3z : ¬ (x2.toNat : Int) < 128 := by omega
                  have gc3 : decide ((x2.toNat : Int) < 128) = false := decide_eq_false c3z
                  by_cases c4 : 191 < x2.toNat
                  · rw [if_pos ⟨h2, .inr c4⟩]
                    have c4z : (191 : Int) < (x2.toNat : Int) := by omega
                    have gc4 : decide ((191 : Int) < (x2.toNat : Int)) = true := decide_eq_true c4z
                    go_enter Tryd.func24, Tryd.ntmps24
                    go_wp2
                    go_quiet (skip)
                    go_wp2
                    go_ret
                    exact ⟨rfl, ((Below.refl _ _).alloc (Nat.le_refl _) _).trans ⟨rfl, rfl, rfl, Nat.le_refl _, fun _ _ => rfl⟩⟩
                  · rw [if_neg (fun q => q.2.elim c3 c4)]
                    have c4z : ¬ (191 : Int) < (x2.toNat : Int) := by omega
                    have gc4 : decide ((191 : Int) < (x2.toNat : Int)) = false := decide_eq_false c4z
                    go_enter Tryd.func24, Tryd.ntmps24
                    go_wp2
                    go_quiet (skip)
                    go_wp2
                    go_ret
                    exact ⟨rfl, ((Below.refl _ _).alloc (Nat.le_refl _) _).trans ⟨rfl, rfl, rfl, Nat.le_refl _, fun _ _ => rfl⟩⟩
              · rw [if_neg (fun q => h2 q.1)]
                have h2z : ¬ (2 : Int) < (s.size : Int) := by omega
                have g2 : decide ((2 : Int) < (s.size : Int)) = false := decide_eq_false h2z
                go_enter Tryd.func24, Tryd.ntmps24
                go_wp2
                go_quiet (skip)
                go_wp2
                go_ret
                exact ⟨rfl, ((Below.refl _ _).alloc (Nat.le_refl _) _).trans ⟨rfl, rfl, rfl, Nat.le_refl _, fun _ _ => rfl⟩⟩
        · skip
          rw [if_neg (fun q => h1 q.1), if_neg (fun q => h1 (by omega))]
          have h1z : ¬ (1 : Int) < (s.size : Int) := by omega
          have h2z : ¬ (2 : Int) < (s.size : Int) := by omega
          have g1 : decide ((1 : Int) < (s.size : Int)) = false := decide_eq_false h1z
          go_enter Tryd.func24, Tryd.ntmps24
          go_wp2
          go_quiet (skip)
          go_wp2
          go_ret
          exact ⟨rfl, ((Below.refl _ _).alloc (Nat.le_refl _) _).trans ⟨rfl, rfl, rfl, Nat.le_refl _, fun _ _ => rfl⟩⟩
#print axioms fullRune
end Go.Proofs.YtaoocfkadjcbkaaDoor.P
