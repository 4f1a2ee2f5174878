/- Machine side of the laws of this seat: each Go function as a plain Lean function, and its contract over the model; written by a program of this session (gprint.py) round the kit's print. Not trusted: Lean checks it. -/
import Derived.Test.YteghmemcikiblaaP0
namespace Go.Proofs.Yteghmemcikiblaa.P
open Go.RowKit Go.Proofs.YteghmemcikiblaaW.PrintWords Go.Proofs.YteghmemcikiblaaW.PrintLast Go.Proofs.YteghmemcikiblaaW.PrintMore
attribute [local go_sem] max2_int min2_int max_two min_two max_three min_three max_four min_four   -- for this text's walks alone
set_option linter.unusedVariables false
set_option linter.unusedSimpArgs false
/-! ### num_laid: function 39 -/
/-- The digits. -/
def digitsB : ByteArray := ⟨#[48, 49, 50, 51, 52, 53, 54, 55, 56, 57, 65, 66, 67, 68, 69, 70]⟩
/-- Digits of a number to a base, at least so many, ahead of a text; n: how many rounds are left. -/
def laidL (b : Nat) (least : Int) : Nat → Nat → ByteArray → ByteArray
  | 0, _, s => s
  | n + 1, u, s => if 0 < u ∨ (s.size : Int) < least then laidL b least n (u / b) (digitsB.extract (u % b) (u % b + 1) ++ s) else s
theorem laidL_stop (b : Nat) (least : Int) (n : Nat) (s : ByteArray) (h : ¬ (s.size : Int) < least) : laidL b least n 0 s = s := by
  cases n with
  | zero => rfl
  | succ n => simp only [laidL]; rw [if_neg (by omega)]
theorem digit_size (d : Nat) (h : d < 16) : (digitsB.extract d (d + 1)).size = 1 := by
  have : ∀ d, d < 16 → (digitsB.extract d (d + 1)).size = 1 := by decide
  exact this d h
set_option maxHeartbeats 4000000 in
set_option maxRecDepth 100000 in
theorem num_laid1_calls (b : Nat) (hb2 : 2 ≤ b) (hb16 : b ≤ 16) (least : Int) (hl0 : 0 ≤ least) (hl : least ≤ 16) (b0 b1 : Nat) (u : Nat) (hu : u < 18446744073709551616) (w : World) (q0 : w.cell? ⟨b0, 0, none⟩ = some (.int .i64 least)) (q1 : w.cell? ⟨b1, 0, none⟩ = some (.int .u64 (b : Int))) :
    Calls Try.prog 48 (#[.int .u64 (u : Int)] ++ #[.pointer (some ⟨b0, 0, none⟩), .pointer (some ⟨b1, 0, none⟩)]) w fun e w' => e = .returned (.string (laidL b least 81 u ByteArray.empty)) ∧ Below w.heap.size w w' := by
  have p0 := World.block_lt_of_cell? w _ q0
  have p1 := World.block_lt_of_cell? w _ q1
  simp only at p0 p1
  have hres : ∃ res, laidL b least 81 u ByteArray.empty = res := ⟨_, rfl⟩
  obtain ⟨res, hres⟩ := hres
  rw [hres]
  have HRES := Aside0.mk hres
  clear hres
  have hbz : ((b : Int) == 0) = false := by simp; omega
  have HQ0 := Aside0.mk q0
  have HQ1 := Aside0.mk q1
  clear q0 q1
  go_enter Try.func48, Try.ntmps48
  go_wp2
  go_loopg [0, 5] 200 (fun gg s0 s5 wr => ∃ (m v : Nat) (s : ByteArray), s0 = .int .u64 (v : Int) ∧ s5 = .string s ∧ v < 18446744073709551616 ∧ s.size ≤ 100 ∧ Aside0 (laidL b least m v s = res) ∧ Aside0 (v < 2 ^ (64 - s.size) ∧ s.size ≤ 64 ∨ v = 0 ∧ s.size ≤ 64) ∧ Aside0 (81 ≤ m + s.size) ∧ s.size + gg = 200 ∧ Aside0 (Below w.heap.size w wr))
  case atStart => exact ⟨81, u, ByteArray.empty, rfl, rfl, hu, by decide, HRES, ⟨.inl ⟨by simpa using hu, by decide⟩⟩, ⟨by decide⟩, rfl, ⟨Below.refl _ _⟩⟩
  case round =>
    obtain ⟨m, v, s, rfl, rfl, hv, hsz, HR, HI, HM, hg, BW⟩ := hrel
    have HC0 := pw_cell_below BW.out HQ0.out
    have HC1 := pw_cell_below BW.out HQ1.out
    have hmod : ((v : Int)).tmod (b : Int) = ((v % b : Nat) : Int) := by rw [Int.tmod_eq_emod_of_nonneg (by omega)]; exact (Int.natCast_emod v b).symm
    have hdiv : ((v : Int)).tdiv (b : Int) = ((v / b : Nat) : Int) := by rw [Int.tdiv_eq_ediv_of_nonneg (by omega)]; exact (Int.natCast_ediv v b).symm
    have hlt : v % b < 16 := Nat.lt_of_lt_of_le (Nat.mod_lt _ (by omega)) hb16
    have hdl : v / b ≤ v := Nat.div_le_self _ _
    have hdn : (0 : Int) ≤ (v : Int) / (b : Int) := Int.ediv_nonneg (by omega) (by omega)
    by_cases hgo : v = 0
    · subst hgo
      by_cases hlo : (s.size : Int) < least
      · obtain ⟨m, rfl⟩ : ∃ q, m = q + 1 := ⟨m - 1, by have := HM.out; omega⟩
        have hR := HR.out
        simp only [laidL, if_pos (Or.inr hlo), Nat.zero_div, Nat.zero_mod] at hR
        have hR2 := Aside0.mk hR
        have hM2 : Aside0 (81 ≤ m + (s.size + 1)) := ⟨by have := HM.out; omega⟩
        have hds := digit_size 0 (by omega)
        have hsz2 : (digitsB.extract 0 (0 + 1) ++ s).size = s.size + 1 := by rw [ByteArray.size_append, hds]; omega
        clear hR HR HI HM hmod hdiv hdn hdl hlt
        go_wp2_with fail
        go_quiet (fail)
        go_wp2
        go_roundg (199 - s.size)
        case measure => omega
        case rel =>
          exact ⟨m, 0, digitsB.extract 0 (0 + 1) ++ s, rfl, rfl, by omega, by omega, hR2, ⟨by rw [hsz2]; exact .inr ⟨rfl, by omega⟩⟩, by rw [hsz2]; exact hM2, by omega, ⟨below_drewN BW.out nq⟩⟩
      · have hR := HR.out
        rw [laidL_stop b least m s hlo] at hR
        have hR2 := Aside0.mk hR
        clear hR HR HI HM hmod hdiv hdn hdl hlt
        have hd : decide ((s.size : Int) < least) = false := decide_eq_false hlo
        clear hlo
        go_wp2
        go_ret
        exact ⟨by first | rfl | (rw [hR2.out]; rfl), BW.out⟩
    · have hg0 : (0 : Int) < (v : Int) := by omega
      have hs64 : s.size < 64 := by
        rcases HI.out with ⟨h1, h2⟩ | ⟨h1, h2⟩
        · rcases Nat.lt_or_ge s.size 64 with h | h
          · exact h
          · rw [show 64 - s.size = 0 by omega] at h1; simp at h1; omega
        · exact absurd h1 hgo
      have hI2 : Aside0 (v / b < 2 ^ (64 - (s.size + 1)) ∧ s.size + 1 ≤ 64 ∨ v / b = 0 ∧ s.size + 1 ≤ 64) := by
        refine ⟨.inl ⟨?_, by omega⟩⟩
        rcases HI.out with ⟨h1, h2⟩ | ⟨h1, h2⟩
        · rw [show 64 - s.size = (64 - (s.size + 1)) + 1 by omega, Nat.pow_succ] at h1
          exact Nat.lt_of_le_of_lt (Nat.div_le_div_left hb2 (by omega)) (by omega)
        · exact absurd h1 hgo
      obtain ⟨m, rfl⟩ : ∃ q, m = q + 1 := ⟨m - 1, by have := HM.out; omega⟩
      have hR := HR.out
      simp only [laidL, if_pos (Or.inl (show 0 < v by omega))] at hR
      have hR2 := Aside0.mk hR
      have hM2 : Aside0 (81 ≤ m + (s.size + 1)) := ⟨by have := HM.out; omega⟩
      have hds := digit_size (v % b) hlt
      have hsz2 : (digitsB.extract (v % b) (v % b + 1) ++ s).size = s.size + 1 := by rw [ByteArray.size_append, hds]; omega
      clear hR HR HI HM
      go_wp2_with fail
      go_quiet (fail)
      go_wp2
      go_roundg (199 - s.size)
      case measure => omega
      case rel =>
        exact ⟨m, v / b, digitsB.extract (v % b) (v % b + 1) ++ s, by rw [Int.natCast_ediv], rfl, by omega, by omega, hR2, by rw [hsz2]; exact hI2, by rw [hsz2]; exact hM2, by omega, ⟨below_drewN BW.out nq⟩⟩
theorem num_laid_calls (b least : Int) (w : World) :
    Calls Try.prog 39 #[.int .u64 b, .int .i64 least] w fun e w' => ∃ b0 b1 : Nat, e = .returned (.func (.func 48) #[] #[.pointer (some ⟨b0, 0, none⟩), .pointer (some ⟨b1, 0, none⟩)]) ∧
      w'.cell? ⟨b0, 0, none⟩ = some (.int .i64 least) ∧ w'.cell? ⟨b1, 0, none⟩ = some (.int .u64 b) ∧ Below w.heap.size w w' := by
  go_enter Try.func39, Try.ntmps39
  go_wp2
  go_ret
  exact ⟨_, _, rfl, by simp, by simp, below_alloc (below_alloc (Below.refl _ _) _) _⟩
/-! ### num_Hex: function 28 -/
def num_Hex.v (n least : Int) : ByteArray := laidL 16 (min (max least 1) 16) 81 n.toNat ByteArray.empty
def num_Hex.f (n least : Int) : Option ByteArray := if n < 0 then some ⟨#[]⟩ else if n ≤ 9223372036854775807 then some (num_Hex.v n least) else none
set_option maxHeartbeats 2000000 in
set_option maxRecDepth 100000 in
theorem num_Hex.calls (a0 a1 : Int) (r : ByteArray) (w : World) (h : num_Hex.f a0 a1 = some r) :
    Calls Try.prog 28 #[.int .i64 a0, .int .i64 a1] w fun e w' => e = .returned (.string r) ∧ Below w.heap.size w w' := by
  unfold num_Hex.f at h
  by_cases hn : a0 < 0
  · rw [if_pos hn] at h
    have H := Aside0.mk (Option.some.inj h)
    clear h
    go_enter Try.func28, Try.ntmps28
    go_wp2
    go_ret
    exact ⟨by rw [← H.out]; rfl, Below.refl _ _⟩
  · rw [if_neg hn] at h
    by_cases hm : a0 ≤ 9223372036854775807
    · rw [if_pos hm] at h
      obtain ⟨n, rfl⟩ : ∃ n : Nat, a0 = (n : Int) := ⟨a0.toNat, by omega⟩
      obtain ⟨L, hL, hL1, hL2⟩ : ∃ L : Int, min (max a1 1) 16 = L ∧ 1 ≤ L ∧ L ≤ 16 := ⟨_, rfl, by omega, by omega⟩
      unfold num_Hex.v at h
      rw [hL] at h
      have hcase : (a1 < 1 ∧ L = 1) ∨ (1 ≤ a1 ∧ ¬ a1 < 1 ∧ a1 ≤ 16 ∧ ¬ 16 < a1 ∧ L = a1) ∨ (1 ≤ a1 ∧ ¬ a1 < 1 ∧ 16 < a1 ∧ L = 16) := by omega
      clear hL
      have H := Aside0.mk (Option.some.inj h)
      clear h
      have c1 := fun (L : Int) (h1 : 1 ≤ L) (h2 : L ≤ 16) (b0 b1 : Nat) (W : World) (g0 : W.cell? ⟨b0, 0, none⟩ = some (.int .i64 L)) (g1 : W.cell? ⟨b1, 0, none⟩ = some (.int .u64 ((16 : Nat) : Int))) => num_laid1_calls 16 (by omega) (by omega) L (by omega) h2 b0 b1 n (by omega) W g0 g1
      go_enter Try.func28, Try.ntmps28
      rcases hcase with ⟨q1, rfl⟩ | ⟨q1, q2, q3, q4, rfl⟩ | ⟨q1, q2, q3, rfl⟩
      all_goals
        go_wp2_with fail
        refine (num_laid_calls 16 _ w).mono ?_
        rintro e w1 ⟨b0, b1, rfl, g0, g1, hb⟩
        have B1 := Aside0.mk hb
        clear hb
        go_wp2_with fail
        refine Calls.mono (c1 _ hL1 hL2 b0 b1 w1 g0 g1) ?_
        rintro e w2 ⟨rfl, hb2⟩
        have B2 := Aside0.mk (below_then B1.out B1.out.size hb2)
        clear hb2 g0 g1 c1
        go_wp2
        go_ret
        exact ⟨by rw [← H.out]; rfl, B2.out⟩
    · rw [if_neg hm] at h; cases h
end Go.Proofs.Yteghmemcikiblaa.P
