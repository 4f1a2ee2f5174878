/- Machine side of the laws of this seat: each Go function as a plain Lean function, and its contract over the model; written by a program of this session (gprint.py) round the kit's print. Not trusted: Lean checks it. -/
import Derived.Test.YtlmmeihgjpgooaaP0
namespace Go.Proofs.Ytlmmeihgjpgooaa.P
open Go.RowKit Go.Proofs.YtlmmeihgjpgooaaW.PrintWords Go.Proofs.YtlmmeihgjpgooaaW.PrintLast Go.Proofs.YtlmmeihgjpgooaaW.PrintMore
attribute [local go_sem] max2_int min2_int max_two min_two max_three min_three max_four min_four   -- for this text's walks alone
set_option linter.unusedVariables false
set_option linter.unusedSimpArgs false

/-! ### slices_EqualFunc_int_int_int_int: function 69 -/
set_option maxHeartbeats 2000000 in
theorem EqualFunc69 (p : Int → Int → Bool) (g : Nat) (lb : Array Value) (A : Option Addr) (c : Nat) (l : List Int) (A' : Option Addr) (c' : Nat) (l' : List Int) (w : World)
    (hr : Kd.C (Kd.int .i64) w A l.length l) (hr' : Kd.C (Kd.int .i64) w A' l'.length l')
    (eg : ∀ args w, (callFunc g args).run Try.prog w = .ok (.enter g args) w)
    (hp : ∀ (W : World) (x : Int) (y : Int), Below w.heap.size w W → Calls Try.prog g (#[.int .i64 x, .int .i64 y] ++ lb) W fun e w' => e = .returned (.bool (p x y)) ∧ Below w.heap.size w w') :
    Calls Try.prog 69 #[.slice A l.length c, .slice A' l'.length c', .func (.func g) #[] lb] w fun e w' => e = .returned (.bool (eqF p l l')) ∧ Below w.heap.size w w' := by
  have hlen : l.length ≤ 9223372036854775807 := hr.2.1
  have hlen' : l'.length ≤ 9223372036854775807 := hr'.2.1
  have HR := Aside0.mk hr
  have HR' := Aside0.mk hr'
  clear hr hr'
  by_cases hll : l.length = l'.length
  · have hB : ((l.length : Int) != (l'.length : Int)) = false := by simp [hll]
    have HL := Aside0.mk hll
    have hle := Nat.le_of_eq hll
    clear hll
    go_enter Try.func69, Try.ntmps69
    go_wp2
    go_loopg [7, 8, 9, 17] l.length (fun gg _ _ _ s8 wr => ∃ kk : Nat, kk ≤ l.length ∧ l.length - kk ≤ gg ∧ s8 = .int .i64 kk ∧ Aside0 (Below w.heap.size w wr) ∧ Aside0 (∀ j, j < kk → p (l.getD j (0 : Int)) (l'.getD j (0 : Int)) = true))
    case atStart => exact ⟨0, Nat.zero_le _, by omega, rfl, ⟨Below.refl _ w⟩, ⟨fun j hj => absurd hj (Nat.not_lt_zero _)⟩⟩
    case round =>
      obtain ⟨kk, hkk, hg, rfl, BW, A1⟩ := hrel
      by_cases hlt : kk < l.length
      · have hltz : (kk : Int) < (l.length : Int) := by omega
        have hlt2 : kk < l'.length := by have := HL.out; omega
        have hltz2 : (kk : Int) < (l'.length : Int) := by omega
        obtain ⟨ad, rfl, q0⟩ := Kd.at_int (Kd.C_below HR.out BW.out) (kk : Int) (by omega) hltz
        obtain ⟨ad', rfl, r0⟩ := Kd.at_int (Kd.C_below HR'.out BW.out) (kk : Int) (by omega) hltz2
        simp only [Int.toNat_natCast] at q0 r0
        have hcall := hp wr (rd l kk) (rd l' kk) BW.out
        clear hp
        have B : Aside0 (rd l kk = l.getD kk (0 : Int)) := ⟨by simp [rd]⟩
        have B' : Aside0 (rd l' kk = l'.getD kk (0 : Int)) := ⟨by simp [rd]⟩
        generalize rd l kk = y at *
        generalize rd l' kk = y' at *
        cases hq : p y y' with
        | false =>
          rw [hq] at hcall
          go_wp2_with fail
          refine hcall.mono ?_
          rintro e w1 ⟨rfl, hb1⟩
          go_wp2
          go_ret
          refine ⟨?_, hb1⟩
          rw [eqF_miss p l l' (0 : Int) (0 : Int) kk hlt (by rw [← B.out, ← B'.out]; exact hq)]; rfl
        | true =>
          rw [hq] at hcall
          go_wp2_with fail
          refine hcall.mono ?_
          rintro e w1 ⟨rfl, hb1⟩
          go_wp2
          go_roundg (l.length - (kk + 1))
          case measure => omega
          case rel =>
            refine ⟨kk + 1, by omega, by omega, by go_num, ⟨hb1⟩, ⟨fun j hj => ?_⟩⟩
            by_cases e : j = kk
            · subst e
              rw [← B.out, ← B'.out]; exact hq
            · exact A1.out j (by omega)
      · have hltz : ¬ (kk : Int) < (l.length : Int) := by omega
        have : kk = l.length := by omega
        subst this
        go_wp2
        go_ret
        refine ⟨?_, BW.out⟩
        rw [eqF_hit p l l' (0 : Int) (0 : Int) HL.out A1.out]; rfl
  · have hB : ((l.length : Int) != (l'.length : Int)) = true := by simp; omega
    have HL := Aside0.mk hll
    clear hll
    go_enter Try.func69, Try.ntmps69
    go_wp2
    go_ret
    refine ⟨?_, Below.refl _ _⟩
    rw [eqF_len p l l' HL.out]; rfl

end Go.Proofs.Ytlmmeihgjpgooaa.P
