/- Machine side of the laws of this seat: each Go function as a plain Lean function, and its contract over the model; written by a program of this session (gprint.py) round the kit's print. Not trusted: Lean checks it. -/
import Derived.Test.YtdhnjkagmbfoaaaP0
namespace Go.Proofs.Ytdhnjkagmbfoaaa.P
open Go.RowKit Go.Proofs.YtdhnjkagmbfoaaaW.PrintWords Go.Proofs.YtdhnjkagmbfoaaaW.PrintLast Go.Proofs.YtdhnjkagmbfoaaaW.PrintMore
attribute [local go_sem] max2_int min2_int max_two min_two max_three min_three max_four min_four   -- for this text's walks alone
set_option linter.unusedVariables false
set_option linter.unusedSimpArgs false
/-! ### class_span: function 76 -/
set_option maxHeartbeats 1000000 in
theorem IndexFunc76 (p : S81 → Bool) (g : Nat) (lb : Array Value) (A : Option Addr) (c : Nat) (l : List S81) (w : World)
    (hr : Kd.C k81 w A l.length l)
    (eg : ∀ args w, (callFunc g args).run Try.prog w = .ok (.enter g args) w)
    (hp : ∀ (W : World) (x : S81), Below w.heap.size w W → Calls Try.prog g (#[.agg #[.int .i64 x.f0, .int .i64 x.f1, .int .i64 x.f2]] ++ lb) W fun e w' => e = .returned (.bool (p x)) ∧ Below w.heap.size w w') :
    Calls Try.prog 76 #[.slice A l.length c, .func (.func g) #[] lb] w fun e w' => e = .returned (.int .i64 (idxF p l)) ∧ Below w.heap.size w w' := by
  have hlen : l.length ≤ 9223372036854775807 := hr.2.1
  have HR := Aside0.mk hr
  clear hr
  go_enter Try.func76, Try.ntmps76
  go_wp2
  go_loopg [5, 8] l.length (fun gg _ s8 wr => ∃ kk : Nat, kk ≤ l.length ∧ l.length - kk ≤ gg ∧ s8 = .int .i64 kk ∧ Aside0 (Below w.heap.size w wr) ∧ Aside0 (∀ j, j < kk → p (l.getD j (z81 : S81)) = false))
  case atStart => exact ⟨0, Nat.zero_le _, by omega, rfl, ⟨Below.refl _ w⟩, ⟨fun j hj => absurd hj (Nat.not_lt_zero _)⟩⟩
  case round =>
    obtain ⟨kk, hkk, hg, rfl, BW, A1⟩ := hrel
    by_cases hlt : kk < l.length
    · have hltz : (kk : Int) < (l.length : Int) := by omega
      obtain ⟨ad, rfl, q0, q1, q2⟩ := at_T81 (Kd.C_below HR.out BW.out) (kk : Int) (by omega) hltz
      simp only [Int.toNat_natCast] at q0 q1 q2
      have hcall := hp wr (rd_T81 l kk) BW.out
      clear hp
      have B : Aside0 (rd_T81 l kk = l.getD kk (z81 : S81)) := ⟨by simp [rd_T81]⟩
      generalize rd_T81 l kk = y at *
      cases hq : p y with
      | true =>
        rw [hq] at hcall
        go_wp2_with fail
        refine hcall.mono ?_
        rintro e w1 ⟨rfl, hb1⟩
        go_wp2
        go_ret
        refine ⟨?_, hb1⟩
        rw [idxF_hit p l (z81 : S81) kk hlt (by rw [← B.out]; exact hq) A1.out]; rfl
      | false =>
        rw [hq] at hcall
        go_wp2_with fail
        refine hcall.mono ?_
        rintro e w1 ⟨rfl, hb1⟩
        go_wp2
        go_roundg (l.length - (kk + 1))
        case measure => omega
        case rel =>
          refine ⟨kk + 1, by omega, by omega, by go_num, ⟨hb1⟩, ⟨fun j hj => ?_⟩⟩
          by_cases e : j = kk
          · subst e
            rw [← B.out]; exact hq
          · exact A1.out j (by omega)
    · have hltz : ¬ (kk : Int) < (l.length : Int) := by omega
      have : kk = l.length := by omega
      subst this
      go_wp2
      go_ret
      refine ⟨?_, BW.out⟩
      rw [idxF_miss p l (z81 : S81) A1.out]; rfl
/-! ### class_look: function 79 -/
set_option maxHeartbeats 1000000 in
theorem IndexFunc79 (p : S87 → Bool) (g : Nat) (lb : Array Value) (A : Option Addr) (c : Nat) (l : List S87) (w : World)
    (hr : Kd.C k87 w A l.length l)
    (eg : ∀ args w, (callFunc g args).run Try.prog w = .ok (.enter g args) w)
    (hp : ∀ (W : World) (x : S87), Below w.heap.size w W → Calls Try.prog g (#[.agg #[.int .i64 x.f0, .int .i64 x.f1]] ++ lb) W fun e w' => e = .returned (.bool (p x)) ∧ Below w.heap.size w w') :
    Calls Try.prog 79 #[.slice A l.length c, .func (.func g) #[] lb] w fun e w' => e = .returned (.int .i64 (idxF p l)) ∧ Below w.heap.size w w' := by
  have hlen : l.length ≤ 9223372036854775807 := hr.2.1
  have HR := Aside0.mk hr
  clear hr
  go_enter Try.func79, Try.ntmps79
  go_wp2
  go_loopg [5, 8] l.length (fun gg _ s8 wr => ∃ kk : Nat, kk ≤ l.length ∧ l.length - kk ≤ gg ∧ s8 = .int .i64 kk ∧ Aside0 (Below w.heap.size w wr) ∧ Aside0 (∀ j, j < kk → p (l.getD j (z87 : S87)) = false))
  case atStart => exact ⟨0, Nat.zero_le _, by omega, rfl, ⟨Below.refl _ w⟩, ⟨fun j hj => absurd hj (Nat.not_lt_zero _)⟩⟩
  case round =>
    obtain ⟨kk, hkk, hg, rfl, BW, A1⟩ := hrel
    by_cases hlt : kk < l.length
    · have hltz : (kk : Int) < (l.length : Int) := by omega
      obtain ⟨ad, rfl, q0, q1⟩ := at_T87 (Kd.C_below HR.out BW.out) (kk : Int) (by omega) hltz
      simp only [Int.toNat_natCast] at q0 q1
      have hcall := hp wr (rd_T87 l kk) BW.out
      clear hp
      have B : Aside0 (rd_T87 l kk = l.getD kk (z87 : S87)) := ⟨by simp [rd_T87]⟩
      generalize rd_T87 l kk = y at *
      cases hq : p y with
      | true =>
        rw [hq] at hcall
        go_wp2_with fail
        refine hcall.mono ?_
        rintro e w1 ⟨rfl, hb1⟩
        go_wp2
        go_ret
        refine ⟨?_, hb1⟩
        rw [idxF_hit p l (z87 : S87) kk hlt (by rw [← B.out]; exact hq) A1.out]; rfl
      | false =>
        rw [hq] at hcall
        go_wp2_with fail
        refine hcall.mono ?_
        rintro e w1 ⟨rfl, hb1⟩
        go_wp2
        go_roundg (l.length - (kk + 1))
        case measure => omega
        case rel =>
          refine ⟨kk + 1, by omega, by omega, by go_num, ⟨hb1⟩, ⟨fun j hj => ?_⟩⟩
          by_cases e : j = kk
          · subst e
            rw [← B.out]; exact hq
          · exact A1.out j (by omega)
    · have hltz : ¬ (kk : Int) < (l.length : Int) := by omega
      have : kk = l.length := by omega
      subst this
      go_wp2
      go_ret
      refine ⟨?_, BW.out⟩
      rw [idxF_miss p l (z87 : S87) A1.out]; rfl
end Go.Proofs.Ytdhnjkagmbfoaaa.P
