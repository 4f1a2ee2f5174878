/- Machine side of the laws of this seat: each Go function as a plain Lean function, and its contract over the model; written by a program of this session (gprint.py) round the kit's print. Not trusted: Lean checks it. -/
import Derived.Test.YtdhnjkagmbfoaaaP0
import Derived.Test.YtdhnjkagmbfoaaaPdactylref03
namespace Go.Proofs.Ytdhnjkagmbfoaaa.P
open Go.RowKit Go.Proofs.YtdhnjkagmbfoaaaW.PrintWords Go.Proofs.YtdhnjkagmbfoaaaW.PrintLast Go.Proofs.YtdhnjkagmbfoaaaW.PrintMore
attribute [local go_sem] max2_int min2_int max_two min_two max_three min_three max_four min_four   -- for this text's walks alone
set_option linter.unusedVariables false
set_option linter.unusedSimpArgs false
/-! ### dactylref05_Kind: function 53 -/
def dactylref05_Kind.j0 : Nat → Int → Int → Bool → Option (Int)
  | 0, _, _, _ => none
  | k + 1, x0, x3, x23 => if x23 = true then (some 0) else (if x0 = 95 then (some 1) else (if x0 ≥ 48 then (if x0 ≤ 57 then (some 1) else (if x0 ≥ 65 then (if x0 ≤ 90 then (some 1) else (if x0 ≥ 97 then (if x0 ≤ 122 then (some 1) else (if x0 > 127 then (if x3 = 1 then (some 1) else (if x3 = 2 then (some 1) else (if x3 = 3 then (some 1) else (some 2)))) else (some 2))) else (if x0 > 127 then (if x3 = 1 then (some 1) else (if x3 = 2 then (some 1) else (if x3 = 3 then (some 1) else (some 2)))) else (some 2)))) else (if x0 ≥ 97 then (if x0 ≤ 122 then (some 1) else (if x0 > 127 then (if x3 = 1 then (some 1) else (if x3 = 2 then (some 1) else (if x3 = 3 then (some 1) else (some 2)))) else (some 2))) else (if x0 > 127 then (if x3 = 1 then (some 1) else (if x3 = 2 then (some 1) else (if x3 = 3 then (some 1) else (some 2)))) else (some 2))))) else (if x0 ≥ 65 then (if x0 ≤ 90 then (some 1) else (if x0 ≥ 97 then (if x0 ≤ 122 then (some 1) else (if x0 > 127 then (if x3 = 1 then (some 1) else (if x3 = 2 then (some 1) else (if x3 = 3 then (some 1) else (some 2)))) else (some 2))) else (if x0 > 127 then (if x3 = 1 then (some 1) else (if x3 = 2 then (some 1) else (if x3 = 3 then (some 1) else (some 2)))) else (some 2)))) else (if x0 ≥ 97 then (if x0 ≤ 122 then (some 1) else (if x0 > 127 then (if x3 = 1 then (some 1) else (if x3 = 2 then (some 1) else (if x3 = 3 then (some 1) else (some 2)))) else (some 2))) else (if x0 > 127 then (if x3 = 1 then (some 1) else (if x3 = 2 then (some 1) else (if x3 = 3 then (some 1) else (some 2)))) else (some 2))))))
def dactylref05_Kind.f (k : Nat) (a0 : Int) : Option (Int) := (dactylref03_Of.f k a0).bind fun t101 => (if a0 = 9 then (dactylref05_Kind.j0 k a0 t101 true) else (if a0 = 10 then (dactylref05_Kind.j0 k a0 t101 true) else (if a0 = 13 then (dactylref05_Kind.j0 k a0 t101 true) else (if a0 = 32 then (dactylref05_Kind.j0 k a0 t101 true) else (dactylref05_Kind.j0 k a0 t101 (t101 == 10))))))
theorem dactylref05_Kind.mono_l : ∀ k, (∀ y0 y1 y2, LeO (dactylref05_Kind.j0 k y0 y1 y2) (dactylref05_Kind.j0 (k + 1) y0 y1 y2))
  | 0 => fun _ _ _ r h => by simp [dactylref05_Kind.j0] at h
  | k + 1 => by
    have ih0 := dactylref05_Kind.mono_l k
    · intro y0 y1 y2
      unfold dactylref05_Kind.j0
      repeat' first
      | (with_reducible exact ih0 _ _ _)
      | (with_reducible exact dactylref03_Of.mono _ _)
      | (with_reducible exact LeO.refl _)
      | (with_reducible exact LeO.none _)
      | (with_reducible refine LeO.ite ?_ ?_)
      | (with_reducible refine LeO.bind ?_ (fun _ => ?_))
      | exact ih0 _ _ _
      | exact dactylref03_Of.mono _ _
      | exact LeO.none _
      | refine LeO.ite ?_ ?_
      | refine LeO.bind ?_ (fun _ => ?_)
theorem dactylref05_Kind.mono : ∀ a0 k, LeO (dactylref05_Kind.f k a0) (dactylref05_Kind.f (k + 1) a0) := by
  intro a0 k
  have ih0 := dactylref05_Kind.mono_l k
  unfold dactylref05_Kind.f
  repeat' first
      | (with_reducible exact ih0 _ _ _)
      | (with_reducible exact dactylref03_Of.mono _ _)
      | (with_reducible exact LeO.refl _)
      | (with_reducible exact LeO.none _)
      | (with_reducible refine LeO.ite ?_ ?_)
      | (with_reducible refine LeO.bind ?_ (fun _ => ?_))
      | exact ih0 _ _ _
      | exact dactylref03_Of.mono _ _
      | exact LeO.none _
      | refine LeO.ite ?_ ?_
      | refine LeO.bind ?_ (fun _ => ?_)
set_option maxHeartbeats 8000000 in
set_option maxRecDepth 100000 in
theorem dactylref05_Kind.calls (k : Nat) (a0 : Int) (r : Int) (w : World) (h : dactylref05_Kind.f k a0 = some r) :
    Calls Try.prog 53 #[.int .i64 a0] w fun e w' => e = .returned (.int .i64 r) ∧ Below w.heap.size w w' := by
  have HB := Aside0.mk (Below.refl w.heap.size w)
  have H : ((dactylref03_Of.f k a0).bind fun t101 => (if a0 = 9 then (dactylref05_Kind.j0 k a0 t101 true) else (if a0 = 10 then (dactylref05_Kind.j0 k a0 t101 true) else (if a0 = 13 then (dactylref05_Kind.j0 k a0 t101 true) else (if a0 = 32 then (dactylref05_Kind.j0 k a0 t101 true) else (dactylref05_Kind.j0 k a0 t101 (t101 == 10))))))) = some r := h
  clear h
  replace H := Option.bind_eq_some_iff.mp H
  obtain ⟨t101, A20, H⟩ := H
  replace H : (if a0 = 9 then (dactylref05_Kind.j0 k a0 t101 true) else (if a0 = 10 then (dactylref05_Kind.j0 k a0 t101 true) else (if a0 = 13 then (dactylref05_Kind.j0 k a0 t101 true) else (if a0 = 32 then (dactylref05_Kind.j0 k a0 t101 true) else (dactylref05_Kind.j0 k a0 t101 (t101 == 10)))))) = some r := H
  have A2 := Aside0.mk A20
  clear A20
  have HC3 := Aside0.mk H
  clear H
  go_enter Try.func53, Try.ntmps53
  go_upto_region 2 with (first | ((with_reducible refine gate_callee (f := 72) rfl ?_); refine goesL_ (some 5) rfl rfl Try.func72 (by kernel_rfl) rfl #[.int .i64 a0] rfl (by (try simp only [List.map_toArray, List.map_cons, List.map_nil]); first | done | rfl | (simp only [List.length_drop, List.length_take]; rfl)) ?_; (with_reducible refine (dactylref03_Of.calls k a0 t101 _ A2.out).mono ?_); rintro e w4 ⟨rfl, hb⟩; refine ⟨_, rfl, ?_⟩; have n0_ := Aside0.mk (below_step (by repeat (first | (with_reducible first | exact HB.out | apply below_alloc | apply pw_below_drewN | apply below_drew1) | exact HB.out)) hb); clear HB; have HB := n0_; clear n0_; (try clear hb); (try clear hb2); (try clear hk); (try clear hi)))
  (try simp only [Act.put, List.setIfInBounds_toArray, List.set_cons_zero, List.set_cons_succ])
  go_cut [23] (fun v23 wc => ∃ (kq : Nat) (x23_2 : Bool), v23 = .bool x23_2 ∧ Aside0 (dactylref05_Kind.j0 kq a0 t101 x23_2 = some r) ∧ Aside0 (kq ≤ k) ∧ Aside0 (Below w.heap.size w wc))
  case first =>
    have H := HC3.out
    clear HC3
    by_cases c5 : a0 = 9
    · rw [if_pos c5] at H
      have c5b0 : (a0 == 9) = true := beq_iff_eq.mpr c5
      have c5b1 : (a0 != 9) = false := bne_eq_false_iff_eq.mpr c5
      clear c5
      (first | rw [c5b0] | (simp only [i64_w, i32_w]; rw [c5b0]) | skip)
      have H' := Aside0.mk H
      clear H
      go_wp2
      go_meet
      case rel => exact ⟨_, (true), (by first | rfl | (simp; done) | (simp [*]; done)), H', ⟨by first | omega | exact Nat.le_refl _⟩, ⟨by repeat (first | (with_reducible first | exact HB.out | apply below_alloc | apply pw_below_drewN | apply below_drew1) | exact HB.out)⟩⟩
    · rw [if_neg c5] at H
      have c5b0 : (a0 == 9) = false := beq_eq_false_iff_ne.mpr c5
      have c5b1 : (a0 != 9) = true := bne_iff_ne.mpr c5
      (first | rw [c5b0] | (simp only [i64_w, i32_w]; rw [c5b0]) | skip)
      by_cases c6 : a0 = 10
      · rw [if_pos c6] at H
        have c6b0 : (a0 == 10) = true := beq_iff_eq.mpr c6
        have c6b1 : (a0 != 10) = false := bne_eq_false_iff_eq.mpr c6
        clear c6
        have H' := Aside0.mk H
        clear H
        go_wp2
        go_meet
        case rel => exact ⟨_, (true), (by first | rfl | (simp; done) | (simp [*]; done)), H', ⟨by first | omega | exact Nat.le_refl _⟩, ⟨by repeat (first | (with_reducible first | exact HB.out | apply below_alloc | apply pw_below_drewN | apply below_drew1) | exact HB.out)⟩⟩
      · rw [if_neg c6] at H
        have c6b0 : (a0 == 10) = false := beq_eq_false_iff_ne.mpr c6
        have c6b1 : (a0 != 10) = true := bne_iff_ne.mpr c6
        by_cases c7 : a0 = 13
        · rw [if_pos c7] at H
          have c7b0 : (a0 == 13) = true := beq_iff_eq.mpr c7
          have c7b1 : (a0 != 13) = false := bne_eq_false_iff_eq.mpr c7
          clear c7
          have H' := Aside0.mk H
          clear H
          go_wp2
          go_meet
          case rel => exact ⟨_, (true), (by first | rfl | (simp; done) | (simp [*]; done)), H', ⟨by first | omega | exact Nat.le_refl _⟩, ⟨by repeat (first | (with_reducible first | exact HB.out | apply below_alloc | apply pw_below_drewN | apply below_drew1) | exact HB.out)⟩⟩
        · rw [if_neg c7] at H
          have c7b0 : (a0 == 13) = false := beq_eq_false_iff_ne.mpr c7
          have c7b1 : (a0 != 13) = true := bne_iff_ne.mpr c7
          by_cases c8 : a0 = 32
          · rw [if_pos c8] at H
            have c8b0 : (a0 == 32) = true := beq_iff_eq.mpr c8
            have c8b1 : (a0 != 32) = false := bne_eq_false_iff_eq.mpr c8
            clear c8
            have H' := Aside0.mk H
            clear H
            go_wp2
            go_meet
            case rel => exact ⟨_, (true), (by first | rfl | (simp; done) | (simp [*]; done)), H', ⟨by first | omega | exact Nat.le_refl _⟩, ⟨by repeat (first | (with_reducible first | exact HB.out | apply below_alloc | apply pw_below_drewN | apply below_drew1) | exact HB.out)⟩⟩
          · rw [if_neg c8] at H
            have c8b0 : (a0 == 32) = false := beq_eq_false_iff_ne.mpr c8
            have c8b1 : (a0 != 32) = true := bne_iff_ne.mpr c8
            have H' := Aside0.mk H
            clear H
            go_wp2
            go_meet
            case rel => exact ⟨_, ((t101 == 10)), (by first | rfl | (simp; done) | (simp [*]; done)), H', ⟨by first | omega | exact Nat.le_refl _⟩, ⟨by repeat (first | (with_reducible first | exact HB.out | apply below_alloc | apply pw_below_drewN | apply below_drew1) | exact HB.out)⟩⟩
  case rest =>
    clear HC3
    try clear p2
    try clear c5
    try clear c5b0
    try clear c5b1
    try clear c6
    try clear c6b0
    try clear c6b1
    try clear c7
    try clear c7b0
    try clear c7b1
    try clear c8
    try clear c8b0
    try clear c8b1
    obtain ⟨kq, x23_2, rfl, HA, HJ2, HB⟩ := hcut
    cases kq with
    | zero => exact absurd HA.out (by simp [dactylref05_Kind.j0])
    | succ kj2 =>
      have H := HA.out
      clear HA
      simp only [dactylref05_Kind.j0] at H
      by_cases c9 : x23_2 = true
      · subst c9
        have H1 : (some 0) = some r := by rw [if_pos rfl] at H; exact H
        clear H
        have H := H1
        clear H1
        obtain rfl := Option.some.inj H
        go_wp2
        go_ret
        exact ⟨by first | rfl | (simp [errW_none, errW_some] <;> rfl) | (simp [*, errW_none, errW_some] <;> rfl), by repeat (first | (with_reducible first | exact HB.out | apply below_alloc | apply pw_below_drewN | apply below_drew1) | exact HB.out)⟩
      · replace c9 := Bool.eq_false_iff.mpr c9
        subst c9
        have H1 : (if a0 = 95 then (some 1) else (if a0 ≥ 48 then (if a0 ≤ 57 then (some 1) else (if a0 ≥ 65 then (if a0 ≤ 90 then (some 1) else (if a0 ≥ 97 then (if a0 ≤ 122 then (some 1) else (if a0 > 127 then (if t101 = 1 then (some 1) else (if t101 = 2 then (some 1) else (if t101 = 3 then (some 1) else (some 2)))) else (some 2))) else (if a0 > 127 then (if t101 = 1 then (some 1) else (if t101 = 2 then (some 1) else (if t101 = 3 then (some 1) else (some 2)))) else (some 2)))) else (if a0 ≥ 97 then (if a0 ≤ 122 then (some 1) else (if a0 > 127 then (if t101 = 1 then (some 1) else (if t101 = 2 then (some 1) else (if t101 = 3 then (some 1) else (some 2)))) else (some 2))) else (if a0 > 127 then (if t101 = 1 then (some 1) else (if t101 = 2 then (some 1) else (if t101 = 3 then (some 1) else (some 2)))) else (some 2))))) else (if a0 ≥ 65 then (if a0 ≤ 90 then (some 1) else (if a0 ≥ 97 then (if a0 ≤ 122 then (some 1) else (if a0 > 127 then (if t101 = 1 then (some 1) else (if t101 = 2 then (some 1) else (if t101 = 3 then (some 1) else (some 2)))) else (some 2))) else (if a0 > 127 then (if t101 = 1 then (some 1) else (if t101 = 2 then (some 1) else (if t101 = 3 then (some 1) else (some 2)))) else (some 2)))) else (if a0 ≥ 97 then (if a0 ≤ 122 then (some 1) else (if a0 > 127 then (if t101 = 1 then (some 1) else (if t101 = 2 then (some 1) else (if t101 = 3 then (some 1) else (some 2)))) else (some 2))) else (if a0 > 127 then (if t101 = 1 then (some 1) else (if t101 = 2 then (some 1) else (if t101 = 3 then (some 1) else (some 2)))) else (some 2)))))) = some r := by rw [if_neg (show ¬ (false = true) by decide)] at H; exact H
        clear H
        have H := H1
        clear H1
        by_cases c10 : a0 = 95
        · rw [if_pos c10] at H
          have c10b0 : (a0 == 95) = true := beq_iff_eq.mpr c10
          have c10b1 : (a0 != 95) = false := bne_eq_false_iff_eq.mpr c10
          clear c10
          obtain rfl := Option.some.inj H
          go_wp2
          go_ret
          exact ⟨by first | rfl | (simp [errW_none, errW_some] <;> rfl) | (simp [*, errW_none, errW_some] <;> rfl), by repeat (first | (with_reducible first | exact HB.out | apply below_alloc | apply pw_below_drewN | apply below_drew1) | exact HB.out)⟩
        · rw [if_neg c10] at H
          have c10b0 : (a0 == 95) = false := beq_eq_false_iff_ne.mpr c10
          have c10b1 : (a0 != 95) = true := bne_iff_ne.mpr c10
          by_cases c11 : a0 ≥ 48
          · rw [if_pos c11] at H
            have c11b0 : decide (48 ≤ a0) = true := decide_eq_true c11
            clear c11
            by_cases c12 : a0 ≤ 57
            · rw [if_pos c12] at H
              have c12b0 : decide (a0 ≤ 57) = true := decide_eq_true c12
              clear c12
              obtain rfl := Option.some.inj H
              go_wp2
              go_ret
              exact ⟨by first | rfl | (simp [errW_none, errW_some] <;> rfl) | (simp [*, errW_none, errW_some] <;> rfl), by repeat (first | (with_reducible first | exact HB.out | apply below_alloc | apply pw_below_drewN | apply below_drew1) | exact HB.out)⟩
            · rw [if_neg c12] at H
              have c12b0 : decide (a0 ≤ 57) = false := decide_eq_false c12
              clear c12
              by_cases c13 : a0 ≥ 65
              · rw [if_pos c13] at H
                have c13b0 : decide (65 ≤ a0) = true := decide_eq_true c13
                clear c13
                by_cases c14 : a0 ≤ 90
                · rw [if_pos c14] at H
                  have c14b0 : decide (a0 ≤ 90) = true := decide_eq_true c14
                  clear c14
                  obtain rfl := Option.some.inj H
                  go_wp2
                  go_ret
                  exact ⟨by first | rfl | (simp [errW_none, errW_some] <;> rfl) | (simp [*, errW_none, errW_some] <;> rfl), by repeat (first | (with_reducible first | exact HB.out | apply below_alloc | apply pw_below_drewN | apply below_drew1) | exact HB.out)⟩
                · rw [if_neg c14] at H
                  have c14b0 : decide (a0 ≤ 90) = false := decide_eq_false c14
                  clear c14
                  by_cases c15 : a0 ≥ 97
                  · rw [if_pos c15] at H
                    have c15b0 : decide (97 ≤ a0) = true := decide_eq_true c15
                    clear c15
                    by_cases c16 : a0 ≤ 122
                    · rw [if_pos c16] at H
                      have c16b0 : decide (a0 ≤ 122) = true := decide_eq_true c16
                      clear c16
                      obtain rfl := Option.some.inj H
                      go_wp2
                      go_ret
                      exact ⟨by first | rfl | (simp [errW_none, errW_some] <;> rfl) | (simp [*, errW_none, errW_some] <;> rfl), by repeat (first | (with_reducible first | exact HB.out | apply below_alloc | apply pw_below_drewN | apply below_drew1) | exact HB.out)⟩
                    · rw [if_neg c16] at H
                      have c16b0 : decide (a0 ≤ 122) = false := decide_eq_false c16
                      clear c16
                      by_cases c17 : a0 > 127
                      · rw [if_pos c17] at H
                        have c17b0 : decide (127 < a0) = true := decide_eq_true c17
                        clear c17
                        by_cases c18 : t101 = 1
                        · rw [if_pos c18] at H
                          have c18b0 : (t101 == 1) = true := beq_iff_eq.mpr c18
                          have c18b1 : (t101 != 1) = false := bne_eq_false_iff_eq.mpr c18
                          clear c18
                          obtain rfl := Option.some.inj H
                          go_wp2
                          go_ret
                          exact ⟨by first | rfl | (simp [errW_none, errW_some] <;> rfl) | (simp [*, errW_none, errW_some] <;> rfl), by repeat (first | (with_reducible first | exact HB.out | apply below_alloc | apply pw_below_drewN | apply below_drew1) | exact HB.out)⟩
                        · rw [if_neg c18] at H
                          have c18b0 : (t101 == 1) = false := beq_eq_false_iff_ne.mpr c18
                          have c18b1 : (t101 != 1) = true := bne_iff_ne.mpr c18
                          by_cases c19 : t101 = 2
                          · rw [if_pos c19] at H
                            have c19b0 : (t101 == 2) = true := beq_iff_eq.mpr c19
                            have c19b1 : (t101 != 2) = false := bne_eq_false_iff_eq.mpr c19
                            clear c19
                            obtain rfl := Option.some.inj H
                            go_wp2
                            go_ret
                            exact ⟨by first | rfl | (simp [errW_none, errW_some] <;> rfl) | (simp [*, errW_none, errW_some] <;> rfl), by repeat (first | (with_reducible first | exact HB.out | apply below_alloc | apply pw_below_drewN | apply below_drew1) | exact HB.out)⟩
                          · rw [if_neg c19] at H
                            have c19b0 : (t101 == 2) = false := beq_eq_false_iff_ne.mpr c19
                            have c19b1 : (t101 != 2) = true := bne_iff_ne.mpr c19
                            by_cases c20 : t101 = 3
                            · rw [if_pos c20] at H
                              have c20b0 : (t101 == 3) = true := beq_iff_eq.mpr c20
                              have c20b1 : (t101 != 3) = false := bne_eq_false_iff_eq.mpr c20
                              clear c20
                              obtain rfl := Option.some.inj H
                              go_wp2
                              go_ret
                              exact ⟨by first | rfl | (simp [errW_none, errW_some] <;> rfl) | (simp [*, errW_none, errW_some] <;> rfl), by repeat (first | (with_reducible first | exact HB.out | apply below_alloc | apply pw_below_drewN | apply below_drew1) | exact HB.out)⟩
                            · rw [if_neg c20] at H
                              have c20b0 : (t101 == 3) = false := beq_eq_false_iff_ne.mpr c20
                              have c20b1 : (t101 != 3) = true := bne_iff_ne.mpr c20
                              obtain rfl := Option.some.inj H
                              go_wp2
                              go_ret
                              exact ⟨by first | rfl | (simp [errW_none, errW_some] <;> rfl) | (simp [*, errW_none, errW_some] <;> rfl), by repeat (first | (with_reducible first | exact HB.out | apply below_alloc | apply pw_below_drewN | apply below_drew1) | exact HB.out)⟩
                      · rw [if_neg c17] at H
                        have c17b0 : decide (127 < a0) = false := decide_eq_false c17
                        clear c17
                        obtain rfl := Option.some.inj H
                        go_wp2
                        go_ret
                        exact ⟨by first | rfl | (simp [errW_none, errW_some] <;> rfl) | (simp [*, errW_none, errW_some] <;> rfl), by repeat (first | (with_reducible first | exact HB.out | apply below_alloc | apply pw_below_drewN | apply below_drew1) | exact HB.out)⟩
                  · rw [if_neg c15] at H
                    have c15b0 : decide (97 ≤ a0) = false := decide_eq_false c15
                    clear c15
                    by_cases c21 : a0 > 127
                    · rw [if_pos c21] at H
                      have c21b0 : decide (127 < a0) = true := decide_eq_true c21
                      clear c21
                      by_cases c22 : t101 = 1
                      · rw [if_pos c22] at H
                        have c22b0 : (t101 == 1) = true := beq_iff_eq.mpr c22
                        have c22b1 : (t101 != 1) = false := bne_eq_false_iff_eq.mpr c22
                        clear c22
                        obtain rfl := Option.some.inj H
                        go_wp2
                        go_ret
                        exact ⟨by first | rfl | (simp [errW_none, errW_some] <;> rfl) | (simp [*, errW_none, errW_some] <;> rfl), by repeat (first | (with_reducible first | exact HB.out | apply below_alloc | apply pw_below_drewN | apply below_drew1) | exact HB.out)⟩
                      · rw [if_neg c22] at H
                        have c22b0 : (t101 == 1) = false := beq_eq_false_iff_ne.mpr c22
                        have c22b1 : (t101 != 1) = true := bne_iff_ne.mpr c22
                        by_cases c23 : t101 = 2
                        · rw [if_pos c23] at H
                          have c23b0 : (t101 == 2) = true := beq_iff_eq.mpr c23
                          have c23b1 : (t101 != 2) = false := bne_eq_false_iff_eq.mpr c23
                          clear c23
                          obtain rfl := Option.some.inj H
                          go_wp2
                          go_ret
                          exact ⟨by first | rfl | (simp [errW_none, errW_some] <;> rfl) | (simp [*, errW_none, errW_some] <;> rfl), by repeat (first | (with_reducible first | exact HB.out | apply below_alloc | apply pw_below_drewN | apply below_drew1) | exact HB.out)⟩
                        · rw [if_neg c23] at H
                          have c23b0 : (t101 == 2) = false := beq_eq_false_iff_ne.mpr c23
                          have c23b1 : (t101 != 2) = true := bne_iff_ne.mpr c23
                          by_cases c24 : t101 = 3
                          · rw [if_pos c24] at H
                            have c24b0 : (t101 == 3) = true := beq_iff_eq.mpr c24
                            have c24b1 : (t101 != 3) = false := bne_eq_false_iff_eq.mpr c24
                            clear c24
                            obtain rfl := Option.some.inj H
                            go_wp2
                            go_ret
                            exact ⟨by first | rfl | (simp [errW_none, errW_some] <;> rfl) | (simp [*, errW_none, errW_some] <;> rfl), by repeat (first | (with_reducible first | exact HB.out | apply below_alloc | apply pw_below_drewN | apply below_drew1) | exact HB.out)⟩
                          · rw [if_neg c24] at H
                            have c24b0 : (t101 == 3) = false := beq_eq_false_iff_ne.mpr c24
                            have c24b1 : (t101 != 3) = true := bne_iff_ne.mpr c24
                            obtain rfl := Option.some.inj H
                            go_wp2
                            go_ret
                            exact ⟨by first | rfl | (simp [errW_none, errW_some] <;> rfl) | (simp [*, errW_none, errW_some] <;> rfl), by repeat (first | (with_reducible first | exact HB.out | apply below_alloc | apply pw_below_drewN | apply below_drew1) | exact HB.out)⟩
                    · rw [if_neg c21] at H
                      have c21b0 : decide (127 < a0) = false := decide_eq_false c21
                      clear c21
                      obtain rfl := Option.some.inj H
                      go_wp2
                      go_ret
                      exact ⟨by first | rfl | (simp [errW_none, errW_some] <;> rfl) | (simp [*, errW_none, errW_some] <;> rfl), by repeat (first | (with_reducible first | exact HB.out | apply below_alloc | apply pw_below_drewN | apply below_drew1) | exact HB.out)⟩
              · rw [if_neg c13] at H
                have c13b0 : decide (65 ≤ a0) = false := decide_eq_false c13
                clear c13
                by_cases c25 : a0 ≥ 97
                · rw [if_pos c25] at H
                  have c25b0 : decide (97 ≤ a0) = true := decide_eq_true c25
                  clear c25
                  by_cases c26 : a0 ≤ 122
                  · rw [if_pos c26] at H
                    have c26b0 : decide (a0 ≤ 122) = true := decide_eq_true c26
                    clear c26
                    obtain rfl := Option.some.inj H
                    go_wp2
                    go_ret
                    exact ⟨by first | rfl | (simp [errW_none, errW_some] <;> rfl) | (simp [*, errW_none, errW_some] <;> rfl), by repeat (first | (with_reducible first | exact HB.out | apply below_alloc | apply pw_below_drewN | apply below_drew1) | exact HB.out)⟩
                  · rw [if_neg c26] at H
                    have c26b0 : decide (a0 ≤ 122) = false := decide_eq_false c26
                    clear c26
                    by_cases c27 : a0 > 127
                    · rw [if_pos c27] at H
                      have c27b0 : decide (127 < a0) = true := decide_eq_true c27
                      clear c27
                      by_cases c28 : t101 = 1
                      · rw [if_pos c28] at H
                        have c28b0 : (t101 == 1) = true := beq_iff_eq.mpr c28
                        have c28b1 : (t101 != 1) = false := bne_eq_false_iff_eq.mpr c28
                        clear c28
                        obtain rfl := Option.some.inj H
                        go_wp2
                        go_ret
                        exact ⟨by first | rfl | (simp [errW_none, errW_some] <;> rfl) | (simp [*, errW_none, errW_some] <;> rfl), by repeat (first | (with_reducible first | exact HB.out | apply below_alloc | apply pw_below_drewN | apply below_drew1) | exact HB.out)⟩
                      · rw [if_neg c28] at H
                        have c28b0 : (t101 == 1) = false := beq_eq_false_iff_ne.mpr c28
                        have c28b1 : (t101 != 1) = true := bne_iff_ne.mpr c28
                        by_cases c29 : t101 = 2
                        · rw [if_pos c29] at H
                          have c29b0 : (t101 == 2) = true := beq_iff_eq.mpr c29
                          have c29b1 : (t101 != 2) = false := bne_eq_false_iff_eq.mpr c29
                          clear c29
                          obtain rfl := Option.some.inj H
                          go_wp2
                          go_ret
                          exact ⟨by first | rfl | (simp [errW_none, errW_some] <;> rfl) | (simp [*, errW_none, errW_some] <;> rfl), by repeat (first | (with_reducible first | exact HB.out | apply below_alloc | apply pw_below_drewN | apply below_drew1) | exact HB.out)⟩
                        · rw [if_neg c29] at H
                          have c29b0 : (t101 == 2) = false := beq_eq_false_iff_ne.mpr c29
                          have c29b1 : (t101 != 2) = true := bne_iff_ne.mpr c29
                          by_cases c30 : t101 = 3
                          · rw [if_pos c30] at H
                            have c30b0 : (t101 == 3) = true := beq_iff_eq.mpr c30
                            have c30b1 : (t101 != 3) = false := bne_eq_false_iff_eq.mpr c30
                            clear c30
                            obtain rfl := Option.some.inj H
                            go_wp2
                            go_ret
                            exact ⟨by first | rfl | (simp [errW_none, errW_some] <;> rfl) | (simp [*, errW_none, errW_some] <;> rfl), by repeat (first | (with_reducible first | exact HB.out | apply below_alloc | apply pw_below_drewN | apply below_drew1) | exact HB.out)⟩
                          · rw [if_neg c30] at H
                            have c30b0 : (t101 == 3) = false := beq_eq_false_iff_ne.mpr c30
                            have c30b1 : (t101 != 3) = true := bne_iff_ne.mpr c30
                            obtain rfl := Option.some.inj H
                            go_wp2
                            go_ret
                            exact ⟨by first | rfl | (simp [errW_none, errW_some] <;> rfl) | (simp [*, errW_none, errW_some] <;> rfl), by repeat (first | (with_reducible first | exact HB.out | apply below_alloc | apply pw_below_drewN | apply below_drew1) | exact HB.out)⟩
                    · rw [if_neg c27] at H
                      have c27b0 : decide (127 < a0) = false := decide_eq_false c27
                      clear c27
                      obtain rfl := Option.some.inj H
                      go_wp2
                      go_ret
                      exact ⟨by first | rfl | (simp [errW_none, errW_some] <;> rfl) | (simp [*, errW_none, errW_some] <;> rfl), by repeat (first | (with_reducible first | exact HB.out | apply below_alloc | apply pw_below_drewN | apply below_drew1) | exact HB.out)⟩
                · rw [if_neg c25] at H
                  have c25b0 : decide (97 ≤ a0) = false := decide_eq_false c25
                  clear c25
                  by_cases c31 : a0 > 127
                  · rw [if_pos c31] at H
                    have c31b0 : decide (127 < a0) = true := decide_eq_true c31
                    clear c31
                    by_cases c32 : t101 = 1
                    · rw [if_pos c32] at H
                      have c32b0 : (t101 == 1) = true := beq_iff_eq.mpr c32
                      have c32b1 : (t101 != 1) = false := bne_eq_false_iff_eq.mpr c32
                      clear c32
                      obtain rfl := Option.some.inj H
                      go_wp2
                      go_ret
                      exact ⟨by first | rfl | (simp [errW_none, errW_some] <;> rfl) | (simp [*, errW_none, errW_some] <;> rfl), by repeat (first | (with_reducible first | exact HB.out | apply below_alloc | apply pw_below_drewN | apply below_drew1) | exact HB.out)⟩
                    · rw [if_neg c32] at H
                      have c32b0 : (t101 == 1) = false := beq_eq_false_iff_ne.mpr c32
                      have c32b1 : (t101 != 1) = true := bne_iff_ne.mpr c32
                      by_cases c33 : t101 = 2
                      · rw [if_pos c33] at H
                        have c33b0 : (t101 == 2) = true := beq_iff_eq.mpr c33
                        have c33b1 : (t101 != 2) = false := bne_eq_false_iff_eq.mpr c33
                        clear c33
                        obtain rfl := Option.some.inj H
                        go_wp2
                        go_ret
                        exact ⟨by first | rfl | (simp [errW_none, errW_some] <;> rfl) | (simp [*, errW_none, errW_some] <;> rfl), by repeat (first | (with_reducible first | exact HB.out | apply below_alloc | apply pw_below_drewN | apply below_drew1) | exact HB.out)⟩
                      · rw [if_neg c33] at H
                        have c33b0 : (t101 == 2) = false := beq_eq_false_iff_ne.mpr c33
                        have c33b1 : (t101 != 2) = true := bne_iff_ne.mpr c33
                        by_cases c34 : t101 = 3
                        · rw [if_pos c34] at H
                          have c34b0 : (t101 == 3) = true := beq_iff_eq.mpr c34
                          have c34b1 : (t101 != 3) = false := bne_eq_false_iff_eq.mpr c34
                          clear c34
                          obtain rfl := Option.some.inj H
                          go_wp2
                          go_ret
                          exact ⟨by first | rfl | (simp [errW_none, errW_some] <;> rfl) | (simp [*, errW_none, errW_some] <;> rfl), by repeat (first | (with_reducible first | exact HB.out | apply below_alloc | apply pw_below_drewN | apply below_drew1) | exact HB.out)⟩
                        · rw [if_neg c34] at H
                          have c34b0 : (t101 == 3) = false := beq_eq_false_iff_ne.mpr c34
                          have c34b1 : (t101 != 3) = true := bne_iff_ne.mpr c34
                          obtain rfl := Option.some.inj H
                          go_wp2
                          go_ret
                          exact ⟨by first | rfl | (simp [errW_none, errW_some] <;> rfl) | (simp [*, errW_none, errW_some] <;> rfl), by repeat (first | (with_reducible first | exact HB.out | apply below_alloc | apply pw_below_drewN | apply below_drew1) | exact HB.out)⟩
                  · rw [if_neg c31] at H
                    have c31b0 : decide (127 < a0) = false := decide_eq_false c31
                    clear c31
                    obtain rfl := Option.some.inj H
                    go_wp2
                    go_ret
                    exact ⟨by first | rfl | (simp [errW_none, errW_some] <;> rfl) | (simp [*, errW_none, errW_some] <;> rfl), by repeat (first | (with_reducible first | exact HB.out | apply below_alloc | apply pw_below_drewN | apply below_drew1) | exact HB.out)⟩
          · rw [if_neg c11] at H
            have c11b0 : decide (48 ≤ a0) = false := decide_eq_false c11
            clear c11
            by_cases c35 : a0 ≥ 65
            · rw [if_pos c35] at H
              have c35b0 : decide (65 ≤ a0) = true := decide_eq_true c35
              clear c35
              by_cases c36 : a0 ≤ 90
              · rw [if_pos c36] at H
                have c36b0 : decide (a0 ≤ 90) = true := decide_eq_true c36
                clear c36
                obtain rfl := Option.some.inj H
                go_wp2
                go_ret
                exact ⟨by first | rfl | (simp [errW_none, errW_some] <;> rfl) | (simp [*, errW_none, errW_some] <;> rfl), by repeat (first | (with_reducible first | exact HB.out | apply below_alloc | apply pw_below_drewN | apply below_drew1) | exact HB.out)⟩
              · rw [if_neg c36] at H
                have c36b0 : decide (a0 ≤ 90) = false := decide_eq_false c36
                clear c36
                by_cases c37 : a0 ≥ 97
                · rw [if_pos c37] at H
                  have c37b0 : decide (97 ≤ a0) = true := decide_eq_true c37
                  clear c37
                  by_cases c38 : a0 ≤ 122
                  · rw [if_pos c38] at H
                    have c38b0 : decide (a0 ≤ 122) = true := decide_eq_true c38
                    clear c38
                    obtain rfl := Option.some.inj H
                    go_wp2
                    go_ret
                    exact ⟨by first | rfl | (simp [errW_none, errW_some] <;> rfl) | (simp [*, errW_none, errW_some] <;> rfl), by repeat (first | (with_reducible first | exact HB.out | apply below_alloc | apply pw_below_drewN | apply below_drew1) | exact HB.out)⟩
                  · rw [if_neg c38] at H
                    have c38b0 : decide (a0 ≤ 122) = false := decide_eq_false c38
                    clear c38
                    by_cases c39 : a0 > 127
                    · rw [if_pos c39] at H
                      have c39b0 : decide (127 < a0) = true := decide_eq_true c39
                      clear c39
                      by_cases c40 : t101 = 1
                      · rw [if_pos c40] at H
                        have c40b0 : (t101 == 1) = true := beq_iff_eq.mpr c40
                        have c40b1 : (t101 != 1) = false := bne_eq_false_iff_eq.mpr c40
                        clear c40
                        obtain rfl := Option.some.inj H
                        go_wp2
                        go_ret
                        exact ⟨by first | rfl | (simp [errW_none, errW_some] <;> rfl) | (simp [*, errW_none, errW_some] <;> rfl), by repeat (first | (with_reducible first | exact HB.out | apply below_alloc | apply pw_below_drewN | apply below_drew1) | exact HB.out)⟩
                      · rw [if_neg c40] at H
                        have c40b0 : (t101 == 1) = false := beq_eq_false_iff_ne.mpr c40
                        have c40b1 : (t101 != 1) = true := bne_iff_ne.mpr c40
                        by_cases c41 : t101 = 2
                        · rw [if_pos c41] at H
                          have c41b0 : (t101 == 2) = true := beq_iff_eq.mpr c41
                          have c41b1 : (t101 != 2) = false := bne_eq_false_iff_eq.mpr c41
                          clear c41
                          obtain rfl := Option.some.inj H
                          go_wp2
                          go_ret
                          exact ⟨by first | rfl | (simp [errW_none, errW_some] <;> rfl) | (simp [*, errW_none, errW_some] <;> rfl), by repeat (first | (with_reducible first | exact HB.out | apply below_alloc | apply pw_below_drewN | apply below_drew1) | exact HB.out)⟩
                        · rw [if_neg c41] at H
                          have c41b0 : (t101 == 2) = false := beq_eq_false_iff_ne.mpr c41
                          have c41b1 : (t101 != 2) = true := bne_iff_ne.mpr c41
                          by_cases c42 : t101 = 3
                          · rw [if_pos c42] at H
                            have c42b0 : (t101 == 3) = true := beq_iff_eq.mpr c42
                            have c42b1 : (t101 != 3) = false := bne_eq_false_iff_eq.mpr c42
                            clear c42
                            obtain rfl := Option.some.inj H
                            go_wp2
                            go_ret
                            exact ⟨by first | rfl | (simp [errW_none, errW_some] <;> rfl) | (simp [*, errW_none, errW_some] <;> rfl), by repeat (first | (with_reducible first | exact HB.out | apply below_alloc | apply pw_below_drewN | apply below_drew1) | exact HB.out)⟩
                          · rw [if_neg c42] at H
                            have c42b0 : (t101 == 3) = false := beq_eq_false_iff_ne.mpr c42
                            have c42b1 : (t101 != 3) = true := bne_iff_ne.mpr c42
                            obtain rfl := Option.some.inj H
                            go_wp2
                            go_ret
                            exact ⟨by first | rfl | (simp [errW_none, errW_some] <;> rfl) | (simp [*, errW_none, errW_some] <;> rfl), by repeat (first | (with_reducible first | exact HB.out | apply below_alloc | apply pw_below_drewN | apply below_drew1) | exact HB.out)⟩
                    · rw [if_neg c39] at H
                      have c39b0 : decide (127 < a0) = false := decide_eq_false c39
                      clear c39
                      obtain rfl := Option.some.inj H
                      go_wp2
                      go_ret
                      exact ⟨by first | rfl | (simp [errW_none, errW_some] <;> rfl) | (simp [*, errW_none, errW_some] <;> rfl), by repeat (first | (with_reducible first | exact HB.out | apply below_alloc | apply pw_below_drewN | apply below_drew1) | exact HB.out)⟩
                · rw [if_neg c37] at H
                  have c37b0 : decide (97 ≤ a0) = false := decide_eq_false c37
                  clear c37
                  by_cases c43 : a0 > 127
                  · rw [if_pos c43] at H
                    have c43b0 : decide (127 < a0) = true := decide_eq_true c43
                    clear c43
                    by_cases c44 : t101 = 1
                    · rw [if_pos c44] at H
                      have c44b0 : (t101 == 1) = true := beq_iff_eq.mpr c44
                      have c44b1 : (t101 != 1) = false := bne_eq_false_iff_eq.mpr c44
                      clear c44
                      obtain rfl := Option.some.inj H
                      go_wp2
                      go_ret
                      exact ⟨by first | rfl | (simp [errW_none, errW_some] <;> rfl) | (simp [*, errW_none, errW_some] <;> rfl), by repeat (first | (with_reducible first | exact HB.out | apply below_alloc | apply pw_below_drewN | apply below_drew1) | exact HB.out)⟩
                    · rw [if_neg c44] at H
                      have c44b0 : (t101 == 1) = false := beq_eq_false_iff_ne.mpr c44
                      have c44b1 : (t101 != 1) = true := bne_iff_ne.mpr c44
                      by_cases c45 : t101 = 2
                      · rw [if_pos c45] at H
                        have c45b0 : (t101 == 2) = true := beq_iff_eq.mpr c45
                        have c45b1 : (t101 != 2) = false := bne_eq_false_iff_eq.mpr c45
                        clear c45
                        obtain rfl := Option.some.inj H
                        go_wp2
                        go_ret
                        exact ⟨by first | rfl | (simp [errW_none, errW_some] <;> rfl) | (simp [*, errW_none, errW_some] <;> rfl), by repeat (first | (with_reducible first | exact HB.out | apply below_alloc | apply pw_below_drewN | apply below_drew1) | exact HB.out)⟩
                      · rw [if_neg c45] at H
                        have c45b0 : (t101 == 2) = false := beq_eq_false_iff_ne.mpr c45
                        have c45b1 : (t101 != 2) = true := bne_iff_ne.mpr c45
                        by_cases c46 : t101 = 3
                        · rw [if_pos c46] at H
                          have c46b0 : (t101 == 3) = true := beq_iff_eq.mpr c46
                          have c46b1 : (t101 != 3) = false := bne_eq_false_iff_eq.mpr c46
                          clear c46
                          obtain rfl := Option.some.inj H
                          go_wp2
                          go_ret
                          exact ⟨by first | rfl | (simp [errW_none, errW_some] <;> rfl) | (simp [*, errW_none, errW_some] <;> rfl), by repeat (first | (with_reducible first | exact HB.out | apply below_alloc | apply pw_below_drewN | apply below_drew1) | exact HB.out)⟩
                        · rw [if_neg c46] at H
                          have c46b0 : (t101 == 3) = false := beq_eq_false_iff_ne.mpr c46
                          have c46b1 : (t101 != 3) = true := bne_iff_ne.mpr c46
                          obtain rfl := Option.some.inj H
                          go_wp2
                          go_ret
                          exact ⟨by first | rfl | (simp [errW_none, errW_some] <;> rfl) | (simp [*, errW_none, errW_some] <;> rfl), by repeat (first | (with_reducible first | exact HB.out | apply below_alloc | apply pw_below_drewN | apply below_drew1) | exact HB.out)⟩
                  · rw [if_neg c43] at H
                    have c43b0 : decide (127 < a0) = false := decide_eq_false c43
                    clear c43
                    obtain rfl := Option.some.inj H
                    go_wp2
                    go_ret
                    exact ⟨by first | rfl | (simp [errW_none, errW_some] <;> rfl) | (simp [*, errW_none, errW_some] <;> rfl), by repeat (first | (with_reducible first | exact HB.out | apply below_alloc | apply pw_below_drewN | apply below_drew1) | exact HB.out)⟩
            · rw [if_neg c35] at H
              have c35b0 : decide (65 ≤ a0) = false := decide_eq_false c35
              clear c35
              by_cases c47 : a0 ≥ 97
              · rw [if_pos c47] at H
                have c47b0 : decide (97 ≤ a0) = true := decide_eq_true c47
                clear c47
                by_cases c48 : a0 ≤ 122
                · rw [if_pos c48] at H
                  have c48b0 : decide (a0 ≤ 122) = true := decide_eq_true c48
                  clear c48
                  obtain rfl := Option.some.inj H
                  go_wp2
                  go_ret
                  exact ⟨by first | rfl | (simp [errW_none, errW_some] <;> rfl) | (simp [*, errW_none, errW_some] <;> rfl), by repeat (first | (with_reducible first | exact HB.out | apply below_alloc | apply pw_below_drewN | apply below_drew1) | exact HB.out)⟩
                · rw [if_neg c48] at H
                  have c48b0 : decide (a0 ≤ 122) = false := decide_eq_false c48
                  clear c48
                  by_cases c49 : a0 > 127
                  · rw [if_pos c49] at H
                    have c49b0 : decide (127 < a0) = true := decide_eq_true c49
                    clear c49
                    by_cases c50 : t101 = 1
                    · rw [if_pos c50] at H
                      have c50b0 : (t101 == 1) = true := beq_iff_eq.mpr c50
                      have c50b1 : (t101 != 1) = false := bne_eq_false_iff_eq.mpr c50
                      clear c50
                      obtain rfl := Option.some.inj H
                      go_wp2
                      go_ret
                      exact ⟨by first | rfl | (simp [errW_none, errW_some] <;> rfl) | (simp [*, errW_none, errW_some] <;> rfl), by repeat (first | (with_reducible first | exact HB.out | apply below_alloc | apply pw_below_drewN | apply below_drew1) | exact HB.out)⟩
                    · rw [if_neg c50] at H
                      have c50b0 : (t101 == 1) = false := beq_eq_false_iff_ne.mpr c50
                      have c50b1 : (t101 != 1) = true := bne_iff_ne.mpr c50
                      by_cases c51 : t101 = 2
                      · rw [if_pos c51] at H
                        have c51b0 : (t101 == 2) = true := beq_iff_eq.mpr c51
                        have c51b1 : (t101 != 2) = false := bne_eq_false_iff_eq.mpr c51
                        clear c51
                        obtain rfl := Option.some.inj H
                        go_wp2
                        go_ret
                        exact ⟨by first | rfl | (simp [errW_none, errW_some] <;> rfl) | (simp [*, errW_none, errW_some] <;> rfl), by repeat (first | (with_reducible first | exact HB.out | apply below_alloc | apply pw_below_drewN | apply below_drew1) | exact HB.out)⟩
                      · rw [if_neg c51] at H
                        have c51b0 : (t101 == 2) = false := beq_eq_false_iff_ne.mpr c51
                        have c51b1 : (t101 != 2) = true := bne_iff_ne.mpr c51
                        by_cases c52 : t101 = 3
                        · rw [if_pos c52] at H
                          have c52b0 : (t101 == 3) = true := beq_iff_eq.mpr c52
                          have c52b1 : (t101 != 3) = false := bne_eq_false_iff_eq.mpr c52
                          clear c52
                          obtain rfl := Option.some.inj H
                          go_wp2
                          go_ret
                          exact ⟨by first | rfl | (simp [errW_none, errW_some] <;> rfl) | (simp [*, errW_none, errW_some] <;> rfl), by repeat (first | (with_reducible first | exact HB.out | apply below_alloc | apply pw_below_drewN | apply below_drew1) | exact HB.out)⟩
                        · rw [if_neg c52] at H
                          have c52b0 : (t101 == 3) = false := beq_eq_false_iff_ne.mpr c52
                          have c52b1 : (t101 != 3) = true := bne_iff_ne.mpr c52
                          obtain rfl := Option.some.inj H
                          go_wp2
                          go_ret
                          exact ⟨by first | rfl | (simp [errW_none, errW_some] <;> rfl) | (simp [*, errW_none, errW_some] <;> rfl), by repeat (first | (with_reducible first | exact HB.out | apply below_alloc | apply pw_below_drewN | apply below_drew1) | exact HB.out)⟩
                  · rw [if_neg c49] at H
                    have c49b0 : decide (127 < a0) = false := decide_eq_false c49
                    clear c49
                    obtain rfl := Option.some.inj H
                    go_wp2
                    go_ret
                    exact ⟨by first | rfl | (simp [errW_none, errW_some] <;> rfl) | (simp [*, errW_none, errW_some] <;> rfl), by repeat (first | (with_reducible first | exact HB.out | apply below_alloc | apply pw_below_drewN | apply below_drew1) | exact HB.out)⟩
              · rw [if_neg c47] at H
                have c47b0 : decide (97 ≤ a0) = false := decide_eq_false c47
                clear c47
                by_cases c53 : a0 > 127
                · rw [if_pos c53] at H
                  have c53b0 : decide (127 < a0) = true := decide_eq_true c53
                  clear c53
                  by_cases c54 : t101 = 1
                  · rw [if_pos c54] at H
                    have c54b0 : (t101 == 1) = true := beq_iff_eq.mpr c54
                    have c54b1 : (t101 != 1) = false := bne_eq_false_iff_eq.mpr c54
                    clear c54
                    obtain rfl := Option.some.inj H
                    go_wp2
                    go_ret
                    exact ⟨by first | rfl | (simp [errW_none, errW_some] <;> rfl) | (simp [*, errW_none, errW_some] <;> rfl), by repeat (first | (with_reducible first | exact HB.out | apply below_alloc | apply pw_below_drewN | apply below_drew1) | exact HB.out)⟩
                  · rw [if_neg c54] at H
                    have c54b0 : (t101 == 1) = false := beq_eq_false_iff_ne.mpr c54
                    have c54b1 : (t101 != 1) = true := bne_iff_ne.mpr c54
                    by_cases c55 : t101 = 2
                    · rw [if_pos c55] at H
                      have c55b0 : (t101 == 2) = true := beq_iff_eq.mpr c55
                      have c55b1 : (t101 != 2) = false := bne_eq_false_iff_eq.mpr c55
                      clear c55
                      obtain rfl := Option.some.inj H
                      go_wp2
                      go_ret
                      exact ⟨by first | rfl | (simp [errW_none, errW_some] <;> rfl) | (simp [*, errW_none, errW_some] <;> rfl), by repeat (first | (with_reducible first | exact HB.out | apply below_alloc | apply pw_below_drewN | apply below_drew1) | exact HB.out)⟩
                    · rw [if_neg c55] at H
                      have c55b0 : (t101 == 2) = false := beq_eq_false_iff_ne.mpr c55
                      have c55b1 : (t101 != 2) = true := bne_iff_ne.mpr c55
                      by_cases c56 : t101 = 3
                      · rw [if_pos c56] at H
                        have c56b0 : (t101 == 3) = true := beq_iff_eq.mpr c56
                        have c56b1 : (t101 != 3) = false := bne_eq_false_iff_eq.mpr c56
                        clear c56
                        obtain rfl := Option.some.inj H
                        go_wp2
                        go_ret
                        exact ⟨by first | rfl | (simp [errW_none, errW_some] <;> rfl) | (simp [*, errW_none, errW_some] <;> rfl), by repeat (first | (with_reducible first | exact HB.out | apply below_alloc | apply pw_below_drewN | apply below_drew1) | exact HB.out)⟩
                      · rw [if_neg c56] at H
                        have c56b0 : (t101 == 3) = false := beq_eq_false_iff_ne.mpr c56
                        have c56b1 : (t101 != 3) = true := bne_iff_ne.mpr c56
                        obtain rfl := Option.some.inj H
                        go_wp2
                        go_ret
                        exact ⟨by first | rfl | (simp [errW_none, errW_some] <;> rfl) | (simp [*, errW_none, errW_some] <;> rfl), by repeat (first | (with_reducible first | exact HB.out | apply below_alloc | apply pw_below_drewN | apply below_drew1) | exact HB.out)⟩
                · rw [if_neg c53] at H
                  have c53b0 : decide (127 < a0) = false := decide_eq_false c53
                  clear c53
                  obtain rfl := Option.some.inj H
                  go_wp2
                  go_ret
                  exact ⟨by first | rfl | (simp [errW_none, errW_some] <;> rfl) | (simp [*, errW_none, errW_some] <;> rfl), by repeat (first | (with_reducible first | exact HB.out | apply below_alloc | apply pw_below_drewN | apply below_drew1) | exact HB.out)⟩
end Go.Proofs.Ytdhnjkagmbfoaaa.P
