/- Machine side of the laws of this seat: each Go function as a plain Lean function, and its contract over the model; written by a program of this session (gprint.py) round the kit's print. Not trusted: Lean checks it. -/
import Derived.Test.YtkembaghhahnpaaP0
import Derived.Test.YtkembaghhahnpaaPdactyllaw06
import Derived.Test.YtkembaghhahnpaaPdactylref02
import Derived.Test.YtkembaghhahnpaaPdactylref03
import Derived.Test.YtkembaghhahnpaaPshow
namespace Go.Proofs.Ytkembaghhahnpaa.P
open Go.RowKit Go.Proofs.YtkembaghhahnpaaW.PrintWords Go.Proofs.YtkembaghhahnpaaW.PrintLast Go.Proofs.YtkembaghhahnpaaW.PrintMore
attribute [local go_sem] max2_int min2_int max_two min_two max_three min_three max_four min_four   -- for this text's walks alone
set_option linter.unusedVariables false
set_option linter.unusedSimpArgs false

/-! ### dactyllaw06_ShowCols: function 6 -/
def dactyllaw06_ShowCols.f (k : Nat) (a0 : Int) : Option (Bool) := (show_Cols.f k a0).bind fun t101 => ((dactylref02_Right.f a0).bind fun t102 => (if t102 = true then ((show_Text.f k a0).bind fun t103 => ((dactyllaw06_awake.f).bind fun t104 => (if t104 = true then (if t101 ≥ 1 then (if t101 ≤ 10 then (if t103.toList = ([] : List UInt8) then (none) else ((dactylref03_Of.f k a0).bind fun t105 => (if t105 ≤ 3 then (some true) else (if t101 = (t103.size : Int) then (some (decide (t101 ≥ 2))) else (none))))) else (none)) else (none)) else (none)))) else ((dactyllaw06_awake.f).bind fun t106 => (if t106 = true then (if t101 = 0 then ((show_Text.f k a0).bind fun t107 => (some (t107.toList == ([] : List UInt8)))) else (none)) else (none)))))
theorem dactyllaw06_ShowCols.mono : ∀ a0 k, LeO (dactyllaw06_ShowCols.f k a0) (dactyllaw06_ShowCols.f (k + 1) a0) := by
  intro a0 k
  unfold dactyllaw06_ShowCols.f
  repeat' first
      | (with_reducible exact dactylref03_Of.mono _ _)
      | (with_reducible exact show_Cols.mono _ _)
      | (with_reducible exact show_Text.mono _ _)
      | (with_reducible exact LeO.refl _)
      | (with_reducible exact LeO.none _)
      | (with_reducible refine LeO.ite ?_ ?_)
      | (with_reducible refine LeO.bind ?_ (fun _ => ?_))
      | exact dactylref03_Of.mono _ _
      | exact show_Cols.mono _ _
      | exact show_Text.mono _ _
      | exact LeO.none _
      | refine LeO.ite ?_ ?_
      | refine LeO.bind ?_ (fun _ => ?_)
set_option maxHeartbeats 8000000 in
set_option maxRecDepth 100000 in
theorem dactyllaw06_ShowCols.calls (k : Nat) (a0 : Int) (r : Bool) (w : World) (h : dactyllaw06_ShowCols.f k a0 = some r) :
    Calls Try.prog 6 #[.int .i64 a0] w fun e w' => e = .returned (.bool r) ∧ Below w.heap.size w w' := by
  have HB := Aside0.mk (Below.refl w.heap.size w)
  have H : ((show_Cols.f k a0).bind fun t101 => ((dactylref02_Right.f a0).bind fun t102 => (if t102 = true then ((show_Text.f k a0).bind fun t103 => ((dactyllaw06_awake.f).bind fun t104 => (if t104 = true then (if t101 ≥ 1 then (if t101 ≤ 10 then (if t103.toList = ([] : List UInt8) then (none) else ((dactylref03_Of.f k a0).bind fun t105 => (if t105 ≤ 3 then (some true) else (if t101 = (t103.size : Int) then (some (decide (t101 ≥ 2))) else (none))))) else (none)) else (none)) else (none)))) else ((dactyllaw06_awake.f).bind fun t106 => (if t106 = true then (if t101 = 0 then ((show_Text.f k a0).bind fun t107 => (some (t107.toList == ([] : List UInt8)))) else (none)) else (none)))))) = some r := h
  clear h
  replace H := Option.bind_eq_some_iff.mp H
  obtain ⟨t101, A20, H⟩ := H
  replace H : ((dactylref02_Right.f a0).bind fun t102 => (if t102 = true then ((show_Text.f k a0).bind fun t103 => ((dactyllaw06_awake.f).bind fun t104 => (if t104 = true then (if t101 ≥ 1 then (if t101 ≤ 10 then (if t103.toList = ([] : List UInt8) then (none) else ((dactylref03_Of.f k a0).bind fun t105 => (if t105 ≤ 3 then (some true) else (if t101 = (t103.size : Int) then (some (decide (t101 ≥ 2))) else (none))))) else (none)) else (none)) else (none)))) else ((dactyllaw06_awake.f).bind fun t106 => (if t106 = true then (if t101 = 0 then ((show_Text.f k a0).bind fun t107 => (some (t107.toList == ([] : List UInt8)))) else (none)) else (none))))) = some r := H
  have A2 := Aside0.mk A20
  clear A20
  replace H := Option.bind_eq_some_iff.mp H
  obtain ⟨t102, A30, H⟩ := H
  replace H : (if t102 = true then ((show_Text.f k a0).bind fun t103 => ((dactyllaw06_awake.f).bind fun t104 => (if t104 = true then (if t101 ≥ 1 then (if t101 ≤ 10 then (if t103.toList = ([] : List UInt8) then (none) else ((dactylref03_Of.f k a0).bind fun t105 => (if t105 ≤ 3 then (some true) else (if t101 = (t103.size : Int) then (some (decide (t101 ≥ 2))) else (none))))) else (none)) else (none)) else (none)))) else ((dactyllaw06_awake.f).bind fun t106 => (if t106 = true then (if t101 = 0 then ((show_Text.f k a0).bind fun t107 => (some (t107.toList == ([] : List UInt8)))) else (none)) else (none)))) = some r := H
  have A3 := Aside0.mk A30
  clear A30
  by_cases c4 : t102 = true
  · subst c4
    have H1 : ((show_Text.f k a0).bind fun t103 => ((dactyllaw06_awake.f).bind fun t104 => (if t104 = true then (if t101 ≥ 1 then (if t101 ≤ 10 then (if t103.toList = ([] : List UInt8) then (none) else ((dactylref03_Of.f k a0).bind fun t105 => (if t105 ≤ 3 then (some true) else (if t101 = (t103.size : Int) then (some (decide (t101 ≥ 2))) else (none))))) else (none)) else (none)) else (none)))) = some r := by rw [if_pos rfl] at H; exact H
    clear H
    have H := H1
    clear H1
    replace H := Option.bind_eq_some_iff.mp H
    obtain ⟨t103, A50, H⟩ := H
    replace H : ((dactyllaw06_awake.f).bind fun t104 => (if t104 = true then (if t101 ≥ 1 then (if t101 ≤ 10 then (if t103.toList = ([] : List UInt8) then (none) else ((dactylref03_Of.f k a0).bind fun t105 => (if t105 ≤ 3 then (some true) else (if t101 = (t103.size : Int) then (some (decide (t101 ≥ 2))) else (none))))) else (none)) else (none)) else (none))) = some r := H
    have A5 := Aside0.mk A50
    clear A50
    replace H := Option.bind_eq_some_iff.mp H
    obtain ⟨t104, A60, H⟩ := H
    replace H : (if t104 = true then (if t101 ≥ 1 then (if t101 ≤ 10 then (if t103.toList = ([] : List UInt8) then (none) else ((dactylref03_Of.f k a0).bind fun t105 => (if t105 ≤ 3 then (some true) else (if t101 = (t103.size : Int) then (some (decide (t101 ≥ 2))) else (none))))) else (none)) else (none)) else (none)) = some r := H
    have A6 := Aside0.mk A60
    clear A60
    by_cases c7 : t104 = true
    · subst c7
      have H1 : (if t101 ≥ 1 then (if t101 ≤ 10 then (if t103.toList = ([] : List UInt8) then (none) else ((dactylref03_Of.f k a0).bind fun t105 => (if t105 ≤ 3 then (some true) else (if t101 = (t103.size : Int) then (some (decide (t101 ≥ 2))) else (none))))) else (none)) else (none)) = some r := by rw [if_pos rfl] at H; exact H
      clear H
      have H := H1
      clear H1
      by_cases c8 : t101 ≥ 1
      · rw [if_pos c8] at H
        have c8b0 : decide (1 ≤ t101) = true := decide_eq_true c8
        clear c8
        by_cases c9 : t101 ≤ 10
        · rw [if_pos c9] at H
          have c9b0 : decide (t101 ≤ 10) = true := decide_eq_true c9
          clear c9
          by_cases c10 : t103.toList = ([] : List UInt8)
          · rw [if_pos c10] at H
            exact absurd H (by simp)
          · rw [if_neg c10] at H
            have c10b0 : (t103.toList == ([] : List UInt8)) = false := beq_eq_false_iff_ne.mpr c10
            have c10b1 : (t103.toList != ([] : List UInt8)) = true := bne_iff_ne.mpr c10
            replace H := Option.bind_eq_some_iff.mp H
            obtain ⟨t105, A110, H⟩ := H
            replace H : (if t105 ≤ 3 then (some true) else (if t101 = (t103.size : Int) then (some (decide (t101 ≥ 2))) else (none))) = some r := H
            have A11 := Aside0.mk A110
            clear A110
            by_cases c12 : t105 ≤ 3
            · rw [if_pos c12] at H
              have c12b0 : decide (t105 ≤ 3) = true := decide_eq_true c12
              clear c12
              obtain rfl := Option.some.inj H
              go_enter Try.func6, Try.ntmps6
              go_wp2_with (first | ((with_reducible refine gate_callee (f := 31) rfl ?_); refine goesL_ (some 6) rfl rfl Try.func31 (by kernel_rfl) rfl #[.int .i64 a0] rfl (by (try simp only [List.map_toArray, List.map_cons, List.map_nil]); first | done | rfl | (simp only [List.length_drop, List.length_take]; rfl)) ?_; (with_reducible refine (show_Cols.calls k a0 t101 _ A2.out).mono ?_); rintro e w13 ⟨rfl, hb⟩; refine ⟨_, rfl, ?_⟩; have n0_ := Aside0.mk (below_step (by repeat (first | (with_reducible first | exact HB.out | apply below_alloc | apply pw_below_drewN | apply below_drew1) | exact HB.out)) hb); clear HB; have HB := n0_; clear n0_; (try clear hb); (try clear hb2); (try clear hk); (try clear hi)) | ((with_reducible refine gate_callee (f := 30) rfl ?_); refine goesL_ (some 8) rfl rfl Try.func30 (by kernel_rfl) rfl #[.int .i64 a0] rfl (by (try simp only [List.map_toArray, List.map_cons, List.map_nil]); first | done | rfl | (simp only [List.length_drop, List.length_take]; rfl)) ?_; (with_reducible refine (dactylref02_Right.calls a0 true _ A3.out).mono ?_); rintro e w' ⟨rfl, ⟨nd, rfl⟩⟩; refine ⟨_, rfl, ?_⟩) | ((with_reducible refine gate_callee (f := 29) rfl ?_); refine goesL_ (some 21) rfl rfl Try.func29 (by kernel_rfl) rfl #[.int .i64 a0] rfl (by (try simp only [List.map_toArray, List.map_cons, List.map_nil]); first | done | rfl | (simp only [List.length_drop, List.length_take]; rfl)) ?_; (with_reducible refine (show_Text.calls k a0 t103 _ A5.out).mono ?_); rintro e w14 ⟨rfl, hb⟩; refine ⟨_, rfl, ?_⟩; have n0_ := Aside0.mk (below_step (by repeat (first | (with_reducible first | exact HB.out | apply below_alloc | apply pw_below_drewN | apply below_drew1) | exact HB.out)) hb); clear HB; have HB := n0_; clear n0_; (try clear hb); (try clear hb2); (try clear hk); (try clear hi)) | ((with_reducible refine gate_callee (f := 22) rfl ?_); refine goesL_ (some 22) rfl rfl Try.func22 (by kernel_rfl) rfl #[] rfl (by (try simp only [List.map_toArray, List.map_cons, List.map_nil]); first | done | rfl | (simp only [List.length_drop, List.length_take]; rfl)) ?_; (with_reducible refine (dactyllaw06_awake.calls  true _ A6.out).mono ?_); rintro e w15 ⟨rfl, hb⟩; refine ⟨_, rfl, ?_⟩; have n0_ := Aside0.mk (below_step (by repeat (first | (with_reducible first | exact HB.out | apply below_alloc | apply pw_below_drewN | apply below_drew1) | exact HB.out)) hb); clear HB; have HB := n0_; clear n0_; (try clear hb); (try clear hb2); (try clear hk); (try clear hi)) | (go_at_call 32; (with_reducible refine (dactylref03_Of.calls k a0 t105 _ A11.out).mono ?_); rintro e w16 ⟨rfl, hb⟩; have n0_ := Aside0.mk (below_step (by repeat (first | (with_reducible first | exact HB.out | apply below_alloc | apply pw_below_drewN | apply below_drew1) | exact HB.out)) hb); clear HB; have HB := n0_; clear n0_; (try clear hb); (try clear hb2); (try clear hk); (try clear hi)))
              go_ret
              exact ⟨by first | rfl | (simp [errW_none, errW_some] <;> rfl) | (simp [*, errW_none, errW_some] <;> rfl), by repeat (first | (with_reducible first | exact HB.out | apply below_alloc | apply pw_below_drewN | apply below_drew1) | exact HB.out)⟩
            · rw [if_neg c12] at H
              have c12b0 : decide (t105 ≤ 3) = false := decide_eq_false c12
              clear c12
              by_cases c17 : t101 = (t103.size : Int)
              · rw [if_pos c17] at H
                have c17b0 : (t101 == (t103.size : Int)) = true := beq_iff_eq.mpr c17
                have c17b1 : (t101 != (t103.size : Int)) = false := bne_eq_false_iff_eq.mpr c17
                clear c17
                obtain rfl := Option.some.inj H
                go_enter Try.func6, Try.ntmps6
                go_wp2_with (first | ((with_reducible refine gate_callee (f := 31) rfl ?_); refine goesL_ (some 6) rfl rfl Try.func31 (by kernel_rfl) rfl #[.int .i64 a0] rfl (by (try simp only [List.map_toArray, List.map_cons, List.map_nil]); first | done | rfl | (simp only [List.length_drop, List.length_take]; rfl)) ?_; (with_reducible refine (show_Cols.calls k a0 t101 _ A2.out).mono ?_); rintro e w18 ⟨rfl, hb⟩; refine ⟨_, rfl, ?_⟩; have n0_ := Aside0.mk (below_step (by repeat (first | (with_reducible first | exact HB.out | apply below_alloc | apply pw_below_drewN | apply below_drew1) | exact HB.out)) hb); clear HB; have HB := n0_; clear n0_; (try clear hb); (try clear hb2); (try clear hk); (try clear hi)) | ((with_reducible refine gate_callee (f := 30) rfl ?_); refine goesL_ (some 8) rfl rfl Try.func30 (by kernel_rfl) rfl #[.int .i64 a0] rfl (by (try simp only [List.map_toArray, List.map_cons, List.map_nil]); first | done | rfl | (simp only [List.length_drop, List.length_take]; rfl)) ?_; (with_reducible refine (dactylref02_Right.calls a0 true _ A3.out).mono ?_); rintro e w' ⟨rfl, ⟨nd, rfl⟩⟩; refine ⟨_, rfl, ?_⟩) | ((with_reducible refine gate_callee (f := 29) rfl ?_); refine goesL_ (some 21) rfl rfl Try.func29 (by kernel_rfl) rfl #[.int .i64 a0] rfl (by (try simp only [List.map_toArray, List.map_cons, List.map_nil]); first | done | rfl | (simp only [List.length_drop, List.length_take]; rfl)) ?_; (with_reducible refine (show_Text.calls k a0 t103 _ A5.out).mono ?_); rintro e w19 ⟨rfl, hb⟩; refine ⟨_, rfl, ?_⟩; have n0_ := Aside0.mk (below_step (by repeat (first | (with_reducible first | exact HB.out | apply below_alloc | apply pw_below_drewN | apply below_drew1) | exact HB.out)) hb); clear HB; have HB := n0_; clear n0_; (try clear hb); (try clear hb2); (try clear hk); (try clear hi)) | ((with_reducible refine gate_callee (f := 22) rfl ?_); refine goesL_ (some 22) rfl rfl Try.func22 (by kernel_rfl) rfl #[] rfl (by (try simp only [List.map_toArray, List.map_cons, List.map_nil]); first | done | rfl | (simp only [List.length_drop, List.length_take]; rfl)) ?_; (with_reducible refine (dactyllaw06_awake.calls  true _ A6.out).mono ?_); rintro e w20 ⟨rfl, hb⟩; refine ⟨_, rfl, ?_⟩; have n0_ := Aside0.mk (below_step (by repeat (first | (with_reducible first | exact HB.out | apply below_alloc | apply pw_below_drewN | apply below_drew1) | exact HB.out)) hb); clear HB; have HB := n0_; clear n0_; (try clear hb); (try clear hb2); (try clear hk); (try clear hi)) | (go_at_call 32; (with_reducible refine (dactylref03_Of.calls k a0 t105 _ A11.out).mono ?_); rintro e w21 ⟨rfl, hb⟩; have n0_ := Aside0.mk (below_step (by repeat (first | (with_reducible first | exact HB.out | apply below_alloc | apply pw_below_drewN | apply below_drew1) | exact HB.out)) hb); clear HB; have HB := n0_; clear n0_; (try clear hb); (try clear hb2); (try clear hk); (try clear hi)))
                go_ret
                exact ⟨by first | rfl | (simp [errW_none, errW_some] <;> rfl) | (simp [*, errW_none, errW_some] <;> rfl), by repeat (first | (with_reducible first | exact HB.out | apply below_alloc | apply pw_below_drewN | apply below_drew1) | exact HB.out)⟩
              · rw [if_neg c17] at H
                exact absurd H (by simp)
        · rw [if_neg c9] at H
          exact absurd H (by simp)
      · rw [if_neg c8] at H
        exact absurd H (by simp)
    · replace c7 := Bool.eq_false_iff.mpr c7
      subst c7
      have H1 : (none) = some r := by rw [if_neg (show ¬ (false = true) by decide)] at H; exact H
      clear H
      have H := H1
      clear H1
      exact absurd H (by simp)
  · replace c4 := Bool.eq_false_iff.mpr c4
    subst c4
    have H1 : ((dactyllaw06_awake.f).bind fun t106 => (if t106 = true then (if t101 = 0 then ((show_Text.f k a0).bind fun t107 => (some (t107.toList == ([] : List UInt8)))) else (none)) else (none))) = some r := by rw [if_neg (show ¬ (false = true) by decide)] at H; exact H
    clear H
    have H := H1
    clear H1
    replace H := Option.bind_eq_some_iff.mp H
    obtain ⟨t106, A220, H⟩ := H
    replace H : (if t106 = true then (if t101 = 0 then ((show_Text.f k a0).bind fun t107 => (some (t107.toList == ([] : List UInt8)))) else (none)) else (none)) = some r := H
    have A22 := Aside0.mk A220
    clear A220
    by_cases c23 : t106 = true
    · subst c23
      have H1 : (if t101 = 0 then ((show_Text.f k a0).bind fun t107 => (some (t107.toList == ([] : List UInt8)))) else (none)) = some r := by rw [if_pos rfl] at H; exact H
      clear H
      have H := H1
      clear H1
      by_cases c24 : t101 = 0
      · rw [if_pos c24] at H
        have c24b0 : (t101 == 0) = true := beq_iff_eq.mpr c24
        have c24b1 : (t101 != 0) = false := bne_eq_false_iff_eq.mpr c24
        clear c24
        replace H := Option.bind_eq_some_iff.mp H
        obtain ⟨t107, A250, H⟩ := H
        replace H : (some (t107.toList == ([] : List UInt8))) = some r := H
        have A25 := Aside0.mk A250
        clear A250
        obtain rfl := Option.some.inj H
        go_enter Try.func6, Try.ntmps6
        go_wp2_with (first | ((with_reducible refine gate_callee (f := 31) rfl ?_); refine goesL_ (some 6) rfl rfl Try.func31 (by kernel_rfl) rfl #[.int .i64 a0] rfl (by (try simp only [List.map_toArray, List.map_cons, List.map_nil]); first | done | rfl | (simp only [List.length_drop, List.length_take]; rfl)) ?_; (with_reducible refine (show_Cols.calls k a0 t101 _ A2.out).mono ?_); rintro e w26 ⟨rfl, hb⟩; refine ⟨_, rfl, ?_⟩; have n0_ := Aside0.mk (below_step (by repeat (first | (with_reducible first | exact HB.out | apply below_alloc | apply pw_below_drewN | apply below_drew1) | exact HB.out)) hb); clear HB; have HB := n0_; clear n0_; (try clear hb); (try clear hb2); (try clear hk); (try clear hi)) | ((with_reducible refine gate_callee (f := 30) rfl ?_); refine goesL_ (some 8) rfl rfl Try.func30 (by kernel_rfl) rfl #[.int .i64 a0] rfl (by (try simp only [List.map_toArray, List.map_cons, List.map_nil]); first | done | rfl | (simp only [List.length_drop, List.length_take]; rfl)) ?_; (with_reducible refine (dactylref02_Right.calls a0 false _ A3.out).mono ?_); rintro e w' ⟨rfl, ⟨nd, rfl⟩⟩; refine ⟨_, rfl, ?_⟩) | ((with_reducible refine gate_callee (f := 22) rfl ?_); refine goesL_ (some 10) rfl rfl Try.func22 (by kernel_rfl) rfl #[] rfl (by (try simp only [List.map_toArray, List.map_cons, List.map_nil]); first | done | rfl | (simp only [List.length_drop, List.length_take]; rfl)) ?_; (with_reducible refine (dactyllaw06_awake.calls  true _ A22.out).mono ?_); rintro e w27 ⟨rfl, hb⟩; refine ⟨_, rfl, ?_⟩; have n0_ := Aside0.mk (below_step (by repeat (first | (with_reducible first | exact HB.out | apply below_alloc | apply pw_below_drewN | apply below_drew1) | exact HB.out)) hb); clear HB; have HB := n0_; clear n0_; (try clear hb); (try clear hb2); (try clear hk); (try clear hi)) | (go_at_call 29; (with_reducible refine (show_Text.calls k a0 t107 _ A25.out).mono ?_); rintro e w28 ⟨rfl, hb⟩; have n0_ := Aside0.mk (below_step (by repeat (first | (with_reducible first | exact HB.out | apply below_alloc | apply pw_below_drewN | apply below_drew1) | exact HB.out)) hb); clear HB; have HB := n0_; clear n0_; (try clear hb); (try clear hb2); (try clear hk); (try clear hi)))
        go_ret
        exact ⟨by first | rfl | (simp [errW_none, errW_some] <;> rfl) | (simp [*, errW_none, errW_some] <;> rfl), by repeat (first | (with_reducible first | exact HB.out | apply below_alloc | apply pw_below_drewN | apply below_drew1) | exact HB.out)⟩
      · rw [if_neg c24] at H
        exact absurd H (by simp)
    · replace c23 := Bool.eq_false_iff.mpr c23
      subst c23
      have H1 : (none) = some r := by rw [if_neg (show ¬ (false = true) by decide)] at H; exact H
      clear H
      have H := H1
      clear H1
      exact absurd H (by simp)

/-- THE ONE PURE STATEMENT of dactyllaw06_ShowCols: yours. -/
def dactyllaw06_ShowCols.Pure : Prop := ∀ (a0 : Int), (Lit.int .i64 a0).wf = true → ∃ k, dactyllaw06_ShowCols.f k a0 = some true
theorem dactyllaw06_ShowCols.walk (P : dactyllaw06_ShowCols.Pure) (a0 : Int) (w : World) (w0 : (Lit.int .i64 a0).wf = true) :
    Calls Try.prog 6 #[.int .i64 a0] w fun e w' => e = .returned (.bool true) ∧ Below w.heap.size w w' := by
  obtain ⟨k, h⟩ := P a0 w0
  refine (dactyllaw06_ShowCols.calls k a0 true w h).mono ?_
  rintro e w' ⟨rfl, hd⟩
  exact ⟨rfl, hd⟩

end Go.Proofs.Ytkembaghhahnpaa.P
