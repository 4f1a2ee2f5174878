/- Machine side of the laws of this seat: each Go function as a plain Lean function, and its contract over the model; written by a program of this session (gprint.py) round the kit's print. Not trusted: Lean checks it. -/
import Derived.Test.YtlmmeihgjpgooaaP0
import Derived.Test.YtlmmeihgjpgooaaPclass
namespace Go.Proofs.Ytlmmeihgjpgooaa.P
open Go.RowKit Go.Proofs.YtlmmeihgjpgooaaW.PrintWords Go.Proofs.YtlmmeihgjpgooaaW.PrintLast Go.Proofs.YtlmmeihgjpgooaaW.PrintMore
attribute [local go_sem] max2_int min2_int max_two min_two max_three min_three max_four min_four   -- for this text's walks alone
set_option linter.unusedVariables false
set_option linter.unusedSimpArgs false

/-! ### dactyllaw03_awake: function 23 -/
def dactyllaw03_awake.f : Option Bool := some true
theorem awake03_counts : (counts 13 class_Of.v [97, 19968, 8238, 7, -1]).toArray = (#[.int .i64 1, .int .i64 1, .int .i64 1, .int .i64 0, .int .i64 1, .int .i64 0, .int .i64 0, .int .i64 1, .int .i64 0, .int .i64 0, .int .i64 0, .int .i64 0, .int .i64 0] : Array Value) := by kernel_rfl
set_option maxHeartbeats 4000000 in
set_option maxRecDepth 100000 in
theorem dactyllaw03_awake.calls (r : Bool) (w : World) (h : dactyllaw03_awake.f = some r) :
    Calls Try.prog 23 #[] w fun e w' => e = .returned (.bool r) ∧ Below w.heap.size w w' := by
  obtain rfl : true = r := Option.some.inj h
  have o1 := Aside0.mk (show class_Of.f 1 97 = some 1 by decide +kernel)
  have o2 := Aside0.mk (show class_Of.f 1 1072 = some 3 by decide +kernel)
  have o3 := Aside0.mk (show class_Skeleton.f 1072 = some 97 by decide +kernel)
  have o4 := Aside0.mk (show class_Width.f 1 19968 = some 2 by decide +kernel)
  have o5 := Aside0.mk (show class_Danger.f 1 8203 = some true by decide +kernel)
  have o6 := Aside0.mk (show class_Danger.f 1 97 = some false by decide +kernel)
  have o7 := Aside0.mk (show class_Alike.f [1072] [97] = some true by decide +kernel)
  go_enter Try.func23, Try.ntmps23
  go_wp2_with fail
  refine (class_Count.calls _ _ [97, 19968, 8238, 7, -1] _ (C_lit _ (blk_new _ _) (by repeat (first | exact Reps.none _ _ | refine reps_cons (c := [_]) rfl rfl ?_)) (by simp))).mono ?_
  rintro e w1 ⟨rfl, hb1⟩
  have hB1 : Aside0 (Below w.heap.size w w1) := ⟨below_then (below_alloc (Below.refl _ _) _) (by simp) hb1⟩
  clear hb1
  rw [awake03_counts]
  go_wp2_with fail
  refine (class_Of.calls 1 97 1 _ o1.out).mono ?_
  rintro e w2 ⟨rfl, hb⟩
  have HC2 := Aside0.mk (heap_below hb (blk_new _ _))
  have hB2 := Aside0.mk (below_then (below_alloc hB1.out _) (by have := hB1.out.size; simp; omega) hb)
  clear hb
  go_wp2_with fail
  refine (class_Of.calls 1 1072 3 _ o2.out).mono ?_
  rintro e w3 ⟨rfl, hb⟩
  have hB3 := Aside0.mk (below_then hB2.out hB2.out.size hb)
  have HC3 := Aside0.mk (heap_below hb HC2.out)
  clear hb hB2 HC2
  go_wp2_with fail
  refine (class_Skeleton.calls 1072 97 _ o3.out).mono ?_
  rintro e w4 ⟨rfl, hb⟩
  have hB4 := Aside0.mk (below_then hB3.out hB3.out.size hb)
  have HC4 := Aside0.mk (heap_below hb HC3.out)
  clear hb hB3 HC3
  go_wp2_with fail
  refine (class_Width.calls 1 19968 2 _ o4.out).mono ?_
  rintro e w5 ⟨rfl, hb⟩
  have hB5 := Aside0.mk (below_then hB4.out hB4.out.size hb)
  have HC5 := Aside0.mk (heap_below hb HC4.out)
  clear hb hB4 HC4
  go_wp2_with fail
  refine (class_Danger.calls 1 8203 true _ o5.out).mono ?_
  rintro e w6 ⟨rfl, hb⟩
  have hB6 := Aside0.mk (below_then hB5.out hB5.out.size hb)
  have HC6 := Aside0.mk (heap_below hb HC5.out)
  clear hb hB5 HC5
  go_wp2_with fail
  refine (class_Danger.calls 1 97 false _ o6.out).mono ?_
  rintro e w7 ⟨rfl, hb⟩
  have hB7 := Aside0.mk (below_then hB6.out hB6.out.size hb)
  have HC7 := Aside0.mk (heap_below hb HC6.out)
  clear hb hB6 HC6
  go_wp2_with fail
  refine (class_Alike.calls _ _ [1072] _ _ [97] true _ (C_lit (Kd.int .i64) (blk_alloc (blk_new _ _) _) (by repeat (first | exact Reps.none _ _ | refine reps_cons (c := [_]) rfl rfl ?_)) (by simp)) (by simp) (C_lit (Kd.int .i64) (by simpa using blk_new (w7.alloc (.cells #[.int .i64 1072] 3)) (.cells #[.int .i64 97] 3)) (by repeat (first | exact Reps.none _ _ | refine reps_cons (c := [_]) rfl rfl ?_)) (by simp)) (by simp) o7.out).mono ?_
  rintro e w8 ⟨rfl, hb⟩
  have HC8 := Aside0.mk (heap_below hb (blk_alloc (blk_alloc HC7.out _) _))
  have hB8 := Aside0.mk (below_then (below_alloc (below_alloc hB7.out _) _) (by have := hB7.out.size; simp; omega) hb)
  clear hb hB7 HC7
  have q0 := (blk_cell HC8.out 0).trans rfl
  have q1 := (blk_cell HC8.out 1).trans rfl
  have q2 := (blk_cell HC8.out 2).trans rfl
  have q4 := (blk_cell HC8.out 4).trans rfl
  have q7 := (blk_cell HC8.out 7).trans rfl
  go_wp2
  go_ret
  exact ⟨rfl, hB8.out⟩

end Go.Proofs.Ytlmmeihgjpgooaa.P
