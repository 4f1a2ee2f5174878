/- The law ClassCounts walked by hand: it answers true for any two lists of values; what it reaches is told by the contracts of class and of its reference. -/
import Derived.Test.YtlmmeihgjpgooaaPdactyllaw03
import Derived.Test.YtlmmeihgjpgooaaPclass
import Derived.Test.YtlmmeihgjpgooaaPdactylref03
import Derived.Test.YtlmmeihgjpgooaaQClass
import Derived.Test.YtlmmeihgjpgooaaGRead
namespace Go.Proofs.Ytlmmeihgjpgooaa.Walk
open Go.RowKit Go.Proofs.Ytlmmeihgjpgooaa.P Go.Proofs.YtlmmeihgjpgooaaW.PrintWords Go.Proofs.YtlmmeihgjpgooaaW.PrintLast
set_option linter.unusedVariables false
set_option linter.unusedSimpArgs false
def likeTo (l0 l1 : List Int) (kk : Nat) : Bool := decide (l0.length = l1.length) && (List.range kk).all fun i => class_Skeleton.v (rd l0 i) == class_Skeleton.v (rd l1 i)
theorem likeTo_zero (l0 l1 : List Int) : likeTo l0 l1 0 = decide (l0.length = l1.length) := by simp [likeTo]
theorem likeTo_succ {l0 l1 : List Int} {kk : Nat} (h : likeTo l0 l1 kk = true) : likeTo l0 l1 (kk + 1) = (class_Skeleton.v (rd l0 kk) == class_Skeleton.v (rd l1 kk)) := by
  simp only [likeTo, List.range_succ, List.all_append, List.all_cons, List.all_nil, Bool.and_true, ← Bool.and_assoc] at *
  rw [h]; simp
theorem likeTo_len {l0 l1 : List Int} {kk : Nat} (h : likeTo l0 l1 kk = true) : l0.length = l1.length := by
  simp only [likeTo, Bool.and_eq_true, decide_eq_true_eq] at h; exact h.1
theorem likeTo_end {l0 l1 : List Int} {kk : Nat} (hk : kk ≤ l0.length) (h : kk = l0.length ∨ likeTo l0 l1 kk = false) : likeTo l0 l1 kk = class_Alike.v l0 l1 := by
  unfold class_Alike.v
  rcases hb : likeTo l0 l1 kk with _ | _
  · symm
    by_cases hl : l0.length = l1.length
    · simp only [likeTo, hl, decide_true, Bool.true_and, List.all_eq_false, List.mem_range] at hb
      obtain ⟨i, hi, hb⟩ := hb
      exact eqF_miss _ l0 l1 0 0 i (by omega) (by simpa [rd] using hb)
    · exact eqF_len _ l0 l1 hl
  · symm
    have : kk = l0.length := by
      rcases h with h | h
      · exact h
      · rw [h] at hb; cases hb
    subst this
    refine eqF_hit _ l0 l1 0 0 (likeTo_len hb) fun j hj => ?_
    simp only [likeTo, Bool.and_eq_true, List.all_eq_true, List.mem_range] at hb
    simpa [rd] using hb.2 j hj
theorem alike_comm (l0 l1 : List Int) : class_Alike.v l1 l0 = class_Alike.v l0 l1 := by
  have h1 : ∀ a b : List Int, class_Alike.v a b = likeTo a b a.length := fun a b => (likeTo_end (Nat.le_refl _) (.inl rfl)).symm
  rw [h1, h1]
  unfold likeTo
  by_cases hl : l0.length = l1.length
  · simp only [hl, decide_true, Bool.true_and]
    congr 1
    funext i
    exact Bool.beq_comm
  · simp [hl, Ne.symm hl]
set_option maxHeartbeats 8000000 in
set_option maxRecDepth 100000 in
theorem ClassCounts (A0 : Option Addr) (c0 : Nat) (l0 : List Int) (A1 : Option Addr) (c1 : Nat) (l1 : List Int) (w : World) (hr0 : Kd.C (Kd.int .i64) w A0 l0.length l0) (hc0 : l0.length ≤ c0) (hr1 : Kd.C (Kd.int .i64) w A1 l1.length l1) (hc1 : l1.length ≤ c1)
    (G0 : l0.length * 8 ≤ 140737488351232 ∧ ∀ y ∈ l0, (Lit.int .i64 y).wf = true) (G1 : l1.length * 8 ≤ 140737488351232 ∧ ∀ y ∈ l1, (Lit.int .i64 y).wf = true) :
    Calls Try.prog 6 #[.slice A0 l0.length c0, .slice A1 l1.length c1] w fun e w' => e = .returned (.bool true) ∧ Below w.heap.size w w' := by
  have HR0 := Aside0.mk hr0
  have HR1 := Aside0.mk hr1
  clear hr0 hr1 G0 G1
  have Z : Aside0 ((#[.int .i64 0, .int .i64 0, .int .i64 0, .int .i64 0, .int .i64 0, .int .i64 0, .int .i64 0, .int .i64 0, .int .i64 0, .int .i64 0, .int .i64 0, .int .i64 0, .int .i64 0] : Array Value) = (counts 13 class_Of.v []).toArray) := ⟨rfl⟩
  go_enter Try.func6, Try.ntmps6
  by_cases hb0 : (l0.length : Int) > 100
  · have d0 : decide (100 < (l0.length : Int)) = true := decide_eq_true hb0
    have d1 : decide (100 < l0.length) = true := decide_eq_true (by omega)
    go_wp2_with fail
    refine (dactyllaw03_awake.calls true _ rfl).mono ?_
    rintro e w1 ⟨rfl, hb⟩
    go_wp2
    go_ret
    exact ⟨rfl, hb⟩
  by_cases hb1 : (l1.length : Int) > 100
  · have d0 : decide (100 < (l0.length : Int)) = false := decide_eq_false hb0
    have d1 : decide (100 < l0.length) = false := decide_eq_false (by omega)
    have d2 : decide (100 < (l1.length : Int)) = true := decide_eq_true hb1
    have d3 : decide (100 < l1.length) = true := decide_eq_true (by omega)
    go_wp2_with fail
    refine (dactyllaw03_awake.calls true _ rfl).mono ?_
    rintro e w1 ⟨rfl, hb⟩
    go_wp2
    go_ret
    exact ⟨rfl, hb⟩
  have d0 : decide (100 < (l0.length : Int)) = false := decide_eq_false hb0
  have d1 : decide (100 < l0.length) = false := decide_eq_false (by omega)
  have d2 : decide (100 < (l1.length : Int)) = false := decide_eq_false hb1
  have d3 : decide (100 < l1.length) = false := decide_eq_false (by omega)
  go_wp2
  clear d0 d1 d2 d3
  have hl0 : l0.length ≤ 100 := by omega
  have hl1 : l1.length ≤ 100 := by omega
  clear hb0 hb1
  go_loopg [6] l0.length (fun gg s6 wr => ∃ kk : Nat, kk ≤ l0.length ∧ l0.length - kk ≤ gg ∧ s6 = .int .i64 kk ∧ Aside0 (Below w.heap.size w wr) ∧ Aside0 (wr.heap[w.heap.size]? = some (.cells (counts 13 class_Of.v (l0.take kk)).toArray 39 (0, 0))))
  case atStart =>
    refine ⟨0, Nat.zero_le _, by omega, rfl, ⟨by repeat (first | exact Below.refl _ _ | apply below_alloc | apply pw_below_drewN)⟩, ⟨?_⟩⟩
    rw [List.take_zero, ← Z.out]; exact blk_new _ _
  case round =>
    clear Z
    obtain ⟨kk, hkk, hg, rfl, BW, HC⟩ := hrel
    by_cases hlt : kk < l0.length
    · have hltz : (kk : Int) < (l0.length : Int) := by omega
      obtain ⟨ad, rfl, q0⟩ := Kd.at_int (Kd.C_below HR0.out BW.out) (kk : Int) (by omega) hltz
      simp only [Int.toNat_natCast] at q0
      have hx : Aside0 (l0.take (kk + 1) = l0.take kk ++ [rd l0 kk]) := ⟨by rw [List.take_succ_eq_append_getElem hlt]; simp [rd, hlt]⟩
      generalize rd l0 kk = x at *
      have hr1 := (class_Of.range x).1
      have hr2 := (class_Of.range x).2
      have ho := Aside0.mk (ref_Of x 60 (Nat.le_refl _))
      have hsn := Aside0.mk (counts_snoc 13 class_Of.v (l0.take kk) x hr1 (by omega))
      have hget := Aside0.mk (counts_get 13 class_Of.v (l0.take kk) (class_Of.v x).toNat (by omega))
      have hcb : ((l0.take kk).countP fun y => class_Of.v y == class_Of.v x) ≤ kk := Nat.le_trans List.countP_le_length (by simp; omega)
      have hcast : Aside0 (((class_Of.v x).toNat : Int) = class_Of.v x) := ⟨by omega⟩
      rw [hcast.out] at hget
      have hcs := Aside0.mk (counts_length 13 class_Of.v (l0.take kk))
      generalize ((l0.take kk).countP fun y => class_Of.v y == class_Of.v x) = q at *
      generalize hco : counts 13 class_Of.v (l0.take kk) = co at *
      clear hco hcast
      generalize class_Of.v x = o at *
      have hq0 : (0 : Int) ≤ (q : Int) := by omega
      have hq1 : (q : Int) ≤ 9223372036854775806 := by omega
      have ho13 : o < 13 := by omega
      go_wp2_with fail
      refine (dactylref03_Of.calls 60 x o _ ho.out).mono ?_
      rintro e w1 ⟨rfl, hb⟩
      have HC1 := Aside0.mk ((hb.block _ (blk_lt HC.out)).trans HC.out)
      have BW1 : Aside0 (Below w.heap.size w w1) := ⟨below_then BW.out BW.out.size hb⟩
      have c1 : w1.cell? ⟨w.heap.size, o.toNat, none⟩ = some (.int .i64 q) := by
        rw [blk_cell HC1.out]; simpa using hget.out
      have f1 : w1.frozen? ⟨w.heap.size, o.toNat, none⟩ = false := blk_frozen HC1.out _
      clear hb HC BW
      go_wp2
      go_roundg (l0.length - (kk + 1))
      case measure => omega
      case rel =>
        refine ⟨kk + 1, by omega, by omega, by go_num, ⟨BW1.out.setCell (Nat.le_refl _) _⟩, ⟨?_⟩⟩
        rw [hx.out]
        have := blk_set HC1.out o.toNat (.int .i64 (q + 1))
        rw [hsn.out] at this; exact this
    · have hltz : ¬ (kk : Int) < (l0.length : Int) := by omega
      have : kk = l0.length := by omega
      subst this
      rw [List.take_length] at HC
      go_wp2
      go_loopg [7, 8] l0.length (fun gg s7 s8 wq => ∃ kk : Nat, kk ≤ l0.length ∧ l0.length - kk ≤ gg ∧ s7 = .bool (likeTo l0 l1 kk) ∧ s8 = .int .i64 kk ∧ Aside0 (Below w.heap.size w wq) ∧ Aside0 (wq.heap[w.heap.size]? = some (.cells (counts 13 class_Of.v l0).toArray 39 (0, 0))))
      case atStart =>
        refine ⟨0, Nat.zero_le _, by omega, ?_, rfl, BW, HC⟩
        rw [likeTo_zero]
        by_cases hl : l0.length = l1.length
        · simp [hl]
        · have : ¬ (l0.length : Int) = (l1.length : Int) := by omega
          simp [hl, this]
      case round =>
        clear BW HC
        obtain ⟨kk, hkk, hg, rfl, rfl, BW, HC⟩ := hrel
        by_cases hgo : kk < l0.length ∧ likeTo l0 l1 kk = true
        · obtain ⟨hlt, hlk⟩ := hgo
          have hltz : (kk : Int) < (l0.length : Int) := by omega
          have hlt1 : (kk : Int) < (l1.length : Int) := by have := likeTo_len hlk; omega
          obtain ⟨ad0, rfl, q0⟩ := Kd.at_int (Kd.C_below HR0.out BW.out) (kk : Int) (by omega) hltz
          obtain ⟨ad1, rfl, q1⟩ := Kd.at_int (Kd.C_below HR1.out BW.out) (kk : Int) (by omega) hlt1
          simp only [Int.toNat_natCast] at q0 q1
          have hs := Aside0.mk (likeTo_succ hlk)
          rw [hlk]
          generalize rd l0 kk = x at *
          generalize rd l1 kk = y at *
          have o0 := Aside0.mk (ref_Skeleton x 60 (Nat.le_refl _))
          have o1 := Aside0.mk (ref_Skeleton y 60 (Nat.le_refl _))
          have HC0 := HC.out
          have BW0 := BW.out
          clear HC BW
          go_wp2_with fail
          refine start_ (n := 12) (S := fun w' => w'.cell? (ad0.add kk) = some (.int .i64 x) ∧ w'.cell? (ad1.add kk) = some (.int .i64 y)) (ds := []) #[false, false, false, false, false, false, false, false, false, false, false, false] (by kernel_rfl) rfl rfl ⟨q0, q1⟩ (fun hHeld => ?_)
          refine pure_ (i := 0) (N := some 47) (v := ?_) (a' := ?_) #[true, false, false, false, false, false, false, false, false, false, false, false] rfl rfl (by kernel_rfl) (fun _ _ _ h => h) (Or.inl ⟨by rfl, ?_⟩) ?_ ?_
          rotate_left
          · intro w'
            go_simp
            with_reducible rfl
          rotate_left
          · simp only [Act.put, List.setIfInBounds_toArray, List.set_cons_zero, List.set_cons_succ, i64_w, i32_w]
            rfl
          refine pure_ (i := 1) (N := some 48) (v := ?_) (a' := ?_) #[true, true, false, false, false, false, false, false, false, false, false, false] rfl rfl (by kernel_rfl) (fun _ _ _ h => h) (Or.inl ⟨by rfl, ?_⟩) ?_ ?_
          rotate_left
          · intro w'
            go_simp
            with_reducible rfl
          rotate_left
          · simp only [Act.put, List.setIfInBounds_toArray, List.set_cons_zero, List.set_cons_succ, i64_w, i32_w]
            rfl
          refine pure_ (i := 2) (N := some 49) (v := ?_) (a' := ?_) #[true, true, true, false, false, false, false, false, false, false, false, false] rfl rfl (by kernel_rfl) (fun _ _ _ h => h) (Or.inl ⟨by rfl, ?_⟩) ?_ ?_
          rotate_left
          · intro w'
            go_simp
            with_reducible rfl
          rotate_left
          · simp only [Act.put, List.setIfInBounds_toArray, List.set_cons_zero, List.set_cons_succ, i64_w, i32_w]
            rfl
          refine pure_ (i := 5) (N := some 52) (v := ?_) (a' := ?_) #[true, true, true, false, false, true, false, false, false, false, false, false] rfl rfl (by kernel_rfl) (fun _ _ _ h => h) (Or.inl ⟨by rfl, ?_⟩) ?_ ?_
          rotate_left
          · intro w'
            go_simp
            with_reducible rfl
          rotate_left
          · simp only [Act.put, List.setIfInBounds_toArray, List.set_cons_zero, List.set_cons_succ, i64_w, i32_w]
            rfl
          refine pure_ (i := 6) (N := some 53) (v := ?_) (a' := ?_) #[true, true, true, false, false, true, true, false, false, false, false, false] rfl rfl (by kernel_rfl) (fun _ _ _ h => h) (Or.inl ⟨by rfl, ?_⟩) ?_ ?_
          rotate_left
          · intro w'
            go_simp
            with_reducible rfl
          rotate_left
          · simp only [Act.put, List.setIfInBounds_toArray, List.set_cons_zero, List.set_cons_succ, i64_w, i32_w]
            rfl
          refine pure_ (i := 7) (N := some 54) (v := ?_) (a' := ?_) #[true, true, true, false, false, true, true, true, false, false, false, false] rfl rfl (by kernel_rfl) (fun _ _ _ h => h) (Or.inl ⟨by rfl, ?_⟩) ?_ ?_
          rotate_left
          · intro w'
            go_simp
            with_reducible rfl
          rotate_left
          · simp only [Act.put, List.setIfInBounds_toArray, List.set_cons_zero, List.set_cons_succ, i64_w, i32_w]
            rfl
          refine take_ (i := 3) (N := some 50) (v := ?_) (a' := ?_) #[true, true, true, true, false, true, true, true, false, false, false, false] rfl rfl (by kernel_rfl) (fun _ _ _ h => h) (Or.inl ⟨by rfl, ?_⟩) hHeld ?_ ?_
          rotate_left
          · rintro w' ⟨s0, s1⟩
            go_simp
            with_reducible rfl
          rotate_left
          · simp only [Act.put, List.setIfInBounds_toArray, List.set_cons_zero, List.set_cons_succ, i64_w, i32_w]
            rfl
          refine take_ (i := 8) (N := some 55) (v := ?_) (a' := ?_) #[true, true, true, true, false, true, true, true, true, false, false, false] rfl rfl (by kernel_rfl) (fun _ _ _ h => h) (Or.inl ⟨by rfl, ?_⟩) hHeld ?_ ?_
          rotate_left
          · rintro w' ⟨s0, s1⟩
            go_simp
            with_reducible rfl
          rotate_left
          · simp only [Act.put, List.setIfInBounds_toArray, List.set_cons_zero, List.set_cons_succ, i64_w, i32_w]
            rfl
          refine one_ (i := 4) (N := some 51) #[true, true, true, true, true, true, true, true, true, false, false, false] rfl rfl (by kernel_rfl) (by decide) (fun K hK => ?_)
          refine goes_ Try.func28 (by kernel_rfl) rfl #[.int .i64 x] (by rfl) rfl rfl (by simp only [List.map_toArray, List.map_cons, List.map_nil]; rfl) ?_
          with_reducible refine (dactylref03_Skeleton.calls 60 x (class_Skeleton.v x) _ o0.out).mono ?_
          rintro e w1 ⟨rfl, hb⟩
          refine ⟨_, rfl, ?_⟩
          refine hK.out _ _ ⟨pw_cell_below hb hHeld.1, pw_cell_below hb hHeld.2⟩ (fun hHeld => ?_)
          clear hK K
          refine norm_ (a' := ?_) ?_ ?_
          rotate_left
          · show Act.put _ (some 51) _ = _
            simp only [Act.put, List.setIfInBounds_toArray, List.set_cons_zero, List.set_cons_succ, i64_w, i32_w]
            rfl
          refine one_ (i := 9) (N := some 56) #[true, true, true, true, true, true, true, true, true, true, false, false] rfl rfl (by kernel_rfl) (by decide) (fun K hK => ?_)
          refine goes_ Try.func28 (by kernel_rfl) rfl #[.int .i64 y] (by rfl) rfl rfl (by simp only [List.map_toArray, List.map_cons, List.map_nil]; rfl) ?_
          with_reducible refine (dactylref03_Skeleton.calls 60 y (class_Skeleton.v y) _ o1.out).mono ?_
          rintro e w2 ⟨rfl, hd⟩
          refine ⟨_, rfl, ?_⟩
          refine hK.out _ _ ⟨pw_cell_below hd hHeld.1, pw_cell_below hd hHeld.2⟩ (fun hHeld => ?_)
          clear hK K
          refine norm_ (a' := ?_) ?_ ?_
          rotate_left
          · show Act.put _ (some 56) _ = _
            simp only [Act.put, List.setIfInBounds_toArray, List.set_cons_zero, List.set_cons_succ, i64_w, i32_w]
            rfl
          refine pure_ (i := 10) (N := some 57) (v := ?_) (a' := ?_) #[true, true, true, true, true, true, true, true, true, true, true, false] rfl rfl (by kernel_rfl) (fun _ _ _ h => h) (Or.inl ⟨by rfl, ?_⟩) ?_ ?_
          rotate_left
          · intro w'
            go_simp
            with_reducible rfl
          rotate_left
          · simp only [Act.put, List.setIfInBounds_toArray, List.set_cons_zero, List.set_cons_succ, i64_w, i32_w]
            rfl
          refine pure_ (i := 11) (N := some 7) (v := ?_) (a' := ?_) #[true, true, true, true, true, true, true, true, true, true, true, true] rfl rfl (by kernel_rfl) (fun _ _ _ h => h) (Or.inl ⟨by rfl, ?_⟩) ?_ ?_
          rotate_left
          · intro w'
            go_simp
            with_reducible rfl
          rotate_left
          · simp only [Act.put, List.setIfInBounds_toArray, List.set_cons_zero, List.set_cons_succ, i64_w, i32_w]
            rfl
          refine done_ (by kernel_rfl) ?_
          have hb' : Below wr.heap.size wr w1 := below_then (below_drew (Below.refl _ _)) (Nat.le_refl _) hb
          have HC1 := (hb'.block _ (blk_lt HC0)).trans HC0
          have BW2 := below_then (below_then BW0 BW0.size hb') (below_then BW0 BW0.size hb').size hd
          have HC2 := (hd.block _ (blk_lt HC1)).trans HC1
          have BW2' := Aside0.mk BW2
          have HC2' := Aside0.mk HC2
          clear hHeld hb hb' hd BW0 HC0 HC1 BW2 HC2
          go_wp2
          go_roundg (l0.length - (kk + 1))
          case measure => omega
          case rel =>
            exact ⟨kk + 1, by omega, by omega, by rw [hs.out], by go_num, BW2', HC2'⟩
        · have hal := likeTo_end hkk (show kk = l0.length ∨ likeTo l0 l1 kk = false by
            rcases hb : likeTo l0 l1 kk with _ | _
            · exact .inr rfl
            · left; rcases Nat.lt_or_ge kk l0.length with h | h
              · exact absurd ⟨h, hb⟩ hgo
              · omega)
          have a0 := Aside0.mk (show class_Alike.f l0 l1 = some (likeTo l0 l1 kk) by rw [hal]; rfl)
          have a1 := Aside0.mk (show class_Alike.f l1 l0 = some (likeTo l0 l1 kk) by rw [hal, ← alike_comm]; rfl)
          clear hal
          generalize likeTo l0 l1 kk = al at *
          have hco : ∃ n0 n1 n2 n3 n4 n5 n6 n7 n8 n9 n10 n11 n12 : Int, (counts 13 class_Of.v l0).toArray = #[.int .i64 n0, .int .i64 n1, .int .i64 n2, .int .i64 n3, .int .i64 n4, .int .i64 n5, .int .i64 n6, .int .i64 n7, .int .i64 n8, .int .i64 n9, .int .i64 n10, .int .i64 n11, .int .i64 n12] := ⟨_, _, _, _, _, _, _, _, _, _, _, _, _, rfl⟩
          obtain ⟨n0, n1, n2, n3, n4, n5, n6, n7, n8, n9, n10, n11, n12, hco⟩ := hco
          have HCO := Aside0.mk hco
          have hcol : (counts 13 class_Of.v l0).length = 13 := counts_length _ _ _
          have hself := fun w' : World => eqArr_self Try.underlying39 Try.underlying3 (by kernel_rfl) (by kernel_rfl) (counts 13 class_Of.v l0).toArray 9998 w' (fun j hj => ⟨_, by rw [List.getElem?_toArray]; exact counts_get 13 class_Of.v l0 j (List.mem_range.1 hj)⟩)
          rw [hco] at hself
          clear hcol
          rw [hco] at HC
          clear hco
          have HC0 := HC.out
          have BW0 := BW.out
          clear HC BW
          have hw : (kk : Int) < (l0.length : Int) → al = false := fun h => by
            rcases al with _ | _
            · rfl
            · exact absurd ⟨by omega, rfl⟩ hgo
          clear hgo
          by_cases hltz : (kk : Int) < (l0.length : Int)
          · obtain rfl := hw hltz
            clear hw
            go_wp2_with fail
            refine start_ (n := 22) (S := fun w' => w'.heap[w.heap.size]? = some (.cells #[.int .i64 n0, .int .i64 n1, .int .i64 n2, .int .i64 n3, .int .i64 n4, .int .i64 n5, .int .i64 n6, .int .i64 n7, .int .i64 n8, .int .i64 n9, .int .i64 n10, .int .i64 n11, .int .i64 n12] 39 (0, 0))) (ds := []) #[false, false, false, false, false, false, false, false, false, false, false, false, false, false, false, false, false, false, false, false, false, false] (by kernel_rfl) rfl rfl (HC0) (fun hHeld => ?_)
            refine one_ (i := 0) (N := some 58) #[true, false, false, false, false, false, false, false, false, false, false, false, false, false, false, false, false, false, false, false, false, false] rfl rfl (by kernel_rfl) (by decide) (fun K hK => ?_)
            refine goes_ Try.func23 (by kernel_rfl) rfl #[] (by rfl) rfl rfl (by simp only [List.map_toArray, List.map_nil]) ?_
            with_reducible refine (dactyllaw03_awake.calls true _ rfl).mono ?_
            rintro e w1 ⟨rfl, h1⟩
            refine ⟨_, rfl, ?_⟩
            refine hK.out _ _ ((h1.block _ (blk_lt hHeld)).trans hHeld) (fun hHeld => ?_)
            clear hK K
            refine norm_ (a' := ?_) ?_ ?_
            rotate_left
            · show Act.put _ (some 58) _ = _
              simp only [Act.put, List.setIfInBounds_toArray, List.set_cons_zero, List.set_cons_succ, i64_w, i32_w]
              rfl
            refine pure_ (i := 1) (N := some 59) (v := ?_) (a' := ?_) #[true, true, false, false, false, false, false, false, false, false, false, false, false, false, false, false, false, false, false, false, false, false] rfl rfl (by kernel_rfl) (fun _ _ _ h => h) (Or.inl ⟨by rfl, ?_⟩) ?_ ?_
            rotate_left
            · intro w'
              go_simp
              with_reducible rfl
            rotate_left
            · simp only [Act.put, List.setIfInBounds_toArray, List.set_cons_zero, List.set_cons_succ, i64_w, i32_w]
              rfl
            refine pure_ (i := 2) (N := some 60) (v := ?_) (a' := ?_) #[true, true, true, false, false, false, false, false, false, false, false, false, false, false, false, false, false, false, false, false, false, false] rfl rfl (by kernel_rfl) (fun _ _ _ h => h) (Or.inl ⟨by rfl, ?_⟩) ?_ ?_
            rotate_left
            · intro w'
              go_simp
              with_reducible rfl
            rotate_left
            · simp only [Act.put, List.setIfInBounds_toArray, List.set_cons_zero, List.set_cons_succ, i64_w, i32_w]
              rfl
            refine take_ (i := 4) (N := some 62) (v := ?_) (a' := ?_) #[true, true, true, false, true, false, false, false, false, false, false, false, false, false, false, false, false, false, false, false, false, false] rfl rfl (by kernel_rfl) (fun _ _ _ h => h) (Or.inl ⟨by rfl, ?_⟩) hHeld ?_ ?_
            rotate_left
            · intro w' s0
              have e0 : w'.cell? ⟨w.heap.size, 0, none⟩ = some (.int .i64 n0) := (blk_cell s0 0).trans rfl; have e1 : w'.cell? ⟨w.heap.size, 1, none⟩ = some (.int .i64 n1) := (blk_cell s0 1).trans rfl; have e2 : w'.cell? ⟨w.heap.size, 2, none⟩ = some (.int .i64 n2) := (blk_cell s0 2).trans rfl; have e3 : w'.cell? ⟨w.heap.size, 3, none⟩ = some (.int .i64 n3) := (blk_cell s0 3).trans rfl; have e4 : w'.cell? ⟨w.heap.size, 4, none⟩ = some (.int .i64 n4) := (blk_cell s0 4).trans rfl; have e5 : w'.cell? ⟨w.heap.size, 5, none⟩ = some (.int .i64 n5) := (blk_cell s0 5).trans rfl; have e6 : w'.cell? ⟨w.heap.size, 6, none⟩ = some (.int .i64 n6) := (blk_cell s0 6).trans rfl; have e7 : w'.cell? ⟨w.heap.size, 7, none⟩ = some (.int .i64 n7) := (blk_cell s0 7).trans rfl; have e8 : w'.cell? ⟨w.heap.size, 8, none⟩ = some (.int .i64 n8) := (blk_cell s0 8).trans rfl; have e9 : w'.cell? ⟨w.heap.size, 9, none⟩ = some (.int .i64 n9) := (blk_cell s0 9).trans rfl; have e10 : w'.cell? ⟨w.heap.size, 10, none⟩ = some (.int .i64 n10) := (blk_cell s0 10).trans rfl; have e11 : w'.cell? ⟨w.heap.size, 11, none⟩ = some (.int .i64 n11) := (blk_cell s0 11).trans rfl; have e12 : w'.cell? ⟨w.heap.size, 12, none⟩ = some (.int .i64 n12) := (blk_cell s0 12).trans rfl
              go_simp
              with_reducible rfl
            rotate_left
            · simp only [Act.put, List.setIfInBounds_toArray, List.set_cons_zero, List.set_cons_succ, i64_w, i32_w]
              rfl
            refine one_ (i := 3) (N := some 61) #[true, true, true, true, true, false, false, false, false, false, false, false, false, false, false, false, false, false, false, false, false, false] rfl rfl (by kernel_rfl) (by decide) (fun K hK => ?_)
            refine goes_ Try.func29 (by kernel_rfl) rfl #[.slice A0 l0.length c0] (by rfl) rfl rfl (by simp only [List.map_toArray, List.map_cons, List.map_nil]; rfl) ?_
            with_reducible refine (class_Count.calls A0 c0 l0 _ (Kd.C_below (Kd.C_drew (Kd.C_below HR0.out BW0)) h1)).mono ?_
            rintro e w2 ⟨rfl, h2⟩
            refine ⟨_, rfl, ?_⟩
            rw [HCO.out]
            refine hK.out _ _ ((h2.block _ (blk_lt hHeld)).trans hHeld) (fun hHeld => ?_)
            clear hK K
            refine norm_ (a' := ?_) ?_ ?_
            rotate_left
            · show Act.put _ (some 61) _ = _
              simp only [Act.put, List.setIfInBounds_toArray, List.set_cons_zero, List.set_cons_succ, i64_w, i32_w]
              rfl
            refine pure_ (i := 5) (N := some 63) (v := ?_) (a' := ?_) #[true, true, true, true, true, true, false, false, false, false, false, false, false, false, false, false, false, false, false, false, false, false] rfl rfl (by kernel_rfl) (fun _ _ _ h => h) (Or.inl ⟨by rfl, ?_⟩) ?_ ?_
            rotate_left
            · intro w'
              have hs_ := hself w'
              go_simp
              with_reducible rfl
            rotate_left
            · simp only [Act.put, List.setIfInBounds_toArray, List.set_cons_zero, List.set_cons_succ, i64_w, i32_w]
              rfl
            refine pure_ (i := 6) (N := some 64) (v := ?_) (a' := ?_) #[true, true, true, true, true, true, true, false, false, false, false, false, false, false, false, false, false, false, false, false, false, false] rfl rfl (by kernel_rfl) (fun _ _ _ h => h) (Or.inl ⟨by rfl, ?_⟩) ?_ ?_
            rotate_left
            · intro w'
              go_simp
              with_reducible rfl
            rotate_left
            · simp only [Act.put, List.setIfInBounds_toArray, List.set_cons_zero, List.set_cons_succ, i64_w, i32_w]
              rfl
            refine pure_ (i := 7) (N := some 65) (v := ?_) (a' := ?_) #[true, true, true, true, true, true, true, true, false, false, false, false, false, false, false, false, false, false, false, false, false, false] rfl rfl (by kernel_rfl) (fun _ _ _ h => h) (Or.inl ⟨by rfl, ?_⟩) ?_ ?_
            rotate_left
            · intro w'
              go_simp
              with_reducible rfl
            rotate_left
            · simp only [Act.put, List.setIfInBounds_toArray, List.set_cons_zero, List.set_cons_succ, i64_w, i32_w]
              rfl
            refine pure_ (i := 8) (N := some 66) (v := ?_) (a' := ?_) #[true, true, true, true, true, true, true, true, true, false, false, false, false, false, false, false, false, false, false, false, false, false] rfl rfl (by kernel_rfl) (fun _ _ _ h => h) (Or.inl ⟨by rfl, ?_⟩) ?_ ?_
            rotate_left
            · intro w'
              go_simp
              with_reducible rfl
            rotate_left
            · simp only [Act.put, List.setIfInBounds_toArray, List.set_cons_zero, List.set_cons_succ, i64_w, i32_w]
              rfl
            refine pure_ (i := 9) (N := some 67) (v := ?_) (a' := ?_) #[true, true, true, true, true, true, true, true, true, true, false, false, false, false, false, false, false, false, false, false, false, false] rfl rfl (by kernel_rfl) (fun _ _ _ h => h) (Or.inl ⟨by rfl, ?_⟩) ?_ ?_
            rotate_left
            · intro w'
              go_simp
              with_reducible rfl
            rotate_left
            · simp only [Act.put, List.setIfInBounds_toArray, List.set_cons_zero, List.set_cons_succ, i64_w, i32_w]
              rfl
            refine pure_ (i := 11) (N := some 69) (v := ?_) (a' := ?_) #[true, true, true, true, true, true, true, true, true, true, false, true, false, false, false, false, false, false, false, false, false, false] rfl rfl (by kernel_rfl) (fun _ _ _ h => h) (Or.inl ⟨by rfl, ?_⟩) ?_ ?_
            rotate_left
            · intro w'
              go_simp
              with_reducible rfl
            rotate_left
            · simp only [Act.put, List.setIfInBounds_toArray, List.set_cons_zero, List.set_cons_succ, i64_w, i32_w]
              rfl
            refine one_ (i := 10) (N := some 68) #[true, true, true, true, true, true, true, true, true, true, true, true, false, false, false, false, false, false, false, false, false, false] rfl rfl (by kernel_rfl) (by decide) (fun K hK => ?_)
            refine goes_ Try.func30 (by kernel_rfl) rfl #[.slice A0 l0.length c0, .slice A1 l1.length c1] (by rfl) rfl rfl (by simp only [List.map_toArray, List.map_cons, List.map_nil]; rfl) ?_
            with_reducible refine (class_Alike.calls A0 c0 l0 A1 c1 l1 false _ (Kd.C_below (Kd.C_below (Kd.C_drew (Kd.C_below HR0.out BW0)) h1) h2) hc0 (Kd.C_below (Kd.C_below (Kd.C_drew (Kd.C_below HR1.out BW0)) h1) h2) hc1 a0.out).mono ?_
            rintro e w3 ⟨rfl, h3⟩
            refine ⟨_, rfl, ?_⟩
            refine hK.out _ _ ((h3.block _ (blk_lt hHeld)).trans hHeld) (fun hHeld => ?_)
            clear hK K
            refine norm_ (a' := ?_) ?_ ?_
            rotate_left
            · show Act.put _ (some 68) _ = _
              simp only [Act.put, List.setIfInBounds_toArray, List.set_cons_zero, List.set_cons_succ, i64_w, i32_w]
              rfl
            refine pure_ (i := 12) (N := some 70) (v := ?_) (a' := ?_) #[true, true, true, true, true, true, true, true, true, true, true, true, true, false, false, false, false, false, false, false, false, false] rfl rfl (by kernel_rfl) (fun _ _ _ h => h) (Or.inl ⟨by rfl, ?_⟩) ?_ ?_
            rotate_left
            · intro w'
              go_simp
              with_reducible rfl
            rotate_left
            · simp only [Act.put, List.setIfInBounds_toArray, List.set_cons_zero, List.set_cons_succ, i64_w, i32_w]
              rfl
            refine pure_ (i := 13) (N := some 71) (v := ?_) (a' := ?_) #[true, true, true, true, true, true, true, true, true, true, true, true, true, true, false, false, false, false, false, false, false, false] rfl rfl (by kernel_rfl) (fun _ _ _ h => h) (Or.inl ⟨by rfl, ?_⟩) ?_ ?_
            rotate_left
            · intro w'
              go_simp
              with_reducible rfl
            rotate_left
            · simp only [Act.put, List.setIfInBounds_toArray, List.set_cons_zero, List.set_cons_succ, i64_w, i32_w]
              rfl
            refine pure_ (i := 14) (N := some 72) (v := ?_) (a' := ?_) #[true, true, true, true, true, true, true, true, true, true, true, true, true, true, true, false, false, false, false, false, false, false] rfl rfl (by kernel_rfl) (fun _ _ _ h => h) (Or.inl ⟨by rfl, ?_⟩) ?_ ?_
            rotate_left
            · intro w'
              go_simp
              with_reducible rfl
            rotate_left
            · simp only [Act.put, List.setIfInBounds_toArray, List.set_cons_zero, List.set_cons_succ, i64_w, i32_w]
              rfl
            refine pure_ (i := 15) (N := some 73) (v := ?_) (a' := ?_) #[true, true, true, true, true, true, true, true, true, true, true, true, true, true, true, true, false, false, false, false, false, false] rfl rfl (by kernel_rfl) (fun _ _ _ h => h) (Or.inl ⟨by rfl, ?_⟩) ?_ ?_
            rotate_left
            · intro w'
              go_simp
              with_reducible rfl
            rotate_left
            · simp only [Act.put, List.setIfInBounds_toArray, List.set_cons_zero, List.set_cons_succ, i64_w, i32_w]
              rfl
            refine pure_ (i := 16) (N := some 74) (v := ?_) (a' := ?_) #[true, true, true, true, true, true, true, true, true, true, true, true, true, true, true, true, true, false, false, false, false, false] rfl rfl (by kernel_rfl) (fun _ _ _ h => h) (Or.inl ⟨by rfl, ?_⟩) ?_ ?_
            rotate_left
            · intro w'
              go_simp
              with_reducible rfl
            rotate_left
            · simp only [Act.put, List.setIfInBounds_toArray, List.set_cons_zero, List.set_cons_succ, i64_w, i32_w]
              rfl
            refine pure_ (i := 18) (N := some 76) (v := ?_) (a' := ?_) #[true, true, true, true, true, true, true, true, true, true, true, true, true, true, true, true, true, false, true, false, false, false] rfl rfl (by kernel_rfl) (fun _ _ _ h => h) (Or.inl ⟨by rfl, ?_⟩) ?_ ?_
            rotate_left
            · intro w'
              go_simp
              with_reducible rfl
            rotate_left
            · simp only [Act.put, List.setIfInBounds_toArray, List.set_cons_zero, List.set_cons_succ, i64_w, i32_w]
              rfl
            refine one_ (i := 17) (N := some 75) #[true, true, true, true, true, true, true, true, true, true, true, true, true, true, true, true, true, true, true, false, false, false] rfl rfl (by kernel_rfl) (by decide) (fun K hK => ?_)
            refine goes_ Try.func30 (by kernel_rfl) rfl #[.slice A1 l1.length c1, .slice A0 l0.length c0] (by rfl) rfl rfl (by simp only [List.map_toArray, List.map_cons, List.map_nil]; rfl) ?_
            with_reducible refine (class_Alike.calls A1 c1 l1 A0 c0 l0 false _ (Kd.C_below (Kd.C_below (Kd.C_below (Kd.C_drew (Kd.C_below HR1.out BW0)) h1) h2) h3) hc1 (Kd.C_below (Kd.C_below (Kd.C_below (Kd.C_drew (Kd.C_below HR0.out BW0)) h1) h2) h3) hc0 a1.out).mono ?_
            rintro e w4 ⟨rfl, h4⟩
            refine ⟨_, rfl, ?_⟩
            refine hK.out _ _ ((h4.block _ (blk_lt hHeld)).trans hHeld) (fun hHeld => ?_)
            clear hK K
            refine norm_ (a' := ?_) ?_ ?_
            rotate_left
            · show Act.put _ (some 75) _ = _
              simp only [Act.put, List.setIfInBounds_toArray, List.set_cons_zero, List.set_cons_succ, i64_w, i32_w]
              rfl
            refine pure_ (i := 19) (N := some 77) (v := ?_) (a' := ?_) #[true, true, true, true, true, true, true, true, true, true, true, true, true, true, true, true, true, true, true, true, false, false] rfl rfl (by kernel_rfl) (fun _ _ _ h => h) (Or.inl ⟨by rfl, ?_⟩) ?_ ?_
            rotate_left
            · intro w'
              go_simp
              with_reducible rfl
            rotate_left
            · simp only [Act.put, List.setIfInBounds_toArray, List.set_cons_zero, List.set_cons_succ, i64_w, i32_w]
              rfl
            refine pure_ (i := 20) (N := some 78) (v := ?_) (a' := ?_) #[true, true, true, true, true, true, true, true, true, true, true, true, true, true, true, true, true, true, true, true, true, false] rfl rfl (by kernel_rfl) (fun _ _ _ h => h) (Or.inl ⟨by rfl, ?_⟩) ?_ ?_
            rotate_left
            · intro w'
              go_simp
              with_reducible rfl
            rotate_left
            · simp only [Act.put, List.setIfInBounds_toArray, List.set_cons_zero, List.set_cons_succ, i64_w, i32_w]
              rfl
            refine pure_ (i := 21) (N := some 4) (v := ?_) (a' := ?_) #[true, true, true, true, true, true, true, true, true, true, true, true, true, true, true, true, true, true, true, true, true, true] rfl rfl (by kernel_rfl) (fun _ _ _ h => h) (Or.inl ⟨by rfl, ?_⟩) ?_ ?_
            rotate_left
            · intro w'
              go_simp
              with_reducible rfl
            rotate_left
            · simp only [Act.put, List.setIfInBounds_toArray, List.set_cons_zero, List.set_cons_succ, i64_w, i32_w]
              rfl
            refine done_ (by kernel_rfl) ?_
            have B1 := below_then BW0 BW0.size (below_then (below_drew (Below.refl _ _)) (Nat.le_refl _) h1)
            have B2 := below_then B1 B1.size h2
            have B3 := below_then B2 B2.size h3
            have B4 := Aside0.mk (below_then B3 B3.size h4)
            clear h1 h2 h3 h4 B1 B2 B3 BW0 hself
            go_wp2
            go_ret
            exact ⟨rfl, B4.out⟩
          · clear hw
            go_wp2_with fail
            refine start_ (n := 22) (S := fun w' => w'.heap[w.heap.size]? = some (.cells #[.int .i64 n0, .int .i64 n1, .int .i64 n2, .int .i64 n3, .int .i64 n4, .int .i64 n5, .int .i64 n6, .int .i64 n7, .int .i64 n8, .int .i64 n9, .int .i64 n10, .int .i64 n11, .int .i64 n12] 39 (0, 0))) (ds := []) #[false, false, false, false, false, false, false, false, false, false, false, false, false, false, false, false, false, false, false, false, false, false] (by kernel_rfl) rfl rfl (HC0) (fun hHeld => ?_)
            refine one_ (i := 0) (N := some 58) #[true, false, false, false, false, false, false, false, false, false, false, false, false, false, false, false, false, false, false, false, false, false] rfl rfl (by kernel_rfl) (by decide) (fun K hK => ?_)
            refine goes_ Try.func23 (by kernel_rfl) rfl #[] (by rfl) rfl rfl (by simp only [List.map_toArray, List.map_nil]) ?_
            with_reducible refine (dactyllaw03_awake.calls true _ rfl).mono ?_
            rintro e w1 ⟨rfl, h1⟩
            refine ⟨_, rfl, ?_⟩
            refine hK.out _ _ ((h1.block _ (blk_lt hHeld)).trans hHeld) (fun hHeld => ?_)
            clear hK K
            refine norm_ (a' := ?_) ?_ ?_
            rotate_left
            · show Act.put _ (some 58) _ = _
              simp only [Act.put, List.setIfInBounds_toArray, List.set_cons_zero, List.set_cons_succ, i64_w, i32_w]
              rfl
            refine pure_ (i := 1) (N := some 59) (v := ?_) (a' := ?_) #[true, true, false, false, false, false, false, false, false, false, false, false, false, false, false, false, false, false, false, false, false, false] rfl rfl (by kernel_rfl) (fun _ _ _ h => h) (Or.inl ⟨by rfl, ?_⟩) ?_ ?_
            rotate_left
            · intro w'
              go_simp
              with_reducible rfl
            rotate_left
            · simp only [Act.put, List.setIfInBounds_toArray, List.set_cons_zero, List.set_cons_succ, i64_w, i32_w]
              rfl
            refine pure_ (i := 2) (N := some 60) (v := ?_) (a' := ?_) #[true, true, true, false, false, false, false, false, false, false, false, false, false, false, false, false, false, false, false, false, false, false] rfl rfl (by kernel_rfl) (fun _ _ _ h => h) (Or.inl ⟨by rfl, ?_⟩) ?_ ?_
            rotate_left
            · intro w'
              go_simp
              with_reducible rfl
            rotate_left
            · simp only [Act.put, List.setIfInBounds_toArray, List.set_cons_zero, List.set_cons_succ, i64_w, i32_w]
              rfl
            refine take_ (i := 4) (N := some 62) (v := ?_) (a' := ?_) #[true, true, true, false, true, false, false, false, false, false, false, false, false, false, false, false, false, false, false, false, false, false] rfl rfl (by kernel_rfl) (fun _ _ _ h => h) (Or.inl ⟨by rfl, ?_⟩) hHeld ?_ ?_
            rotate_left
            · intro w' s0
              have e0 : w'.cell? ⟨w.heap.size, 0, none⟩ = some (.int .i64 n0) := (blk_cell s0 0).trans rfl; have e1 : w'.cell? ⟨w.heap.size, 1, none⟩ = some (.int .i64 n1) := (blk_cell s0 1).trans rfl; have e2 : w'.cell? ⟨w.heap.size, 2, none⟩ = some (.int .i64 n2) := (blk_cell s0 2).trans rfl; have e3 : w'.cell? ⟨w.heap.size, 3, none⟩ = some (.int .i64 n3) := (blk_cell s0 3).trans rfl; have e4 : w'.cell? ⟨w.heap.size, 4, none⟩ = some (.int .i64 n4) := (blk_cell s0 4).trans rfl; have e5 : w'.cell? ⟨w.heap.size, 5, none⟩ = some (.int .i64 n5) := (blk_cell s0 5).trans rfl; have e6 : w'.cell? ⟨w.heap.size, 6, none⟩ = some (.int .i64 n6) := (blk_cell s0 6).trans rfl; have e7 : w'.cell? ⟨w.heap.size, 7, none⟩ = some (.int .i64 n7) := (blk_cell s0 7).trans rfl; have e8 : w'.cell? ⟨w.heap.size, 8, none⟩ = some (.int .i64 n8) := (blk_cell s0 8).trans rfl; have e9 : w'.cell? ⟨w.heap.size, 9, none⟩ = some (.int .i64 n9) := (blk_cell s0 9).trans rfl; have e10 : w'.cell? ⟨w.heap.size, 10, none⟩ = some (.int .i64 n10) := (blk_cell s0 10).trans rfl; have e11 : w'.cell? ⟨w.heap.size, 11, none⟩ = some (.int .i64 n11) := (blk_cell s0 11).trans rfl; have e12 : w'.cell? ⟨w.heap.size, 12, none⟩ = some (.int .i64 n12) := (blk_cell s0 12).trans rfl
              go_simp
              with_reducible rfl
            rotate_left
            · simp only [Act.put, List.setIfInBounds_toArray, List.set_cons_zero, List.set_cons_succ, i64_w, i32_w]
              rfl
            refine one_ (i := 3) (N := some 61) #[true, true, true, true, true, false, false, false, false, false, false, false, false, false, false, false, false, false, false, false, false, false] rfl rfl (by kernel_rfl) (by decide) (fun K hK => ?_)
            refine goes_ Try.func29 (by kernel_rfl) rfl #[.slice A0 l0.length c0] (by rfl) rfl rfl (by simp only [List.map_toArray, List.map_cons, List.map_nil]; rfl) ?_
            with_reducible refine (class_Count.calls A0 c0 l0 _ (Kd.C_below (Kd.C_drew (Kd.C_below HR0.out BW0)) h1)).mono ?_
            rintro e w2 ⟨rfl, h2⟩
            refine ⟨_, rfl, ?_⟩
            rw [HCO.out]
            refine hK.out _ _ ((h2.block _ (blk_lt hHeld)).trans hHeld) (fun hHeld => ?_)
            clear hK K
            refine norm_ (a' := ?_) ?_ ?_
            rotate_left
            · show Act.put _ (some 61) _ = _
              simp only [Act.put, List.setIfInBounds_toArray, List.set_cons_zero, List.set_cons_succ, i64_w, i32_w]
              rfl
            refine pure_ (i := 5) (N := some 63) (v := ?_) (a' := ?_) #[true, true, true, true, true, true, false, false, false, false, false, false, false, false, false, false, false, false, false, false, false, false] rfl rfl (by kernel_rfl) (fun _ _ _ h => h) (Or.inl ⟨by rfl, ?_⟩) ?_ ?_
            rotate_left
            · intro w'
              have hs_ := hself w'
              go_simp
              with_reducible rfl
            rotate_left
            · simp only [Act.put, List.setIfInBounds_toArray, List.set_cons_zero, List.set_cons_succ, i64_w, i32_w]
              rfl
            refine pure_ (i := 6) (N := some 64) (v := ?_) (a' := ?_) #[true, true, true, true, true, true, true, false, false, false, false, false, false, false, false, false, false, false, false, false, false, false] rfl rfl (by kernel_rfl) (fun _ _ _ h => h) (Or.inl ⟨by rfl, ?_⟩) ?_ ?_
            rotate_left
            · intro w'
              go_simp
              with_reducible rfl
            rotate_left
            · simp only [Act.put, List.setIfInBounds_toArray, List.set_cons_zero, List.set_cons_succ, i64_w, i32_w]
              rfl
            refine pure_ (i := 7) (N := some 65) (v := ?_) (a' := ?_) #[true, true, true, true, true, true, true, true, false, false, false, false, false, false, false, false, false, false, false, false, false, false] rfl rfl (by kernel_rfl) (fun _ _ _ h => h) (Or.inl ⟨by rfl, ?_⟩) ?_ ?_
            rotate_left
            · intro w'
              go_simp
              with_reducible rfl
            rotate_left
            · simp only [Act.put, List.setIfInBounds_toArray, List.set_cons_zero, List.set_cons_succ, i64_w, i32_w]
              rfl
            refine pure_ (i := 8) (N := some 66) (v := ?_) (a' := ?_) #[true, true, true, true, true, true, true, true, true, false, false, false, false, false, false, false, false, false, false, false, false, false] rfl rfl (by kernel_rfl) (fun _ _ _ h => h) (Or.inl ⟨by rfl, ?_⟩) ?_ ?_
            rotate_left
            · intro w'
              go_simp
              with_reducible rfl
            rotate_left
            · simp only [Act.put, List.setIfInBounds_toArray, List.set_cons_zero, List.set_cons_succ, i64_w, i32_w]
              rfl
            refine pure_ (i := 9) (N := some 67) (v := ?_) (a' := ?_) #[true, true, true, true, true, true, true, true, true, true, false, false, false, false, false, false, false, false, false, false, false, false] rfl rfl (by kernel_rfl) (fun _ _ _ h => h) (Or.inl ⟨by rfl, ?_⟩) ?_ ?_
            rotate_left
            · intro w'
              go_simp
              with_reducible rfl
            rotate_left
            · simp only [Act.put, List.setIfInBounds_toArray, List.set_cons_zero, List.set_cons_succ, i64_w, i32_w]
              rfl
            refine pure_ (i := 11) (N := some 69) (v := ?_) (a' := ?_) #[true, true, true, true, true, true, true, true, true, true, false, true, false, false, false, false, false, false, false, false, false, false] rfl rfl (by kernel_rfl) (fun _ _ _ h => h) (Or.inl ⟨by rfl, ?_⟩) ?_ ?_
            rotate_left
            · intro w'
              go_simp
              with_reducible rfl
            rotate_left
            · simp only [Act.put, List.setIfInBounds_toArray, List.set_cons_zero, List.set_cons_succ, i64_w, i32_w]
              rfl
            refine one_ (i := 10) (N := some 68) #[true, true, true, true, true, true, true, true, true, true, true, true, false, false, false, false, false, false, false, false, false, false] rfl rfl (by kernel_rfl) (by decide) (fun K hK => ?_)
            refine goes_ Try.func30 (by kernel_rfl) rfl #[.slice A0 l0.length c0, .slice A1 l1.length c1] (by rfl) rfl rfl (by simp only [List.map_toArray, List.map_cons, List.map_nil]; rfl) ?_
            with_reducible refine (class_Alike.calls A0 c0 l0 A1 c1 l1 al _ (Kd.C_below (Kd.C_below (Kd.C_drew (Kd.C_below HR0.out BW0)) h1) h2) hc0 (Kd.C_below (Kd.C_below (Kd.C_drew (Kd.C_below HR1.out BW0)) h1) h2) hc1 a0.out).mono ?_
            rintro e w3 ⟨rfl, h3⟩
            refine ⟨_, rfl, ?_⟩
            refine hK.out _ _ ((h3.block _ (blk_lt hHeld)).trans hHeld) (fun hHeld => ?_)
            clear hK K
            refine norm_ (a' := ?_) ?_ ?_
            rotate_left
            · show Act.put _ (some 68) _ = _
              simp only [Act.put, List.setIfInBounds_toArray, List.set_cons_zero, List.set_cons_succ, i64_w, i32_w]
              rfl
            refine pure_ (i := 12) (N := some 70) (v := ?_) (a' := ?_) #[true, true, true, true, true, true, true, true, true, true, true, true, true, false, false, false, false, false, false, false, false, false] rfl rfl (by kernel_rfl) (fun _ _ _ h => h) (Or.inl ⟨by rfl, ?_⟩) ?_ ?_
            rotate_left
            · intro w'
              go_simp
              with_reducible rfl
            rotate_left
            · simp only [Act.put, List.setIfInBounds_toArray, List.set_cons_zero, List.set_cons_succ, i64_w, i32_w]
              rfl
            refine pure_ (i := 13) (N := some 71) (v := ?_) (a' := ?_) #[true, true, true, true, true, true, true, true, true, true, true, true, true, true, false, false, false, false, false, false, false, false] rfl rfl (by kernel_rfl) (fun _ _ _ h => h) (Or.inl ⟨by rfl, ?_⟩) ?_ ?_
            rotate_left
            · intro w'
              go_simp
              with_reducible rfl
            rotate_left
            · simp only [Act.put, List.setIfInBounds_toArray, List.set_cons_zero, List.set_cons_succ, i64_w, i32_w]
              rfl
            refine pure_ (i := 14) (N := some 72) (v := ?_) (a' := ?_) #[true, true, true, true, true, true, true, true, true, true, true, true, true, true, true, false, false, false, false, false, false, false] rfl rfl (by kernel_rfl) (fun _ _ _ h => h) (Or.inl ⟨by rfl, ?_⟩) ?_ ?_
            rotate_left
            · intro w'
              go_simp
              with_reducible rfl
            rotate_left
            · simp only [Act.put, List.setIfInBounds_toArray, List.set_cons_zero, List.set_cons_succ, i64_w, i32_w]
              rfl
            refine pure_ (i := 15) (N := some 73) (v := ?_) (a' := ?_) #[true, true, true, true, true, true, true, true, true, true, true, true, true, true, true, true, false, false, false, false, false, false] rfl rfl (by kernel_rfl) (fun _ _ _ h => h) (Or.inl ⟨by rfl, ?_⟩) ?_ ?_
            rotate_left
            · intro w'
              go_simp
              with_reducible rfl
            rotate_left
            · simp only [Act.put, List.setIfInBounds_toArray, List.set_cons_zero, List.set_cons_succ, i64_w, i32_w]
              rfl
            refine pure_ (i := 16) (N := some 74) (v := ?_) (a' := ?_) #[true, true, true, true, true, true, true, true, true, true, true, true, true, true, true, true, true, false, false, false, false, false] rfl rfl (by kernel_rfl) (fun _ _ _ h => h) (Or.inl ⟨by rfl, ?_⟩) ?_ ?_
            rotate_left
            · intro w'
              go_simp
              with_reducible rfl
            rotate_left
            · simp only [Act.put, List.setIfInBounds_toArray, List.set_cons_zero, List.set_cons_succ, i64_w, i32_w]
              rfl
            refine pure_ (i := 18) (N := some 76) (v := ?_) (a' := ?_) #[true, true, true, true, true, true, true, true, true, true, true, true, true, true, true, true, true, false, true, false, false, false] rfl rfl (by kernel_rfl) (fun _ _ _ h => h) (Or.inl ⟨by rfl, ?_⟩) ?_ ?_
            rotate_left
            · intro w'
              go_simp
              with_reducible rfl
            rotate_left
            · simp only [Act.put, List.setIfInBounds_toArray, List.set_cons_zero, List.set_cons_succ, i64_w, i32_w]
              rfl
            refine one_ (i := 17) (N := some 75) #[true, true, true, true, true, true, true, true, true, true, true, true, true, true, true, true, true, true, true, false, false, false] rfl rfl (by kernel_rfl) (by decide) (fun K hK => ?_)
            refine goes_ Try.func30 (by kernel_rfl) rfl #[.slice A1 l1.length c1, .slice A0 l0.length c0] (by rfl) rfl rfl (by simp only [List.map_toArray, List.map_cons, List.map_nil]; rfl) ?_
            with_reducible refine (class_Alike.calls A1 c1 l1 A0 c0 l0 al _ (Kd.C_below (Kd.C_below (Kd.C_below (Kd.C_drew (Kd.C_below HR1.out BW0)) h1) h2) h3) hc1 (Kd.C_below (Kd.C_below (Kd.C_below (Kd.C_drew (Kd.C_below HR0.out BW0)) h1) h2) h3) hc0 a1.out).mono ?_
            rintro e w4 ⟨rfl, h4⟩
            refine ⟨_, rfl, ?_⟩
            refine hK.out _ _ ((h4.block _ (blk_lt hHeld)).trans hHeld) (fun hHeld => ?_)
            clear hK K
            refine norm_ (a' := ?_) ?_ ?_
            rotate_left
            · show Act.put _ (some 75) _ = _
              simp only [Act.put, List.setIfInBounds_toArray, List.set_cons_zero, List.set_cons_succ, i64_w, i32_w]
              rfl
            refine pure_ (i := 19) (N := some 77) (v := ?_) (a' := ?_) #[true, true, true, true, true, true, true, true, true, true, true, true, true, true, true, true, true, true, true, true, false, false] rfl rfl (by kernel_rfl) (fun _ _ _ h => h) (Or.inl ⟨by rfl, ?_⟩) ?_ ?_
            rotate_left
            · intro w'
              go_simp
              with_reducible rfl
            rotate_left
            · simp only [Act.put, List.setIfInBounds_toArray, List.set_cons_zero, List.set_cons_succ, i64_w, i32_w]
              rfl
            refine pure_ (i := 20) (N := some 78) (v := ?_) (a' := ?_) #[true, true, true, true, true, true, true, true, true, true, true, true, true, true, true, true, true, true, true, true, true, false] rfl rfl (by kernel_rfl) (fun _ _ _ h => h) (Or.inl ⟨by rfl, ?_⟩) ?_ ?_
            rotate_left
            · intro w'
              go_simp
              with_reducible rfl
            rotate_left
            · simp only [Act.put, List.setIfInBounds_toArray, List.set_cons_zero, List.set_cons_succ, i64_w, i32_w]
              rfl
            refine pure_ (i := 21) (N := some 4) (v := ?_) (a' := ?_) #[true, true, true, true, true, true, true, true, true, true, true, true, true, true, true, true, true, true, true, true, true, true] rfl rfl (by kernel_rfl) (fun _ _ _ h => h) (Or.inl ⟨by rfl, ?_⟩) ?_ ?_
            rotate_left
            · intro w'
              go_simp
              with_reducible rfl
            rotate_left
            · simp only [Act.put, List.setIfInBounds_toArray, List.set_cons_zero, List.set_cons_succ, i64_w, i32_w]
              rfl
            refine done_ (by kernel_rfl) ?_
            have B1 := below_then BW0 BW0.size (below_then (below_drew (Below.refl _ _)) (Nat.le_refl _) h1)
            have B2 := below_then B1 B1.size h2
            have B3 := below_then B2 B2.size h3
            have B4 := Aside0.mk (below_then B3 B3.size h4)
            clear h1 h2 h3 h4 B1 B2 B3 BW0 hself
            go_wp2
            go_ret
            exact ⟨rfl, B4.out⟩

end Go.Proofs.Ytlmmeihgjpgooaa.Walk
