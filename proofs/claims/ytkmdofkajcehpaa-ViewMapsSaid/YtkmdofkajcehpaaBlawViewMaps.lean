/- The law ViewMaps: it answers true, whatever comes in. -/
import Derived.Test.YtkmdofkajcehpaaAX
import Derived.Test.YtkmdofkajcehpaaBview
set_option linter.unusedVariables false
set_option linter.unusedSimpArgs false
set_option maxRecDepth 10000
set_option maxHeartbeats 4000000
namespace Go.Proofs.Ytkmdofkajcehpaa.AM.B
open Go Go.RowKit
theorem cellsV_own {x : Sign} {own : Int} {d : DC} (h : d ∈ cellsV x own) : d.f2 = own := by
  unfold cellsV at h
  split at h
  · cases h
  · split at h
    · simp only [List.mem_cons, List.not_mem_nil, or_false] at h; rcases h with rfl | rfl <;> rfl
    · split at h
      · simp only [List.mem_cons, List.not_mem_nil, or_false] at h; subst h; rfl
      · unfold bytesC at h
        obtain ⟨i, _, rfl⟩ := List.mem_map.1 h; rfl
theorem promptC_own {l : List Sign} {d : DC} (h : d ∈ promptC l) : d.f2 = -1 := by
  unfold promptC at h
  obtain ⟨s, _, hs⟩ := List.mem_flatMap.1 h
  exact cellsV_own hs
theorem lineC_own : ∀ {i : Int} {l : List Sign} {d : DC}, d ∈ lineC i l → i ≤ d.f2 ∧ d.f2 < i + l.length
  | i, [], d, h => by cases h
  | i, s :: l, d, h => by
    simp only [lineC, List.mem_append] at h
    rcases h with h | h
    · have := cellsV_own h; simp only [List.length_cons]; omega
    · have := lineC_own h; simp only [List.length_cons]; omega
theorem lineC_split : ∀ (i : Int) (l : List Sign) (j : Nat), lineC i l = lineC i (l.take j) ++ lineC (i + (min j l.length : Nat)) (l.drop j)
  | i, [], j => by simp [lineC]
  | i, s :: l, 0 => by simp [lineC]
  | i, s :: l, j + 1 => by
    have := lineC_split (i + 1) l j
    simp only [List.take_succ_cons, List.drop_succ_cons, lineC, List.append_assoc, List.length_cons]
    rw [this, show i + 1 + ((min j l.length : Nat) : Int) = i + ((min (j + 1) (l.length + 1) : Nat) : Int) by omega]
theorem firstN_app {a b : List DC} {i : Int} (ha : ∀ d ∈ a, d.f2 < i) (hb : ∀ d ∈ b, i ≤ d.f2) : firstN (a ++ b) i = a.length := by
  unfold firstN
  induction a with
  | nil => cases b with
    | nil => rfl
    | cons y b => simp only [List.nil_append, List.takeWhile]; rw [decide_eq_false (by have := hb y (by simp); omega)]
  | cons x a ih =>
    simp only [List.cons_append, List.takeWhile]
    rw [decide_eq_true (ha x (by simp))]
    simp only [List.length_cons]
    rw [ih fun d hd => ha d (by simp [hd])]
/-- Where a number's cells begin. -/
def atN (p l : List Sign) (i : Nat) : Nat := (promptC p).length + (lineC 0 (l.take i)).length
theorem firstN_at {p l : List Sign} {i : Nat} (hi : i ≤ l.length) : firstN (viewC p l) (i : Int) = atN p l i := by
  have e : viewC p l = (promptC p ++ lineC 0 (l.take i)) ++ lineC (i : Int) (l.drop i) := by
    unfold viewC
    rw [lineC_split 0 l i, show min i l.length = i by omega, Int.zero_add, List.append_assoc]
  rw [e, firstN_app, atN, List.length_append]
  · intro d hd
    rcases List.mem_append.1 hd with hd | hd
    · have := promptC_own hd; omega
    · have := lineC_own hd; rw [List.length_take] at this; omega
  · intro d hd
    exact (lineC_own hd).1
theorem atN_succ {p l : List Sign} {i : Nat} {s : Sign} (h : l[i]? = some s) : atN p l (i + 1) = atN p l i + (cellsV s i).length := by
  unfold atN
  have := lineC_take 0 h
  rw [Int.zero_add] at this
  rw [this, List.length_append]; omega
theorem view_at {p l : List Sign} {i k : Nat} {s : Sign} (h : l[i]? = some s) (h1 : atN p l i ≤ k) (h2 : k < atN p l (i + 1)) : ∃ z, (viewC p l)[k]? = some z ∧ z.f2 = i := by
  have hi := (List.getElem?_eq_some_iff.1 h).1
  have e : viewC p l = (promptC p ++ lineC 0 (l.take i)) ++ (cellsV s i ++ lineC ((i : Int) + 1) (l.drop (i + 1))) := by
    unfold viewC
    rw [lineC_split 0 l (i + 1)]
    have ht := lineC_take 0 h
    rw [Int.zero_add] at ht
    rw [ht, show min (i + 1) l.length = i + 1 by omega, Int.zero_add]
    simp only [List.append_assoc]
    rfl
  rw [atN_succ h] at h2
  have hA : (promptC p ++ lineC 0 (l.take i)).length = atN p l i := List.length_append
  have hz : (cellsV s i)[k - atN p l i]? = some (cellsV s i)[k - atN p l i] := List.getElem?_eq_getElem (by omega)
  refine ⟨_, ?_, cellsV_own (List.mem_of_getElem? hz)⟩
  rw [e, List.getElem?_append_right (by omega), hA, List.getElem?_append_left (by omega)]
  exact hz
theorem right_cls {x : Sign} (h : rightS x = true) : clsV x.f0 ≠ 0 := by
  have hw := Go.Proofs.Ytkmdofkajcehpaa.P.class_where x.f0
  simp only [rightS, rightV, pointV, Bool.and_eq_true, Bool.or_eq_true, decide_eq_true_eq] at h
  show Go.Proofs.Ytkmdofkajcehpaa.P.class_Of.v x.f0 ≠ 0
  omega
theorem cells_pos {x : Sign} (own : Int) (h : rightS x = true) : 1 ≤ (cellsV x own).length := by
  have h0 := right_cls h
  have h1 := clsV_ge x.f0
  by_cases h4 : 3 < clsV x.f0
  · rw [cellsV_4 h4, bytesC_len]; have := txtV_size h4; omega
  · have : (clsV x.f0 = 1 ∨ clsV x.f0 = 3) ∨ clsV x.f0 = 2 := by omega
    rcases this with h | h
    · rw [cellsV_1 h]; simp
    · rw [cellsV_2 h]; simp
theorem ViewMaps_law {H : Hyp} {c c' : Cell} {p l : List Sign} (h : Sl H 23 2 c p.length (p.flatMap encS)) (h' : Sl H 23 2 c' l.length (l.flatMap encS)) : CallW Try.prog Xs 6 [.one (.c c), .one (.c c')] H (fun v _ => v = vB true) := by
  refine call_of (n := 94) (fun _ => rfl) Try.func6 rfl rfl ?_
  refine w_seq ?_
  refine w_region ?_
  refine w_o rfl rfl rfl (op_assign rfl ?_)
  refine w_end ?_
  refine seq_normal ?_
  refine w_seq ?_
  refine w_seq ?_
  refine w_region ?_
  refine w_o rfl rfl rfl (op_move rfl ?_)
  refine w_o rfl rfl rfl (op_lenC und_36 rfl h.lenC ?_)
  refine w_o rfl rfl rfl (op_gt rfl rfl ?_)
  refine w_o rfl rfl rfl (op_move rfl ?_)
  first | refine w_known (t := 14) rfl (fun g14 => ?_) (fun g14 => ?_) | refine w_knownB (t := 14) rfl (fun g14 => ?_) (fun g14 => ?_)
  · refine w_u rfl rfl rfl rfl rfl rfl ?_
    refine w_u rfl rfl rfl rfl rfl rfl ?_
    refine w_u rfl rfl rfl rfl rfl rfl ?_
    refine w_o rfl rfl rfl (op_pick rfl rfl rfl ?_)
    refine w_o rfl rfl rfl (op_move rfl ?_)
    refine w_u rfl rfl rfl rfl rfl rfl ?_
    refine w_u rfl rfl rfl rfl rfl rfl ?_
    refine w_u rfl rfl rfl rfl rfl rfl ?_
    refine w_o rfl rfl rfl (op_pick rfl rfl rfl ?_)
    refine w_o rfl rfl rfl (op_move rfl ?_)
    refine w_u rfl rfl rfl rfl rfl rfl ?_
    refine w_u rfl rfl rfl rfl rfl rfl ?_
    refine w_u rfl rfl rfl rfl rfl rfl ?_
    refine w_o rfl rfl rfl (op_pick rfl rfl rfl ?_)
    refine w_end ?_
    refine seq_normal ?_
    refine w_condT rfl ?_
    refine w_seq ?_
    refine w_region ?_
    refine w_o rfl rfl rfl (op_call rfl rfl rfl ?_)
    refine awake_w ?_
    refine w_o rfl rfl rfl (op_assign rfl ?_)
    refine w_end ?_
    refine seq_normal ?_
    refine w_ret ?_
    refine seq_ret ?_
    exact ret_ret rfl sel_ rfl
  · refine w_og rfl rfl rfl rfl rfl (op_move rfl ?_)
    refine w_og rfl rfl rfl rfl rfl (op_lenC und_36 rfl h'.lenC ?_)
    refine w_og rfl rfl rfl rfl rfl (op_gt rfl rfl ?_)
    refine w_o rfl rfl rfl (op_pick rfl rfl rfl ?_)
    refine w_o rfl rfl rfl (op_move rfl ?_)
    first | refine w_known (t := 19) rfl (fun g19 => ?_) (fun g19 => ?_) | refine w_knownB (t := 19) rfl (fun g19 => ?_) (fun g19 => ?_)
    · refine w_u rfl rfl rfl rfl rfl rfl ?_
      refine w_u rfl rfl rfl rfl rfl rfl ?_
      refine w_u rfl rfl rfl rfl rfl rfl ?_
      refine w_o rfl rfl rfl (op_pick rfl rfl rfl ?_)
      refine w_o rfl rfl rfl (op_move rfl ?_)
      refine w_u rfl rfl rfl rfl rfl rfl ?_
      refine w_u rfl rfl rfl rfl rfl rfl ?_
      refine w_u rfl rfl rfl rfl rfl rfl ?_
      refine w_o rfl rfl rfl (op_pick rfl rfl rfl ?_)
      refine w_end ?_
      refine seq_normal ?_
      refine w_condT rfl ?_
      refine w_seq ?_
      refine w_region ?_
      refine w_o rfl rfl rfl (op_call rfl rfl rfl ?_)
      refine awake_w ?_
      refine w_o rfl rfl rfl (op_assign rfl ?_)
      refine w_end ?_
      refine seq_normal ?_
      refine w_ret ?_
      refine seq_ret ?_
      exact ret_ret rfl sel_ rfl
    · have hpl : p.length ≤ 40 := by omega
      have hll : l.length ≤ 60 := by omega
      refine w_og rfl rfl rfl rfl rfl (op_move rfl ?_)
      refine w_og rfl rfl rfl rfl rfl (op_call rfl rfl rfl ?_)
      refine R04All_w h (by omega) ?_
      refine w_og rfl rfl rfl rfl rfl (op_not rfl ?_)
      refine w_o rfl rfl rfl (op_pick rfl rfl rfl ?_)
      refine w_o rfl rfl rfl (op_move rfl ?_)
      first | refine w_known (t := 24) rfl (fun g24 => ?_) (fun g24 => ?_) | refine w_knownB (t := 24) rfl (fun g24 => ?_) (fun g24 => ?_)
      · refine w_u rfl rfl rfl rfl rfl rfl ?_
        refine w_u rfl rfl rfl rfl rfl rfl ?_
        refine w_u rfl rfl rfl rfl rfl rfl ?_
        refine w_o rfl rfl rfl (op_pick rfl rfl rfl ?_)
        refine w_end ?_
        refine seq_normal ?_
        refine w_condT rfl ?_
        refine w_seq ?_
        refine w_region ?_
        refine w_o rfl rfl rfl (op_call rfl rfl rfl ?_)
        refine awake_w ?_
        refine w_o rfl rfl rfl (op_assign rfl ?_)
        refine w_end ?_
        refine seq_normal ?_
        refine w_ret ?_
        refine seq_ret ?_
        exact ret_ret rfl sel_ rfl
      · refine w_og rfl rfl rfl rfl rfl (op_move rfl ?_)
        refine w_og rfl rfl rfl rfl rfl (op_call rfl rfl rfl ?_)
        refine R04All_w h' (by omega) ?_
        refine w_og rfl rfl rfl rfl rfl (op_not rfl ?_)
        refine w_o rfl rfl rfl (op_pick rfl rfl rfl ?_)
        refine w_end ?_
        refine seq_normal ?_
        first | refine w_cond rfl (fun hI1 => ?_) (fun hI1 => ?_) | refine w_condB rfl (fun hI1 => ?_) (fun hI1 => ?_)
        · refine w_seq ?_
          refine w_region ?_
          refine w_o rfl rfl rfl (op_call rfl rfl rfl ?_)
          refine awake_w ?_
          refine w_o rfl rfl rfl (op_assign rfl ?_)
          refine w_end ?_
          refine seq_normal ?_
          refine w_ret ?_
          refine seq_ret ?_
          exact ret_ret rfl sel_ rfl
        · have hp1 : p.all rightS = true := by simpa using g24
          have hl1 : l.all rightS = true := by simpa using hI1
          have hq1 := promptC_len p
          have hq2 := lineC_len 0 l
          have hq4 : (viewC p l).length = (promptC p).length + (lineC 0 l).length := List.length_append
          refine w_skip ?_
          refine seq_normal ?_
          refine w_seq ?_
          refine w_region ?_
          refine w_o rfl rfl rfl (op_move rfl ?_)
          refine w_o rfl rfl rfl (op_move rfl ?_)
          refine w_o rfl rfl rfl (op_call rfl rfl rfl ?_)
          refine viewOf_w h h' (by omega) (by omega) (fun hr => absurd hr (by rw [hp1, hl1]; decide)) fun _ c33 N33 o33 => ?_
          refine w_o rfl rfl rfl (op_move rfl ?_)
          refine w_o rfl rfl rfl (op_extract rfl rfl ?_)
          refine w_o rfl rfl rfl (op_extract rfl rfl ?_)
          refine w_o rfl rfl rfl (op_assign rfl ?_)
          refine w_o rfl rfl rfl (op_assign rfl ?_)
          refine w_end ?_
          refine seq_normal ?_
          refine w_seq ?_
          refine w_seq ?_
          refine w_region ?_
          refine w_o rfl rfl rfl (op_move rfl ?_)
          refine w_o rfl rfl rfl (op_ne rfl rfl ?_)
          refine w_o rfl rfl rfl (op_move rfl ?_)
          first | refine w_known (t := 38) rfl (fun g38 => ?_) (fun g38 => ?_) | refine w_knownB (t := 38) rfl (fun g38 => ?_) (fun g38 => ?_)
          · exact absurd rfl g38 --closed
          · refine w_og rfl rfl rfl rfl rfl (op_move rfl ?_)
            refine w_og rfl rfl rfl rfl rfl (op_call rfl rfl rfl ?_)
            have hs33 : Sl (N33 ++ H) 100 5 c33 (viewC p l).length ((viewC p l).flatMap encD) := Own.slT o33 (fun _ => rfl) (by decide) subs_
            refine viewFirst_w (i := 0) hs33 (by omega) ?_
            have hf0 : firstN (viewC p l) 0 = (promptC p).length := by
              have := firstN_at (p := p) (l := l) (i := 0) (Nat.zero_le _)
              rw [show ((0 : Nat) : Int) = 0 from rfl] at this
              rw [this]; simp [atN, lineC]
            have hfn : firstN (viewC p l) (l.length : Nat) = (viewC p l).length := by
              rw [firstN_at (Nat.le_refl _)]; unfold atN; rw [List.take_length, hq4]
            refine w_og rfl rfl rfl rfl rfl (op_move rfl ?_)
            refine w_og rfl rfl rfl rfl rfl (op_call rfl rfl rfl ?_)
            refine viewCols_w h.app (by omega) ?_
            refine w_og rfl rfl rfl rfl rfl (op_ne rfl rfl ?_)
            refine w_o rfl rfl rfl (op_pick rfl rfl rfl ?_)
            refine w_o rfl rfl rfl (op_move rfl ?_)
            first | refine w_known (t := 45) rfl (fun g45 => ?_) (fun g45 => ?_) | refine w_knownB (t := 45) rfl (fun g45 => ?_) (fun g45 => ?_)
            · exact absurd (by rw [hf0]) g45 --closed
            · refine w_og rfl rfl rfl rfl rfl (op_move rfl ?_)
              refine w_og rfl rfl rfl rfl rfl (op_move rfl ?_)
              refine w_og rfl rfl rfl rfl rfl (op_lenC und_36 rfl h'.lenC ?_)
              refine w_og rfl rfl rfl rfl rfl (op_call rfl rfl rfl ?_)
              refine viewFirst_w (i := ((l.length : Nat) : Int)) hs33 (by omega) ?_
              refine w_og rfl rfl rfl rfl rfl (op_move rfl ?_)
              refine w_og rfl rfl rfl rfl rfl (op_lenC und_24 rfl hs33.lenC ?_)
              refine w_og rfl rfl rfl rfl rfl (op_ne rfl rfl ?_)
              refine w_o rfl rfl rfl (op_pick rfl rfl rfl ?_)
              refine w_end ?_
              refine seq_normal ?_
              refine w_condN rfl (fun q => q (by rw [hfn])) ?_
              refine w_skip ?_
              refine seq_normal ?_
              refine w_seq ?_
              refine w_seq ?_
              refine w_region ?_
              refine w_o rfl rfl rfl (op_assign rfl ?_)
              refine w_end ?_
              refine seq_normal ?_
              refine w_block ?_
              refine w_loop (fun m e H' => ∃ (i : Nat), i ≤ l.length ∧ m = l.length - i ∧ N33 ++ H = H' ∧ e = [(1, .one (.c c')), (5, .one (.c c33)), (7, vI (i : Nat))]) ?_ ?_
              · exact ⟨_, _, _, ⟨0, Nat.zero_le _, rfl, rfl, rfl⟩, env_, sel_⟩
              · rintro m e H' ⟨i, hi, rfl, rfl, rfl⟩
                refine w_seq ?_
                refine w_seq ?_
                refine w_region ?_
                refine w_o rfl rfl rfl (op_move rfl ?_)
                refine w_o rfl rfl rfl (op_move rfl ?_)
                refine w_o rfl rfl rfl (op_lenC und_36 rfl h'.lenC ?_)
                refine w_o rfl rfl rfl (op_lt rfl rfl ?_)
                refine w_end ?_
                refine seq_normal ?_
                first | refine w_cond rfl (fun hI3 => ?_) (fun hI3 => ?_) | refine w_condB rfl (fun hI3 => ?_) (fun hI3 => ?_)
                · have hi2 : i < l.length := by omega
                  obtain ⟨s, hs⟩ : ∃ s, l[i]? = some s := ⟨_, List.getElem?_eq_getElem hi2⟩
                  have hr := List.all_eq_true.1 hl1 s (List.mem_of_getElem? hs)
                  have hn1 := cells_pos (i : Int) hr
                  have hn2 := cellsV_len s (i : Int)
                  have hnc := cellsV_cols s (i : Int)
                  have ha0 := firstN_at (p := p) hi
                  have ha1 := firstN_at (p := p) (i := i + 1) (l := l) (by omega)
                  have has := atN_succ (p := p) hs
                  have hle1 := firstN_le (viewC p l) ((i + 1 : Nat) : Int)
                  refine w_skip ?_
                  refine seq_normal ?_
                  refine w_seq ?_
                  refine w_block ?_
                  refine w_seq ?_
                  refine w_region ?_
                  refine w_o rfl rfl rfl (op_move rfl ?_)
                  refine w_o rfl rfl rfl (op_move rfl ?_)
                  refine w_o rfl rfl rfl (op_call rfl rfl rfl ?_)
                  refine viewFirst_w (i := ((i : Nat) : Int)) hs33 (by omega) ?_
                  refine w_o rfl rfl rfl (op_move rfl ?_)
                  refine w_o rfl rfl rfl (op_move rfl ?_)
                  refine w_o rfl rfl rfl (op_addi rfl rfl (by omega) (by omega) ?_)
                  refine w_o rfl rfl rfl (op_call rfl rfl rfl ?_)
                  refine viewFirst_w hs33 (by omega) ?_
                  rw [ha0, show (i : Int) + 1 = ((i + 1 : Nat) : Int) by omega, ha1]
                  rw [ha1] at hle1
                  refine w_o rfl rfl rfl (op_assign rfl ?_)
                  refine w_o rfl rfl rfl (op_assign rfl ?_)
                  refine w_end ?_
                  refine seq_normal ?_
                  refine w_seq ?_
                  refine w_seq ?_
                  refine w_region ?_
                  refine w_o rfl rfl rfl (op_move rfl ?_)
                  refine w_o rfl rfl rfl (op_move rfl ?_)
                  refine w_o rfl rfl rfl (op_ge rfl rfl ?_)
                  refine w_o rfl rfl rfl (op_move rfl ?_)
                  first | refine w_known (t := 70) rfl (fun g70 => ?_) (fun g70 => ?_) | refine w_knownB (t := 70) rfl (fun g70 => ?_) (fun g70 => ?_)
                  · exact absurd g70 (by omega) --closed
                  · refine w_og rfl rfl rfl rfl rfl (op_move rfl ?_)
                    refine w_og rfl rfl rfl rfl rfl (op_move rfl ?_)
                    refine w_og rfl rfl rfl rfl rfl (op_subi rfl rfl (by omega) (by omega) ?_)
                    refine w_og rfl rfl rfl rfl rfl (op_move rfl ?_)
                    refine w_og rfl rfl rfl rfl rfl (op_move rfl ?_)
                    refine w_og rfl rfl rfl rfl rfl (op_indexT (enc := encS) und_36 siz_23 rfl rfl h'.app (fun _ => rfl) rfl (by omega) fun b76 o76 z76 h76 e76 => ?_)
                    obtain rfl : z76 = s := by rw [h76] at hs; exact Option.some.inj hs
                    refine w_og rfl rfl rfl rfl rfl (op_fieldAddr fa_23_0 rfl ?_)
                    refine w_og rfl rfl rfl rfl rfl (op_loadF agg_3 rfl el_ rfl ?_)
                    refine w_og rfl rfl rfl rfl rfl (op_call rfl rfl rfl ?_)
                    refine dactylref06_Cols_sw (Go.Proofs.Ytkmdofkajcehpaa.P.ref_Cols z76.f0 100 (by decide)) ?_
                    refine w_og rfl rfl rfl rfl rfl (op_ne rfl rfl ?_)
                    refine w_o rfl rfl rfl (op_pick rfl rfl rfl ?_)
                    refine w_end ?_
                    refine seq_normal ?_
                    refine w_condN rfl (fun q => q (by rw [show Go.Proofs.Ytkmdofkajcehpaa.P.colsV z76.f0 = ((cellsV z76 (i : Int)).length : Int) from hnc.symm]; omega)) ?_
                    refine w_skip ?_
                    refine seq_normal ?_
                    refine w_seq ?_
                    refine w_region ?_
                    refine w_o rfl rfl rfl (op_move rfl ?_)
                    refine w_o rfl rfl rfl (op_assign rfl ?_)
                    refine w_end ?_
                    refine seq_normal ?_
                    refine w_block ?_
                    refine w_loop (fun m e H' => ∃ (k : Nat), atN p l i ≤ k ∧ k ≤ atN p l (i + 1) ∧ m = atN p l (i + 1) - k ∧ N33 ++ H = H' ∧ e = [(1, .one (.c c')), (5, .one (.c c33)), (7, vI (i : Nat)), (9, vI (atN p l (i + 1) : Nat)), (10, vI (k : Nat))]) ?_ ?_
                    · exact ⟨_, _, _, ⟨atN p l i, Nat.le_refl _, by omega, rfl, rfl, rfl⟩, env_, sel_⟩
                    · rintro m e H' ⟨k, hk1, hk2, rfl, rfl, rfl⟩
                      refine w_seq ?_
                      refine w_seq ?_
                      refine w_region ?_
                      refine w_o rfl rfl rfl (op_move rfl ?_)
                      refine w_o rfl rfl rfl (op_move rfl ?_)
                      refine w_o rfl rfl rfl (op_lt rfl rfl ?_)
                      refine w_end ?_
                      refine seq_normal ?_
                      first | refine w_cond rfl (fun hI5 => ?_) (fun hI5 => ?_) | refine w_condB rfl (fun hI5 => ?_) (fun hI5 => ?_)
                      · obtain ⟨z, hz1, hz2⟩ := view_at (p := p) hs hk1 (by omega)
                        refine w_skip ?_
                        refine seq_normal ?_
                        refine w_seq ?_
                        refine w_block ?_
                        refine w_seq ?_
                        refine w_region ?_
                        refine w_o rfl rfl rfl (op_move rfl ?_)
                        refine w_o rfl rfl rfl (op_move rfl ?_)
                        refine w_o rfl rfl rfl (op_call rfl rfl rfl ?_)
                        refine viewOwn_w (j := k) hs33 (by omega) hz1 ?_
                        refine w_o rfl rfl rfl (op_move rfl ?_)
                        refine w_o rfl rfl rfl (op_ne rfl rfl ?_)
                        refine w_end ?_
                        refine seq_normal ?_
                        refine w_condN rfl (fun q => q hz2) ?_
                        refine w_skip ?_
                        refine block_normal ?_
                        refine seq_normal ?_
                        refine w_region ?_
                        refine w_o rfl rfl rfl (op_move rfl ?_)
                        refine w_o rfl rfl rfl (op_addi rfl rfl (by omega) (by omega) ?_)
                        refine w_o rfl rfl rfl (op_assign rfl ?_)
                        refine w_end ?_
                        exact loop_normal (k' := atN p l (i + 1) - (k + 1)) (by omega) ⟨k + 1, by omega, by omega, rfl, rfl, rfl⟩ env_ sel_
                      · refine w_exit ?_
                        refine seq_exit ?_
                        refine loop_exit ?_
                        refine block_hit rfl ?_
                        refine block_normal ?_
                        refine seq_normal ?_
                        refine w_region ?_
                        refine w_o rfl rfl rfl (op_move rfl ?_)
                        refine w_o rfl rfl rfl (op_addi rfl rfl (by omega) (by omega) ?_)
                        refine w_o rfl rfl rfl (op_assign rfl ?_)
                        refine w_end ?_
                        exact loop_normal (k' := l.length - (i + 1)) (by omega) ⟨i + 1, by omega, rfl, rfl, rfl⟩ env_ sel_
                · refine w_exit ?_
                  refine seq_exit ?_
                  refine loop_exit ?_
                  refine block_hit rfl ?_
                  refine seq_normal ?_
                  refine w_seq ?_
                  refine w_region ?_
                  refine w_o rfl rfl rfl (op_call rfl rfl rfl ?_)
                  refine awake_w ?_
                  refine w_o rfl rfl rfl (op_assign rfl ?_)
                  refine w_end ?_
                  refine seq_normal ?_
                  refine w_ret ?_
                  exact ret_ret rfl sel_ rfl
end Go.Proofs.Ytkmdofkajcehpaa.AM.B
