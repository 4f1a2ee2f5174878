/- A key's own name is read as that key; its bytes and its value. -/
import Derived.Test.YteghmemcikiblaaAX
import Derived.Test.YteghmemcikiblaaBkey9
import Derived.Test.YteghmemcikiblaaQBytes02
set_option linter.unusedVariables false
set_option linter.unusedSimpArgs false
set_option maxRecDepth 10000
set_option maxHeartbeats 4000000
namespace Go.Proofs.Yteghmemcikiblaa.AM.B
open Go Go.RowKit
theorem pasteTo_bl (t : ByteArray) : ∀ i, i ≤ t.size → bl (pasteTo t i) = 80 :: 45 :: hexAll ((bl t).take i)
  | 0, _ => rfl
  | i + 1, hi => by
    have hi2 : i < (bl t).length := hi
    have hx : (bl t)[i]? = some (bl t)[i] := List.getElem?_eq_getElem hi2
    have hb := (byteAt_list hx).1
    rw [pasteTo_succ, bl_app, pasteTo_bl t i (by omega), hb, List.take_add_one, hx]
    unfold hexAll
    rw [List.flatMap_append]
    simp only [Option.toList_some, List.flatMap_cons, List.flatMap_nil, List.append_nil, List.cons_append]
    rfl
theorem pasteV_bl (x : KeyS) : bl (pasteV x) = 80 :: 45 :: (hexAll (bl x.f2) ++ if x.f3 then [33] else []) := by
  have h := pasteTo_bl x.f2 x.f2.size (Nat.le_refl _)
  rw [show (bl x.f2).take x.f2.size = bl x.f2 from List.take_length] at h
  unfold pasteV
  cases x.f3 with
  | true => rw [if_pos rfl, bl_app, h, if_pos rfl]; rfl
  | false => rw [if_neg (by decide), h, if_neg (by decide), List.append_nil]
theorem may_plain {x : KeyS} (h : mayV x = true) (hk : x.f0 ≠ 15) : x.f2 = ⟨#[]⟩ ∧ x.f3 = false ∧ rightK x = true := by
  unfold mayV at h
  rw [if_neg hk] at h
  simp only [Bool.and_eq_true, decide_eq_true_eq, Bool.not_eq_true'] at h
  exact ⟨h.1.2, h.2, h.1.1⟩
theorem key_eq {x : KeyS} {a b : Int} (h0 : x.f0 = a) (h1 : x.f1 = b) (h2 : x.f2 = ⟨#[]⟩) (h3 : x.f3 = false) : x = ⟨a, b, ⟨#[]⟩, false⟩ := by
  obtain ⟨p, q, r, s⟩ := x
  simp only at h0 h1 h2 h3
  subst h0; subst h1; subst h2; subst h3; rfl
theorem guessX_w {H : Hyp} {K : V → Hyp → Prop} {x : KeyS} (hm : mayV x = true) (ht : x.f2.size ≤ 300) (k : K (.one (.agg (encK x))) H) : CallW Try.prog Xs 24 [vS (nameV x)] H K := by
  by_cases h15 : x.f0 = 15
  · have hn : nameV x = pasteV x := by unfold nameV; rw [if_neg (by omega), if_neg (by omega), if_pos h15]
    have hf1 : x.f1 = 0 := by
      unfold mayV at hm
      rw [if_pos h15] at hm
      exact (of_decide_eq_true hm).1
    refine guessPaste_w (l := bl x.f2) (cut := x.f3) (by rw [hn]; exact pasteV_bl x) ht ?_
    have e : x = ⟨15, 0, ⟨(bl x.f2).toArray⟩, x.f3⟩ := by
      obtain ⟨p, q, r, s⟩ := x
      simp only at h15 hf1
      subst h15; subst hf1; rfl
    rw [e] at k
    exact k
  · obtain ⟨e2, e3, hr⟩ := may_plain hm h15
    by_cases h12 : x.f0 = 1 ∨ x.f0 = 2
    · have hn : nameV x = signV x.f1 := if_pos h12
      have hv := may_in hm (by omega)
      have hc : (x.f0 = 1 → 32 ≤ x.f1) ∧ (x.f0 = 2 → controlV x.f1 = true) := by
        unfold rightK at hr
        constructor
        · intro q
          rw [if_pos q] at hr
          simp only [Bool.and_eq_true, decide_eq_true_eq] at hr
          exact hr.2.1
        · intro q
          rw [if_neg (by omega), if_pos q] at hr
          exact hr
      rw [hn]
      refine guessSign_w (v := x.f1) rfl ?_ ?_
      · rcases h12 with q | q
        · exact .inr ⟨hc.1 q, hv.2⟩
        · exact .inl (hc.2 q)
      · have e : x = ⟨if x.f1 < 32 then 2 else 1, x.f1, ⟨#[]⟩, false⟩ := by
          refine key_eq ?_ rfl e2 e3
          rcases h12 with q | q
          · rw [if_neg (by have := hc.1 q; omega)]; exact q
          · rw [if_pos (by have := controlV_in (hc.2 q); omega)]; exact q
        rw [e] at k
        exact k
    · by_cases h3 : x.f0 = 3
      · have hn : nameV x = (⟨#[77, 45]⟩ : ByteArray) ++ signV x.f1 := by unfold nameV; rw [if_neg h12, if_pos h3]
        have hv := may_in hm (by omega)
        have hc : controlV x.f1 = true ∨ (32 ≤ x.f1 ∧ x.f1 ≤ 2000000) := by
          unfold rightK at hr
          rw [if_neg (by omega), if_neg (by omega), if_pos h3] at hr
          simp only [Bool.or_eq_true, decide_eq_true_eq] at hr
          rcases hr with q | q
          · exact .inl q
          · exact .inr ⟨q.1, hv.2⟩
        refine guessMeta_w (v := x.f1) (by rw [hn, bl_app]; rfl) hc ?_
        rw [key_eq h3 rfl e2 e3] at k
        exact k
      · have ht2 := may_tab hm (by omega) (by omega) h3 h15
        have hn : nameV x = (foundV (ofP x)).f2 := by unfold nameV; rw [if_neg h12, if_neg h3, if_neg h15]
        have hg := tab_guess ht2
        rw [hn]
        refine guessT_w hg.1 ?_
        rw [hg.2.1, hg.2.2]
        rw [key_eq rfl rfl e2 e3] at k
        exact k
theorem ParseX_w {H : Hyp} {K : V → Hyp → Prop} {x : KeyS} (hm : mayV x = true) (ht : x.f2.size ≤ 300) (k : K (.tup [.agg (encK x), .c (.int .i64 0)]) H) : CallW Try.prog Xs 11 [vS (nameV x)] H K := by
  refine call_of (n := 23) (fun _ => rfl) Try.func11 rfl rfl ?_
  refine w_seq ?_
  refine w_region ?_
  refine w_o rfl rfl rfl (op_alloc zer_23 fun b2 => ?_)
  refine w_o rfl rfl rfl (op_assign rfl ?_)
  refine w_end ?_
  refine seq_normal ?_
  refine w_seq ?_
  refine w_region ?_
  refine w_o rfl rfl rfl (op_move rfl ?_)
  refine w_o rfl rfl rfl (op_call rfl rfl rfl ?_)
  refine guessX_w hm ht ?_
  refine w_o rfl rfl rfl (op_alloc zer_23 fun b4 => ?_)
  refine w_on rfl rfl (op_store siz_23 rfl rfl rfl (by (repeat (first | exact Pick.head _ _ _ | apply Pick.tail | apply Pick.app)); first | done | fail) (Nat.le_of_ble_eq_true rfl) rfl ?_)
  refine w_end ?_
  refine seq_normal ?_
  refine w_seq ?_
  refine w_seq ?_
  refine w_region ?_
  refine w_o rfl rfl rfl (op_loadA agg_23 siz_23 rfl rfl el_ ?_)
  refine w_o rfl rfl rfl (op_call rfl rfl rfl ?_)
  refine Name_w (x := x) (fun h => absurd h (by rw [hm]; decide)) (fun _ => ?_)
  refine w_o rfl rfl rfl (op_move rfl ?_)
  refine w_o rfl rfl rfl (op_extract rfl rfl ?_)
  refine w_o rfl rfl rfl (op_extract rfl rfl ?_)
  refine w_o rfl rfl rfl (op_assign rfl ?_)
  refine w_o rfl rfl rfl (op_assign rfl ?_)
  refine w_end ?_
  refine seq_normal ?_
  refine w_seq ?_
  refine w_region ?_
  refine w_o rfl rfl rfl (op_move rfl ?_)
  refine w_o rfl rfl rfl (op_ne rfl rfl ?_)
  refine w_o rfl rfl rfl (op_move rfl ?_)
  first | refine w_known (t := 16) rfl (fun g16 => ?_) (fun g16 => ?_) | refine w_knownB (t := 16) rfl (fun g16 => ?_) (fun g16 => ?_)
  · exact absurd rfl g16 --closed
  · refine w_og rfl rfl rfl rfl rfl (op_move rfl ?_)
    refine w_og rfl rfl rfl rfl rfl (op_move rfl ?_)
    refine w_og rfl rfl rfl rfl rfl (op_strne rfl rfl ?_)
    refine w_o rfl rfl rfl (op_pick rfl rfl rfl ?_)
    refine w_end ?_
    refine seq_normal ?_
    first | refine w_cond rfl (fun hI1 => ?_) (fun hI1 => ?_) | refine w_condB rfl (fun hI1 => ?_) (fun hI1 => ?_)
    · exact absurd rfl hI1 --closed
    · refine w_skip ?_
      refine seq_normal ?_
      refine w_seq ?_
      refine w_region ?_
      refine w_o rfl rfl rfl (op_loadA agg_23 siz_23 rfl rfl el_ ?_)
      refine w_on rfl rfl (op_store siz_23 rfl rfl rfl (by (repeat (first | exact Pick.head _ _ _ | apply Pick.tail | apply Pick.app)); first | done | fail) (Nat.le_of_ble_eq_true rfl) rfl ?_)
      refine w_o rfl rfl rfl (op_assign rfl ?_)
      refine w_end ?_
      refine seq_normal ?_
      refine w_ret ?_
      exact ret_cellA2 rfl agg_23 siz_23 rfl el_ rfl sel_ k
/-! ### The value -/
def valueV (x : KeyS) : Int := if x.f0 = 1 ∨ x.f0 = 2 ∨ x.f0 = 4 then x.f1 else if x.f0 = 5 then 27 else if x.f0 = 6 then 127 else -1
theorem valueV_pos {x : KeyS} (hm : mayV x = true) (h : x.f0 = 1 ∨ x.f0 = 2 ∨ x.f0 = 4) : 0 ≤ x.f1 := by
  by_cases h4 : x.f0 = 4
  · have := any_tab (may_tab hm (by omega) (by omega) (by omega) (by omega)); omega
  · exact (may_in hm (by omega)).1
theorem Value_w {H : Hyp} {K : V → Hyp → Prop} {x : KeyS} (k1 : mayV x = false → K (.tup [.c (.int .i64 0), .c (.bool false)]) H) (k2 : mayV x = true → K (.tup [.c (.int .i64 (if valueV x > 0 then valueV x else 0)), .c (.bool (decide (valueV x ≥ 0)))]) H) : CallW Try.prog Xs 7 [.one (.agg (encK x))] H K := by
  refine call_of (n := 19) (fun _ => rfl) Try.func7 rfl rfl ?_
  refine w_seq ?_
  refine w_region ?_
  refine w_o rfl rfl rfl (op_box rfl fun b1 => ?_)
  refine w_o rfl rfl rfl (op_assign rfl ?_)
  refine w_o rfl rfl rfl (op_assign rfl ?_)
  refine w_end ?_
  refine seq_normal ?_
  refine w_seq ?_
  refine w_seq ?_
  refine w_region ?_
  refine w_o rfl rfl rfl (op_loadA agg_23 siz_23 rfl rfl el_ ?_)
  refine w_o rfl rfl rfl (op_call rfl rfl rfl ?_)
  refine Check_w ?_
  refine w_o rfl rfl rfl (op_ne rfl rfl ?_)
  refine w_end ?_
  refine seq_normal ?_
  first | refine w_cond rfl (fun hI1 => ?_) (fun hI1 => ?_) | refine w_condB rfl (fun hI1 => ?_) (fun hI1 => ?_)
  · have hm : mayV x = false := by cases h : mayV x; rfl; simp [h] at hI1
    rw [hm]
    refine w_seq ?_
    refine w_region ?_
    refine w_o rfl rfl rfl (op_assign rfl ?_)
    refine w_o rfl rfl rfl (op_assign rfl ?_)
    refine w_end ?_
    refine seq_normal ?_
    refine w_ret ?_
    refine seq_ret ?_
    exact ret_ret rfl sel_ (k1 hm)
  · have hm : mayV x = true := by cases h : mayV x; simp [h] at hI1; rfl
    have k := k2 hm
    clear k2
    refine w_skip ?_
    refine seq_normal ?_
    refine w_seq ?_
    refine w_seq ?_
    refine w_region ?_
    refine w_o rfl rfl rfl (op_fieldAddr fa_23_0 rfl ?_)
    refine w_o rfl rfl rfl (op_loadF agg_3 rfl el_ rfl ?_)
    refine w_end ?_
    refine seq_normal ?_
    refine w_block ?_
    refine w_seq ?_
    refine w_seq ?_
    refine w_region ?_
    refine w_o rfl rfl rfl (op_eq rfl rfl ?_)
    refine w_o rfl rfl rfl (op_assign rfl ?_)
    refine w_end ?_
    refine seq_normal ?_
    first | refine w_cond rfl (fun hI2 => ?_) (fun hI2 => ?_) | refine w_condB rfl (fun hI2 => ?_) (fun hI2 => ?_)
    · refine w_skip ?_
      refine seq_normal ?_
      first | refine w_cond rfl (fun hI4 => ?_) (fun hI4 => ?_) | refine w_condB rfl (fun hI4 => ?_) (fun hI4 => ?_)
      · try (exfalso; omega)
        all_goals
          refine w_seq ?_
          refine w_region ?_
          refine w_o rfl rfl rfl (op_fieldAddr fa_23_1 rfl ?_)
          refine w_o rfl rfl rfl (op_loadF agg_3 rfl el_ rfl ?_)
          refine w_o rfl rfl rfl (op_assign rfl ?_)
          refine w_o rfl rfl rfl (op_assign rfl ?_)
          refine w_end ?_
          refine seq_normal ?_
          refine w_ret ?_
          refine block_ret ?_
          refine seq_ret ?_
          have hp := valueV_pos hm (by omega)
          have hv : valueV x = x.f1 := if_pos (by omega)
          rw [hv, decide_eq_true (show x.f1 ≥ 0 by omega), show (if x.f1 > 0 then x.f1 else 0) = x.f1 by split <;> omega] at k
          exact ret_ret rfl sel_ k
      · try (exfalso; omega)
        all_goals
          refine w_seq ?_
          refine w_region ?_
          refine w_o rfl rfl rfl (op_eq rfl rfl ?_)
          refine w_o rfl rfl rfl (op_assign rfl ?_)
          refine w_end ?_
          refine seq_normal ?_
          first | refine w_cond rfl (fun hI5 => ?_) (fun hI5 => ?_) | refine w_condB rfl (fun hI5 => ?_) (fun hI5 => ?_)
          · refine w_seq ?_
            refine w_region ?_
            refine w_o rfl rfl rfl (op_assign rfl ?_)
            refine w_o rfl rfl rfl (op_assign rfl ?_)
            refine w_end ?_
            refine seq_normal ?_
            refine w_ret ?_
            refine block_ret ?_
            refine seq_ret ?_
            rw [show valueV x = 27 by unfold valueV; rw [if_neg (by omega), if_pos hI5]] at k
            exact ret_ret rfl sel_ k
          · refine w_seq ?_
            refine w_region ?_
            refine w_o rfl rfl rfl (op_eq rfl rfl ?_)
            refine w_o rfl rfl rfl (op_assign rfl ?_)
            refine w_end ?_
            refine seq_normal ?_
            first | refine w_cond rfl (fun hI6 => ?_) (fun hI6 => ?_) | refine w_condB rfl (fun hI6 => ?_) (fun hI6 => ?_)
            · refine w_seq ?_
              refine w_region ?_
              refine w_o rfl rfl rfl (op_assign rfl ?_)
              refine w_o rfl rfl rfl (op_assign rfl ?_)
              refine w_end ?_
              refine seq_normal ?_
              refine w_ret ?_
              refine block_ret ?_
              refine seq_ret ?_
              rw [show valueV x = 127 by unfold valueV; rw [if_neg (by omega), if_neg (by omega), if_pos hI6]] at k
              exact ret_ret rfl sel_ k
            · refine w_skip ?_
              refine block_normal ?_
              refine seq_normal ?_
              refine w_seq ?_
              refine w_region ?_
              refine w_o rfl rfl rfl (op_assign rfl ?_)
              refine w_o rfl rfl rfl (op_assign rfl ?_)
              refine w_end ?_
              refine seq_normal ?_
              refine w_ret ?_
              rw [show valueV x = -1 by unfold valueV; rw [if_neg (by omega), if_neg (by omega), if_neg (by omega)]] at k
              exact ret_ret rfl sel_ k
    · refine w_seq ?_
      refine w_region ?_
      refine w_o rfl rfl rfl (op_eq rfl rfl ?_)
      refine w_o rfl rfl rfl (op_assign rfl ?_)
      refine w_end ?_
      refine seq_normal ?_
      first | refine w_cond rfl (fun hI3 => ?_) (fun hI3 => ?_) | refine w_condB rfl (fun hI3 => ?_) (fun hI3 => ?_)
      · refine w_skip ?_
        refine seq_normal ?_
        first | refine w_cond rfl (fun hI4 => ?_) (fun hI4 => ?_) | refine w_condB rfl (fun hI4 => ?_) (fun hI4 => ?_)
        · try (exfalso; omega)
          all_goals
            refine w_seq ?_
            refine w_region ?_
            refine w_o rfl rfl rfl (op_fieldAddr fa_23_1 rfl ?_)
            refine w_o rfl rfl rfl (op_loadF agg_3 rfl el_ rfl ?_)
            refine w_o rfl rfl rfl (op_assign rfl ?_)
            refine w_o rfl rfl rfl (op_assign rfl ?_)
            refine w_end ?_
            refine seq_normal ?_
            refine w_ret ?_
            refine block_ret ?_
            refine seq_ret ?_
            have hp := valueV_pos hm (by omega)
            have hv : valueV x = x.f1 := if_pos (by omega)
            rw [hv, decide_eq_true (show x.f1 ≥ 0 by omega), show (if x.f1 > 0 then x.f1 else 0) = x.f1 by split <;> omega] at k
            exact ret_ret rfl sel_ k
        · try (exfalso; omega)
          all_goals
            refine w_seq ?_
            refine w_region ?_
            refine w_o rfl rfl rfl (op_eq rfl rfl ?_)
            refine w_o rfl rfl rfl (op_assign rfl ?_)
            refine w_end ?_
            refine seq_normal ?_
            first | refine w_cond rfl (fun hI5 => ?_) (fun hI5 => ?_) | refine w_condB rfl (fun hI5 => ?_) (fun hI5 => ?_)
            · refine w_seq ?_
              refine w_region ?_
              refine w_o rfl rfl rfl (op_assign rfl ?_)
              refine w_o rfl rfl rfl (op_assign rfl ?_)
              refine w_end ?_
              refine seq_normal ?_
              refine w_ret ?_
              refine block_ret ?_
              refine seq_ret ?_
              rw [show valueV x = 27 by unfold valueV; rw [if_neg (by omega), if_pos hI5]] at k
              exact ret_ret rfl sel_ k
            · refine w_seq ?_
              refine w_region ?_
              refine w_o rfl rfl rfl (op_eq rfl rfl ?_)
              refine w_o rfl rfl rfl (op_assign rfl ?_)
              refine w_end ?_
              refine seq_normal ?_
              first | refine w_cond rfl (fun hI6 => ?_) (fun hI6 => ?_) | refine w_condB rfl (fun hI6 => ?_) (fun hI6 => ?_)
              · refine w_seq ?_
                refine w_region ?_
                refine w_o rfl rfl rfl (op_assign rfl ?_)
                refine w_o rfl rfl rfl (op_assign rfl ?_)
                refine w_end ?_
                refine seq_normal ?_
                refine w_ret ?_
                refine block_ret ?_
                refine seq_ret ?_
                rw [show valueV x = 127 by unfold valueV; rw [if_neg (by omega), if_neg (by omega), if_pos hI6]] at k
                exact ret_ret rfl sel_ k
              · refine w_skip ?_
                refine block_normal ?_
                refine seq_normal ?_
                refine w_seq ?_
                refine w_region ?_
                refine w_o rfl rfl rfl (op_assign rfl ?_)
                refine w_o rfl rfl rfl (op_assign rfl ?_)
                refine w_end ?_
                refine seq_normal ?_
                refine w_ret ?_
                rw [show valueV x = -1 by unfold valueV; rw [if_neg (by omega), if_neg (by omega), if_neg (by omega)]] at k
                exact ret_ret rfl sel_ k
      · refine w_region ?_
        refine w_o rfl rfl rfl (op_eq rfl rfl ?_)
        refine w_o rfl rfl rfl (op_assign rfl ?_)
        refine w_end ?_
        refine seq_normal ?_
        first | refine w_cond rfl (fun hI4 => ?_) (fun hI4 => ?_) | refine w_condB rfl (fun hI4 => ?_) (fun hI4 => ?_)
        · try (exfalso; omega)
          all_goals
            refine w_seq ?_
            refine w_region ?_
            refine w_o rfl rfl rfl (op_fieldAddr fa_23_1 rfl ?_)
            refine w_o rfl rfl rfl (op_loadF agg_3 rfl el_ rfl ?_)
            refine w_o rfl rfl rfl (op_assign rfl ?_)
            refine w_o rfl rfl rfl (op_assign rfl ?_)
            refine w_end ?_
            refine seq_normal ?_
            refine w_ret ?_
            refine block_ret ?_
            refine seq_ret ?_
            have hp := valueV_pos hm (by omega)
            have hv : valueV x = x.f1 := if_pos (by omega)
            rw [hv, decide_eq_true (show x.f1 ≥ 0 by omega), show (if x.f1 > 0 then x.f1 else 0) = x.f1 by split <;> omega] at k
            exact ret_ret rfl sel_ k
        · try (exfalso; omega)
          all_goals
            refine w_seq ?_
            refine w_region ?_
            refine w_o rfl rfl rfl (op_eq rfl rfl ?_)
            refine w_o rfl rfl rfl (op_assign rfl ?_)
            refine w_end ?_
            refine seq_normal ?_
            first | refine w_cond rfl (fun hI5 => ?_) (fun hI5 => ?_) | refine w_condB rfl (fun hI5 => ?_) (fun hI5 => ?_)
            · refine w_seq ?_
              refine w_region ?_
              refine w_o rfl rfl rfl (op_assign rfl ?_)
              refine w_o rfl rfl rfl (op_assign rfl ?_)
              refine w_end ?_
              refine seq_normal ?_
              refine w_ret ?_
              refine block_ret ?_
              refine seq_ret ?_
              rw [show valueV x = 27 by unfold valueV; rw [if_neg (by omega), if_pos hI5]] at k
              exact ret_ret rfl sel_ k
            · refine w_seq ?_
              refine w_region ?_
              refine w_o rfl rfl rfl (op_eq rfl rfl ?_)
              refine w_o rfl rfl rfl (op_assign rfl ?_)
              refine w_end ?_
              refine seq_normal ?_
              first | refine w_cond rfl (fun hI6 => ?_) (fun hI6 => ?_) | refine w_condB rfl (fun hI6 => ?_) (fun hI6 => ?_)
              · refine w_seq ?_
                refine w_region ?_
                refine w_o rfl rfl rfl (op_assign rfl ?_)
                refine w_o rfl rfl rfl (op_assign rfl ?_)
                refine w_end ?_
                refine seq_normal ?_
                refine w_ret ?_
                refine block_ret ?_
                refine seq_ret ?_
                rw [show valueV x = 127 by unfold valueV; rw [if_neg (by omega), if_neg (by omega), if_pos hI6]] at k
                exact ret_ret rfl sel_ k
              · refine w_skip ?_
                refine block_normal ?_
                refine seq_normal ?_
                refine w_seq ?_
                refine w_region ?_
                refine w_o rfl rfl rfl (op_assign rfl ?_)
                refine w_o rfl rfl rfl (op_assign rfl ?_)
                refine w_end ?_
                refine seq_normal ?_
                refine w_ret ?_
                rw [show valueV x = -1 by unfold valueV; rw [if_neg (by omega), if_neg (by omega), if_neg (by omega)]] at k
                exact ret_ret rfl sel_ k
theorem refValue_w {H : Hyp} {K : V → Hyp → Prop} {x : KeyS} (k : K (vI (valueV x)) H) : CallW Try.prog Xs 12 [.one (.agg (encK x))] H K := by
  refine call_of (n := 24) (fun _ => rfl) Try.func12 rfl rfl ?_
  refine w_seq ?_
  refine w_region ?_
  refine w_o rfl rfl rfl (op_box rfl fun b1 => ?_)
  refine w_o rfl rfl rfl (op_assign rfl ?_)
  refine w_end ?_
  refine seq_normal ?_
  refine w_seq ?_
  refine w_seq ?_
  refine w_region ?_
  refine w_o rfl rfl rfl (op_fieldAddr fa_23_0 rfl ?_)
  refine w_o rfl rfl rfl (op_loadF agg_3 rfl el_ rfl ?_)
  refine w_o rfl rfl rfl (op_eq rfl rfl ?_)
  refine w_o rfl rfl rfl (op_move rfl ?_)
  first | refine w_known (t := 6) rfl (fun g6 => ?_) (fun g6 => ?_) | refine w_knownB (t := 6) rfl (fun g6 => ?_) (fun g6 => ?_)
  · refine w_u rfl rfl rfl rfl rfl rfl ?_
    refine w_u rfl rfl rfl rfl rfl rfl ?_
    refine w_u rfl rfl rfl rfl rfl rfl ?_
    refine w_o rfl rfl rfl (op_pick rfl rfl rfl ?_)
    refine w_o rfl rfl rfl (op_move rfl ?_)
    refine w_u rfl rfl rfl rfl rfl rfl ?_
    refine w_u rfl rfl rfl rfl rfl rfl ?_
    refine w_u rfl rfl rfl rfl rfl rfl ?_
    refine w_o rfl rfl rfl (op_pick rfl rfl rfl ?_)
    refine w_end ?_
    refine seq_normal ?_
    refine w_condT rfl ?_
    refine w_seq ?_
    refine w_region ?_
    refine w_o rfl rfl rfl (op_fieldAddr fa_23_1 rfl ?_)
    refine w_o rfl rfl rfl (op_loadF agg_3 rfl el_ rfl ?_)
    refine w_o rfl rfl rfl (op_assign rfl ?_)
    refine w_end ?_
    refine seq_normal ?_
    refine w_ret ?_
    refine seq_ret ?_
    rw [show valueV x = x.f1 from if_pos (by omega)] at k
    exact ret_ret rfl sel_ k
  · refine w_og rfl rfl rfl rfl rfl (op_fieldAddr fa_23_0 rfl ?_)
    refine w_og rfl rfl rfl rfl rfl (op_loadF agg_3 rfl el_ rfl ?_)
    refine w_og rfl rfl rfl rfl rfl (op_eq rfl rfl ?_)
    refine w_o rfl rfl rfl (op_pick rfl rfl rfl ?_)
    refine w_o rfl rfl rfl (op_move rfl ?_)
    first | refine w_known (t := 11) rfl (fun g11 => ?_) (fun g11 => ?_) | refine w_knownB (t := 11) rfl (fun g11 => ?_) (fun g11 => ?_)
    · refine w_u rfl rfl rfl rfl rfl rfl ?_
      refine w_u rfl rfl rfl rfl rfl rfl ?_
      refine w_u rfl rfl rfl rfl rfl rfl ?_
      refine w_o rfl rfl rfl (op_pick rfl rfl rfl ?_)
      refine w_end ?_
      refine seq_normal ?_
      refine w_condT rfl ?_
      refine w_seq ?_
      refine w_region ?_
      refine w_o rfl rfl rfl (op_fieldAddr fa_23_1 rfl ?_)
      refine w_o rfl rfl rfl (op_loadF agg_3 rfl el_ rfl ?_)
      refine w_o rfl rfl rfl (op_assign rfl ?_)
      refine w_end ?_
      refine seq_normal ?_
      refine w_ret ?_
      refine seq_ret ?_
      rw [show valueV x = x.f1 from if_pos (by omega)] at k
      exact ret_ret rfl sel_ k
    · refine w_og rfl rfl rfl rfl rfl (op_fieldAddr fa_23_0 rfl ?_)
      refine w_og rfl rfl rfl rfl rfl (op_loadF agg_3 rfl el_ rfl ?_)
      refine w_og rfl rfl rfl rfl rfl (op_eq rfl rfl ?_)
      refine w_o rfl rfl rfl (op_pick rfl rfl rfl ?_)
      refine w_end ?_
      refine seq_normal ?_
      first | refine w_cond rfl (fun hI1 => ?_) (fun hI1 => ?_) | refine w_condB rfl (fun hI1 => ?_) (fun hI1 => ?_)
      · try (exfalso; omega)
        all_goals
          refine w_seq ?_
          refine w_region ?_
          refine w_o rfl rfl rfl (op_fieldAddr fa_23_1 rfl ?_)
          refine w_o rfl rfl rfl (op_loadF agg_3 rfl el_ rfl ?_)
          refine w_o rfl rfl rfl (op_assign rfl ?_)
          refine w_end ?_
          refine seq_normal ?_
          refine w_ret ?_
          refine seq_ret ?_
          rw [show valueV x = x.f1 from if_pos (by omega)] at k
          exact ret_ret rfl sel_ k
      · try (exfalso; omega)
        all_goals
          refine w_skip ?_
          refine seq_normal ?_
          refine w_seq ?_
          refine w_seq ?_
          refine w_region ?_
          refine w_o rfl rfl rfl (op_fieldAddr fa_23_0 rfl ?_)
          refine w_o rfl rfl rfl (op_loadF agg_3 rfl el_ rfl ?_)
          refine w_o rfl rfl rfl (op_eq rfl rfl ?_)
          refine w_end ?_
          refine seq_normal ?_
          first | refine w_cond rfl (fun hI2 => ?_) (fun hI2 => ?_) | refine w_condB rfl (fun hI2 => ?_) (fun hI2 => ?_)
          · refine w_seq ?_
            refine w_region ?_
            refine w_o rfl rfl rfl (op_assign rfl ?_)
            refine w_end ?_
            refine seq_normal ?_
            refine w_ret ?_
            refine seq_ret ?_
            rw [show valueV x = 27 by unfold valueV; rw [if_neg (by omega), if_pos hI2]] at k
            exact ret_ret rfl sel_ k
          · refine w_skip ?_
            refine seq_normal ?_
            refine w_seq ?_
            refine w_seq ?_
            refine w_region ?_
            refine w_o rfl rfl rfl (op_fieldAddr fa_23_0 rfl ?_)
            refine w_o rfl rfl rfl (op_loadF agg_3 rfl el_ rfl ?_)
            refine w_o rfl rfl rfl (op_eq rfl rfl ?_)
            refine w_end ?_
            refine seq_normal ?_
            first | refine w_cond rfl (fun hI3 => ?_) (fun hI3 => ?_) | refine w_condB rfl (fun hI3 => ?_) (fun hI3 => ?_)
            · refine w_seq ?_
              refine w_region ?_
              refine w_o rfl rfl rfl (op_assign rfl ?_)
              refine w_end ?_
              refine seq_normal ?_
              refine w_ret ?_
              refine seq_ret ?_
              rw [show valueV x = 127 by unfold valueV; rw [if_neg (by omega), if_neg (by omega), if_pos hI3]] at k
              exact ret_ret rfl sel_ k
            · refine w_skip ?_
              refine seq_normal ?_
              refine w_seq ?_
              refine w_region ?_
              refine w_o rfl rfl rfl (op_assign rfl ?_)
              refine w_end ?_
              refine seq_normal ?_
              refine w_ret ?_
              rw [show valueV x = -1 by unfold valueV; rw [if_neg (by omega), if_neg (by omega), if_neg (by omega)]] at k
              exact ret_ret rfl sel_ k
theorem High_w {H : Hyp} {K : V → Hyp → Prop} {a b : Int} (k : K (vI (if a > b then a else b)) H) : CallW Try.prog Xs 15 [vI a, vI b] H K := by
  refine call_of (n := 10) (fun _ => rfl) Try.func15 rfl rfl ?_
  refine w_seq ?_
  refine w_region ?_
  refine w_o rfl rfl rfl (op_assign rfl ?_)
  refine w_end ?_
  refine seq_normal ?_
  refine w_seq ?_
  refine w_seq ?_
  refine w_region ?_
  refine w_o rfl rfl rfl (op_move rfl ?_)
  refine w_o rfl rfl rfl (op_move rfl ?_)
  refine w_o rfl rfl rfl (op_gt rfl rfl ?_)
  refine w_end ?_
  refine seq_normal ?_
  first | refine w_cond rfl (fun hI1 => ?_) (fun hI1 => ?_) | refine w_condB rfl (fun hI1 => ?_) (fun hI1 => ?_)
  · refine w_seq ?_
    refine w_region ?_
    refine w_o rfl rfl rfl (op_move rfl ?_)
    refine w_o rfl rfl rfl (op_assign rfl ?_)
    refine w_end ?_
    refine seq_normal ?_
    refine w_ret ?_
    refine seq_ret ?_
    rw [if_pos hI1] at k
    exact ret_ret rfl sel_ k
  · refine w_skip ?_
    refine seq_normal ?_
    refine w_seq ?_
    refine w_region ?_
    refine w_o rfl rfl rfl (op_move rfl ?_)
    refine w_o rfl rfl rfl (op_assign rfl ?_)
    refine w_end ?_
    refine seq_normal ?_
    refine w_ret ?_
    rw [if_neg hI1] at k
    exact ret_ret rfl sel_ k
/-! ### The bytes -/
def pre200 : ByteArray := ⟨#[27, 91, 50, 48, 48, 126]⟩
def post201 : ByteArray := ⟨#[27, 91, 50, 48, 49, 126]⟩
def bytesV (x : KeyS) : ByteArray := if x.f0 = 1 ∨ x.f0 = 2 then bsOf (encL x.f1) else if x.f0 = 3 then (⟨#[27]⟩ : ByteArray) ++ bsOf (encL x.f1) else if x.f0 = 15 then (pre200 ++ x.f2) ++ post201 else (foundV (ofP x)).f3
theorem encL_len (v : Int) : (encL v).length ≤ 4 := by
  unfold encL Lib.encodeRuneZ
  (repeat' split) <;> simp
theorem Bytes_w {H : Hyp} {K : V → Hyp → Prop} {x : KeyS} (ht : x.f2.size ≤ 300) (k1 : mayV x = false → K (vS ⟨#[]⟩) H) (k2 : mayV x = true → K (vS (bytesV x)) H) : CallW Try.prog Xs 10 [.one (.agg (encK x))] H K := by
  have hel := encL_len x.f1
  have hes := bsOf_size (encL x.f1)
  refine call_of (n := 37) (fun _ => rfl) Try.func10 rfl rfl ?_
  refine w_seq ?_
  refine w_region ?_
  refine w_o rfl rfl rfl (op_box rfl fun b1 => ?_)
  refine w_o rfl rfl rfl (op_assign rfl ?_)
  refine w_end ?_
  refine seq_normal ?_
  refine w_seq ?_
  refine w_seq ?_
  refine w_region ?_
  refine w_o rfl rfl rfl (op_loadA agg_23 siz_23 rfl rfl el_ ?_)
  refine w_o rfl rfl rfl (op_call rfl rfl rfl ?_)
  refine Check_w ?_
  refine w_o rfl rfl rfl (op_ne rfl rfl ?_)
  refine w_end ?_
  refine seq_normal ?_
  first | refine w_cond rfl (fun hI1 => ?_) (fun hI1 => ?_) | refine w_condB rfl (fun hI1 => ?_) (fun hI1 => ?_)
  · have hm : mayV x = false := by cases h : mayV x; rfl; simp [h] at hI1
    rw [hm]
    refine w_seq ?_
    refine w_region ?_
    refine w_o rfl rfl rfl (op_assign rfl ?_)
    refine w_end ?_
    refine seq_normal ?_
    refine w_ret ?_
    refine seq_ret ?_
    exact ret_ret rfl sel_ (k1 hm)
  · have hm : mayV x = true := by cases h : mayV x; simp [h] at hI1; rfl
    have k := k2 hm
    clear k2
    refine w_skip ?_
    refine seq_normal ?_
    refine w_seq ?_
    refine w_seq ?_
    refine w_region ?_
    refine w_o rfl rfl rfl (op_fieldAddr fa_23_0 rfl ?_)
    refine w_o rfl rfl rfl (op_loadF agg_3 rfl el_ rfl ?_)
    refine w_end ?_
    refine seq_normal ?_
    refine w_block ?_
    refine w_seq ?_
    refine w_seq ?_
    refine w_region ?_
    refine w_o rfl rfl rfl (op_eq rfl rfl ?_)
    refine w_o rfl rfl rfl (op_assign rfl ?_)
    refine w_end ?_
    refine seq_normal ?_
    first | refine w_cond rfl (fun hI2 => ?_) (fun hI2 => ?_) | refine w_condB rfl (fun hI2 => ?_) (fun hI2 => ?_)
    · refine w_skip ?_
      refine seq_normal ?_
      first | refine w_cond rfl (fun hI3 => ?_) (fun hI3 => ?_) | refine w_condB rfl (fun hI3 => ?_) (fun hI3 => ?_)
      · try (exfalso; omega)
        all_goals
          refine w_seq ?_
          refine w_region ?_
          refine w_o rfl rfl rfl (op_fieldAddr fa_23_1 rfl ?_)
          refine w_o rfl rfl rfl (op_loadF agg_3 rfl el_ rfl ?_)
          refine w_o rfl rfl rfl (op_buildSlice rfl (bsl_51 _ _ _ (rfl : _ = some [_]) rfl (by decide)) fun b15 => ?_)
          refine w_o rfl rfl rfl (op_call rfl rfl rfl ?_)
          refine Encode1_w (v := x.f1) (Sl.of_row (List.Mem.head _) rfl) ?_
          refine w_o rfl rfl rfl (op_assign rfl ?_)
          refine w_end ?_
          refine seq_normal ?_
          refine w_ret ?_
          refine block_ret ?_
          refine seq_ret ?_
          rw [show bytesV x = bsOf (encL x.f1) from if_pos (by omega)] at k
          exact ret_ret rfl sel_ k
      · try (exfalso; omega)
        all_goals
          refine w_seq ?_
          refine w_region ?_
          refine w_o rfl rfl rfl (op_eq rfl rfl ?_)
          refine w_o rfl rfl rfl (op_assign rfl ?_)
          refine w_end ?_
          refine seq_normal ?_
          first | refine w_cond rfl (fun hI4 => ?_) (fun hI4 => ?_) | refine w_condB rfl (fun hI4 => ?_) (fun hI4 => ?_)
          · refine w_seq ?_
            refine w_region ?_
            refine w_o rfl rfl rfl (op_fieldAddr fa_23_1 rfl ?_)
            refine w_o rfl rfl rfl (op_loadF agg_3 rfl el_ rfl ?_)
            refine w_o rfl rfl rfl (op_buildSlice rfl (bsl_51 _ _ _ (rfl : _ = some [_]) rfl (by decide)) fun b21 => ?_)
            refine w_o rfl rfl rfl (op_call rfl rfl rfl ?_)
            refine Encode1_w (v := x.f1) (Sl.of_row (List.Mem.head _) rfl) ?_
            generalize hbs : bsOf (encL x.f1) = u at hes ⊢
            refine w_o rfl rfl rfl (op_stradd rfl rfl (by rw [sz1]; omega) ?_)
            refine w_o rfl rfl rfl (op_assign rfl ?_)
            refine w_end ?_
            refine seq_normal ?_
            refine w_ret ?_
            refine block_ret ?_
            refine seq_ret ?_
            rw [show bytesV x = (⟨#[27]⟩ : ByteArray) ++ u by unfold bytesV; rw [if_neg (by omega), if_pos hI4, hbs]] at k
            exact ret_ret rfl sel_ k
          · refine w_seq ?_
            refine w_region ?_
            refine w_o rfl rfl rfl (op_eq rfl rfl ?_)
            refine w_o rfl rfl rfl (op_assign rfl ?_)
            refine w_end ?_
            refine seq_normal ?_
            first | refine w_cond rfl (fun hI5 => ?_) (fun hI5 => ?_) | refine w_condB rfl (fun hI5 => ?_) (fun hI5 => ?_)
            · refine w_seq ?_
              refine w_region ?_
              refine w_o rfl rfl rfl (op_fieldAddr fa_23_2 rfl ?_)
              refine w_o rfl rfl rfl (op_loadF agg_9 rfl el_ rfl ?_)
              refine w_o rfl rfl rfl (op_stradd rfl rfl (by show 6 + x.f2.size ≤ _; omega) ?_)
              refine w_o rfl rfl rfl (op_stradd rfl rfl (by rw [ByteArray.size_append]; show 6 + x.f2.size + 6 ≤ _; omega) ?_)
              refine w_o rfl rfl rfl (op_assign rfl ?_)
              refine w_end ?_
              refine seq_normal ?_
              refine w_ret ?_
              refine block_ret ?_
              refine seq_ret ?_
              rw [show bytesV x = (pre200 ++ x.f2) ++ post201 by unfold bytesV; rw [if_neg (by omega), if_neg (by omega), if_pos hI5]] at k
              exact ret_ret rfl sel_ k
            · refine w_skip ?_
              refine block_normal ?_
              refine seq_normal ?_
              refine w_seq ?_
              refine w_region ?_
              refine w_o rfl rfl rfl (op_loadA agg_23 siz_23 rfl rfl el_ ?_)
              refine w_o rfl rfl rfl (op_call rfl rfl rfl ?_)
              refine of_w ?_
              refine w_o rfl rfl rfl (op_move rfl ?_)
              refine w_o rfl rfl rfl (op_extract rfl rfl ?_)
              refine w_o rfl rfl rfl (op_extract rfl rfl ?_)
              refine w_o rfl rfl rfl (op_alloc zer_40 fun b3 => ?_)
              refine w_on rfl rfl (op_store siz_40 rfl rfl rfl (by (repeat (first | exact Pick.head _ _ _ | apply Pick.tail | apply Pick.app)); first | done | fail) (Nat.le_of_ble_eq_true rfl) rfl ?_)
              refine w_o rfl rfl rfl (op_assign rfl ?_)
              refine w_end ?_
              refine seq_normal ?_
              refine w_seq ?_
              refine w_region ?_
              refine w_o rfl rfl rfl (op_fieldAddr fa_40_3 rfl ?_)
              refine w_o rfl rfl rfl (op_loadF agg_9 rfl el_ rfl ?_)
              refine w_o rfl rfl rfl (op_assign rfl ?_)
              refine w_end ?_
              refine seq_normal ?_
              refine w_ret ?_
              rw [show bytesV x = (foundV (ofP x)).f3 by unfold bytesV; rw [if_neg (by omega), if_neg (by omega), if_neg (by omega)]] at k
              exact ret_ret rfl sel_ k
    · refine w_region ?_
      refine w_o rfl rfl rfl (op_eq rfl rfl ?_)
      refine w_o rfl rfl rfl (op_assign rfl ?_)
      refine w_end ?_
      refine seq_normal ?_
      first | refine w_cond rfl (fun hI3 => ?_) (fun hI3 => ?_) | refine w_condB rfl (fun hI3 => ?_) (fun hI3 => ?_)
      · try (exfalso; omega)
        all_goals
          refine w_seq ?_
          refine w_region ?_
          refine w_o rfl rfl rfl (op_fieldAddr fa_23_1 rfl ?_)
          refine w_o rfl rfl rfl (op_loadF agg_3 rfl el_ rfl ?_)
          refine w_o rfl rfl rfl (op_buildSlice rfl (bsl_51 _ _ _ (rfl : _ = some [_]) rfl (by decide)) fun b15 => ?_)
          refine w_o rfl rfl rfl (op_call rfl rfl rfl ?_)
          refine Encode1_w (v := x.f1) (Sl.of_row (List.Mem.head _) rfl) ?_
          refine w_o rfl rfl rfl (op_assign rfl ?_)
          refine w_end ?_
          refine seq_normal ?_
          refine w_ret ?_
          refine block_ret ?_
          refine seq_ret ?_
          rw [show bytesV x = bsOf (encL x.f1) from if_pos (by omega)] at k
          exact ret_ret rfl sel_ k
      · try (exfalso; omega)
        all_goals
          refine w_seq ?_
          refine w_region ?_
          refine w_o rfl rfl rfl (op_eq rfl rfl ?_)
          refine w_o rfl rfl rfl (op_assign rfl ?_)
          refine w_end ?_
          refine seq_normal ?_
          first | refine w_cond rfl (fun hI4 => ?_) (fun hI4 => ?_) | refine w_condB rfl (fun hI4 => ?_) (fun hI4 => ?_)
          · refine w_seq ?_
            refine w_region ?_
            refine w_o rfl rfl rfl (op_fieldAddr fa_23_1 rfl ?_)
            refine w_o rfl rfl rfl (op_loadF agg_3 rfl el_ rfl ?_)
            refine w_o rfl rfl rfl (op_buildSlice rfl (bsl_51 _ _ _ (rfl : _ = some [_]) rfl (by decide)) fun b21 => ?_)
            refine w_o rfl rfl rfl (op_call rfl rfl rfl ?_)
            refine Encode1_w (v := x.f1) (Sl.of_row (List.Mem.head _) rfl) ?_
            generalize hbs : bsOf (encL x.f1) = u at hes ⊢
            refine w_o rfl rfl rfl (op_stradd rfl rfl (by rw [sz1]; omega) ?_)
            refine w_o rfl rfl rfl (op_assign rfl ?_)
            refine w_end ?_
            refine seq_normal ?_
            refine w_ret ?_
            refine block_ret ?_
            refine seq_ret ?_
            rw [show bytesV x = (⟨#[27]⟩ : ByteArray) ++ u by unfold bytesV; rw [if_neg (by omega), if_pos hI4, hbs]] at k
            exact ret_ret rfl sel_ k
          · refine w_seq ?_
            refine w_region ?_
            refine w_o rfl rfl rfl (op_eq rfl rfl ?_)
            refine w_o rfl rfl rfl (op_assign rfl ?_)
            refine w_end ?_
            refine seq_normal ?_
            first | refine w_cond rfl (fun hI5 => ?_) (fun hI5 => ?_) | refine w_condB rfl (fun hI5 => ?_) (fun hI5 => ?_)
            · refine w_seq ?_
              refine w_region ?_
              refine w_o rfl rfl rfl (op_fieldAddr fa_23_2 rfl ?_)
              refine w_o rfl rfl rfl (op_loadF agg_9 rfl el_ rfl ?_)
              refine w_o rfl rfl rfl (op_stradd rfl rfl (by show 6 + x.f2.size ≤ _; omega) ?_)
              refine w_o rfl rfl rfl (op_stradd rfl rfl (by rw [ByteArray.size_append]; show 6 + x.f2.size + 6 ≤ _; omega) ?_)
              refine w_o rfl rfl rfl (op_assign rfl ?_)
              refine w_end ?_
              refine seq_normal ?_
              refine w_ret ?_
              refine block_ret ?_
              refine seq_ret ?_
              rw [show bytesV x = (pre200 ++ x.f2) ++ post201 by unfold bytesV; rw [if_neg (by omega), if_neg (by omega), if_pos hI5]] at k
              exact ret_ret rfl sel_ k
            · refine w_skip ?_
              refine block_normal ?_
              refine seq_normal ?_
              refine w_seq ?_
              refine w_region ?_
              refine w_o rfl rfl rfl (op_loadA agg_23 siz_23 rfl rfl el_ ?_)
              refine w_o rfl rfl rfl (op_call rfl rfl rfl ?_)
              refine of_w ?_
              refine w_o rfl rfl rfl (op_move rfl ?_)
              refine w_o rfl rfl rfl (op_extract rfl rfl ?_)
              refine w_o rfl rfl rfl (op_extract rfl rfl ?_)
              refine w_o rfl rfl rfl (op_alloc zer_40 fun b3 => ?_)
              refine w_on rfl rfl (op_store siz_40 rfl rfl rfl (by (repeat (first | exact Pick.head _ _ _ | apply Pick.tail | apply Pick.app)); first | done | fail) (Nat.le_of_ble_eq_true rfl) rfl ?_)
              refine w_o rfl rfl rfl (op_assign rfl ?_)
              refine w_end ?_
              refine seq_normal ?_
              refine w_seq ?_
              refine w_region ?_
              refine w_o rfl rfl rfl (op_fieldAddr fa_40_3 rfl ?_)
              refine w_o rfl rfl rfl (op_loadF agg_9 rfl el_ rfl ?_)
              refine w_o rfl rfl rfl (op_assign rfl ?_)
              refine w_end ?_
              refine seq_normal ?_
              refine w_ret ?_
              rw [show bytesV x = (foundV (ofP x)).f3 by unfold bytesV; rw [if_neg (by omega), if_neg (by omega), if_neg (by omega)]] at k
              exact ret_ret rfl sel_ k
def endsL : List ByteArray := [⟨#[]⟩, ⟨#[]⟩, ⟨#[]⟩, ⟨#[]⟩, ⟨#[]⟩, ⟨#[27]⟩, ⟨#[127]⟩, ⟨#[27, 91, 65]⟩, ⟨#[27, 91, 66]⟩, ⟨#[27, 91, 67]⟩, ⟨#[27, 91, 68]⟩, ⟨#[27, 91, 72]⟩, ⟨#[27, 91, 70]⟩, ⟨#[27, 91, 51, 126]⟩, ⟨#[27, 91, 53, 126]⟩]
theorem ends_keys : ∀ p ∈ ([(5, 0), (6, 0), (7, 0), (8, 0), (9, 0), (10, 0), (11, 0), (12, 0), (13, 0), (14, 0)] : List (Int × Int)), (endsL[p.1.toNat]?).map bl = some (bl (foundV (fun n => decide (n.f0 = p.1) && decide (n.f1 = p.2))).f3) := by decide +kernel
theorem tab_end {x : KeyS} (h : tableV.any (ofP x) = true) (h4 : ¬ x.f0 = 4) (h14 : ¬ (x.f0 = 14 ∧ x.f1 = 1)) {z : ByteArray} (hz : endsL[x.f0.toNat]? = some z) : (foundV (ofP x)).f3 = z := by
  have hh := any_tab h
  have e : ofP x = fun n => decide (n.f0 = x.f0) && decide (n.f1 = x.f1) := rfl
  have h0 : x.f1 = 0 := by clear e; omega
  have hm : (x.f0, x.f1) ∈ ([(5, 0), (6, 0), (7, 0), (8, 0), (9, 0), (10, 0), (11, 0), (12, 0), (13, 0), (14, 0)] : List (Int × Int)) := by
    have : x.f0 = 5 ∨ x.f0 = 6 ∨ x.f0 = 7 ∨ x.f0 = 8 ∨ x.f0 = 9 ∨ x.f0 = 10 ∨ x.f0 = 11 ∨ x.f0 = 12 ∨ x.f0 = 13 ∨ x.f0 = 14 := by clear e; omega
    rcases this with h | h | h | h | h | h | h | h | h | h <;> simp [h, h0]
  have hk := ends_keys _ hm
  simp only at hk
  rw [hz] at hk
  rw [e]
  exact bl_inj (Option.some.inj hk).symm
theorem end_13 {x : KeyS} (h0 : x.f0 = 4) (h : x.f1 = 13 ∨ x.f1 = 10) : (foundV (ofP x)).f3 = bsOf [x.f1] := by
  have k1 : bl (foundV (fun n => decide (n.f0 = 4) && decide (n.f1 = 13))).f3 = [13] := by decide +kernel
  have k2 : bl (foundV (fun n => decide (n.f0 = 4) && decide (n.f1 = 10))).f3 = [10] := by decide +kernel
  have e : ofP x = fun n => decide (n.f0 = x.f0) && decide (n.f1 = x.f1) := rfl
  rw [e]
  refine bl_inj ?_
  rcases h with h | h
  · rw [h0, h, k1]; rfl
  · rw [h0, h, k2]; rfl
theorem end_pgdn {x : KeyS} (h0 : x.f0 = 14) (h : x.f1 = 1) : (foundV (ofP x)).f3 = ⟨#[27, 91, 54, 126]⟩ := by
  have k1 : bl (foundV (fun n => decide (n.f0 = 14) && decide (n.f1 = 1))).f3 = [27, 91, 54, 126] := by decide +kernel
  have e : ofP x = fun n => decide (n.f0 = x.f0) && decide (n.f1 = x.f1) := rfl
  rw [e]
  refine bl_inj ?_
  rw [h0, h, k1]
theorem r02Bytes {v : Int} (h : rightV v = true) : Go.Proofs.Yteghmemcikiblaa.P.dactylref02_Bytes.f v = some (bsOf (encL v)) := by
  unfold encL
  by_cases hp : pointV v = true
  · rw [if_pos hp]
    simp only [pointV, decide_eq_true_eq] at hp
    exact Go.Proofs.Yteghmemcikiblaa.P.hx_bytes v (by omega)
  · rw [if_neg hp, if_pos h]
    unfold rightV at h
    rw [show pointV v = false by simpa using hp, Bool.false_or] at h
    exact Go.Proofs.Yteghmemcikiblaa.P.hx_bytes2 v (of_decide_eq_true h)
theorem refBytes_w {H : Hyp} {K : V → Hyp → Prop} {x : KeyS} (hm : mayV x = true) (ht : x.f2.size ≤ 300) (k : K (vS (bytesV x)) H) : CallW Try.prog Xs 14 [.one (.agg (encK x))] H K := by
  have hk := may_kind hm
  refine call_of (n := 52) (fun _ => rfl) Try.func14 rfl rfl ?_
  refine w_seq ?_
  refine w_region ?_
  refine w_o rfl rfl rfl (op_box rfl fun b1 => ?_)
  refine w_o rfl rfl rfl (op_assign rfl ?_)
  refine w_end ?_
  refine seq_normal ?_
  refine w_seq ?_
  refine w_seq ?_
  refine w_region ?_
  refine w_o rfl rfl rfl (op_fieldAddr fa_23_0 rfl ?_)
  refine w_o rfl rfl rfl (op_loadF agg_3 rfl el_ rfl ?_)
  refine w_o rfl rfl rfl (op_eq rfl rfl ?_)
  refine w_end ?_
  refine seq_normal ?_
  first | refine w_cond rfl (fun hI1 => ?_) (fun hI1 => ?_) | refine w_condB rfl (fun hI1 => ?_) (fun hI1 => ?_)
  · refine w_seq ?_
    refine w_region ?_
    refine w_o rfl rfl rfl (op_fieldAddr fa_23_1 rfl ?_)
    refine w_o rfl rfl rfl (op_loadF agg_3 rfl el_ rfl ?_)
    refine w_o rfl rfl rfl (op_call rfl rfl rfl ?_)
    have hr : rightV x.f1 = true := by
      have := (may_plain hm (by omega)).2.2
      unfold rightK at this
      rw [if_pos hI1] at this
      simp only [Bool.and_eq_true] at this
      exact this.1
    refine dactylref02_Bytes_sw (r02Bytes hr) ?_
    refine w_o rfl rfl rfl (op_assign rfl ?_)
    refine w_end ?_
    refine seq_normal ?_
    refine w_ret ?_
    refine seq_ret ?_
    rw [show bytesV x = bsOf (encL x.f1) from if_pos (by omega)] at k
    exact ret_ret rfl sel_ k
  · refine w_skip ?_
    refine seq_normal ?_
    refine w_seq ?_
    refine w_seq ?_
    refine w_region ?_
    refine w_o rfl rfl rfl (op_fieldAddr fa_23_0 rfl ?_)
    refine w_o rfl rfl rfl (op_loadF agg_3 rfl el_ rfl ?_)
    refine w_o rfl rfl rfl (op_eq rfl rfl ?_)
    refine w_o rfl rfl rfl (op_move rfl ?_)
    first | refine w_known (t := 13) rfl (fun g13 => ?_) (fun g13 => ?_) | refine w_knownB (t := 13) rfl (fun g13 => ?_) (fun g13 => ?_)
    · refine w_u rfl rfl rfl rfl rfl rfl ?_
      refine w_u rfl rfl rfl rfl rfl rfl ?_
      refine w_u rfl rfl rfl rfl rfl rfl ?_
      refine w_o rfl rfl rfl (op_pick rfl rfl rfl ?_)
      refine w_end ?_
      refine seq_normal ?_
      refine w_condT rfl ?_
      refine w_seq ?_
      refine w_region ?_
      refine w_o rfl rfl rfl (op_fieldAddr fa_23_1 rfl ?_)
      refine w_o rfl rfl rfl (op_loadF agg_3 rfl el_ rfl ?_)
      have hq20 : 0 ≤ x.f1 ∧ x.f1 ≤ 31 := by
        by_cases h4 : x.f0 = 4
        · have := any_tab (may_tab hm (by omega) (by omega) (by omega) (by omega)); omega
        · have := (may_plain hm (by omega)).2.2
          unfold rightK at this
          rw [if_neg (by omega), if_pos (by omega)] at this
          exact controlV_in this
      refine w_o rfl rfl rfl (op_convi und_3 und_5 rfl (c := x.f1) (by rw [w_u8]; omega) ?_)
      refine w_o rfl rfl rfl (op_buildSlice rfl (bsl_48 _ _ _ (rfl : _ = some [_]) rfl (by decide)) fun b21 => ?_)
      refine w_o rfl rfl rfl (op_bytesStr (l := [x.f1]) (N := [(b21, .row true 5 1 [.int .u8 x.f1])]) und_48 und_5 und_9 rfl (Own.row _ 1 _ rfl) (fun y hy => by rw [List.mem_singleton.1 hy]; exact List.Mem.head _) ?_)
      refine w_o rfl rfl rfl (op_assign rfl ?_)
      refine w_end ?_
      refine seq_normal ?_
      refine w_ret ?_
      refine seq_ret ?_
      have he : bytesV x = bsOf [x.f1] := by
        by_cases h4 : x.f0 = 4
        · have hq := any_tab (may_tab hm (by omega) (by omega) (by omega) (by omega))
          unfold bytesV
          rw [if_neg (by omega), if_neg (by omega), if_neg (by omega)]
          exact end_13 h4 (by omega)
        · have := (may_plain hm (by omega)).2.2
          unfold rightK at this
          rw [if_neg (by omega), if_pos (by omega)] at this
          have hq := controlV_in this
          unfold bytesV
          rw [if_pos (by omega), encL_ascii hq.1 (by omega)]
      rw [he] at k
      exact ret_ret rfl sel_ k
    · refine w_og rfl rfl rfl rfl rfl (op_fieldAddr fa_23_0 rfl ?_)
      refine w_og rfl rfl rfl rfl rfl (op_loadF agg_3 rfl el_ rfl ?_)
      refine w_og rfl rfl rfl rfl rfl (op_eq rfl rfl ?_)
      refine w_o rfl rfl rfl (op_pick rfl rfl rfl ?_)
      refine w_end ?_
      refine seq_normal ?_
      first | refine w_cond rfl (fun hI2 => ?_) (fun hI2 => ?_) | refine w_condB rfl (fun hI2 => ?_) (fun hI2 => ?_)
      · try (exfalso; omega)
        all_goals
          refine w_seq ?_
          refine w_region ?_
          refine w_o rfl rfl rfl (op_fieldAddr fa_23_1 rfl ?_)
          refine w_o rfl rfl rfl (op_loadF agg_3 rfl el_ rfl ?_)
          have hq20 : 0 ≤ x.f1 ∧ x.f1 ≤ 31 := by
            by_cases h4 : x.f0 = 4
            · have := any_tab (may_tab hm (by omega) (by omega) (by omega) (by omega)); omega
            · have := (may_plain hm (by omega)).2.2
              unfold rightK at this
              rw [if_neg (by omega), if_pos (by omega)] at this
              exact controlV_in this
          refine w_o rfl rfl rfl (op_convi und_3 und_5 rfl (c := x.f1) (by rw [w_u8]; omega) ?_)
          refine w_o rfl rfl rfl (op_buildSlice rfl (bsl_48 _ _ _ (rfl : _ = some [_]) rfl (by decide)) fun b21 => ?_)
          refine w_o rfl rfl rfl (op_bytesStr (l := [x.f1]) (N := [(b21, .row true 5 1 [.int .u8 x.f1])]) und_48 und_5 und_9 rfl (Own.row _ 1 _ rfl) (fun y hy => by rw [List.mem_singleton.1 hy]; exact List.Mem.head _) ?_)
          refine w_o rfl rfl rfl (op_assign rfl ?_)
          refine w_end ?_
          refine seq_normal ?_
          refine w_ret ?_
          refine seq_ret ?_
          have he : bytesV x = bsOf [x.f1] := by
            by_cases h4 : x.f0 = 4
            · have hq := any_tab (may_tab hm (by omega) (by omega) (by omega) (by omega))
              unfold bytesV
              rw [if_neg (by omega), if_neg (by omega), if_neg (by omega)]
              exact end_13 h4 (by omega)
            · have := (may_plain hm (by omega)).2.2
              unfold rightK at this
              rw [if_neg (by omega), if_pos (by omega)] at this
              have hq := controlV_in this
              unfold bytesV
              rw [if_pos (by omega), encL_ascii hq.1 (by omega)]
          rw [he] at k
          exact ret_ret rfl sel_ k
      · try (exfalso; omega)
        all_goals
          refine w_skip ?_
          refine seq_normal ?_
          refine w_seq ?_
          refine w_seq ?_
          refine w_region ?_
          refine w_o rfl rfl rfl (op_fieldAddr fa_23_0 rfl ?_)
          refine w_o rfl rfl rfl (op_loadF agg_3 rfl el_ rfl ?_)
          refine w_o rfl rfl rfl (op_eq rfl rfl ?_)
          refine w_end ?_
          refine seq_normal ?_
          first | refine w_cond rfl (fun hI3 => ?_) (fun hI3 => ?_) | refine w_condB rfl (fun hI3 => ?_) (fun hI3 => ?_)
          · have hq : 0 ≤ x.f1 ∧ x.f1 ≤ 127 := by
              have := (may_plain hm (by omega)).2.2
              unfold rightK at this
              rw [if_neg (by omega), if_neg (by omega), if_pos hI3] at this
              simp only [Bool.or_eq_true, decide_eq_true_eq] at this
              rcases this with q | q
              · have := controlV_in q; omega
              · omega
            refine w_seq ?_
            refine w_region ?_
            refine w_o rfl rfl rfl (op_fieldAddr fa_23_1 rfl ?_)
            refine w_o rfl rfl rfl (op_loadF agg_3 rfl el_ rfl ?_)
            refine w_o rfl rfl rfl (op_convi und_3 und_5 rfl (c := x.f1) (by rw [w_u8]; omega) ?_)
            refine w_o rfl rfl rfl (op_buildSlice rfl (bsl_48 _ _ _ (rfl : _ = some [_, _]) rfl (by decide)) fun b29 => ?_)
            refine w_o rfl rfl rfl (op_bytesStr (l := [27, x.f1]) (N := [(b29, .row true 5 1 [.int .u8 27, .int .u8 x.f1])]) und_48 und_5 und_9 rfl (Own.row _ 2 _ rfl) (fun y hy => by rw [List.mem_singleton.1 hy]; exact List.Mem.head _) ?_)
            refine w_o rfl rfl rfl (op_assign rfl ?_)
            refine w_end ?_
            refine seq_normal ?_
            refine w_ret ?_
            refine seq_ret ?_
            have he : bytesV x = bsOf [27, x.f1] := by
              unfold bytesV
              rw [if_neg (by omega), if_pos hI3, encL_ascii hq.1 hq.2]
              exact bl_inj (by rw [bl_app]; rfl)
            rw [he] at k
            exact ret_ret rfl sel_ k
          · refine w_skip ?_
            refine seq_normal ?_
            refine w_seq ?_
            refine w_seq ?_
            refine w_region ?_
            refine w_o rfl rfl rfl (op_fieldAddr fa_23_0 rfl ?_)
            refine w_o rfl rfl rfl (op_loadF agg_3 rfl el_ rfl ?_)
            refine w_o rfl rfl rfl (op_eq rfl rfl ?_)
            refine w_end ?_
            refine seq_normal ?_
            first | refine w_cond rfl (fun hI4 => ?_) (fun hI4 => ?_) | refine w_condB rfl (fun hI4 => ?_) (fun hI4 => ?_)
            · refine w_seq ?_
              refine w_region ?_
              refine w_o rfl rfl rfl (op_fieldAddr fa_23_2 rfl ?_)
              refine w_o rfl rfl rfl (op_loadF agg_9 rfl el_ rfl ?_)
              refine w_o rfl rfl rfl (op_stradd rfl rfl (by show 6 + x.f2.size ≤ _; omega) ?_)
              refine w_o rfl rfl rfl (op_stradd rfl rfl (by rw [ByteArray.size_append]; show 6 + x.f2.size + 6 ≤ _; omega) ?_)
              refine w_o rfl rfl rfl (op_assign rfl ?_)
              refine w_end ?_
              refine seq_normal ?_
              refine w_ret ?_
              refine seq_ret ?_
              rw [show bytesV x = (pre200 ++ x.f2) ++ post201 by unfold bytesV; rw [if_neg (by omega), if_neg (by omega), if_pos hI4]] at k
              exact ret_ret rfl sel_ k
            · refine w_skip ?_
              refine seq_normal ?_
              refine w_seq ?_
              refine w_seq ?_
              refine w_region ?_
              refine w_o rfl rfl rfl (op_fieldAddr fa_23_0 rfl ?_)
              refine w_o rfl rfl rfl (op_loadF agg_3 rfl el_ rfl ?_)
              refine w_o rfl rfl rfl (op_eq rfl rfl ?_)
              refine w_o rfl rfl rfl (op_move rfl ?_)
              first | refine w_known (t := 41) rfl (fun g41 => ?_) (fun g41 => ?_) | refine w_knownB (t := 41) rfl (fun g41 => ?_) (fun g41 => ?_)
              · refine w_og rfl rfl rfl rfl rfl (op_fieldAddr fa_23_1 rfl ?_)
                refine w_og rfl rfl rfl rfl rfl (op_loadF agg_3 rfl el_ rfl ?_)
                refine w_og rfl rfl rfl rfl rfl (op_eq rfl rfl ?_)
                refine w_o rfl rfl rfl (op_pick rfl rfl rfl ?_)
                refine w_end ?_
                refine seq_normal ?_
                first | refine w_cond rfl (fun hI5 => ?_) (fun hI5 => ?_) | refine w_condB rfl (fun hI5 => ?_) (fun hI5 => ?_)
                · refine w_seq ?_
                  refine w_region ?_
                  refine w_o rfl rfl rfl (op_assign rfl ?_)
                  refine w_end ?_
                  refine seq_normal ?_
                  refine w_ret ?_
                  refine seq_ret ?_
                  rw [show bytesV x = ⟨#[27, 91, 54, 126]⟩ by unfold bytesV; rw [if_neg (by omega), if_neg (by omega), if_neg (by omega), end_pgdn (by omega) (by omega)]] at k
                  exact ret_ret rfl sel_ k
                · refine w_skip ?_
                  refine seq_normal ?_
                  refine w_seq ?_
                  refine w_region ?_
                  refine w_o rfl rfl rfl (op_buildSlice rfl (bsl_46 _ _ _ (rfl : _ = some [_, _, _, _, _, _, _, _, _, _, _, _, _, _, _]) rfl (by decide)) fun b46 => ?_)
                  refine w_o rfl rfl rfl (op_assign rfl ?_)
                  refine w_end ?_
                  refine seq_normal ?_
                  refine w_seq ?_
                  refine w_region ?_
                  refine w_o rfl rfl rfl (op_move rfl ?_)
                  refine w_o rfl rfl rfl (op_fieldAddr fa_23_0 rfl ?_)
                  refine w_o rfl rfl rfl (op_loadF agg_3 rfl el_ rfl ?_)
                  refine w_o rfl rfl rfl (op_indexT (xs := endsL) (enc := encStr) (j := x.f0.toNat) und_46 siz_9 rfl rfl (Sl.of_row (List.Mem.head _) rfl) (fun _ => rfl) (by omega) (by show x.f0.toNat < 15; omega) fun b50 o50 z50 h50 e50 => ?_)
                  refine w_o rfl rfl rfl (op_load1 agg_9 rfl el_ ?_)
                  refine w_o rfl rfl rfl (op_assign rfl ?_)
                  refine w_end ?_
                  refine seq_normal ?_
                  refine w_ret ?_
                  have ht2 := may_tab hm (by omega) (by omega) (by omega) (by omega)
                  rw [show bytesV x = z50 by unfold bytesV; rw [if_neg (by omega), if_neg (by omega), if_neg (by omega)]; exact tab_end ht2 (by omega) (by omega) h50] at k
                  exact ret_ret rfl sel_ k
              · refine w_u rfl rfl rfl rfl rfl rfl ?_
                refine w_u rfl rfl rfl rfl rfl rfl ?_
                refine w_u rfl rfl rfl rfl rfl rfl ?_
                refine w_o rfl rfl rfl (op_pick rfl rfl rfl ?_)
                refine w_end ?_
                refine seq_normal ?_
                refine w_condF rfl ?_
                refine w_skip ?_
                refine seq_normal ?_
                refine w_seq ?_
                refine w_region ?_
                refine w_o rfl rfl rfl (op_buildSlice rfl (bsl_46 _ _ _ (rfl : _ = some [_, _, _, _, _, _, _, _, _, _, _, _, _, _, _]) rfl (by decide)) fun b46 => ?_)
                refine w_o rfl rfl rfl (op_assign rfl ?_)
                refine w_end ?_
                refine seq_normal ?_
                refine w_seq ?_
                refine w_region ?_
                refine w_o rfl rfl rfl (op_move rfl ?_)
                refine w_o rfl rfl rfl (op_fieldAddr fa_23_0 rfl ?_)
                refine w_o rfl rfl rfl (op_loadF agg_3 rfl el_ rfl ?_)
                refine w_o rfl rfl rfl (op_indexT (xs := endsL) (enc := encStr) (j := x.f0.toNat) und_46 siz_9 rfl rfl (Sl.of_row (List.Mem.head _) rfl) (fun _ => rfl) (by omega) (by show x.f0.toNat < 15; omega) fun b50 o50 z50 h50 e50 => ?_)
                refine w_o rfl rfl rfl (op_load1 agg_9 rfl el_ ?_)
                refine w_o rfl rfl rfl (op_assign rfl ?_)
                refine w_end ?_
                refine seq_normal ?_
                refine w_ret ?_
                have ht2 := may_tab hm (by omega) (by omega) (by omega) (by omega)
                rw [show bytesV x = z50 by unfold bytesV; rw [if_neg (by omega), if_neg (by omega), if_neg (by omega)]; exact tab_end ht2 (by omega) (by omega) h50] at k
                exact ret_ret rfl sel_ k
end Go.Proofs.Yteghmemcikiblaa.AM.B
