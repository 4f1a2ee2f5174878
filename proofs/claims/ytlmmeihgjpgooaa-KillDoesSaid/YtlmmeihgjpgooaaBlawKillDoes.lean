/- The law KillDoes: it answers true, whatever comes in. -/
import Derived.Test.YtlmmeihgjpgooaaAX
import Derived.Test.YtlmmeihgjpgooaaBref18
import Derived.Test.YtlmmeihgjpgooaaBkillx
set_option linter.unusedVariables false
set_option linter.unusedSimpArgs false
set_option maxRecDepth 10000
set_option maxHeartbeats 4000000
namespace Go.Proofs.Ytlmmeihgjpgooaa.AM.B
open Go Go.RowKit
abbrev CallP := Int × Cell
def encP (x : CallP) : List Cell := [.int .i64 x.1, x.2]
def RInv (H : Hyp) (p m b7 : Nat) (most : Int) (i : Nat) (H' : Hyp) : Prop :=
  ∃ (clock : Nat) (fr tz hand : Int) (L : List (List Sign)) (es : Ents) (NS : Hyp) (hi : Nat) (ck : Cell) (kh : Int) (NK : Hyp), RingOK L es fr NS ∧ tz = fr + L.length ∧ 0 ≤ fr ∧ fr ≤ i ∧ L.length ≤ i ∧ (∀ t ∈ L, t.length ≤ 60 * i) ∧ (L.length ≠ 0 → hand = fr + hi ∧ hi < L.length ∧ kh = hi) ∧ KV (NK ++ H) L ck ∧
    H' = (p, ringRow m fr tz hand most) :: (m, .map es clock) :: (NS ++ ((b7, .row true 56 1 [ck, .int .i64 kh]) :: (NK ++ H)))
section
variable {H : Hyp} {p m b7 i : Nat} {most : Int} {clock : Nat} {fr tz hand : Int} {L : List (List Sign)} {es : Ents} {NS : Hyp} {hx : Nat} {ck : Cell} {kh : Int} {NK : Hyp}
/-- Nothing was done. -/
theorem RInv_s (hr : RingOK L es fr NS) (hto : tz = fr + L.length) (hf1 : 0 ≤ fr) (hf2 : fr ≤ i) (hLi : L.length ≤ i) (hM : ∀ t ∈ L, t.length ≤ 60 * i) (hh : L.length ≠ 0 → hand = fr + hx ∧ hx < L.length ∧ kh = hx) (hKV : KV (NK ++ H) L ck) :
    RInv H p m b7 most (i + 1) ((p, ringRow m fr tz hand most) :: (m, .map es clock) :: (NS ++ ((b7, .row true 56 1 [ck, .int .i64 kh]) :: (NK ++ H)))) :=
  ⟨clock, fr, tz, hand, L, es, NS, hx, ck, kh, NK, hr, hto, hf1, by omega, by omega, (fun t ht => by have := hM t ht; omega), hh, hKV, rfl⟩
/-- A turn of an empty ring. -/
theorem RInv_e (hr : RingOK L es fr NS) (hto : tz = fr + L.length) (hf1 : 0 ≤ fr) (hf2 : fr ≤ i) (hLi : L.length ≤ i) (hM : ∀ t ∈ L, t.length ≤ 60 * i) (h0 : L.length = 0) (hKV : KV (NK ++ H) L ck) :
    RInv H p m b7 most (i + 1) ((p, ringRow m fr tz hand most) :: (m, .map es clock) :: (NS ++ ((b7, .row true 56 1 [ck, .int .i64 (if L.length = 0 then kh else ((if hx = 0 then L.length - 1 else hx - 1 : Nat) : Int))]) :: (NK ++ H)))) :=
  ⟨clock, fr, tz, hand, L, es, NS, hx, ck, _, NK, hr, hto, hf1, by omega, by omega, (fun t ht => by have := hM t ht; omega), fun h => absurd h0 h, hKV, rfl⟩
/-- A turn. -/
theorem RInv_t (hr : RingOK L es fr NS) (hto : tz = fr + L.length) (hf1 : 0 ≤ fr) (hf2 : fr ≤ i) (hLi : L.length ≤ i) (hM : ∀ t ∈ L, t.length ≤ 60 * i) (hh : L.length ≠ 0 → hand = fr + hx ∧ hx < L.length ∧ kh = hx) (h0 : L.length ≠ 0) (hKV : KV (NK ++ H) L ck) :
    RInv H p m b7 most (i + 1) ((p, ringRow m fr tz (if hand - 1 < fr then tz - 1 else hand - 1) most) :: (m, .map es clock) :: (NS ++ ((b7, .row true 56 1 [ck, .int .i64 (if L.length = 0 then kh else ((if hx = 0 then L.length - 1 else hx - 1 : Nat) : Int))]) :: (NK ++ H)))) := by
  refine ⟨clock, fr, tz, (if hand - 1 < fr then tz - 1 else hand - 1), L, es, NS, (if hx = 0 then L.length - 1 else hx - 1), ck, _, NK, hr, hto, hf1, by omega, by omega, (fun t ht => by have := hM t ht; omega), (fun h => ?_), hKV, rfl⟩
  obtain ⟨a, b, c⟩ := hh h
  refine ⟨?_, ?_, if_neg h⟩
  · by_cases q : hx = 0
    · rw [if_pos (by omega), if_pos q]; omega
    · rw [if_neg (by omega), if_neg q]; omega
  · split <;> omega
/-- A push. -/
theorem RInv_p {lx : List Sign} {how : Int} {clock' : Nat} {fr' tz' : Int} {es' : Ents} {NS' : Hyp} {ck' : Cell} {NK' : Hyp} (hr' : RingOK (pushM L lx how most) es' fr' NS') (hto' : tz' = fr' + (pushM L lx how most).length) (hf1' : fr ≤ fr') (hf2' : fr' ≤ fr + 1) (hf1 : 0 ≤ fr) (hf2 : fr ≤ i) (hLi : L.length ≤ i) (hM : ∀ t ∈ L, t.length ≤ 60 * i) (hlx : ¬ (lx.length : Int) > 60) (hm1 : 1 ≤ most) (hKV' : KV (NK' ++ (NK ++ H)) (pushM L lx how most) ck') :
    RInv H p m b7 most (i + 1) ((p, ringRow m fr' tz' (tz' - 1) most) :: (m, .map es' clock') :: (NS' ++ ((b7, .row true 56 1 [ck', .int .i64 ((pushM L lx how most).length - 1 : Int)]) :: (NK' ++ NK ++ H)))) := by
  have hp1 := (pushM_last (L := L) (l := lx) (how := how) (most := most) (by omega)).1
  have hol := outM_len L lx how
  have hpl : (pushM L lx how most).length ≤ L.length + 1 := by
    unfold pushM
    have : (outM L lx how).length ≤ L.length + 1 := by rw [hol]; split <;> omega
    split
    · rw [List.length_drop]; omega
    · exact this
  have hjl := joinM_le (l := lx) (how := how) hM
  rw [← List.append_assoc] at hKV'
  exact ⟨clock', fr', tz', tz' - 1, pushM L lx how most, es', NS', (pushM L lx how most).length - 1, ck', ((pushM L lx how most).length - 1 : Int), NK' ++ NK, hr', hto', by omega, by omega, by omega, (fun t ht => by
    rcases pushM_mem ht with h | h
    · have := hM t h; omega
    · subst h; omega), (fun h => ⟨by omega, by omega, by omega⟩), hKV', rfl⟩
end
theorem RPushNil_w {H : Hyp} {K : V → Hyp → Prop} {c cl : Cell} {l : List Sign} {hand how most : Int} (hl : Sl H 46 2 cl l.length (l.flatMap encS)) (h0 : l.length = 0) (k : K (.one (.agg [c, .int .i64 hand])) H) : CallW Try.prog Xs 45 [.one (.agg [c, .int .i64 hand]), .one (.c cl), vI how, vI most] H K := by
  refine call_of (n := 67) (fun _ => rfl) Try.func45 rfl rfl ?_
  refine w_seq ?_
  refine w_region ?_
  refine w_o rfl rfl rfl (op_box rfl fun b4 => ?_)
  refine w_o rfl rfl rfl (op_alloc zer_56 fun b8 => ?_)
  refine w_end ?_
  refine seq_normal ?_
  refine w_seq ?_
  refine w_seq ?_
  refine w_region ?_
  refine w_o rfl rfl rfl (op_move rfl ?_)
  refine w_o rfl rfl rfl (op_lenC und_22 rfl hl.lenC ?_)
  refine w_o rfl rfl rfl (op_eq rfl rfl ?_)
  refine w_end ?_
  refine seq_normal ?_
  refine w_condY rfl (by omega) ?_
  refine w_seq ?_
  refine w_region ?_
  refine w_o rfl rfl rfl (op_loadA agg_56 siz_56 rfl rfl el_ ?_)
  refine w_on rfl rfl (op_store siz_56 rfl rfl rfl (by (repeat (first | exact Pick.head _ _ _ | apply Pick.tail | apply Pick.app)); first | done | fail) (Nat.le_of_ble_eq_true rfl) rfl ?_)
  refine w_end ?_
  refine seq_normal ?_
  refine w_ret ?_
  refine seq_ret ?_
  exact ret_cellA rfl agg_56 siz_56 el_ rfl sel_ k
theorem KillDoes_law {H : Hyp} {c0 : Cell} {ps : List CallP} {ls : List (List Sign)} {most : Int} (hl : Sl H 58 2 c0 ps.length (ps.flatMap encP)) (hcl : ps.length = ls.length) (hin : ∀ (i : Nat) (d : CallP) (x : List Sign), ps[i]? = some d → ls[i]? = some x → Sl H 46 2 d.2 x.length (x.flatMap encS)) :
    CallW Try.prog Xs 10 [vI most, .one (.c c0)] H (fun v _ => v = vB true) := by
  refine call_of (n := 131) (fun _ => rfl) Try.func10 rfl rfl ?_
  refine w_seq ?_
  refine w_region ?_
  refine w_o rfl rfl rfl (op_assign rfl ?_)
  refine w_end ?_
  refine seq_normal ?_
  refine w_seq ?_
  refine w_seq ?_
  refine w_region ?_
  refine w_o rfl rfl rfl (op_call rfl rfl rfl ?_)
  refine awake_w ?_
  refine w_o rfl rfl rfl (op_not rfl ?_)
  refine w_end ?_
  refine seq_normal ?_
  refine w_condF rfl ?_
  refine w_skip ?_
  refine seq_normal ?_
  refine w_seq ?_
  refine w_region ?_
  refine w_o rfl rfl rfl (op_move rfl ?_)
  refine w_o rfl rfl rfl (op_call rfl rfl rfl ?_)
  refine New_w (fun hb => ?_) (fun hm1 hm2 p m => ?_)
  · refine w_o rfl rfl rfl (op_move rfl ?_)
    refine w_o rfl rfl rfl (op_extract rfl rfl ?_)
    refine w_o rfl rfl rfl (op_extract rfl rfl ?_)
    refine w_o rfl rfl rfl (op_assign rfl ?_)
    refine w_o rfl rfl rfl (op_assign rfl ?_)
    refine w_end ?_
    refine seq_normal ?_
    refine w_seq ?_
    refine w_seq ?_
    refine w_region ?_
    refine w_o rfl rfl rfl (op_move rfl ?_)
    refine w_o rfl rfl rfl (op_lt rfl rfl ?_)
    refine w_o rfl rfl rfl (op_move rfl ?_)
    first | refine w_known (t := 21) rfl (fun g21 => ?_) (fun g21 => ?_) | refine w_knownB (t := 21) rfl (fun g21 => ?_) (fun g21 => ?_)
    · try (exact absurd g21 (by omega))
      all_goals
        refine w_u rfl rfl rfl rfl rfl rfl ?_
        refine w_u rfl rfl rfl rfl rfl rfl ?_
        refine w_o rfl rfl rfl (op_pick rfl rfl rfl ?_)
        refine w_end ?_
        refine seq_normal ?_
        refine w_condT rfl ?_
        refine w_seq ?_
        refine w_region ?_
        refine w_o rfl rfl rfl (op_move rfl ?_)
        refine w_o rfl rfl rfl (op_nilEq rfl rfl rfl (by simp only [nilKind, und_51]) ?_)
        refine w_o rfl rfl rfl (op_move rfl ?_)
        first | refine w_known (t := 27) rfl (fun g27 => ?_) (fun g27 => ?_) | refine w_knownB (t := 27) rfl (fun g27 => ?_) (fun g27 => ?_)
        · refine w_og rfl rfl rfl rfl rfl (op_move rfl ?_)
          refine w_og rfl rfl rfl rfl rfl (op_eq rfl rfl ?_)
          refine w_o rfl rfl rfl (op_pick rfl rfl rfl ?_)
          refine w_o rfl rfl rfl (op_assign rfl ?_)
          refine w_end ?_
          refine seq_normal ?_
          refine w_ret ?_
          refine seq_ret ?_
          exact ret_bool rfl (.refl _) (decide_eq_true rfl) rfl
        · cases g27 --closed
    · try (exact absurd g21 (by omega))
      all_goals
        refine w_og rfl rfl rfl rfl rfl (op_move rfl ?_)
        refine w_og rfl rfl rfl rfl rfl (op_gt rfl rfl ?_)
        refine w_o rfl rfl rfl (op_pick rfl rfl rfl ?_)
        refine w_end ?_
        refine seq_normal ?_
        first | refine w_cond rfl (fun hI2 => ?_) (fun hI2 => ?_) | refine w_condB rfl (fun hI2 => ?_) (fun hI2 => ?_)
        · try (exact absurd hI2 (by omega))
          all_goals
            refine w_seq ?_
            refine w_region ?_
            refine w_o rfl rfl rfl (op_move rfl ?_)
            refine w_o rfl rfl rfl (op_nilEq rfl rfl rfl (by simp only [nilKind, und_51]) ?_)
            refine w_o rfl rfl rfl (op_move rfl ?_)
            first | refine w_known (t := 27) rfl (fun g27 => ?_) (fun g27 => ?_) | refine w_knownB (t := 27) rfl (fun g27 => ?_) (fun g27 => ?_)
            · refine w_og rfl rfl rfl rfl rfl (op_move rfl ?_)
              refine w_og rfl rfl rfl rfl rfl (op_eq rfl rfl ?_)
              refine w_o rfl rfl rfl (op_pick rfl rfl rfl ?_)
              refine w_o rfl rfl rfl (op_assign rfl ?_)
              refine w_end ?_
              refine seq_normal ?_
              refine w_ret ?_
              refine seq_ret ?_
              exact ret_bool rfl (.refl _) (decide_eq_true rfl) rfl
            · cases g27 --closed
        · try (exact absurd hI2 (by omega))
          all_goals
            refine w_skip ?_
            refine seq_normal ?_
            refine w_seq ?_
            refine w_seq ?_
            refine w_region ?_
            refine w_o rfl rfl rfl (op_move rfl ?_)
            refine w_o rfl rfl rfl (op_ne rfl rfl ?_)
            refine w_o rfl rfl rfl (op_move rfl ?_)
            first | refine w_known (t := 33) rfl (fun g33 => ?_) (fun g33 => ?_) | refine w_knownB (t := 33) rfl (fun g33 => ?_) (fun g33 => ?_)
            · exact absurd rfl g33 --closed
            · refine w_og rfl rfl rfl rfl rfl (op_move rfl ?_)
              refine w_og rfl rfl rfl rfl rfl (op_nilEq rfl rfl rfl (by simp only [nilKind, und_51]) ?_)
              refine w_o rfl rfl rfl (op_pick rfl rfl rfl ?_)
              refine w_end ?_
              refine seq_normal ?_
              refine w_condF rfl ?_
              refine w_skip ?_
              refine seq_normal ?_
              refine w_seq ?_
              refine w_region ?_
              refine w_o rfl rfl rfl (op_alloc zer_56 fun b7 => ?_)
              refine w_end ?_
              refine seq_normal ?_
              refine w_seq ?_
              refine w_seq ?_
              refine w_region ?_
              refine w_o rfl rfl rfl (op_assign rfl ?_)
              refine w_end ?_
              refine seq_normal ?_
              refine w_block ?_
              refine w_loop (fun z e H' => ∃ (i : Nat), i ≤ ps.length ∧ z = ps.length - i ∧ i ≤ 60 ∧ RInv H p m b7 most i H' ∧ e = [(0, vI most), (1, .one (.c c0)), (5, ptrV p 0), (7, ptrV b7 0), (8, vI (i : Nat))]) ?_ ?_
              · exact ⟨_, _, _, ⟨0, Nat.zero_le _, rfl, by decide, ⟨0, 0, 0, 0, [], [], [], 0, .nils, 0, [], ⟨rfl, (fun i x h => by simp at h), (fun i x l h => by simp at h)⟩, by decide, by decide, by decide, by decide, (fun t h => by simp at h), (fun h => absurd rfl h), ⟨[], Sl.nil, rfl, fun i d x h => by simp at h⟩, rfl⟩, rfl⟩, env_, sel_⟩
              · rintro z e H' ⟨i, hi, rfl, hi60, ⟨clock, fr, tz, hand, L, es, NS, hx, ck, kh, NK, hr, hto, hf1, hf2, hLi, hM, hh, hKV, rfl⟩, rfl⟩
                obtain ⟨csk, hk1, hk2, hk3⟩ := id hKV
                refine w_seq ?_
                refine w_seq ?_
                refine w_region ?_
                refine w_o rfl rfl rfl (op_move rfl ?_)
                refine w_o rfl rfl rfl (op_move rfl ?_)
                refine w_o rfl rfl rfl (op_lenC und_50 rfl hl.lenC ?_)
                refine w_o rfl rfl rfl (op_lt rfl rfl ?_)
                refine w_o rfl rfl rfl (op_move rfl ?_)
                first | refine w_known (t := 41) rfl (fun g41 => ?_) (fun g41 => ?_) | refine w_knownB (t := 41) rfl (fun g41 => ?_) (fun g41 => ?_)
                · refine w_og rfl rfl rfl rfl rfl (op_move rfl ?_)
                  refine w_og rfl rfl rfl rfl rfl (op_lt rfl rfl ?_)
                  refine w_o rfl rfl rfl (op_pick rfl rfl rfl ?_)
                  refine w_end ?_
                  refine seq_normal ?_
                  first | refine w_cond rfl (fun hI4 => ?_) (fun hI4 => ?_) | refine w_condB rfl (fun hI4 => ?_) (fun hI4 => ?_)
                  · obtain ⟨lx, hlx⟩ : ∃ x, ls[i]? = some x := ⟨_, List.getElem?_eq_getElem (by omega)⟩
                    refine w_skip ?_
                    refine seq_normal ?_
                    refine w_seq ?_
                    refine w_block ?_
                    refine w_seq ?_
                    refine w_region ?_
                    refine w_o rfl rfl rfl (op_move rfl ?_)
                    refine w_o rfl rfl rfl (op_move rfl ?_)
                    refine w_o rfl rfl rfl (op_indexT (enc := encP) und_50 siz_58 rfl rfl (hl.app.cons.app.cons.cons) (fun _ => rfl) rfl (by omega) fun b49 o49 z49 h49 e49 => ?_)
                    have hsx := hin i z49 lx h49 hlx
                    refine w_o rfl rfl rfl (op_loadA agg_58 siz_58 rfl rfl el_ ?_)
                    refine w_o rfl rfl rfl (op_alloc zer_58 fun b9 => ?_)
                    refine w_on rfl rfl (op_store siz_58 rfl rfl rfl (by (repeat (first | exact Pick.head _ _ _ | apply Pick.tail | apply Pick.app)); first | done | fail) (Nat.le_of_ble_eq_true rfl) rfl ?_)
                    refine w_end ?_
                    refine seq_normal ?_
                    refine w_seq ?_
                    refine w_seq ?_
                    refine w_region ?_
                    refine w_o rfl rfl rfl (op_fieldAddr fa_58_1 rfl ?_)
                    refine w_o rfl rfl rfl (op_loadF agg_22 rfl el_ rfl ?_)
                    refine w_o rfl rfl rfl (op_lenC und_22 rfl hsx.lenC ?_)
                    refine w_o rfl rfl rfl (op_gt rfl rfl ?_)
                    refine w_end ?_
                    refine seq_normal ?_
                    first | refine w_cond rfl (fun hI5 => ?_) (fun hI5 => ?_) | refine w_condB rfl (fun hI5 => ?_) (fun hI5 => ?_)
                    · refine w_seq ?_
                      refine w_region ?_
                      refine w_o rfl rfl rfl (op_assign rfl ?_)
                      refine w_end ?_
                      refine seq_normal ?_
                      refine w_ret ?_
                      refine seq_ret ?_
                      refine block_ret ?_
                      refine seq_ret ?_
                      refine loop_ret ?_
                      refine block_ret ?_
                      refine seq_ret ?_
                      exact ret_ret rfl (.refl _) rfl
                    · refine w_skip ?_
                      refine seq_normal ?_
                      refine w_cut (fun e H' => RInv H p m b7 most (i + 1) H' ∧ e = [(0, vI most), (1, .one (.c c0)), (5, ptrV p 0), (7, ptrV b7 0), (8, vI (i : Nat))]) ?_ ?_
                      · refine w_seq ?_
                        refine w_region ?_
                        refine w_o rfl rfl rfl (op_fieldAddr fa_58_0 rfl ?_)
                        refine w_o rfl rfl rfl (op_loadF agg_3 rfl el_ rfl ?_)
                        refine w_o rfl rfl rfl (op_ge rfl rfl ?_)
                        refine w_end ?_
                        refine seq_normal ?_
                        first | refine w_cond rfl (fun hI6 => ?_) (fun hI6 => ?_) | refine w_condB rfl (fun hI6 => ?_) (fun hI6 => ?_)
                        · refine w_seq ?_
                          refine w_seq ?_
                          refine w_drawF ((b7, .row true 56 1 [ck, .int .i64 kh]) :: (NK ++ H)) sel_ (by decide +kernel) (by decide +kernel) ?_
                          refine f_b (guard_none rfl) rfl rfl rfl rfl (op_move rfl ?_)
                          refine f_m (guard_none rfl) rfl rfl rfl (op_call rfl rfl rfl ?_)
                          refine CallW.weak (H' := (p, ringRow m fr tz hand most) :: ((b9, .row true 58 1 [.int .i64 z49.1, z49.2]) :: (m, .map es clock) :: (NS ++ ((b7, .row true 56 1 [ck, .int .i64 kh]) :: (NK ++ H))))) sel_ (Turn_w hto hf1 (by omega) (by omega) (fun h => by have := hh h; omega) (fun h0 => ?_) (fun h0 => ?_))
                          · refine ⟨sel_, ?_⟩
                            refine f_b (guard_none rfl) rfl rfl rfl rfl (op_fieldAddr fa_56_0 rfl ?_)
                            refine f_l (guard_none rfl) rfl rfl rfl sel_ (op_loadF agg_34 rfl el_ rfl rfl) ?_
                            refine f_b (guard_none rfl) rfl rfl rfl rfl (op_lenC und_34 rfl hk1.lenC ?_)
                            refine f_b (guard_none rfl) rfl rfl rfl rfl (op_gt rfl rfl ?_)
                            refine f_b (guard_none rfl) rfl rfl rfl rfl (op_boolne und_4 rfl rfl ?_)
                            refine f_end ?_
                            refine seq_normal ?_
                            refine w_condNB rfl (by first | (rw [decide_eq_false (by omega)]; rfl) | (rw [decide_eq_true (by omega)]; rfl)) ?_
                            refine w_skip ?_
                            refine seq_normal ?_
                            refine w_region ?_
                            refine w_o rfl rfl rfl (op_loadA agg_56 siz_56 rfl rfl el_ ?_)
                            refine w_o rfl rfl rfl (op_call rfl rfl rfl ?_)
                            refine RTurn_w (hi := hx) (hKV.sub subs_) (by omega) (fun h => ⟨(hh h).2.2, (hh h).2.1⟩) ?_
                            refine w_on rfl rfl (op_store siz_56 rfl rfl rfl (by (repeat (first | exact Pick.head _ _ _ | apply Pick.tail | apply Pick.app)); first | done | fail) (Nat.le_of_ble_eq_true rfl) rfl ?_)
                            refine w_end ?_
                            exact mid_normal (by first | exact ⟨RInv_e (clock := clock) (hand := hand) (hx := hx) (kh := kh) hr hto hf1 hf2 hLi hM h0 hKV, rfl⟩ | exact ⟨RInv_t (clock := clock) hr hto hf1 hf2 hLi hM hh h0 hKV, rfl⟩ | exact ⟨RInv_p (clock' := clock') hr' hto' hf1' hf2' hf1 hf2 hLi hM hI5 hm1 hKV', rfl⟩ | exact ⟨RInv_s (clock := clock) hr hto hf1 hf2 hLi hM hh hKV, rfl⟩) env_ sel_
                          · refine ⟨sel_, ?_⟩
                            refine f_b (guard_none rfl) rfl rfl rfl rfl (op_fieldAddr fa_56_0 rfl ?_)
                            refine f_l (guard_none rfl) rfl rfl rfl sel_ (op_loadF agg_34 rfl el_ rfl rfl) ?_
                            refine f_b (guard_none rfl) rfl rfl rfl rfl (op_lenC und_34 rfl hk1.lenC ?_)
                            refine f_b (guard_none rfl) rfl rfl rfl rfl (op_gt rfl rfl ?_)
                            refine f_b (guard_none rfl) rfl rfl rfl rfl (op_boolne und_4 rfl rfl ?_)
                            refine f_end ?_
                            refine seq_normal ?_
                            refine w_condNB rfl (by first | (rw [decide_eq_false (by omega)]; rfl) | (rw [decide_eq_true (by omega)]; rfl)) ?_
                            refine w_skip ?_
                            refine seq_normal ?_
                            refine w_region ?_
                            refine w_o rfl rfl rfl (op_loadA agg_56 siz_56 rfl rfl el_ ?_)
                            refine w_o rfl rfl rfl (op_call rfl rfl rfl ?_)
                            refine RTurn_w (hi := hx) (hKV.sub subs_) (by omega) (fun h => ⟨(hh h).2.2, (hh h).2.1⟩) ?_
                            refine w_on rfl rfl (op_store siz_56 rfl rfl rfl (by (repeat (first | exact Pick.head _ _ _ | apply Pick.tail | apply Pick.app)); first | done | fail) (Nat.le_of_ble_eq_true rfl) rfl ?_)
                            refine w_end ?_
                            exact mid_normal (by first | exact ⟨RInv_e (clock := clock) (hand := hand) (hx := hx) (kh := kh) hr hto hf1 hf2 hLi hM h0 hKV, rfl⟩ | exact ⟨RInv_t (clock := clock) hr hto hf1 hf2 hLi hM hh h0 hKV, rfl⟩ | exact ⟨RInv_p (clock' := clock') hr' hto' hf1' hf2' hf1 hf2 hLi hM hI5 hm1 hKV', rfl⟩ | exact ⟨RInv_s (clock := clock) hr hto hf1 hf2 hLi hM hh hKV, rfl⟩) env_ sel_
                        · refine w_seq ?_
                          refine w_region ?_
                          refine w_o rfl rfl rfl (op_move rfl ?_)
                          refine w_o rfl rfl rfl (op_fieldAddr fa_58_1 rfl ?_)
                          refine w_o rfl rfl rfl (op_loadF agg_22 rfl el_ rfl ?_)
                          refine w_o rfl rfl rfl (op_fieldAddr fa_58_0 rfl ?_)
                          refine w_o rfl rfl rfl (op_loadF agg_3 rfl el_ rfl ?_)
                          refine w_o rfl rfl rfl (op_call rfl rfl rfl ?_)
                          refine CallW.weak (H' := (p, ringRow m fr tz hand most) :: (m, .map es clock) :: (NS ++ ((b9, .row true 58 1 [.int .i64 z49.1, z49.2]) :: (b7, .row true 56 1 [ck, .int .i64 kh]) :: (NK ++ H)))) sel_ (Push_w (M := 60 * i) hto hr (hsx.app.cons.cons) hf1 (by omega) (by omega) hM (by omega) (fun hb => ?_) (fun hw1 hw2 hall hz => ?_) (fun hw1 hw2 hall hne es' clock' fr' tz' NS' hr' hto' hf1' hf2' => ?_))
                          · refine w_o rfl rfl rfl (op_assign rfl ?_)
                            refine w_end ?_
                            refine seq_normal ?_
                            refine w_seq ?_
                            refine w_region ?_
                            refine w_o rfl rfl rfl (op_fieldAddr fa_58_0 rfl ?_)
                            refine w_o rfl rfl rfl (op_loadF agg_3 rfl el_ rfl ?_)
                            refine w_o rfl rfl rfl (op_lt rfl rfl ?_)
                            refine w_o rfl rfl rfl (op_move rfl ?_)
                            first | refine w_known (t := 76) rfl (fun g76 => ?_) (fun g76 => ?_) | refine w_knownB (t := 76) rfl (fun g76 => ?_) (fun g76 => ?_)
                            · try (exact absurd g76 (by omega))
                              all_goals
                                refine w_u rfl rfl rfl rfl rfl rfl ?_
                                refine w_u rfl rfl rfl rfl rfl rfl ?_
                                refine w_u rfl rfl rfl rfl rfl rfl ?_
                                refine w_o rfl rfl rfl (op_pick rfl rfl rfl ?_)
                                refine w_o rfl rfl rfl (op_move rfl ?_)
                                refine w_u rfl rfl rfl rfl rfl rfl ?_
                                refine w_u rfl rfl rfl rfl rfl rfl ?_
                                refine w_u rfl rfl rfl rfl rfl rfl ?_
                                refine w_u rfl rfl rfl rfl rfl rfl ?_
                                refine w_o rfl rfl rfl (op_pick rfl rfl rfl ?_)
                                refine w_o rfl rfl rfl (op_assign rfl ?_)
                                refine w_end ?_
                                refine seq_normal ?_
                                refine w_seq ?_
                                refine w_seq ?_
                                refine w_region ?_
                                refine w_o rfl rfl rfl (op_move rfl ?_)
                                refine w_o rfl rfl rfl (op_move rfl ?_)
                                refine w_og rfl rfl rfl rfl rfl (op_move rfl ?_)
                                refine w_og rfl rfl rfl rfl rfl (op_ne rfl rfl ?_)
                                refine w_o rfl rfl rfl (op_pick rfl rfl rfl ?_)
                                refine w_o rfl rfl rfl (op_move rfl ?_)
                                first | refine w_known (t := 92) rfl (fun g92 => ?_) (fun g92 => ?_) | refine w_knownB (t := 92) rfl (fun g92 => ?_) (fun g92 => ?_)
                                · try (first | exact absurd rfl g92 | (cases g92; done))
                                  all_goals
                                    refine w_u rfl rfl rfl rfl rfl rfl ?_
                                    refine w_u rfl rfl rfl rfl rfl rfl ?_
                                    refine w_u rfl rfl rfl rfl rfl rfl ?_
                                    refine w_u rfl rfl rfl rfl rfl rfl ?_
                                    refine w_u rfl rfl rfl rfl rfl rfl ?_
                                    refine w_u rfl rfl rfl rfl rfl rfl ?_
                                    refine w_o rfl rfl rfl (op_pick rfl rfl rfl ?_)
                                    refine w_end ?_
                                    refine seq_normal ?_
                                    refine w_condT rfl ?_
                                    refine w_seq ?_
                                    refine w_region ?_
                                    refine w_o rfl rfl rfl (op_assign rfl ?_)
                                    refine w_end ?_
                                    refine seq_normal ?_
                                    refine w_ret ?_
                                    refine seq_ret ?_
                                    refine mid_ret ?_
                                    refine block_ret ?_
                                    refine seq_ret ?_
                                    refine loop_ret ?_
                                    refine block_ret ?_
                                    refine seq_ret ?_
                                    exact ret_ret rfl (.refl _) (by assumption)
                                · try (first | exact absurd rfl g92 | (cases g92; done))
                                  all_goals
                                    refine w_og rfl rfl rfl rfl rfl (op_move rfl ?_)
                                    refine w_og rfl rfl rfl rfl rfl (op_not rfl ?_)
                                    refine w_og rfl rfl rfl rfl rfl (op_move rfl ?_)
                                    refine w_u rfl rfl rfl rfl rfl rfl ?_
                                    refine w_u rfl rfl rfl rfl rfl rfl ?_
                                    refine w_og rfl rfl rfl rfl rfl (op_pick rfl rfl rfl ?_)
                                    refine w_o rfl rfl rfl (op_pick rfl rfl rfl ?_)
                                    refine w_end ?_
                                    refine seq_normal ?_
                                    refine w_condF rfl ?_
                                    refine w_skip ?_
                                    refine seq_normal ?_
                                    refine w_seq ?_
                                    refine w_region ?_
                                    refine w_o rfl rfl rfl (op_move rfl ?_)
                                    refine w_o rfl rfl rfl (op_not rfl ?_)
                                    refine w_end ?_
                                    refine seq_normal ?_
                                    refine w_condF rfl ?_
                                    refine w_skip ?_
                                    exact mid_normal (by first | exact ⟨RInv_e (clock := clock) (hand := hand) (hx := hx) (kh := kh) hr hto hf1 hf2 hLi hM h0 hKV, rfl⟩ | exact ⟨RInv_t (clock := clock) hr hto hf1 hf2 hLi hM hh h0 hKV, rfl⟩ | exact ⟨RInv_p (clock' := clock') hr' hto' hf1' hf2' hf1 hf2 hLi hM hI5 hm1 hKV', rfl⟩ | exact ⟨RInv_s (clock := clock) hr hto hf1 hf2 hLi hM hh hKV, rfl⟩) env_ sel_
                            · try (exact absurd g76 (by omega))
                              all_goals
                                refine w_og rfl rfl rfl rfl rfl (op_fieldAddr fa_58_0 rfl ?_)
                                refine w_og rfl rfl rfl rfl rfl (op_loadF agg_3 rfl el_ rfl ?_)
                                refine w_og rfl rfl rfl rfl rfl (op_gt rfl rfl ?_)
                                refine w_o rfl rfl rfl (op_pick rfl rfl rfl ?_)
                                refine w_o rfl rfl rfl (op_move rfl ?_)
                                first | refine w_known (t := 81) rfl (fun g81 => ?_) (fun g81 => ?_) | refine w_knownB (t := 81) rfl (fun g81 => ?_) (fun g81 => ?_)
                                · try (exact absurd g81 (by omega))
                                  all_goals
                                    refine w_u rfl rfl rfl rfl rfl rfl ?_
                                    refine w_u rfl rfl rfl rfl rfl rfl ?_
                                    refine w_u rfl rfl rfl rfl rfl rfl ?_
                                    refine w_u rfl rfl rfl rfl rfl rfl ?_
                                    refine w_o rfl rfl rfl (op_pick rfl rfl rfl ?_)
                                    refine w_o rfl rfl rfl (op_assign rfl ?_)
                                    refine w_end ?_
                                    refine seq_normal ?_
                                    refine w_seq ?_
                                    refine w_seq ?_
                                    refine w_region ?_
                                    refine w_o rfl rfl rfl (op_move rfl ?_)
                                    refine w_o rfl rfl rfl (op_move rfl ?_)
                                    refine w_og rfl rfl rfl rfl rfl (op_move rfl ?_)
                                    refine w_og rfl rfl rfl rfl rfl (op_ne rfl rfl ?_)
                                    refine w_o rfl rfl rfl (op_pick rfl rfl rfl ?_)
                                    refine w_o rfl rfl rfl (op_move rfl ?_)
                                    first | refine w_known (t := 92) rfl (fun g92 => ?_) (fun g92 => ?_) | refine w_knownB (t := 92) rfl (fun g92 => ?_) (fun g92 => ?_)
                                    · try (first | exact absurd rfl g92 | (cases g92; done))
                                      all_goals
                                        refine w_u rfl rfl rfl rfl rfl rfl ?_
                                        refine w_u rfl rfl rfl rfl rfl rfl ?_
                                        refine w_u rfl rfl rfl rfl rfl rfl ?_
                                        refine w_u rfl rfl rfl rfl rfl rfl ?_
                                        refine w_u rfl rfl rfl rfl rfl rfl ?_
                                        refine w_u rfl rfl rfl rfl rfl rfl ?_
                                        refine w_o rfl rfl rfl (op_pick rfl rfl rfl ?_)
                                        refine w_end ?_
                                        refine seq_normal ?_
                                        refine w_condT rfl ?_
                                        refine w_seq ?_
                                        refine w_region ?_
                                        refine w_o rfl rfl rfl (op_assign rfl ?_)
                                        refine w_end ?_
                                        refine seq_normal ?_
                                        refine w_ret ?_
                                        refine seq_ret ?_
                                        refine mid_ret ?_
                                        refine block_ret ?_
                                        refine seq_ret ?_
                                        refine loop_ret ?_
                                        refine block_ret ?_
                                        refine seq_ret ?_
                                        exact ret_ret rfl (.refl _) (by assumption)
                                    · try (first | exact absurd rfl g92 | (cases g92; done))
                                      all_goals
                                        refine w_og rfl rfl rfl rfl rfl (op_move rfl ?_)
                                        refine w_og rfl rfl rfl rfl rfl (op_not rfl ?_)
                                        refine w_og rfl rfl rfl rfl rfl (op_move rfl ?_)
                                        refine w_u rfl rfl rfl rfl rfl rfl ?_
                                        refine w_u rfl rfl rfl rfl rfl rfl ?_
                                        refine w_og rfl rfl rfl rfl rfl (op_pick rfl rfl rfl ?_)
                                        refine w_o rfl rfl rfl (op_pick rfl rfl rfl ?_)
                                        refine w_end ?_
                                        refine seq_normal ?_
                                        refine w_condF rfl ?_
                                        refine w_skip ?_
                                        refine seq_normal ?_
                                        refine w_seq ?_
                                        refine w_region ?_
                                        refine w_o rfl rfl rfl (op_move rfl ?_)
                                        refine w_o rfl rfl rfl (op_not rfl ?_)
                                        refine w_end ?_
                                        refine seq_normal ?_
                                        refine w_condF rfl ?_
                                        refine w_skip ?_
                                        exact mid_normal (by first | exact ⟨RInv_e (clock := clock) (hand := hand) (hx := hx) (kh := kh) hr hto hf1 hf2 hLi hM h0 hKV, rfl⟩ | exact ⟨RInv_t (clock := clock) hr hto hf1 hf2 hLi hM hh h0 hKV, rfl⟩ | exact ⟨RInv_p (clock' := clock') hr' hto' hf1' hf2' hf1 hf2 hLi hM hI5 hm1 hKV', rfl⟩ | exact ⟨RInv_s (clock := clock) hr hto hf1 hf2 hLi hM hh hKV, rfl⟩) env_ sel_
                                · try (exact absurd g81 (by omega))
                                  all_goals
                                    refine w_og rfl rfl rfl rfl rfl (op_fieldAddr fa_58_1 rfl ?_)
                                    refine w_og rfl rfl rfl rfl rfl (op_loadF agg_22 rfl el_ rfl ?_)
                                    refine w_og rfl rfl rfl rfl rfl (op_call rfl rfl rfl ?_)
                                    first
                                      | (have hbad : lx.all rightS = false := by
                                           rcases hb with h | h | h
                                           · omega
                                           · omega
                                           · exact h
                                         refine R04All_w (hsx.sub subs_) (by omega) ?_
                                         rw [hbad])
                                      | (refine R04All_w (hsx.sub subs_) (by omega) ?_
                                         rw [hall])
                                    refine w_og rfl rfl rfl rfl rfl (op_not rfl ?_)
                                    refine w_o rfl rfl rfl (op_pick rfl rfl rfl ?_)
                                    refine w_o rfl rfl rfl (op_assign rfl ?_)
                                    refine w_end ?_
                                    refine seq_normal ?_
                                    refine w_seq ?_
                                    refine w_seq ?_
                                    refine w_region ?_
                                    refine w_o rfl rfl rfl (op_move rfl ?_)
                                    refine w_o rfl rfl rfl (op_move rfl ?_)
                                    first | refine w_known (t := 88) rfl (fun g88 => ?_) (fun g88 => ?_) | refine w_knownB (t := 88) rfl (fun g88 => ?_) (fun g88 => ?_)
                                    · try (cases g88; done)
                                      all_goals
                                        refine w_og rfl rfl rfl rfl rfl (op_move rfl ?_)
                                        refine w_og rfl rfl rfl rfl rfl (op_ne rfl rfl ?_)
                                        refine w_o rfl rfl rfl (op_pick rfl rfl rfl ?_)
                                        refine w_o rfl rfl rfl (op_move rfl ?_)
                                        first | refine w_known (t := 92) rfl (fun g92 => ?_) (fun g92 => ?_) | refine w_knownB (t := 92) rfl (fun g92 => ?_) (fun g92 => ?_)
                                        · try (first | exact absurd rfl g92 | (cases g92; done))
                                          all_goals
                                            refine w_u rfl rfl rfl rfl rfl rfl ?_
                                            refine w_u rfl rfl rfl rfl rfl rfl ?_
                                            refine w_u rfl rfl rfl rfl rfl rfl ?_
                                            refine w_u rfl rfl rfl rfl rfl rfl ?_
                                            refine w_u rfl rfl rfl rfl rfl rfl ?_
                                            refine w_u rfl rfl rfl rfl rfl rfl ?_
                                            refine w_o rfl rfl rfl (op_pick rfl rfl rfl ?_)
                                            refine w_end ?_
                                            refine seq_normal ?_
                                            refine w_condT rfl ?_
                                            refine w_seq ?_
                                            refine w_region ?_
                                            refine w_o rfl rfl rfl (op_assign rfl ?_)
                                            refine w_end ?_
                                            refine seq_normal ?_
                                            refine w_ret ?_
                                            refine seq_ret ?_
                                            refine mid_ret ?_
                                            refine block_ret ?_
                                            refine seq_ret ?_
                                            refine loop_ret ?_
                                            refine block_ret ?_
                                            refine seq_ret ?_
                                            exact ret_ret rfl (.refl _) (by assumption)
                                        · try (first | exact absurd rfl g92 | (cases g92; done))
                                          all_goals
                                            refine w_og rfl rfl rfl rfl rfl (op_move rfl ?_)
                                            refine w_og rfl rfl rfl rfl rfl (op_not rfl ?_)
                                            refine w_og rfl rfl rfl rfl rfl (op_move rfl ?_)
                                            first | refine w_known (t := 95) rfl (fun g95 => ?_) (fun g95 => ?_) | refine w_knownB (t := 95) rfl (fun g95 => ?_) (fun g95 => ?_)
                                            · try (cases g95; done)
                                              all_goals
                                                refine w_og rfl rfl rfl rfl rfl (op_move rfl ?_)
                                                refine w_og rfl rfl rfl rfl rfl (op_ne rfl rfl ?_)
                                                refine w_og rfl rfl rfl rfl rfl (op_pick rfl rfl rfl ?_)
                                                refine w_o rfl rfl rfl (op_pick rfl rfl rfl ?_)
                                                refine w_end ?_
                                                refine seq_normal ?_
                                                first | refine w_cond rfl (fun hI8 => ?_) (fun hI8 => ?_) | refine w_condB rfl (fun hI8 => ?_) (fun hI8 => ?_)
                                                · try (first | exact absurd rfl hI8 | (cases hI8; done))
                                                  all_goals
                                                    refine w_seq ?_
                                                    refine w_region ?_
                                                    refine w_o rfl rfl rfl (op_assign rfl ?_)
                                                    refine w_end ?_
                                                    refine seq_normal ?_
                                                    refine w_ret ?_
                                                    refine seq_ret ?_
                                                    refine mid_ret ?_
                                                    refine block_ret ?_
                                                    refine seq_ret ?_
                                                    refine loop_ret ?_
                                                    refine block_ret ?_
                                                    refine seq_ret ?_
                                                    exact ret_ret rfl (.refl _) (by assumption)
                                                · try (first | exact absurd rfl hI8 | (cases hI8; done))
                                                  all_goals
                                                    refine w_skip ?_
                                                    refine seq_normal ?_
                                                    refine w_seq ?_
                                                    refine w_region ?_
                                                    refine w_o rfl rfl rfl (op_move rfl ?_)
                                                    refine w_o rfl rfl rfl (op_not rfl ?_)
                                                    refine w_end ?_
                                                    refine seq_normal ?_
                                                    first | refine w_cond rfl (fun hI9 => ?_) (fun hI9 => ?_) | refine w_condB rfl (fun hI9 => ?_) (fun hI9 => ?_)
                                                    · try (cases hI9; done)
                                                      all_goals
                                                        refine w_region ?_
                                                        refine w_o rfl rfl rfl (op_loadA agg_56 siz_56 rfl rfl el_ ?_)
                                                        refine w_o rfl rfl rfl (op_fieldAddr fa_58_1 rfl ?_)
                                                        refine w_o rfl rfl rfl (op_loadF agg_22 rfl el_ rfl ?_)
                                                        refine w_o rfl rfl rfl (op_fieldAddr fa_58_0 rfl ?_)
                                                        refine w_o rfl rfl rfl (op_loadF agg_3 rfl el_ rfl ?_)
                                                        refine w_o rfl rfl rfl (op_move rfl ?_)
                                                        refine w_o rfl rfl rfl (op_call rfl rfl rfl ?_)
                                                        first
                                                          | refine RPushNil_w (hsx.sub subs_) hz ?_
                                                          | refine RPush_w (H1 := NK ++ H) (M := 60 * i) subs_ hKV (hsx.app) (by omega) hne hM (by omega) (by omega) ⟨hw1, hw2⟩ fun ck' NK' hKV' => ?_
                                                        refine w_on rfl rfl (op_store siz_56 rfl rfl rfl (by (repeat (first | exact Pick.head _ _ _ | apply Pick.tail | apply Pick.app)); first | done | fail) (Nat.le_of_ble_eq_true rfl) rfl ?_)
                                                        refine w_end ?_
                                                        exact mid_normal (by first | exact ⟨RInv_e (clock := clock) (hand := hand) (hx := hx) (kh := kh) hr hto hf1 hf2 hLi hM h0 hKV, rfl⟩ | exact ⟨RInv_t (clock := clock) hr hto hf1 hf2 hLi hM hh h0 hKV, rfl⟩ | exact ⟨RInv_p (clock' := clock') hr' hto' hf1' hf2' hf1 hf2 hLi hM hI5 hm1 hKV', rfl⟩ | exact ⟨RInv_s (clock := clock) hr hto hf1 hf2 hLi hM hh hKV, rfl⟩) env_ sel_
                                                    · try (cases hI9; done)
                                                      all_goals
                                                        refine w_skip ?_
                                                        exact mid_normal (by first | exact ⟨RInv_e (clock := clock) (hand := hand) (hx := hx) (kh := kh) hr hto hf1 hf2 hLi hM h0 hKV, rfl⟩ | exact ⟨RInv_t (clock := clock) hr hto hf1 hf2 hLi hM hh h0 hKV, rfl⟩ | exact ⟨RInv_p (clock' := clock') hr' hto' hf1' hf2' hf1 hf2 hLi hM hI5 hm1 hKV', rfl⟩ | exact ⟨RInv_s (clock := clock) hr hto hf1 hf2 hLi hM hh hKV, rfl⟩) env_ sel_
                                            · try (cases g95; done)
                                              all_goals
                                                refine w_u rfl rfl rfl rfl rfl rfl ?_
                                                refine w_u rfl rfl rfl rfl rfl rfl ?_
                                                refine w_og rfl rfl rfl rfl rfl (op_pick rfl rfl rfl ?_)
                                                refine w_o rfl rfl rfl (op_pick rfl rfl rfl ?_)
                                                refine w_end ?_
                                                refine seq_normal ?_
                                                refine w_condF rfl ?_
                                                refine w_skip ?_
                                                refine seq_normal ?_
                                                refine w_seq ?_
                                                refine w_region ?_
                                                refine w_o rfl rfl rfl (op_move rfl ?_)
                                                refine w_o rfl rfl rfl (op_not rfl ?_)
                                                refine w_end ?_
                                                refine seq_normal ?_
                                                first | refine w_cond rfl (fun hI9 => ?_) (fun hI9 => ?_) | refine w_condB rfl (fun hI9 => ?_) (fun hI9 => ?_)
                                                · try (cases hI9; done)
                                                  all_goals
                                                    refine w_region ?_
                                                    refine w_o rfl rfl rfl (op_loadA agg_56 siz_56 rfl rfl el_ ?_)
                                                    refine w_o rfl rfl rfl (op_fieldAddr fa_58_1 rfl ?_)
                                                    refine w_o rfl rfl rfl (op_loadF agg_22 rfl el_ rfl ?_)
                                                    refine w_o rfl rfl rfl (op_fieldAddr fa_58_0 rfl ?_)
                                                    refine w_o rfl rfl rfl (op_loadF agg_3 rfl el_ rfl ?_)
                                                    refine w_o rfl rfl rfl (op_move rfl ?_)
                                                    refine w_o rfl rfl rfl (op_call rfl rfl rfl ?_)
                                                    first
                                                      | refine RPushNil_w (hsx.sub subs_) hz ?_
                                                      | refine RPush_w (H1 := NK ++ H) (M := 60 * i) subs_ hKV (hsx.app) (by omega) hne hM (by omega) (by omega) ⟨hw1, hw2⟩ fun ck' NK' hKV' => ?_
                                                    refine w_on rfl rfl (op_store siz_56 rfl rfl rfl (by (repeat (first | exact Pick.head _ _ _ | apply Pick.tail | apply Pick.app)); first | done | fail) (Nat.le_of_ble_eq_true rfl) rfl ?_)
                                                    refine w_end ?_
                                                    exact mid_normal (by first | exact ⟨RInv_e (clock := clock) (hand := hand) (hx := hx) (kh := kh) hr hto hf1 hf2 hLi hM h0 hKV, rfl⟩ | exact ⟨RInv_t (clock := clock) hr hto hf1 hf2 hLi hM hh h0 hKV, rfl⟩ | exact ⟨RInv_p (clock' := clock') hr' hto' hf1' hf2' hf1 hf2 hLi hM hI5 hm1 hKV', rfl⟩ | exact ⟨RInv_s (clock := clock) hr hto hf1 hf2 hLi hM hh hKV, rfl⟩) env_ sel_
                                                · try (cases hI9; done)
                                                  all_goals
                                                    refine w_skip ?_
                                                    exact mid_normal (by first | exact ⟨RInv_e (clock := clock) (hand := hand) (hx := hx) (kh := kh) hr hto hf1 hf2 hLi hM h0 hKV, rfl⟩ | exact ⟨RInv_t (clock := clock) hr hto hf1 hf2 hLi hM hh h0 hKV, rfl⟩ | exact ⟨RInv_p (clock' := clock') hr' hto' hf1' hf2' hf1 hf2 hLi hM hI5 hm1 hKV', rfl⟩ | exact ⟨RInv_s (clock := clock) hr hto hf1 hf2 hLi hM hh hKV, rfl⟩) env_ sel_
                                    · try (cases g88; done)
                                      all_goals
                                        refine w_u rfl rfl rfl rfl rfl rfl ?_
                                        refine w_u rfl rfl rfl rfl rfl rfl ?_
                                        refine w_o rfl rfl rfl (op_pick rfl rfl rfl ?_)
                                        refine w_o rfl rfl rfl (op_move rfl ?_)
                                        refine w_og rfl rfl rfl rfl rfl (op_move rfl ?_)
                                        refine w_og rfl rfl rfl rfl rfl (op_not rfl ?_)
                                        refine w_og rfl rfl rfl rfl rfl (op_move rfl ?_)
                                        first | refine w_known (t := 95) rfl (fun g95 => ?_) (fun g95 => ?_) | refine w_knownB (t := 95) rfl (fun g95 => ?_) (fun g95 => ?_)
                                        · try (cases g95; done)
                                          all_goals
                                            refine w_og rfl rfl rfl rfl rfl (op_move rfl ?_)
                                            refine w_og rfl rfl rfl rfl rfl (op_ne rfl rfl ?_)
                                            refine w_og rfl rfl rfl rfl rfl (op_pick rfl rfl rfl ?_)
                                            refine w_o rfl rfl rfl (op_pick rfl rfl rfl ?_)
                                            refine w_end ?_
                                            refine seq_normal ?_
                                            first | refine w_cond rfl (fun hI8 => ?_) (fun hI8 => ?_) | refine w_condB rfl (fun hI8 => ?_) (fun hI8 => ?_)
                                            · try (first | exact absurd rfl hI8 | (cases hI8; done))
                                              all_goals
                                                refine w_seq ?_
                                                refine w_region ?_
                                                refine w_o rfl rfl rfl (op_assign rfl ?_)
                                                refine w_end ?_
                                                refine seq_normal ?_
                                                refine w_ret ?_
                                                refine seq_ret ?_
                                                refine mid_ret ?_
                                                refine block_ret ?_
                                                refine seq_ret ?_
                                                refine loop_ret ?_
                                                refine block_ret ?_
                                                refine seq_ret ?_
                                                exact ret_ret rfl (.refl _) (by assumption)
                                            · try (first | exact absurd rfl hI8 | (cases hI8; done))
                                              all_goals
                                                refine w_skip ?_
                                                refine seq_normal ?_
                                                refine w_seq ?_
                                                refine w_region ?_
                                                refine w_o rfl rfl rfl (op_move rfl ?_)
                                                refine w_o rfl rfl rfl (op_not rfl ?_)
                                                refine w_end ?_
                                                refine seq_normal ?_
                                                first | refine w_cond rfl (fun hI9 => ?_) (fun hI9 => ?_) | refine w_condB rfl (fun hI9 => ?_) (fun hI9 => ?_)
                                                · try (cases hI9; done)
                                                  all_goals
                                                    refine w_region ?_
                                                    refine w_o rfl rfl rfl (op_loadA agg_56 siz_56 rfl rfl el_ ?_)
                                                    refine w_o rfl rfl rfl (op_fieldAddr fa_58_1 rfl ?_)
                                                    refine w_o rfl rfl rfl (op_loadF agg_22 rfl el_ rfl ?_)
                                                    refine w_o rfl rfl rfl (op_fieldAddr fa_58_0 rfl ?_)
                                                    refine w_o rfl rfl rfl (op_loadF agg_3 rfl el_ rfl ?_)
                                                    refine w_o rfl rfl rfl (op_move rfl ?_)
                                                    refine w_o rfl rfl rfl (op_call rfl rfl rfl ?_)
                                                    first
                                                      | refine RPushNil_w (hsx.sub subs_) hz ?_
                                                      | refine RPush_w (H1 := NK ++ H) (M := 60 * i) subs_ hKV (hsx.app) (by omega) hne hM (by omega) (by omega) ⟨hw1, hw2⟩ fun ck' NK' hKV' => ?_
                                                    refine w_on rfl rfl (op_store siz_56 rfl rfl rfl (by (repeat (first | exact Pick.head _ _ _ | apply Pick.tail | apply Pick.app)); first | done | fail) (Nat.le_of_ble_eq_true rfl) rfl ?_)
                                                    refine w_end ?_
                                                    exact mid_normal (by first | exact ⟨RInv_e (clock := clock) (hand := hand) (hx := hx) (kh := kh) hr hto hf1 hf2 hLi hM h0 hKV, rfl⟩ | exact ⟨RInv_t (clock := clock) hr hto hf1 hf2 hLi hM hh h0 hKV, rfl⟩ | exact ⟨RInv_p (clock' := clock') hr' hto' hf1' hf2' hf1 hf2 hLi hM hI5 hm1 hKV', rfl⟩ | exact ⟨RInv_s (clock := clock) hr hto hf1 hf2 hLi hM hh hKV, rfl⟩) env_ sel_
                                                · try (cases hI9; done)
                                                  all_goals
                                                    refine w_skip ?_
                                                    exact mid_normal (by first | exact ⟨RInv_e (clock := clock) (hand := hand) (hx := hx) (kh := kh) hr hto hf1 hf2 hLi hM h0 hKV, rfl⟩ | exact ⟨RInv_t (clock := clock) hr hto hf1 hf2 hLi hM hh h0 hKV, rfl⟩ | exact ⟨RInv_p (clock' := clock') hr' hto' hf1' hf2' hf1 hf2 hLi hM hI5 hm1 hKV', rfl⟩ | exact ⟨RInv_s (clock := clock) hr hto hf1 hf2 hLi hM hh hKV, rfl⟩) env_ sel_
                                        · try (cases g95; done)
                                          all_goals
                                            refine w_u rfl rfl rfl rfl rfl rfl ?_
                                            refine w_u rfl rfl rfl rfl rfl rfl ?_
                                            refine w_og rfl rfl rfl rfl rfl (op_pick rfl rfl rfl ?_)
                                            refine w_o rfl rfl rfl (op_pick rfl rfl rfl ?_)
                                            refine w_end ?_
                                            refine seq_normal ?_
                                            refine w_condF rfl ?_
                                            refine w_skip ?_
                                            refine seq_normal ?_
                                            refine w_seq ?_
                                            refine w_region ?_
                                            refine w_o rfl rfl rfl (op_move rfl ?_)
                                            refine w_o rfl rfl rfl (op_not rfl ?_)
                                            refine w_end ?_
                                            refine seq_normal ?_
                                            first | refine w_cond rfl (fun hI9 => ?_) (fun hI9 => ?_) | refine w_condB rfl (fun hI9 => ?_) (fun hI9 => ?_)
                                            · try (cases hI9; done)
                                              all_goals
                                                refine w_region ?_
                                                refine w_o rfl rfl rfl (op_loadA agg_56 siz_56 rfl rfl el_ ?_)
                                                refine w_o rfl rfl rfl (op_fieldAddr fa_58_1 rfl ?_)
                                                refine w_o rfl rfl rfl (op_loadF agg_22 rfl el_ rfl ?_)
                                                refine w_o rfl rfl rfl (op_fieldAddr fa_58_0 rfl ?_)
                                                refine w_o rfl rfl rfl (op_loadF agg_3 rfl el_ rfl ?_)
                                                refine w_o rfl rfl rfl (op_move rfl ?_)
                                                refine w_o rfl rfl rfl (op_call rfl rfl rfl ?_)
                                                first
                                                  | refine RPushNil_w (hsx.sub subs_) hz ?_
                                                  | refine RPush_w (H1 := NK ++ H) (M := 60 * i) subs_ hKV (hsx.app) (by omega) hne hM (by omega) (by omega) ⟨hw1, hw2⟩ fun ck' NK' hKV' => ?_
                                                refine w_on rfl rfl (op_store siz_56 rfl rfl rfl (by (repeat (first | exact Pick.head _ _ _ | apply Pick.tail | apply Pick.app)); first | done | fail) (Nat.le_of_ble_eq_true rfl) rfl ?_)
                                                refine w_end ?_
                                                exact mid_normal (by first | exact ⟨RInv_e (clock := clock) (hand := hand) (hx := hx) (kh := kh) hr hto hf1 hf2 hLi hM h0 hKV, rfl⟩ | exact ⟨RInv_t (clock := clock) hr hto hf1 hf2 hLi hM hh h0 hKV, rfl⟩ | exact ⟨RInv_p (clock' := clock') hr' hto' hf1' hf2' hf1 hf2 hLi hM hI5 hm1 hKV', rfl⟩ | exact ⟨RInv_s (clock := clock) hr hto hf1 hf2 hLi hM hh hKV, rfl⟩) env_ sel_
                                            · try (cases hI9; done)
                                              all_goals
                                                refine w_skip ?_
                                                exact mid_normal (by first | exact ⟨RInv_e (clock := clock) (hand := hand) (hx := hx) (kh := kh) hr hto hf1 hf2 hLi hM h0 hKV, rfl⟩ | exact ⟨RInv_t (clock := clock) hr hto hf1 hf2 hLi hM hh h0 hKV, rfl⟩ | exact ⟨RInv_p (clock' := clock') hr' hto' hf1' hf2' hf1 hf2 hLi hM hI5 hm1 hKV', rfl⟩ | exact ⟨RInv_s (clock := clock) hr hto hf1 hf2 hLi hM hh hKV, rfl⟩) env_ sel_
                          · refine w_o rfl rfl rfl (op_assign rfl ?_)
                            refine w_end ?_
                            refine seq_normal ?_
                            refine w_seq ?_
                            refine w_region ?_
                            refine w_o rfl rfl rfl (op_fieldAddr fa_58_0 rfl ?_)
                            refine w_o rfl rfl rfl (op_loadF agg_3 rfl el_ rfl ?_)
                            refine w_o rfl rfl rfl (op_lt rfl rfl ?_)
                            refine w_o rfl rfl rfl (op_move rfl ?_)
                            first | refine w_known (t := 76) rfl (fun g76 => ?_) (fun g76 => ?_) | refine w_knownB (t := 76) rfl (fun g76 => ?_) (fun g76 => ?_)
                            · try (exact absurd g76 (by omega))
                              all_goals
                                refine w_u rfl rfl rfl rfl rfl rfl ?_
                                refine w_u rfl rfl rfl rfl rfl rfl ?_
                                refine w_u rfl rfl rfl rfl rfl rfl ?_
                                refine w_o rfl rfl rfl (op_pick rfl rfl rfl ?_)
                                refine w_o rfl rfl rfl (op_move rfl ?_)
                                refine w_u rfl rfl rfl rfl rfl rfl ?_
                                refine w_u rfl rfl rfl rfl rfl rfl ?_
                                refine w_u rfl rfl rfl rfl rfl rfl ?_
                                refine w_u rfl rfl rfl rfl rfl rfl ?_
                                refine w_o rfl rfl rfl (op_pick rfl rfl rfl ?_)
                                refine w_o rfl rfl rfl (op_assign rfl ?_)
                                refine w_end ?_
                                refine seq_normal ?_
                                refine w_seq ?_
                                refine w_seq ?_
                                refine w_region ?_
                                refine w_o rfl rfl rfl (op_move rfl ?_)
                                refine w_o rfl rfl rfl (op_move rfl ?_)
                                refine w_og rfl rfl rfl rfl rfl (op_move rfl ?_)
                                refine w_og rfl rfl rfl rfl rfl (op_ne rfl rfl ?_)
                                refine w_o rfl rfl rfl (op_pick rfl rfl rfl ?_)
                                refine w_o rfl rfl rfl (op_move rfl ?_)
                                first | refine w_known (t := 92) rfl (fun g92 => ?_) (fun g92 => ?_) | refine w_knownB (t := 92) rfl (fun g92 => ?_) (fun g92 => ?_)
                                · try (first | exact absurd rfl g92 | (cases g92; done))
                                  all_goals
                                    refine w_u rfl rfl rfl rfl rfl rfl ?_
                                    refine w_u rfl rfl rfl rfl rfl rfl ?_
                                    refine w_u rfl rfl rfl rfl rfl rfl ?_
                                    refine w_u rfl rfl rfl rfl rfl rfl ?_
                                    refine w_u rfl rfl rfl rfl rfl rfl ?_
                                    refine w_u rfl rfl rfl rfl rfl rfl ?_
                                    refine w_o rfl rfl rfl (op_pick rfl rfl rfl ?_)
                                    refine w_end ?_
                                    refine seq_normal ?_
                                    refine w_condT rfl ?_
                                    refine w_seq ?_
                                    refine w_region ?_
                                    refine w_o rfl rfl rfl (op_assign rfl ?_)
                                    refine w_end ?_
                                    refine seq_normal ?_
                                    refine w_ret ?_
                                    refine seq_ret ?_
                                    refine mid_ret ?_
                                    refine block_ret ?_
                                    refine seq_ret ?_
                                    refine loop_ret ?_
                                    refine block_ret ?_
                                    refine seq_ret ?_
                                    exact ret_ret rfl (.refl _) (by assumption)
                                · try (first | exact absurd rfl g92 | (cases g92; done))
                                  all_goals
                                    refine w_og rfl rfl rfl rfl rfl (op_move rfl ?_)
                                    refine w_og rfl rfl rfl rfl rfl (op_not rfl ?_)
                                    refine w_og rfl rfl rfl rfl rfl (op_move rfl ?_)
                                    refine w_u rfl rfl rfl rfl rfl rfl ?_
                                    refine w_u rfl rfl rfl rfl rfl rfl ?_
                                    refine w_og rfl rfl rfl rfl rfl (op_pick rfl rfl rfl ?_)
                                    refine w_o rfl rfl rfl (op_pick rfl rfl rfl ?_)
                                    refine w_end ?_
                                    refine seq_normal ?_
                                    refine w_condF rfl ?_
                                    refine w_skip ?_
                                    refine seq_normal ?_
                                    refine w_seq ?_
                                    refine w_region ?_
                                    refine w_o rfl rfl rfl (op_move rfl ?_)
                                    refine w_o rfl rfl rfl (op_not rfl ?_)
                                    refine w_end ?_
                                    refine seq_normal ?_
                                    refine w_condF rfl ?_
                                    refine w_skip ?_
                                    exact mid_normal (by first | exact ⟨RInv_e (clock := clock) (hand := hand) (hx := hx) (kh := kh) hr hto hf1 hf2 hLi hM h0 hKV, rfl⟩ | exact ⟨RInv_t (clock := clock) hr hto hf1 hf2 hLi hM hh h0 hKV, rfl⟩ | exact ⟨RInv_p (clock' := clock') hr' hto' hf1' hf2' hf1 hf2 hLi hM hI5 hm1 hKV', rfl⟩ | exact ⟨RInv_s (clock := clock) hr hto hf1 hf2 hLi hM hh hKV, rfl⟩) env_ sel_
                            · try (exact absurd g76 (by omega))
                              all_goals
                                refine w_og rfl rfl rfl rfl rfl (op_fieldAddr fa_58_0 rfl ?_)
                                refine w_og rfl rfl rfl rfl rfl (op_loadF agg_3 rfl el_ rfl ?_)
                                refine w_og rfl rfl rfl rfl rfl (op_gt rfl rfl ?_)
                                refine w_o rfl rfl rfl (op_pick rfl rfl rfl ?_)
                                refine w_o rfl rfl rfl (op_move rfl ?_)
                                first | refine w_known (t := 81) rfl (fun g81 => ?_) (fun g81 => ?_) | refine w_knownB (t := 81) rfl (fun g81 => ?_) (fun g81 => ?_)
                                · try (exact absurd g81 (by omega))
                                  all_goals
                                    refine w_u rfl rfl rfl rfl rfl rfl ?_
                                    refine w_u rfl rfl rfl rfl rfl rfl ?_
                                    refine w_u rfl rfl rfl rfl rfl rfl ?_
                                    refine w_u rfl rfl rfl rfl rfl rfl ?_
                                    refine w_o rfl rfl rfl (op_pick rfl rfl rfl ?_)
                                    refine w_o rfl rfl rfl (op_assign rfl ?_)
                                    refine w_end ?_
                                    refine seq_normal ?_
                                    refine w_seq ?_
                                    refine w_seq ?_
                                    refine w_region ?_
                                    refine w_o rfl rfl rfl (op_move rfl ?_)
                                    refine w_o rfl rfl rfl (op_move rfl ?_)
                                    refine w_og rfl rfl rfl rfl rfl (op_move rfl ?_)
                                    refine w_og rfl rfl rfl rfl rfl (op_ne rfl rfl ?_)
                                    refine w_o rfl rfl rfl (op_pick rfl rfl rfl ?_)
                                    refine w_o rfl rfl rfl (op_move rfl ?_)
                                    first | refine w_known (t := 92) rfl (fun g92 => ?_) (fun g92 => ?_) | refine w_knownB (t := 92) rfl (fun g92 => ?_) (fun g92 => ?_)
                                    · try (first | exact absurd rfl g92 | (cases g92; done))
                                      all_goals
                                        refine w_u rfl rfl rfl rfl rfl rfl ?_
                                        refine w_u rfl rfl rfl rfl rfl rfl ?_
                                        refine w_u rfl rfl rfl rfl rfl rfl ?_
                                        refine w_u rfl rfl rfl rfl rfl rfl ?_
                                        refine w_u rfl rfl rfl rfl rfl rfl ?_
                                        refine w_u rfl rfl rfl rfl rfl rfl ?_
                                        refine w_o rfl rfl rfl (op_pick rfl rfl rfl ?_)
                                        refine w_end ?_
                                        refine seq_normal ?_
                                        refine w_condT rfl ?_
                                        refine w_seq ?_
                                        refine w_region ?_
                                        refine w_o rfl rfl rfl (op_assign rfl ?_)
                                        refine w_end ?_
                                        refine seq_normal ?_
                                        refine w_ret ?_
                                        refine seq_ret ?_
                                        refine mid_ret ?_
                                        refine block_ret ?_
                                        refine seq_ret ?_
                                        refine loop_ret ?_
                                        refine block_ret ?_
                                        refine seq_ret ?_
                                        exact ret_ret rfl (.refl _) (by assumption)
                                    · try (first | exact absurd rfl g92 | (cases g92; done))
                                      all_goals
                                        refine w_og rfl rfl rfl rfl rfl (op_move rfl ?_)
                                        refine w_og rfl rfl rfl rfl rfl (op_not rfl ?_)
                                        refine w_og rfl rfl rfl rfl rfl (op_move rfl ?_)
                                        refine w_u rfl rfl rfl rfl rfl rfl ?_
                                        refine w_u rfl rfl rfl rfl rfl rfl ?_
                                        refine w_og rfl rfl rfl rfl rfl (op_pick rfl rfl rfl ?_)
                                        refine w_o rfl rfl rfl (op_pick rfl rfl rfl ?_)
                                        refine w_end ?_
                                        refine seq_normal ?_
                                        refine w_condF rfl ?_
                                        refine w_skip ?_
                                        refine seq_normal ?_
                                        refine w_seq ?_
                                        refine w_region ?_
                                        refine w_o rfl rfl rfl (op_move rfl ?_)
                                        refine w_o rfl rfl rfl (op_not rfl ?_)
                                        refine w_end ?_
                                        refine seq_normal ?_
                                        refine w_condF rfl ?_
                                        refine w_skip ?_
                                        exact mid_normal (by first | exact ⟨RInv_e (clock := clock) (hand := hand) (hx := hx) (kh := kh) hr hto hf1 hf2 hLi hM h0 hKV, rfl⟩ | exact ⟨RInv_t (clock := clock) hr hto hf1 hf2 hLi hM hh h0 hKV, rfl⟩ | exact ⟨RInv_p (clock' := clock') hr' hto' hf1' hf2' hf1 hf2 hLi hM hI5 hm1 hKV', rfl⟩ | exact ⟨RInv_s (clock := clock) hr hto hf1 hf2 hLi hM hh hKV, rfl⟩) env_ sel_
                                · try (exact absurd g81 (by omega))
                                  all_goals
                                    refine w_og rfl rfl rfl rfl rfl (op_fieldAddr fa_58_1 rfl ?_)
                                    refine w_og rfl rfl rfl rfl rfl (op_loadF agg_22 rfl el_ rfl ?_)
                                    refine w_og rfl rfl rfl rfl rfl (op_call rfl rfl rfl ?_)
                                    first
                                      | (have hbad : lx.all rightS = false := by
                                           rcases hb with h | h | h
                                           · omega
                                           · omega
                                           · exact h
                                         refine R04All_w (hsx.sub subs_) (by omega) ?_
                                         rw [hbad])
                                      | (refine R04All_w (hsx.sub subs_) (by omega) ?_
                                         rw [hall])
                                    refine w_og rfl rfl rfl rfl rfl (op_not rfl ?_)
                                    refine w_o rfl rfl rfl (op_pick rfl rfl rfl ?_)
                                    refine w_o rfl rfl rfl (op_assign rfl ?_)
                                    refine w_end ?_
                                    refine seq_normal ?_
                                    refine w_seq ?_
                                    refine w_seq ?_
                                    refine w_region ?_
                                    refine w_o rfl rfl rfl (op_move rfl ?_)
                                    refine w_o rfl rfl rfl (op_move rfl ?_)
                                    first | refine w_known (t := 88) rfl (fun g88 => ?_) (fun g88 => ?_) | refine w_knownB (t := 88) rfl (fun g88 => ?_) (fun g88 => ?_)
                                    · try (cases g88; done)
                                      all_goals
                                        refine w_og rfl rfl rfl rfl rfl (op_move rfl ?_)
                                        refine w_og rfl rfl rfl rfl rfl (op_ne rfl rfl ?_)
                                        refine w_o rfl rfl rfl (op_pick rfl rfl rfl ?_)
                                        refine w_o rfl rfl rfl (op_move rfl ?_)
                                        first | refine w_known (t := 92) rfl (fun g92 => ?_) (fun g92 => ?_) | refine w_knownB (t := 92) rfl (fun g92 => ?_) (fun g92 => ?_)
                                        · try (first | exact absurd rfl g92 | (cases g92; done))
                                          all_goals
                                            refine w_u rfl rfl rfl rfl rfl rfl ?_
                                            refine w_u rfl rfl rfl rfl rfl rfl ?_
                                            refine w_u rfl rfl rfl rfl rfl rfl ?_
                                            refine w_u rfl rfl rfl rfl rfl rfl ?_
                                            refine w_u rfl rfl rfl rfl rfl rfl ?_
                                            refine w_u rfl rfl rfl rfl rfl rfl ?_
                                            refine w_o rfl rfl rfl (op_pick rfl rfl rfl ?_)
                                            refine w_end ?_
                                            refine seq_normal ?_
                                            refine w_condT rfl ?_
                                            refine w_seq ?_
                                            refine w_region ?_
                                            refine w_o rfl rfl rfl (op_assign rfl ?_)
                                            refine w_end ?_
                                            refine seq_normal ?_
                                            refine w_ret ?_
                                            refine seq_ret ?_
                                            refine mid_ret ?_
                                            refine block_ret ?_
                                            refine seq_ret ?_
                                            refine loop_ret ?_
                                            refine block_ret ?_
                                            refine seq_ret ?_
                                            exact ret_ret rfl (.refl _) (by assumption)
                                        · try (first | exact absurd rfl g92 | (cases g92; done))
                                          all_goals
                                            refine w_og rfl rfl rfl rfl rfl (op_move rfl ?_)
                                            refine w_og rfl rfl rfl rfl rfl (op_not rfl ?_)
                                            refine w_og rfl rfl rfl rfl rfl (op_move rfl ?_)
                                            first | refine w_known (t := 95) rfl (fun g95 => ?_) (fun g95 => ?_) | refine w_knownB (t := 95) rfl (fun g95 => ?_) (fun g95 => ?_)
                                            · try (cases g95; done)
                                              all_goals
                                                refine w_og rfl rfl rfl rfl rfl (op_move rfl ?_)
                                                refine w_og rfl rfl rfl rfl rfl (op_ne rfl rfl ?_)
                                                refine w_og rfl rfl rfl rfl rfl (op_pick rfl rfl rfl ?_)
                                                refine w_o rfl rfl rfl (op_pick rfl rfl rfl ?_)
                                                refine w_end ?_
                                                refine seq_normal ?_
                                                first | refine w_cond rfl (fun hI8 => ?_) (fun hI8 => ?_) | refine w_condB rfl (fun hI8 => ?_) (fun hI8 => ?_)
                                                · try (first | exact absurd rfl hI8 | (cases hI8; done))
                                                  all_goals
                                                    refine w_seq ?_
                                                    refine w_region ?_
                                                    refine w_o rfl rfl rfl (op_assign rfl ?_)
                                                    refine w_end ?_
                                                    refine seq_normal ?_
                                                    refine w_ret ?_
                                                    refine seq_ret ?_
                                                    refine mid_ret ?_
                                                    refine block_ret ?_
                                                    refine seq_ret ?_
                                                    refine loop_ret ?_
                                                    refine block_ret ?_
                                                    refine seq_ret ?_
                                                    exact ret_ret rfl (.refl _) (by assumption)
                                                · try (first | exact absurd rfl hI8 | (cases hI8; done))
                                                  all_goals
                                                    refine w_skip ?_
                                                    refine seq_normal ?_
                                                    refine w_seq ?_
                                                    refine w_region ?_
                                                    refine w_o rfl rfl rfl (op_move rfl ?_)
                                                    refine w_o rfl rfl rfl (op_not rfl ?_)
                                                    refine w_end ?_
                                                    refine seq_normal ?_
                                                    first | refine w_cond rfl (fun hI9 => ?_) (fun hI9 => ?_) | refine w_condB rfl (fun hI9 => ?_) (fun hI9 => ?_)
                                                    · try (cases hI9; done)
                                                      all_goals
                                                        refine w_region ?_
                                                        refine w_o rfl rfl rfl (op_loadA agg_56 siz_56 rfl rfl el_ ?_)
                                                        refine w_o rfl rfl rfl (op_fieldAddr fa_58_1 rfl ?_)
                                                        refine w_o rfl rfl rfl (op_loadF agg_22 rfl el_ rfl ?_)
                                                        refine w_o rfl rfl rfl (op_fieldAddr fa_58_0 rfl ?_)
                                                        refine w_o rfl rfl rfl (op_loadF agg_3 rfl el_ rfl ?_)
                                                        refine w_o rfl rfl rfl (op_move rfl ?_)
                                                        refine w_o rfl rfl rfl (op_call rfl rfl rfl ?_)
                                                        first
                                                          | refine RPushNil_w (hsx.sub subs_) hz ?_
                                                          | refine RPush_w (H1 := NK ++ H) (M := 60 * i) subs_ hKV (hsx.app) (by omega) hne hM (by omega) (by omega) ⟨hw1, hw2⟩ fun ck' NK' hKV' => ?_
                                                        refine w_on rfl rfl (op_store siz_56 rfl rfl rfl (by (repeat (first | exact Pick.head _ _ _ | apply Pick.tail | apply Pick.app)); first | done | fail) (Nat.le_of_ble_eq_true rfl) rfl ?_)
                                                        refine w_end ?_
                                                        exact mid_normal (by first | exact ⟨RInv_e (clock := clock) (hand := hand) (hx := hx) (kh := kh) hr hto hf1 hf2 hLi hM h0 hKV, rfl⟩ | exact ⟨RInv_t (clock := clock) hr hto hf1 hf2 hLi hM hh h0 hKV, rfl⟩ | exact ⟨RInv_p (clock' := clock') hr' hto' hf1' hf2' hf1 hf2 hLi hM hI5 hm1 hKV', rfl⟩ | exact ⟨RInv_s (clock := clock) hr hto hf1 hf2 hLi hM hh hKV, rfl⟩) env_ sel_
                                                    · try (cases hI9; done)
                                                      all_goals
                                                        refine w_skip ?_
                                                        exact mid_normal (by first | exact ⟨RInv_e (clock := clock) (hand := hand) (hx := hx) (kh := kh) hr hto hf1 hf2 hLi hM h0 hKV, rfl⟩ | exact ⟨RInv_t (clock := clock) hr hto hf1 hf2 hLi hM hh h0 hKV, rfl⟩ | exact ⟨RInv_p (clock' := clock') hr' hto' hf1' hf2' hf1 hf2 hLi hM hI5 hm1 hKV', rfl⟩ | exact ⟨RInv_s (clock := clock) hr hto hf1 hf2 hLi hM hh hKV, rfl⟩) env_ sel_
                                            · try (cases g95; done)
                                              all_goals
                                                refine w_u rfl rfl rfl rfl rfl rfl ?_
                                                refine w_u rfl rfl rfl rfl rfl rfl ?_
                                                refine w_og rfl rfl rfl rfl rfl (op_pick rfl rfl rfl ?_)
                                                refine w_o rfl rfl rfl (op_pick rfl rfl rfl ?_)
                                                refine w_end ?_
                                                refine seq_normal ?_
                                                refine w_condF rfl ?_
                                                refine w_skip ?_
                                                refine seq_normal ?_
                                                refine w_seq ?_
                                                refine w_region ?_
                                                refine w_o rfl rfl rfl (op_move rfl ?_)
                                                refine w_o rfl rfl rfl (op_not rfl ?_)
                                                refine w_end ?_
                                                refine seq_normal ?_
                                                first | refine w_cond rfl (fun hI9 => ?_) (fun hI9 => ?_) | refine w_condB rfl (fun hI9 => ?_) (fun hI9 => ?_)
                                                · try (cases hI9; done)
                                                  all_goals
                                                    refine w_region ?_
                                                    refine w_o rfl rfl rfl (op_loadA agg_56 siz_56 rfl rfl el_ ?_)
                                                    refine w_o rfl rfl rfl (op_fieldAddr fa_58_1 rfl ?_)
                                                    refine w_o rfl rfl rfl (op_loadF agg_22 rfl el_ rfl ?_)
                                                    refine w_o rfl rfl rfl (op_fieldAddr fa_58_0 rfl ?_)
                                                    refine w_o rfl rfl rfl (op_loadF agg_3 rfl el_ rfl ?_)
                                                    refine w_o rfl rfl rfl (op_move rfl ?_)
                                                    refine w_o rfl rfl rfl (op_call rfl rfl rfl ?_)
                                                    first
                                                      | refine RPushNil_w (hsx.sub subs_) hz ?_
                                                      | refine RPush_w (H1 := NK ++ H) (M := 60 * i) subs_ hKV (hsx.app) (by omega) hne hM (by omega) (by omega) ⟨hw1, hw2⟩ fun ck' NK' hKV' => ?_
                                                    refine w_on rfl rfl (op_store siz_56 rfl rfl rfl (by (repeat (first | exact Pick.head _ _ _ | apply Pick.tail | apply Pick.app)); first | done | fail) (Nat.le_of_ble_eq_true rfl) rfl ?_)
                                                    refine w_end ?_
                                                    exact mid_normal (by first | exact ⟨RInv_e (clock := clock) (hand := hand) (hx := hx) (kh := kh) hr hto hf1 hf2 hLi hM h0 hKV, rfl⟩ | exact ⟨RInv_t (clock := clock) hr hto hf1 hf2 hLi hM hh h0 hKV, rfl⟩ | exact ⟨RInv_p (clock' := clock') hr' hto' hf1' hf2' hf1 hf2 hLi hM hI5 hm1 hKV', rfl⟩ | exact ⟨RInv_s (clock := clock) hr hto hf1 hf2 hLi hM hh hKV, rfl⟩) env_ sel_
                                                · try (cases hI9; done)
                                                  all_goals
                                                    refine w_skip ?_
                                                    exact mid_normal (by first | exact ⟨RInv_e (clock := clock) (hand := hand) (hx := hx) (kh := kh) hr hto hf1 hf2 hLi hM h0 hKV, rfl⟩ | exact ⟨RInv_t (clock := clock) hr hto hf1 hf2 hLi hM hh h0 hKV, rfl⟩ | exact ⟨RInv_p (clock' := clock') hr' hto' hf1' hf2' hf1 hf2 hLi hM hI5 hm1 hKV', rfl⟩ | exact ⟨RInv_s (clock := clock) hr hto hf1 hf2 hLi hM hh hKV, rfl⟩) env_ sel_
                                    · try (cases g88; done)
                                      all_goals
                                        refine w_u rfl rfl rfl rfl rfl rfl ?_
                                        refine w_u rfl rfl rfl rfl rfl rfl ?_
                                        refine w_o rfl rfl rfl (op_pick rfl rfl rfl ?_)
                                        refine w_o rfl rfl rfl (op_move rfl ?_)
                                        refine w_og rfl rfl rfl rfl rfl (op_move rfl ?_)
                                        refine w_og rfl rfl rfl rfl rfl (op_not rfl ?_)
                                        refine w_og rfl rfl rfl rfl rfl (op_move rfl ?_)
                                        first | refine w_known (t := 95) rfl (fun g95 => ?_) (fun g95 => ?_) | refine w_knownB (t := 95) rfl (fun g95 => ?_) (fun g95 => ?_)
                                        · try (cases g95; done)
                                          all_goals
                                            refine w_og rfl rfl rfl rfl rfl (op_move rfl ?_)
                                            refine w_og rfl rfl rfl rfl rfl (op_ne rfl rfl ?_)
                                            refine w_og rfl rfl rfl rfl rfl (op_pick rfl rfl rfl ?_)
                                            refine w_o rfl rfl rfl (op_pick rfl rfl rfl ?_)
                                            refine w_end ?_
                                            refine seq_normal ?_
                                            first | refine w_cond rfl (fun hI8 => ?_) (fun hI8 => ?_) | refine w_condB rfl (fun hI8 => ?_) (fun hI8 => ?_)
                                            · try (first | exact absurd rfl hI8 | (cases hI8; done))
                                              all_goals
                                                refine w_seq ?_
                                                refine w_region ?_
                                                refine w_o rfl rfl rfl (op_assign rfl ?_)
                                                refine w_end ?_
                                                refine seq_normal ?_
                                                refine w_ret ?_
                                                refine seq_ret ?_
                                                refine mid_ret ?_
                                                refine block_ret ?_
                                                refine seq_ret ?_
                                                refine loop_ret ?_
                                                refine block_ret ?_
                                                refine seq_ret ?_
                                                exact ret_ret rfl (.refl _) (by assumption)
                                            · try (first | exact absurd rfl hI8 | (cases hI8; done))
                                              all_goals
                                                refine w_skip ?_
                                                refine seq_normal ?_
                                                refine w_seq ?_
                                                refine w_region ?_
                                                refine w_o rfl rfl rfl (op_move rfl ?_)
                                                refine w_o rfl rfl rfl (op_not rfl ?_)
                                                refine w_end ?_
                                                refine seq_normal ?_
                                                first | refine w_cond rfl (fun hI9 => ?_) (fun hI9 => ?_) | refine w_condB rfl (fun hI9 => ?_) (fun hI9 => ?_)
                                                · try (cases hI9; done)
                                                  all_goals
                                                    refine w_region ?_
                                                    refine w_o rfl rfl rfl (op_loadA agg_56 siz_56 rfl rfl el_ ?_)
                                                    refine w_o rfl rfl rfl (op_fieldAddr fa_58_1 rfl ?_)
                                                    refine w_o rfl rfl rfl (op_loadF agg_22 rfl el_ rfl ?_)
                                                    refine w_o rfl rfl rfl (op_fieldAddr fa_58_0 rfl ?_)
                                                    refine w_o rfl rfl rfl (op_loadF agg_3 rfl el_ rfl ?_)
                                                    refine w_o rfl rfl rfl (op_move rfl ?_)
                                                    refine w_o rfl rfl rfl (op_call rfl rfl rfl ?_)
                                                    first
                                                      | refine RPushNil_w (hsx.sub subs_) hz ?_
                                                      | refine RPush_w (H1 := NK ++ H) (M := 60 * i) subs_ hKV (hsx.app) (by omega) hne hM (by omega) (by omega) ⟨hw1, hw2⟩ fun ck' NK' hKV' => ?_
                                                    refine w_on rfl rfl (op_store siz_56 rfl rfl rfl (by (repeat (first | exact Pick.head _ _ _ | apply Pick.tail | apply Pick.app)); first | done | fail) (Nat.le_of_ble_eq_true rfl) rfl ?_)
                                                    refine w_end ?_
                                                    exact mid_normal (by first | exact ⟨RInv_e (clock := clock) (hand := hand) (hx := hx) (kh := kh) hr hto hf1 hf2 hLi hM h0 hKV, rfl⟩ | exact ⟨RInv_t (clock := clock) hr hto hf1 hf2 hLi hM hh h0 hKV, rfl⟩ | exact ⟨RInv_p (clock' := clock') hr' hto' hf1' hf2' hf1 hf2 hLi hM hI5 hm1 hKV', rfl⟩ | exact ⟨RInv_s (clock := clock) hr hto hf1 hf2 hLi hM hh hKV, rfl⟩) env_ sel_
                                                · try (cases hI9; done)
                                                  all_goals
                                                    refine w_skip ?_
                                                    exact mid_normal (by first | exact ⟨RInv_e (clock := clock) (hand := hand) (hx := hx) (kh := kh) hr hto hf1 hf2 hLi hM h0 hKV, rfl⟩ | exact ⟨RInv_t (clock := clock) hr hto hf1 hf2 hLi hM hh h0 hKV, rfl⟩ | exact ⟨RInv_p (clock' := clock') hr' hto' hf1' hf2' hf1 hf2 hLi hM hI5 hm1 hKV', rfl⟩ | exact ⟨RInv_s (clock := clock) hr hto hf1 hf2 hLi hM hh hKV, rfl⟩) env_ sel_
                                        · try (cases g95; done)
                                          all_goals
                                            refine w_u rfl rfl rfl rfl rfl rfl ?_
                                            refine w_u rfl rfl rfl rfl rfl rfl ?_
                                            refine w_og rfl rfl rfl rfl rfl (op_pick rfl rfl rfl ?_)
                                            refine w_o rfl rfl rfl (op_pick rfl rfl rfl ?_)
                                            refine w_end ?_
                                            refine seq_normal ?_
                                            refine w_condF rfl ?_
                                            refine w_skip ?_
                                            refine seq_normal ?_
                                            refine w_seq ?_
                                            refine w_region ?_
                                            refine w_o rfl rfl rfl (op_move rfl ?_)
                                            refine w_o rfl rfl rfl (op_not rfl ?_)
                                            refine w_end ?_
                                            refine seq_normal ?_
                                            first | refine w_cond rfl (fun hI9 => ?_) (fun hI9 => ?_) | refine w_condB rfl (fun hI9 => ?_) (fun hI9 => ?_)
                                            · try (cases hI9; done)
                                              all_goals
                                                refine w_region ?_
                                                refine w_o rfl rfl rfl (op_loadA agg_56 siz_56 rfl rfl el_ ?_)
                                                refine w_o rfl rfl rfl (op_fieldAddr fa_58_1 rfl ?_)
                                                refine w_o rfl rfl rfl (op_loadF agg_22 rfl el_ rfl ?_)
                                                refine w_o rfl rfl rfl (op_fieldAddr fa_58_0 rfl ?_)
                                                refine w_o rfl rfl rfl (op_loadF agg_3 rfl el_ rfl ?_)
                                                refine w_o rfl rfl rfl (op_move rfl ?_)
                                                refine w_o rfl rfl rfl (op_call rfl rfl rfl ?_)
                                                first
                                                  | refine RPushNil_w (hsx.sub subs_) hz ?_
                                                  | refine RPush_w (H1 := NK ++ H) (M := 60 * i) subs_ hKV (hsx.app) (by omega) hne hM (by omega) (by omega) ⟨hw1, hw2⟩ fun ck' NK' hKV' => ?_
                                                refine w_on rfl rfl (op_store siz_56 rfl rfl rfl (by (repeat (first | exact Pick.head _ _ _ | apply Pick.tail | apply Pick.app)); first | done | fail) (Nat.le_of_ble_eq_true rfl) rfl ?_)
                                                refine w_end ?_
                                                exact mid_normal (by first | exact ⟨RInv_e (clock := clock) (hand := hand) (hx := hx) (kh := kh) hr hto hf1 hf2 hLi hM h0 hKV, rfl⟩ | exact ⟨RInv_t (clock := clock) hr hto hf1 hf2 hLi hM hh h0 hKV, rfl⟩ | exact ⟨RInv_p (clock' := clock') hr' hto' hf1' hf2' hf1 hf2 hLi hM hI5 hm1 hKV', rfl⟩ | exact ⟨RInv_s (clock := clock) hr hto hf1 hf2 hLi hM hh hKV, rfl⟩) env_ sel_
                                            · try (cases hI9; done)
                                              all_goals
                                                refine w_skip ?_
                                                exact mid_normal (by first | exact ⟨RInv_e (clock := clock) (hand := hand) (hx := hx) (kh := kh) hr hto hf1 hf2 hLi hM h0 hKV, rfl⟩ | exact ⟨RInv_t (clock := clock) hr hto hf1 hf2 hLi hM hh h0 hKV, rfl⟩ | exact ⟨RInv_p (clock' := clock') hr' hto' hf1' hf2' hf1 hf2 hLi hM hI5 hm1 hKV', rfl⟩ | exact ⟨RInv_s (clock := clock) hr hto hf1 hf2 hLi hM hh hKV, rfl⟩) env_ sel_
                          · refine w_o rfl rfl rfl (op_assign rfl ?_)
                            refine w_end ?_
                            refine seq_normal ?_
                            refine w_seq ?_
                            refine w_region ?_
                            refine w_o rfl rfl rfl (op_fieldAddr fa_58_0 rfl ?_)
                            refine w_o rfl rfl rfl (op_loadF agg_3 rfl el_ rfl ?_)
                            refine w_o rfl rfl rfl (op_lt rfl rfl ?_)
                            refine w_o rfl rfl rfl (op_move rfl ?_)
                            first | refine w_known (t := 76) rfl (fun g76 => ?_) (fun g76 => ?_) | refine w_knownB (t := 76) rfl (fun g76 => ?_) (fun g76 => ?_)
                            · try (exact absurd g76 (by omega))
                              all_goals
                                refine w_u rfl rfl rfl rfl rfl rfl ?_
                                refine w_u rfl rfl rfl rfl rfl rfl ?_
                                refine w_u rfl rfl rfl rfl rfl rfl ?_
                                refine w_o rfl rfl rfl (op_pick rfl rfl rfl ?_)
                                refine w_o rfl rfl rfl (op_move rfl ?_)
                                refine w_u rfl rfl rfl rfl rfl rfl ?_
                                refine w_u rfl rfl rfl rfl rfl rfl ?_
                                refine w_u rfl rfl rfl rfl rfl rfl ?_
                                refine w_u rfl rfl rfl rfl rfl rfl ?_
                                refine w_o rfl rfl rfl (op_pick rfl rfl rfl ?_)
                                refine w_o rfl rfl rfl (op_assign rfl ?_)
                                refine w_end ?_
                                refine seq_normal ?_
                                refine w_seq ?_
                                refine w_seq ?_
                                refine w_region ?_
                                refine w_o rfl rfl rfl (op_move rfl ?_)
                                refine w_o rfl rfl rfl (op_move rfl ?_)
                                refine w_og rfl rfl rfl rfl rfl (op_move rfl ?_)
                                refine w_og rfl rfl rfl rfl rfl (op_ne rfl rfl ?_)
                                refine w_o rfl rfl rfl (op_pick rfl rfl rfl ?_)
                                refine w_o rfl rfl rfl (op_move rfl ?_)
                                first | refine w_known (t := 92) rfl (fun g92 => ?_) (fun g92 => ?_) | refine w_knownB (t := 92) rfl (fun g92 => ?_) (fun g92 => ?_)
                                · try (first | exact absurd rfl g92 | (cases g92; done))
                                  all_goals
                                    refine w_u rfl rfl rfl rfl rfl rfl ?_
                                    refine w_u rfl rfl rfl rfl rfl rfl ?_
                                    refine w_u rfl rfl rfl rfl rfl rfl ?_
                                    refine w_u rfl rfl rfl rfl rfl rfl ?_
                                    refine w_u rfl rfl rfl rfl rfl rfl ?_
                                    refine w_u rfl rfl rfl rfl rfl rfl ?_
                                    refine w_o rfl rfl rfl (op_pick rfl rfl rfl ?_)
                                    refine w_end ?_
                                    refine seq_normal ?_
                                    refine w_condT rfl ?_
                                    refine w_seq ?_
                                    refine w_region ?_
                                    refine w_o rfl rfl rfl (op_assign rfl ?_)
                                    refine w_end ?_
                                    refine seq_normal ?_
                                    refine w_ret ?_
                                    refine seq_ret ?_
                                    refine mid_ret ?_
                                    refine block_ret ?_
                                    refine seq_ret ?_
                                    refine loop_ret ?_
                                    refine block_ret ?_
                                    refine seq_ret ?_
                                    exact ret_ret rfl (.refl _) (by assumption)
                                · try (first | exact absurd rfl g92 | (cases g92; done))
                                  all_goals
                                    refine w_og rfl rfl rfl rfl rfl (op_move rfl ?_)
                                    refine w_og rfl rfl rfl rfl rfl (op_not rfl ?_)
                                    refine w_og rfl rfl rfl rfl rfl (op_move rfl ?_)
                                    refine w_u rfl rfl rfl rfl rfl rfl ?_
                                    refine w_u rfl rfl rfl rfl rfl rfl ?_
                                    refine w_og rfl rfl rfl rfl rfl (op_pick rfl rfl rfl ?_)
                                    refine w_o rfl rfl rfl (op_pick rfl rfl rfl ?_)
                                    refine w_end ?_
                                    refine seq_normal ?_
                                    refine w_condF rfl ?_
                                    refine w_skip ?_
                                    refine seq_normal ?_
                                    refine w_seq ?_
                                    refine w_region ?_
                                    refine w_o rfl rfl rfl (op_move rfl ?_)
                                    refine w_o rfl rfl rfl (op_not rfl ?_)
                                    refine w_end ?_
                                    refine seq_normal ?_
                                    refine w_condF rfl ?_
                                    refine w_skip ?_
                                    exact mid_normal (by first | exact ⟨RInv_e (clock := clock) (hand := hand) (hx := hx) (kh := kh) hr hto hf1 hf2 hLi hM h0 hKV, rfl⟩ | exact ⟨RInv_t (clock := clock) hr hto hf1 hf2 hLi hM hh h0 hKV, rfl⟩ | exact ⟨RInv_p (clock' := clock') hr' hto' hf1' hf2' hf1 hf2 hLi hM hI5 hm1 hKV', rfl⟩ | exact ⟨RInv_s (clock := clock) hr hto hf1 hf2 hLi hM hh hKV, rfl⟩) env_ sel_
                            · try (exact absurd g76 (by omega))
                              all_goals
                                refine w_og rfl rfl rfl rfl rfl (op_fieldAddr fa_58_0 rfl ?_)
                                refine w_og rfl rfl rfl rfl rfl (op_loadF agg_3 rfl el_ rfl ?_)
                                refine w_og rfl rfl rfl rfl rfl (op_gt rfl rfl ?_)
                                refine w_o rfl rfl rfl (op_pick rfl rfl rfl ?_)
                                refine w_o rfl rfl rfl (op_move rfl ?_)
                                first | refine w_known (t := 81) rfl (fun g81 => ?_) (fun g81 => ?_) | refine w_knownB (t := 81) rfl (fun g81 => ?_) (fun g81 => ?_)
                                · try (exact absurd g81 (by omega))
                                  all_goals
                                    refine w_u rfl rfl rfl rfl rfl rfl ?_
                                    refine w_u rfl rfl rfl rfl rfl rfl ?_
                                    refine w_u rfl rfl rfl rfl rfl rfl ?_
                                    refine w_u rfl rfl rfl rfl rfl rfl ?_
                                    refine w_o rfl rfl rfl (op_pick rfl rfl rfl ?_)
                                    refine w_o rfl rfl rfl (op_assign rfl ?_)
                                    refine w_end ?_
                                    refine seq_normal ?_
                                    refine w_seq ?_
                                    refine w_seq ?_
                                    refine w_region ?_
                                    refine w_o rfl rfl rfl (op_move rfl ?_)
                                    refine w_o rfl rfl rfl (op_move rfl ?_)
                                    refine w_og rfl rfl rfl rfl rfl (op_move rfl ?_)
                                    refine w_og rfl rfl rfl rfl rfl (op_ne rfl rfl ?_)
                                    refine w_o rfl rfl rfl (op_pick rfl rfl rfl ?_)
                                    refine w_o rfl rfl rfl (op_move rfl ?_)
                                    first | refine w_known (t := 92) rfl (fun g92 => ?_) (fun g92 => ?_) | refine w_knownB (t := 92) rfl (fun g92 => ?_) (fun g92 => ?_)
                                    · try (first | exact absurd rfl g92 | (cases g92; done))
                                      all_goals
                                        refine w_u rfl rfl rfl rfl rfl rfl ?_
                                        refine w_u rfl rfl rfl rfl rfl rfl ?_
                                        refine w_u rfl rfl rfl rfl rfl rfl ?_
                                        refine w_u rfl rfl rfl rfl rfl rfl ?_
                                        refine w_u rfl rfl rfl rfl rfl rfl ?_
                                        refine w_u rfl rfl rfl rfl rfl rfl ?_
                                        refine w_o rfl rfl rfl (op_pick rfl rfl rfl ?_)
                                        refine w_end ?_
                                        refine seq_normal ?_
                                        refine w_condT rfl ?_
                                        refine w_seq ?_
                                        refine w_region ?_
                                        refine w_o rfl rfl rfl (op_assign rfl ?_)
                                        refine w_end ?_
                                        refine seq_normal ?_
                                        refine w_ret ?_
                                        refine seq_ret ?_
                                        refine mid_ret ?_
                                        refine block_ret ?_
                                        refine seq_ret ?_
                                        refine loop_ret ?_
                                        refine block_ret ?_
                                        refine seq_ret ?_
                                        exact ret_ret rfl (.refl _) (by assumption)
                                    · try (first | exact absurd rfl g92 | (cases g92; done))
                                      all_goals
                                        refine w_og rfl rfl rfl rfl rfl (op_move rfl ?_)
                                        refine w_og rfl rfl rfl rfl rfl (op_not rfl ?_)
                                        refine w_og rfl rfl rfl rfl rfl (op_move rfl ?_)
                                        refine w_u rfl rfl rfl rfl rfl rfl ?_
                                        refine w_u rfl rfl rfl rfl rfl rfl ?_
                                        refine w_og rfl rfl rfl rfl rfl (op_pick rfl rfl rfl ?_)
                                        refine w_o rfl rfl rfl (op_pick rfl rfl rfl ?_)
                                        refine w_end ?_
                                        refine seq_normal ?_
                                        refine w_condF rfl ?_
                                        refine w_skip ?_
                                        refine seq_normal ?_
                                        refine w_seq ?_
                                        refine w_region ?_
                                        refine w_o rfl rfl rfl (op_move rfl ?_)
                                        refine w_o rfl rfl rfl (op_not rfl ?_)
                                        refine w_end ?_
                                        refine seq_normal ?_
                                        refine w_condF rfl ?_
                                        refine w_skip ?_
                                        exact mid_normal (by first | exact ⟨RInv_e (clock := clock) (hand := hand) (hx := hx) (kh := kh) hr hto hf1 hf2 hLi hM h0 hKV, rfl⟩ | exact ⟨RInv_t (clock := clock) hr hto hf1 hf2 hLi hM hh h0 hKV, rfl⟩ | exact ⟨RInv_p (clock' := clock') hr' hto' hf1' hf2' hf1 hf2 hLi hM hI5 hm1 hKV', rfl⟩ | exact ⟨RInv_s (clock := clock) hr hto hf1 hf2 hLi hM hh hKV, rfl⟩) env_ sel_
                                · try (exact absurd g81 (by omega))
                                  all_goals
                                    refine w_og rfl rfl rfl rfl rfl (op_fieldAddr fa_58_1 rfl ?_)
                                    refine w_og rfl rfl rfl rfl rfl (op_loadF agg_22 rfl el_ rfl ?_)
                                    refine w_og rfl rfl rfl rfl rfl (op_call rfl rfl rfl ?_)
                                    first
                                      | (have hbad : lx.all rightS = false := by
                                           rcases hb with h | h | h
                                           · omega
                                           · omega
                                           · exact h
                                         refine R04All_w (hsx.sub subs_) (by omega) ?_
                                         rw [hbad])
                                      | (refine R04All_w (hsx.sub subs_) (by omega) ?_
                                         rw [hall])
                                    refine w_og rfl rfl rfl rfl rfl (op_not rfl ?_)
                                    refine w_o rfl rfl rfl (op_pick rfl rfl rfl ?_)
                                    refine w_o rfl rfl rfl (op_assign rfl ?_)
                                    refine w_end ?_
                                    refine seq_normal ?_
                                    refine w_seq ?_
                                    refine w_seq ?_
                                    refine w_region ?_
                                    refine w_o rfl rfl rfl (op_move rfl ?_)
                                    refine w_o rfl rfl rfl (op_move rfl ?_)
                                    first | refine w_known (t := 88) rfl (fun g88 => ?_) (fun g88 => ?_) | refine w_knownB (t := 88) rfl (fun g88 => ?_) (fun g88 => ?_)
                                    · try (cases g88; done)
                                      all_goals
                                        refine w_og rfl rfl rfl rfl rfl (op_move rfl ?_)
                                        refine w_og rfl rfl rfl rfl rfl (op_ne rfl rfl ?_)
                                        refine w_o rfl rfl rfl (op_pick rfl rfl rfl ?_)
                                        refine w_o rfl rfl rfl (op_move rfl ?_)
                                        first | refine w_known (t := 92) rfl (fun g92 => ?_) (fun g92 => ?_) | refine w_knownB (t := 92) rfl (fun g92 => ?_) (fun g92 => ?_)
                                        · try (first | exact absurd rfl g92 | (cases g92; done))
                                          all_goals
                                            refine w_u rfl rfl rfl rfl rfl rfl ?_
                                            refine w_u rfl rfl rfl rfl rfl rfl ?_
                                            refine w_u rfl rfl rfl rfl rfl rfl ?_
                                            refine w_u rfl rfl rfl rfl rfl rfl ?_
                                            refine w_u rfl rfl rfl rfl rfl rfl ?_
                                            refine w_u rfl rfl rfl rfl rfl rfl ?_
                                            refine w_o rfl rfl rfl (op_pick rfl rfl rfl ?_)
                                            refine w_end ?_
                                            refine seq_normal ?_
                                            refine w_condT rfl ?_
                                            refine w_seq ?_
                                            refine w_region ?_
                                            refine w_o rfl rfl rfl (op_assign rfl ?_)
                                            refine w_end ?_
                                            refine seq_normal ?_
                                            refine w_ret ?_
                                            refine seq_ret ?_
                                            refine mid_ret ?_
                                            refine block_ret ?_
                                            refine seq_ret ?_
                                            refine loop_ret ?_
                                            refine block_ret ?_
                                            refine seq_ret ?_
                                            exact ret_ret rfl (.refl _) (by assumption)
                                        · try (first | exact absurd rfl g92 | (cases g92; done))
                                          all_goals
                                            refine w_og rfl rfl rfl rfl rfl (op_move rfl ?_)
                                            refine w_og rfl rfl rfl rfl rfl (op_not rfl ?_)
                                            refine w_og rfl rfl rfl rfl rfl (op_move rfl ?_)
                                            first | refine w_known (t := 95) rfl (fun g95 => ?_) (fun g95 => ?_) | refine w_knownB (t := 95) rfl (fun g95 => ?_) (fun g95 => ?_)
                                            · try (cases g95; done)
                                              all_goals
                                                refine w_og rfl rfl rfl rfl rfl (op_move rfl ?_)
                                                refine w_og rfl rfl rfl rfl rfl (op_ne rfl rfl ?_)
                                                refine w_og rfl rfl rfl rfl rfl (op_pick rfl rfl rfl ?_)
                                                refine w_o rfl rfl rfl (op_pick rfl rfl rfl ?_)
                                                refine w_end ?_
                                                refine seq_normal ?_
                                                first | refine w_cond rfl (fun hI8 => ?_) (fun hI8 => ?_) | refine w_condB rfl (fun hI8 => ?_) (fun hI8 => ?_)
                                                · try (first | exact absurd rfl hI8 | (cases hI8; done))
                                                  all_goals
                                                    refine w_seq ?_
                                                    refine w_region ?_
                                                    refine w_o rfl rfl rfl (op_assign rfl ?_)
                                                    refine w_end ?_
                                                    refine seq_normal ?_
                                                    refine w_ret ?_
                                                    refine seq_ret ?_
                                                    refine mid_ret ?_
                                                    refine block_ret ?_
                                                    refine seq_ret ?_
                                                    refine loop_ret ?_
                                                    refine block_ret ?_
                                                    refine seq_ret ?_
                                                    exact ret_ret rfl (.refl _) (by assumption)
                                                · try (first | exact absurd rfl hI8 | (cases hI8; done))
                                                  all_goals
                                                    refine w_skip ?_
                                                    refine seq_normal ?_
                                                    refine w_seq ?_
                                                    refine w_region ?_
                                                    refine w_o rfl rfl rfl (op_move rfl ?_)
                                                    refine w_o rfl rfl rfl (op_not rfl ?_)
                                                    refine w_end ?_
                                                    refine seq_normal ?_
                                                    first | refine w_cond rfl (fun hI9 => ?_) (fun hI9 => ?_) | refine w_condB rfl (fun hI9 => ?_) (fun hI9 => ?_)
                                                    · try (cases hI9; done)
                                                      all_goals
                                                        refine w_region ?_
                                                        refine w_o rfl rfl rfl (op_loadA agg_56 siz_56 rfl rfl el_ ?_)
                                                        refine w_o rfl rfl rfl (op_fieldAddr fa_58_1 rfl ?_)
                                                        refine w_o rfl rfl rfl (op_loadF agg_22 rfl el_ rfl ?_)
                                                        refine w_o rfl rfl rfl (op_fieldAddr fa_58_0 rfl ?_)
                                                        refine w_o rfl rfl rfl (op_loadF agg_3 rfl el_ rfl ?_)
                                                        refine w_o rfl rfl rfl (op_move rfl ?_)
                                                        refine w_o rfl rfl rfl (op_call rfl rfl rfl ?_)
                                                        first
                                                          | refine RPushNil_w (hsx.sub subs_) hz ?_
                                                          | refine RPush_w (H1 := NK ++ H) (M := 60 * i) subs_ hKV (hsx.app) (by omega) hne hM (by omega) (by omega) ⟨hw1, hw2⟩ fun ck' NK' hKV' => ?_
                                                        refine w_on rfl rfl (op_store siz_56 rfl rfl rfl (by (repeat (first | exact Pick.head _ _ _ | apply Pick.tail | apply Pick.app)); first | done | fail) (Nat.le_of_ble_eq_true rfl) rfl ?_)
                                                        refine w_end ?_
                                                        exact mid_normal (by first | exact ⟨RInv_e (clock := clock) (hand := hand) (hx := hx) (kh := kh) hr hto hf1 hf2 hLi hM h0 hKV, rfl⟩ | exact ⟨RInv_t (clock := clock) hr hto hf1 hf2 hLi hM hh h0 hKV, rfl⟩ | exact ⟨RInv_p (clock' := clock') hr' hto' hf1' hf2' hf1 hf2 hLi hM hI5 hm1 hKV', rfl⟩ | exact ⟨RInv_s (clock := clock) hr hto hf1 hf2 hLi hM hh hKV, rfl⟩) env_ sel_
                                                    · try (cases hI9; done)
                                                      all_goals
                                                        refine w_skip ?_
                                                        exact mid_normal (by first | exact ⟨RInv_e (clock := clock) (hand := hand) (hx := hx) (kh := kh) hr hto hf1 hf2 hLi hM h0 hKV, rfl⟩ | exact ⟨RInv_t (clock := clock) hr hto hf1 hf2 hLi hM hh h0 hKV, rfl⟩ | exact ⟨RInv_p (clock' := clock') hr' hto' hf1' hf2' hf1 hf2 hLi hM hI5 hm1 hKV', rfl⟩ | exact ⟨RInv_s (clock := clock) hr hto hf1 hf2 hLi hM hh hKV, rfl⟩) env_ sel_
                                            · try (cases g95; done)
                                              all_goals
                                                refine w_u rfl rfl rfl rfl rfl rfl ?_
                                                refine w_u rfl rfl rfl rfl rfl rfl ?_
                                                refine w_og rfl rfl rfl rfl rfl (op_pick rfl rfl rfl ?_)
                                                refine w_o rfl rfl rfl (op_pick rfl rfl rfl ?_)
                                                refine w_end ?_
                                                refine seq_normal ?_
                                                refine w_condF rfl ?_
                                                refine w_skip ?_
                                                refine seq_normal ?_
                                                refine w_seq ?_
                                                refine w_region ?_
                                                refine w_o rfl rfl rfl (op_move rfl ?_)
                                                refine w_o rfl rfl rfl (op_not rfl ?_)
                                                refine w_end ?_
                                                refine seq_normal ?_
                                                first | refine w_cond rfl (fun hI9 => ?_) (fun hI9 => ?_) | refine w_condB rfl (fun hI9 => ?_) (fun hI9 => ?_)
                                                · try (cases hI9; done)
                                                  all_goals
                                                    refine w_region ?_
                                                    refine w_o rfl rfl rfl (op_loadA agg_56 siz_56 rfl rfl el_ ?_)
                                                    refine w_o rfl rfl rfl (op_fieldAddr fa_58_1 rfl ?_)
                                                    refine w_o rfl rfl rfl (op_loadF agg_22 rfl el_ rfl ?_)
                                                    refine w_o rfl rfl rfl (op_fieldAddr fa_58_0 rfl ?_)
                                                    refine w_o rfl rfl rfl (op_loadF agg_3 rfl el_ rfl ?_)
                                                    refine w_o rfl rfl rfl (op_move rfl ?_)
                                                    refine w_o rfl rfl rfl (op_call rfl rfl rfl ?_)
                                                    first
                                                      | refine RPushNil_w (hsx.sub subs_) hz ?_
                                                      | refine RPush_w (H1 := NK ++ H) (M := 60 * i) subs_ hKV (hsx.app) (by omega) hne hM (by omega) (by omega) ⟨hw1, hw2⟩ fun ck' NK' hKV' => ?_
                                                    refine w_on rfl rfl (op_store siz_56 rfl rfl rfl (by (repeat (first | exact Pick.head _ _ _ | apply Pick.tail | apply Pick.app)); first | done | fail) (Nat.le_of_ble_eq_true rfl) rfl ?_)
                                                    refine w_end ?_
                                                    exact mid_normal (by first | exact ⟨RInv_e (clock := clock) (hand := hand) (hx := hx) (kh := kh) hr hto hf1 hf2 hLi hM h0 hKV, rfl⟩ | exact ⟨RInv_t (clock := clock) hr hto hf1 hf2 hLi hM hh h0 hKV, rfl⟩ | exact ⟨RInv_p (clock' := clock') hr' hto' hf1' hf2' hf1 hf2 hLi hM hI5 hm1 hKV', rfl⟩ | exact ⟨RInv_s (clock := clock) hr hto hf1 hf2 hLi hM hh hKV, rfl⟩) env_ sel_
                                                · try (cases hI9; done)
                                                  all_goals
                                                    refine w_skip ?_
                                                    exact mid_normal (by first | exact ⟨RInv_e (clock := clock) (hand := hand) (hx := hx) (kh := kh) hr hto hf1 hf2 hLi hM h0 hKV, rfl⟩ | exact ⟨RInv_t (clock := clock) hr hto hf1 hf2 hLi hM hh h0 hKV, rfl⟩ | exact ⟨RInv_p (clock' := clock') hr' hto' hf1' hf2' hf1 hf2 hLi hM hI5 hm1 hKV', rfl⟩ | exact ⟨RInv_s (clock := clock) hr hto hf1 hf2 hLi hM hh hKV, rfl⟩) env_ sel_
                                    · try (cases g88; done)
                                      all_goals
                                        refine w_u rfl rfl rfl rfl rfl rfl ?_
                                        refine w_u rfl rfl rfl rfl rfl rfl ?_
                                        refine w_o rfl rfl rfl (op_pick rfl rfl rfl ?_)
                                        refine w_o rfl rfl rfl (op_move rfl ?_)
                                        refine w_og rfl rfl rfl rfl rfl (op_move rfl ?_)
                                        refine w_og rfl rfl rfl rfl rfl (op_not rfl ?_)
                                        refine w_og rfl rfl rfl rfl rfl (op_move rfl ?_)
                                        first | refine w_known (t := 95) rfl (fun g95 => ?_) (fun g95 => ?_) | refine w_knownB (t := 95) rfl (fun g95 => ?_) (fun g95 => ?_)
                                        · try (cases g95; done)
                                          all_goals
                                            refine w_og rfl rfl rfl rfl rfl (op_move rfl ?_)
                                            refine w_og rfl rfl rfl rfl rfl (op_ne rfl rfl ?_)
                                            refine w_og rfl rfl rfl rfl rfl (op_pick rfl rfl rfl ?_)
                                            refine w_o rfl rfl rfl (op_pick rfl rfl rfl ?_)
                                            refine w_end ?_
                                            refine seq_normal ?_
                                            first | refine w_cond rfl (fun hI8 => ?_) (fun hI8 => ?_) | refine w_condB rfl (fun hI8 => ?_) (fun hI8 => ?_)
                                            · try (first | exact absurd rfl hI8 | (cases hI8; done))
                                              all_goals
                                                refine w_seq ?_
                                                refine w_region ?_
                                                refine w_o rfl rfl rfl (op_assign rfl ?_)
                                                refine w_end ?_
                                                refine seq_normal ?_
                                                refine w_ret ?_
                                                refine seq_ret ?_
                                                refine mid_ret ?_
                                                refine block_ret ?_
                                                refine seq_ret ?_
                                                refine loop_ret ?_
                                                refine block_ret ?_
                                                refine seq_ret ?_
                                                exact ret_ret rfl (.refl _) (by assumption)
                                            · try (first | exact absurd rfl hI8 | (cases hI8; done))
                                              all_goals
                                                refine w_skip ?_
                                                refine seq_normal ?_
                                                refine w_seq ?_
                                                refine w_region ?_
                                                refine w_o rfl rfl rfl (op_move rfl ?_)
                                                refine w_o rfl rfl rfl (op_not rfl ?_)
                                                refine w_end ?_
                                                refine seq_normal ?_
                                                first | refine w_cond rfl (fun hI9 => ?_) (fun hI9 => ?_) | refine w_condB rfl (fun hI9 => ?_) (fun hI9 => ?_)
                                                · try (cases hI9; done)
                                                  all_goals
                                                    refine w_region ?_
                                                    refine w_o rfl rfl rfl (op_loadA agg_56 siz_56 rfl rfl el_ ?_)
                                                    refine w_o rfl rfl rfl (op_fieldAddr fa_58_1 rfl ?_)
                                                    refine w_o rfl rfl rfl (op_loadF agg_22 rfl el_ rfl ?_)
                                                    refine w_o rfl rfl rfl (op_fieldAddr fa_58_0 rfl ?_)
                                                    refine w_o rfl rfl rfl (op_loadF agg_3 rfl el_ rfl ?_)
                                                    refine w_o rfl rfl rfl (op_move rfl ?_)
                                                    refine w_o rfl rfl rfl (op_call rfl rfl rfl ?_)
                                                    first
                                                      | refine RPushNil_w (hsx.sub subs_) hz ?_
                                                      | refine RPush_w (H1 := NK ++ H) (M := 60 * i) subs_ hKV (hsx.app) (by omega) hne hM (by omega) (by omega) ⟨hw1, hw2⟩ fun ck' NK' hKV' => ?_
                                                    refine w_on rfl rfl (op_store siz_56 rfl rfl rfl (by (repeat (first | exact Pick.head _ _ _ | apply Pick.tail | apply Pick.app)); first | done | fail) (Nat.le_of_ble_eq_true rfl) rfl ?_)
                                                    refine w_end ?_
                                                    exact mid_normal (by first | exact ⟨RInv_e (clock := clock) (hand := hand) (hx := hx) (kh := kh) hr hto hf1 hf2 hLi hM h0 hKV, rfl⟩ | exact ⟨RInv_t (clock := clock) hr hto hf1 hf2 hLi hM hh h0 hKV, rfl⟩ | exact ⟨RInv_p (clock' := clock') hr' hto' hf1' hf2' hf1 hf2 hLi hM hI5 hm1 hKV', rfl⟩ | exact ⟨RInv_s (clock := clock) hr hto hf1 hf2 hLi hM hh hKV, rfl⟩) env_ sel_
                                                · try (cases hI9; done)
                                                  all_goals
                                                    refine w_skip ?_
                                                    exact mid_normal (by first | exact ⟨RInv_e (clock := clock) (hand := hand) (hx := hx) (kh := kh) hr hto hf1 hf2 hLi hM h0 hKV, rfl⟩ | exact ⟨RInv_t (clock := clock) hr hto hf1 hf2 hLi hM hh h0 hKV, rfl⟩ | exact ⟨RInv_p (clock' := clock') hr' hto' hf1' hf2' hf1 hf2 hLi hM hI5 hm1 hKV', rfl⟩ | exact ⟨RInv_s (clock := clock) hr hto hf1 hf2 hLi hM hh hKV, rfl⟩) env_ sel_
                                        · try (cases g95; done)
                                          all_goals
                                            refine w_u rfl rfl rfl rfl rfl rfl ?_
                                            refine w_u rfl rfl rfl rfl rfl rfl ?_
                                            refine w_og rfl rfl rfl rfl rfl (op_pick rfl rfl rfl ?_)
                                            refine w_o rfl rfl rfl (op_pick rfl rfl rfl ?_)
                                            refine w_end ?_
                                            refine seq_normal ?_
                                            refine w_condF rfl ?_
                                            refine w_skip ?_
                                            refine seq_normal ?_
                                            refine w_seq ?_
                                            refine w_region ?_
                                            refine w_o rfl rfl rfl (op_move rfl ?_)
                                            refine w_o rfl rfl rfl (op_not rfl ?_)
                                            refine w_end ?_
                                            refine seq_normal ?_
                                            first | refine w_cond rfl (fun hI9 => ?_) (fun hI9 => ?_) | refine w_condB rfl (fun hI9 => ?_) (fun hI9 => ?_)
                                            · try (cases hI9; done)
                                              all_goals
                                                refine w_region ?_
                                                refine w_o rfl rfl rfl (op_loadA agg_56 siz_56 rfl rfl el_ ?_)
                                                refine w_o rfl rfl rfl (op_fieldAddr fa_58_1 rfl ?_)
                                                refine w_o rfl rfl rfl (op_loadF agg_22 rfl el_ rfl ?_)
                                                refine w_o rfl rfl rfl (op_fieldAddr fa_58_0 rfl ?_)
                                                refine w_o rfl rfl rfl (op_loadF agg_3 rfl el_ rfl ?_)
                                                refine w_o rfl rfl rfl (op_move rfl ?_)
                                                refine w_o rfl rfl rfl (op_call rfl rfl rfl ?_)
                                                first
                                                  | refine RPushNil_w (hsx.sub subs_) hz ?_
                                                  | refine RPush_w (H1 := NK ++ H) (M := 60 * i) subs_ hKV (hsx.app) (by omega) hne hM (by omega) (by omega) ⟨hw1, hw2⟩ fun ck' NK' hKV' => ?_
                                                refine w_on rfl rfl (op_store siz_56 rfl rfl rfl (by (repeat (first | exact Pick.head _ _ _ | apply Pick.tail | apply Pick.app)); first | done | fail) (Nat.le_of_ble_eq_true rfl) rfl ?_)
                                                refine w_end ?_
                                                exact mid_normal (by first | exact ⟨RInv_e (clock := clock) (hand := hand) (hx := hx) (kh := kh) hr hto hf1 hf2 hLi hM h0 hKV, rfl⟩ | exact ⟨RInv_t (clock := clock) hr hto hf1 hf2 hLi hM hh h0 hKV, rfl⟩ | exact ⟨RInv_p (clock' := clock') hr' hto' hf1' hf2' hf1 hf2 hLi hM hI5 hm1 hKV', rfl⟩ | exact ⟨RInv_s (clock := clock) hr hto hf1 hf2 hLi hM hh hKV, rfl⟩) env_ sel_
                                            · try (cases hI9; done)
                                              all_goals
                                                refine w_skip ?_
                                                exact mid_normal (by first | exact ⟨RInv_e (clock := clock) (hand := hand) (hx := hx) (kh := kh) hr hto hf1 hf2 hLi hM h0 hKV, rfl⟩ | exact ⟨RInv_t (clock := clock) hr hto hf1 hf2 hLi hM hh h0 hKV, rfl⟩ | exact ⟨RInv_p (clock' := clock') hr' hto' hf1' hf2' hf1 hf2 hLi hM hI5 hm1 hKV', rfl⟩ | exact ⟨RInv_s (clock := clock) hr hto hf1 hf2 hLi hM hh hKV, rfl⟩) env_ sel_
                      · rintro e H' ⟨⟨clock, fr, tz, hand, L, es, NS, hx, ck, kh, NK, hr, hto, hf1, hf2, hLi, hM, hh, hKV, rfl⟩, rfl⟩
                        obtain ⟨csk, hk1, hk2, hk3⟩ := id hKV
                        refine w_seq ?_
                        refine w_drawF (_) sel_ (by decide +kernel) (by decide +kernel) ?_
                        refine f_b (guard_none rfl) rfl rfl rfl rfl (op_move rfl ?_)
                        refine f_m (guard_none rfl) rfl rfl rfl (op_call rfl rfl rfl ?_)
                        refine Len_w (fr := fr) (tz := tz) (hand := hand) (most := most) (m := m) mem_ hf1 (by omega) (by omega) (by omega) ?_
                        refine ⟨sel_, ?_⟩
                        refine f_b (guard_none rfl) rfl rfl rfl rfl (op_fieldAddr fa_56_0 rfl ?_)
                        refine f_l (guard_none rfl) rfl rfl rfl sel_ (op_loadF agg_34 rfl el_ rfl rfl) ?_
                        refine f_b (guard_none rfl) rfl rfl rfl rfl (op_lenC und_34 rfl hk1.lenC ?_)
                        refine f_b (guard_none rfl) rfl rfl rfl rfl (op_ne rfl rfl ?_)
                        refine f_b (guard_none rfl) rfl rfl rfl rfl (op_move rfl ?_)
                        first | refine f_known (t := 115) rfl (fun g115 => ?_) (fun g115 => ?_) | refine f_knownB (t := 115) rfl (fun g115 => ?_) (fun g115 => ?_)
                        · exact absurd (by omega) g115 --closed
                        · refine f_b (guard_some rfl rfl rfl rfl) rfl rfl rfl rfl (op_move rfl ?_)
                          refine f_m (guard_some rfl rfl rfl rfl) rfl rfl rfl (op_call rfl rfl rfl ?_)
                          refine Now_w (fr := fr) (tz := tz) (hand := hand) (most := most) (m := m) (es := es) (clock := clock) (hi := hx) (M := 60 * (i + 1)) mem_ hto (fun h => ⟨(hh h).1, (hh h).2.1⟩) mem_ hr subs_ hf1 (by omega) (by omega) hM (by omega) fun cn Nn hN => ?_
                          refine ⟨sel_, ?_⟩
                          refine f_l (guard_some rfl rfl rfl rfl) rfl rfl rfl sel_ (op_loadA agg_56 siz_56 rfl rfl el_ rfl) ?_
                          refine f_m (guard_some rfl rfl rfl rfl) rfl rfl rfl (op_call rfl rfl rfl ?_)
                          refine RNow_w (M := 0) (hi := hx) (hKV.sub subs_) (by omega) (fun h => ⟨(hh h).2.2, (hh h).2.1⟩) fun cr hR => ?_
                          refine ⟨sel_, ?_⟩
                          refine f_m (guard_some rfl rfl rfl rfl) rfl rfl rfl (op_call rfl rfl rfl ?_)
                          refine R04Same_w (hN.slT (fun _ => rfl) (by decide) (fun x hx => List.mem_append_left _ hx)) hR (by
                            split
                            · simp
                            · rename_i h0
                              have hx2 := (hh h0).2.1
                              have hg : L[hx]? = some L[hx] := List.getElem?_eq_getElem hx2
                              have e : nowM L hx = L[hx] := by unfold nowM; rw [hg]; rfl
                              have := hM _ (List.mem_of_getElem? hg)
                              rw [e]; omega) ?_
                          rw [decide_eq_true rfl]
                          refine ⟨sel_, ?_⟩
                          refine f_b (guard_some rfl rfl rfl rfl) rfl rfl rfl rfl (op_not rfl ?_)
                          refine f_b (guard_none rfl) rfl rfl rfl rfl (op_pick rfl rfl rfl ?_)
                          refine f_b (guard_none rfl) rfl rfl rfl rfl (op_move rfl ?_)
                          refine f_b (guard_some rfl rfl rfl rfl) rfl rfl rfl rfl (op_move rfl ?_)
                          refine f_m (guard_some rfl rfl rfl rfl) rfl rfl rfl (op_call rfl rfl rfl ?_)
                          refine All_w (fr := fr) (tz := tz) (hand := hand) (most := most) (m := m) (es := es) (clock := clock) (M := 60 * (i + 1)) mem_ hto mem_ hr subs_ hf1 (by omega) (by omega) hM (by omega) fun ca csa No Ni hOa hcsa hina => ?_
                          refine ⟨sel_, ?_⟩
                          refine f_b (guard_some rfl rfl rfl rfl) rfl rfl rfl rfl (op_fieldAddr fa_56_0 rfl ?_)
                          refine f_l (guard_some rfl rfl rfl rfl) rfl rfl rfl sel_ (op_loadF agg_34 rfl el_ rfl rfl) ?_
                          refine f_m (guard_some rfl rfl rfl rfl) rfl rfl rfl (op_call rfl rfl rfl ?_)
                          refine Lists_w (M := 0) (L := L) (L' := L) ⟨csa, hOa.slT (fun _ => rfl) (by decide) (fun x hx => List.mem_append_left _ hx), hcsa, fun i d x a b => (hina i d x a b).sub (fun y hy => List.mem_append_right _ (List.mem_append_left _ hy))⟩ (hKV.sub subs_) (by omega) (fun t ht => by have := hM t ht; omega) rfl ?_
                          refine ⟨sel_, ?_⟩
                          refine f_b (guard_some rfl rfl rfl rfl) rfl rfl rfl rfl (op_not rfl ?_)
                          refine f_b (guard_none rfl) rfl rfl rfl rfl (op_pick rfl rfl rfl ?_)
                          refine f_end ?_
                          refine seq_normal ?_
                          refine w_condF rfl ?_
                          refine w_skip ?_
                          refine block_normal ?_
                          refine seq_normal ?_
                          refine w_region ?_
                          refine w_o rfl rfl rfl (op_move rfl ?_)
                          refine w_o rfl rfl rfl (op_addi rfl rfl (by omega) (by omega) ?_)
                          refine w_o rfl rfl rfl (op_assign rfl ?_)
                          refine w_end ?_
                          exact loop_normal (k' := ps.length - (i + 1)) (by omega) ⟨i + 1, by omega, rfl, by omega, ⟨clock, fr, tz, hand, L, es, NS, hx, ck, kh, NK, hr, hto, hf1, hf2, hLi, hM, hh, hKV, rfl⟩, rfl⟩ env_ sel_
                  · refine w_exit ?_
                    refine seq_exit ?_
                    refine loop_exit ?_
                    refine block_hit rfl ?_
                    refine seq_normal ?_
                    refine w_seq ?_
                    refine w_region ?_
                    refine w_o rfl rfl rfl (op_assign rfl ?_)
                    refine w_end ?_
                    refine seq_normal ?_
                    refine w_ret ?_
                    exact ret_ret rfl (.refl _) rfl
                · refine w_u rfl rfl rfl rfl rfl rfl ?_
                  refine w_u rfl rfl rfl rfl rfl rfl ?_
                  refine w_o rfl rfl rfl (op_pick rfl rfl rfl ?_)
                  refine w_end ?_
                  refine seq_normal ?_
                  refine w_condF rfl ?_
                  refine w_exit ?_
                  refine seq_exit ?_
                  refine loop_exit ?_
                  refine block_hit rfl ?_
                  refine seq_normal ?_
                  refine w_seq ?_
                  refine w_region ?_
                  refine w_o rfl rfl rfl (op_assign rfl ?_)
                  refine w_end ?_
                  refine seq_normal ?_
                  refine w_ret ?_
                  exact ret_ret rfl (.refl _) rfl
  · refine w_o rfl rfl rfl (op_move rfl ?_)
    refine w_o rfl rfl rfl (op_extract rfl rfl ?_)
    refine w_o rfl rfl rfl (op_extract rfl rfl ?_)
    refine w_o rfl rfl rfl (op_assign rfl ?_)
    refine w_o rfl rfl rfl (op_assign rfl ?_)
    refine w_end ?_
    refine seq_normal ?_
    refine w_seq ?_
    refine w_seq ?_
    refine w_region ?_
    refine w_o rfl rfl rfl (op_move rfl ?_)
    refine w_o rfl rfl rfl (op_lt rfl rfl ?_)
    refine w_o rfl rfl rfl (op_move rfl ?_)
    first | refine w_known (t := 21) rfl (fun g21 => ?_) (fun g21 => ?_) | refine w_knownB (t := 21) rfl (fun g21 => ?_) (fun g21 => ?_)
    · try (exact absurd g21 (by omega))
      all_goals
        refine w_u rfl rfl rfl rfl rfl rfl ?_
        refine w_u rfl rfl rfl rfl rfl rfl ?_
        refine w_o rfl rfl rfl (op_pick rfl rfl rfl ?_)
        refine w_end ?_
        refine seq_normal ?_
        refine w_condT rfl ?_
        refine w_seq ?_
        refine w_region ?_
        refine w_o rfl rfl rfl (op_move rfl ?_)
        refine w_o rfl rfl rfl (op_nilEq rfl rfl rfl (by simp only [nilKind, und_51]) ?_)
        refine w_o rfl rfl rfl (op_move rfl ?_)
        first | refine w_known (t := 27) rfl (fun g27 => ?_) (fun g27 => ?_) | refine w_knownB (t := 27) rfl (fun g27 => ?_) (fun g27 => ?_)
        · refine w_og rfl rfl rfl rfl rfl (op_move rfl ?_)
          refine w_og rfl rfl rfl rfl rfl (op_eq rfl rfl ?_)
          refine w_o rfl rfl rfl (op_pick rfl rfl rfl ?_)
          refine w_o rfl rfl rfl (op_assign rfl ?_)
          refine w_end ?_
          refine seq_normal ?_
          refine w_ret ?_
          refine seq_ret ?_
          exact ret_bool rfl (.refl _) (decide_eq_true rfl) rfl
        · cases g27 --closed
    · try (exact absurd g21 (by omega))
      all_goals
        refine w_og rfl rfl rfl rfl rfl (op_move rfl ?_)
        refine w_og rfl rfl rfl rfl rfl (op_gt rfl rfl ?_)
        refine w_o rfl rfl rfl (op_pick rfl rfl rfl ?_)
        refine w_end ?_
        refine seq_normal ?_
        first | refine w_cond rfl (fun hI2 => ?_) (fun hI2 => ?_) | refine w_condB rfl (fun hI2 => ?_) (fun hI2 => ?_)
        · try (exact absurd hI2 (by omega))
          all_goals
            refine w_seq ?_
            refine w_region ?_
            refine w_o rfl rfl rfl (op_move rfl ?_)
            refine w_o rfl rfl rfl (op_nilEq rfl rfl rfl (by simp only [nilKind, und_51]) ?_)
            refine w_o rfl rfl rfl (op_move rfl ?_)
            first | refine w_known (t := 27) rfl (fun g27 => ?_) (fun g27 => ?_) | refine w_knownB (t := 27) rfl (fun g27 => ?_) (fun g27 => ?_)
            · refine w_og rfl rfl rfl rfl rfl (op_move rfl ?_)
              refine w_og rfl rfl rfl rfl rfl (op_eq rfl rfl ?_)
              refine w_o rfl rfl rfl (op_pick rfl rfl rfl ?_)
              refine w_o rfl rfl rfl (op_assign rfl ?_)
              refine w_end ?_
              refine seq_normal ?_
              refine w_ret ?_
              refine seq_ret ?_
              exact ret_bool rfl (.refl _) (decide_eq_true rfl) rfl
            · cases g27 --closed
        · try (exact absurd hI2 (by omega))
          all_goals
            refine w_skip ?_
            refine seq_normal ?_
            refine w_seq ?_
            refine w_seq ?_
            refine w_region ?_
            refine w_o rfl rfl rfl (op_move rfl ?_)
            refine w_o rfl rfl rfl (op_ne rfl rfl ?_)
            refine w_o rfl rfl rfl (op_move rfl ?_)
            first | refine w_known (t := 33) rfl (fun g33 => ?_) (fun g33 => ?_) | refine w_knownB (t := 33) rfl (fun g33 => ?_) (fun g33 => ?_)
            · exact absurd rfl g33 --closed
            · refine w_og rfl rfl rfl rfl rfl (op_move rfl ?_)
              refine w_og rfl rfl rfl rfl rfl (op_nilEq rfl rfl rfl (by simp only [nilKind, und_51]) ?_)
              refine w_o rfl rfl rfl (op_pick rfl rfl rfl ?_)
              refine w_end ?_
              refine seq_normal ?_
              refine w_condF rfl ?_
              refine w_skip ?_
              refine seq_normal ?_
              refine w_seq ?_
              refine w_region ?_
              refine w_o rfl rfl rfl (op_alloc zer_56 fun b7 => ?_)
              refine w_end ?_
              refine seq_normal ?_
              refine w_seq ?_
              refine w_seq ?_
              refine w_region ?_
              refine w_o rfl rfl rfl (op_assign rfl ?_)
              refine w_end ?_
              refine seq_normal ?_
              refine w_block ?_
              refine w_loop (fun z e H' => ∃ (i : Nat), i ≤ ps.length ∧ z = ps.length - i ∧ i ≤ 60 ∧ RInv H p m b7 most i H' ∧ e = [(0, vI most), (1, .one (.c c0)), (5, ptrV p 0), (7, ptrV b7 0), (8, vI (i : Nat))]) ?_ ?_
              · exact ⟨_, _, _, ⟨0, Nat.zero_le _, rfl, by decide, ⟨0, 0, 0, 0, [], [], [], 0, .nils, 0, [], ⟨rfl, (fun i x h => by simp at h), (fun i x l h => by simp at h)⟩, by decide, by decide, by decide, by decide, (fun t h => by simp at h), (fun h => absurd rfl h), ⟨[], Sl.nil, rfl, fun i d x h => by simp at h⟩, rfl⟩, rfl⟩, env_, sel_⟩
              · rintro z e H' ⟨i, hi, rfl, hi60, ⟨clock, fr, tz, hand, L, es, NS, hx, ck, kh, NK, hr, hto, hf1, hf2, hLi, hM, hh, hKV, rfl⟩, rfl⟩
                obtain ⟨csk, hk1, hk2, hk3⟩ := id hKV
                refine w_seq ?_
                refine w_seq ?_
                refine w_region ?_
                refine w_o rfl rfl rfl (op_move rfl ?_)
                refine w_o rfl rfl rfl (op_move rfl ?_)
                refine w_o rfl rfl rfl (op_lenC und_50 rfl hl.lenC ?_)
                refine w_o rfl rfl rfl (op_lt rfl rfl ?_)
                refine w_o rfl rfl rfl (op_move rfl ?_)
                first | refine w_known (t := 41) rfl (fun g41 => ?_) (fun g41 => ?_) | refine w_knownB (t := 41) rfl (fun g41 => ?_) (fun g41 => ?_)
                · refine w_og rfl rfl rfl rfl rfl (op_move rfl ?_)
                  refine w_og rfl rfl rfl rfl rfl (op_lt rfl rfl ?_)
                  refine w_o rfl rfl rfl (op_pick rfl rfl rfl ?_)
                  refine w_end ?_
                  refine seq_normal ?_
                  first | refine w_cond rfl (fun hI4 => ?_) (fun hI4 => ?_) | refine w_condB rfl (fun hI4 => ?_) (fun hI4 => ?_)
                  · obtain ⟨lx, hlx⟩ : ∃ x, ls[i]? = some x := ⟨_, List.getElem?_eq_getElem (by omega)⟩
                    refine w_skip ?_
                    refine seq_normal ?_
                    refine w_seq ?_
                    refine w_block ?_
                    refine w_seq ?_
                    refine w_region ?_
                    refine w_o rfl rfl rfl (op_move rfl ?_)
                    refine w_o rfl rfl rfl (op_move rfl ?_)
                    refine w_o rfl rfl rfl (op_indexT (enc := encP) und_50 siz_58 rfl rfl (hl.app.cons.app.cons.cons) (fun _ => rfl) rfl (by omega) fun b49 o49 z49 h49 e49 => ?_)
                    have hsx := hin i z49 lx h49 hlx
                    refine w_o rfl rfl rfl (op_loadA agg_58 siz_58 rfl rfl el_ ?_)
                    refine w_o rfl rfl rfl (op_alloc zer_58 fun b9 => ?_)
                    refine w_on rfl rfl (op_store siz_58 rfl rfl rfl (by (repeat (first | exact Pick.head _ _ _ | apply Pick.tail | apply Pick.app)); first | done | fail) (Nat.le_of_ble_eq_true rfl) rfl ?_)
                    refine w_end ?_
                    refine seq_normal ?_
                    refine w_seq ?_
                    refine w_seq ?_
                    refine w_region ?_
                    refine w_o rfl rfl rfl (op_fieldAddr fa_58_1 rfl ?_)
                    refine w_o rfl rfl rfl (op_loadF agg_22 rfl el_ rfl ?_)
                    refine w_o rfl rfl rfl (op_lenC und_22 rfl hsx.lenC ?_)
                    refine w_o rfl rfl rfl (op_gt rfl rfl ?_)
                    refine w_end ?_
                    refine seq_normal ?_
                    first | refine w_cond rfl (fun hI5 => ?_) (fun hI5 => ?_) | refine w_condB rfl (fun hI5 => ?_) (fun hI5 => ?_)
                    · refine w_seq ?_
                      refine w_region ?_
                      refine w_o rfl rfl rfl (op_assign rfl ?_)
                      refine w_end ?_
                      refine seq_normal ?_
                      refine w_ret ?_
                      refine seq_ret ?_
                      refine block_ret ?_
                      refine seq_ret ?_
                      refine loop_ret ?_
                      refine block_ret ?_
                      refine seq_ret ?_
                      exact ret_ret rfl (.refl _) rfl
                    · refine w_skip ?_
                      refine seq_normal ?_
                      refine w_cut (fun e H' => RInv H p m b7 most (i + 1) H' ∧ e = [(0, vI most), (1, .one (.c c0)), (5, ptrV p 0), (7, ptrV b7 0), (8, vI (i : Nat))]) ?_ ?_
                      · refine w_seq ?_
                        refine w_region ?_
                        refine w_o rfl rfl rfl (op_fieldAddr fa_58_0 rfl ?_)
                        refine w_o rfl rfl rfl (op_loadF agg_3 rfl el_ rfl ?_)
                        refine w_o rfl rfl rfl (op_ge rfl rfl ?_)
                        refine w_end ?_
                        refine seq_normal ?_
                        first | refine w_cond rfl (fun hI6 => ?_) (fun hI6 => ?_) | refine w_condB rfl (fun hI6 => ?_) (fun hI6 => ?_)
                        · refine w_seq ?_
                          refine w_seq ?_
                          refine w_drawF ((b7, .row true 56 1 [ck, .int .i64 kh]) :: (NK ++ H)) sel_ (by decide +kernel) (by decide +kernel) ?_
                          refine f_b (guard_none rfl) rfl rfl rfl rfl (op_move rfl ?_)
                          refine f_m (guard_none rfl) rfl rfl rfl (op_call rfl rfl rfl ?_)
                          refine CallW.weak (H' := (p, ringRow m fr tz hand most) :: ((b9, .row true 58 1 [.int .i64 z49.1, z49.2]) :: (m, .map es clock) :: (NS ++ ((b7, .row true 56 1 [ck, .int .i64 kh]) :: (NK ++ H))))) sel_ (Turn_w hto hf1 (by omega) (by omega) (fun h => by have := hh h; omega) (fun h0 => ?_) (fun h0 => ?_))
                          · refine ⟨sel_, ?_⟩
                            refine f_b (guard_none rfl) rfl rfl rfl rfl (op_fieldAddr fa_56_0 rfl ?_)
                            refine f_l (guard_none rfl) rfl rfl rfl sel_ (op_loadF agg_34 rfl el_ rfl rfl) ?_
                            refine f_b (guard_none rfl) rfl rfl rfl rfl (op_lenC und_34 rfl hk1.lenC ?_)
                            refine f_b (guard_none rfl) rfl rfl rfl rfl (op_gt rfl rfl ?_)
                            refine f_b (guard_none rfl) rfl rfl rfl rfl (op_boolne und_4 rfl rfl ?_)
                            refine f_end ?_
                            refine seq_normal ?_
                            refine w_condNB rfl (by first | (rw [decide_eq_false (by omega)]; rfl) | (rw [decide_eq_true (by omega)]; rfl)) ?_
                            refine w_skip ?_
                            refine seq_normal ?_
                            refine w_region ?_
                            refine w_o rfl rfl rfl (op_loadA agg_56 siz_56 rfl rfl el_ ?_)
                            refine w_o rfl rfl rfl (op_call rfl rfl rfl ?_)
                            refine RTurn_w (hi := hx) (hKV.sub subs_) (by omega) (fun h => ⟨(hh h).2.2, (hh h).2.1⟩) ?_
                            refine w_on rfl rfl (op_store siz_56 rfl rfl rfl (by (repeat (first | exact Pick.head _ _ _ | apply Pick.tail | apply Pick.app)); first | done | fail) (Nat.le_of_ble_eq_true rfl) rfl ?_)
                            refine w_end ?_
                            exact mid_normal (by first | exact ⟨RInv_e (clock := clock) (hand := hand) (hx := hx) (kh := kh) hr hto hf1 hf2 hLi hM h0 hKV, rfl⟩ | exact ⟨RInv_t (clock := clock) hr hto hf1 hf2 hLi hM hh h0 hKV, rfl⟩ | exact ⟨RInv_p (clock' := clock') hr' hto' hf1' hf2' hf1 hf2 hLi hM hI5 hm1 hKV', rfl⟩ | exact ⟨RInv_s (clock := clock) hr hto hf1 hf2 hLi hM hh hKV, rfl⟩) env_ sel_
                          · refine ⟨sel_, ?_⟩
                            refine f_b (guard_none rfl) rfl rfl rfl rfl (op_fieldAddr fa_56_0 rfl ?_)
                            refine f_l (guard_none rfl) rfl rfl rfl sel_ (op_loadF agg_34 rfl el_ rfl rfl) ?_
                            refine f_b (guard_none rfl) rfl rfl rfl rfl (op_lenC und_34 rfl hk1.lenC ?_)
                            refine f_b (guard_none rfl) rfl rfl rfl rfl (op_gt rfl rfl ?_)
                            refine f_b (guard_none rfl) rfl rfl rfl rfl (op_boolne und_4 rfl rfl ?_)
                            refine f_end ?_
                            refine seq_normal ?_
                            refine w_condNB rfl (by first | (rw [decide_eq_false (by omega)]; rfl) | (rw [decide_eq_true (by omega)]; rfl)) ?_
                            refine w_skip ?_
                            refine seq_normal ?_
                            refine w_region ?_
                            refine w_o rfl rfl rfl (op_loadA agg_56 siz_56 rfl rfl el_ ?_)
                            refine w_o rfl rfl rfl (op_call rfl rfl rfl ?_)
                            refine RTurn_w (hi := hx) (hKV.sub subs_) (by omega) (fun h => ⟨(hh h).2.2, (hh h).2.1⟩) ?_
                            refine w_on rfl rfl (op_store siz_56 rfl rfl rfl (by (repeat (first | exact Pick.head _ _ _ | apply Pick.tail | apply Pick.app)); first | done | fail) (Nat.le_of_ble_eq_true rfl) rfl ?_)
                            refine w_end ?_
                            exact mid_normal (by first | exact ⟨RInv_e (clock := clock) (hand := hand) (hx := hx) (kh := kh) hr hto hf1 hf2 hLi hM h0 hKV, rfl⟩ | exact ⟨RInv_t (clock := clock) hr hto hf1 hf2 hLi hM hh h0 hKV, rfl⟩ | exact ⟨RInv_p (clock' := clock') hr' hto' hf1' hf2' hf1 hf2 hLi hM hI5 hm1 hKV', rfl⟩ | exact ⟨RInv_s (clock := clock) hr hto hf1 hf2 hLi hM hh hKV, rfl⟩) env_ sel_
                        · refine w_seq ?_
                          refine w_region ?_
                          refine w_o rfl rfl rfl (op_move rfl ?_)
                          refine w_o rfl rfl rfl (op_fieldAddr fa_58_1 rfl ?_)
                          refine w_o rfl rfl rfl (op_loadF agg_22 rfl el_ rfl ?_)
                          refine w_o rfl rfl rfl (op_fieldAddr fa_58_0 rfl ?_)
                          refine w_o rfl rfl rfl (op_loadF agg_3 rfl el_ rfl ?_)
                          refine w_o rfl rfl rfl (op_call rfl rfl rfl ?_)
                          refine CallW.weak (H' := (p, ringRow m fr tz hand most) :: (m, .map es clock) :: (NS ++ ((b9, .row true 58 1 [.int .i64 z49.1, z49.2]) :: (b7, .row true 56 1 [ck, .int .i64 kh]) :: (NK ++ H)))) sel_ (Push_w (M := 60 * i) hto hr (hsx.app.cons.cons) hf1 (by omega) (by omega) hM (by omega) (fun hb => ?_) (fun hw1 hw2 hall hz => ?_) (fun hw1 hw2 hall hne es' clock' fr' tz' NS' hr' hto' hf1' hf2' => ?_))
                          · refine w_o rfl rfl rfl (op_assign rfl ?_)
                            refine w_end ?_
                            refine seq_normal ?_
                            refine w_seq ?_
                            refine w_region ?_
                            refine w_o rfl rfl rfl (op_fieldAddr fa_58_0 rfl ?_)
                            refine w_o rfl rfl rfl (op_loadF agg_3 rfl el_ rfl ?_)
                            refine w_o rfl rfl rfl (op_lt rfl rfl ?_)
                            refine w_o rfl rfl rfl (op_move rfl ?_)
                            first | refine w_known (t := 76) rfl (fun g76 => ?_) (fun g76 => ?_) | refine w_knownB (t := 76) rfl (fun g76 => ?_) (fun g76 => ?_)
                            · try (exact absurd g76 (by omega))
                              all_goals
                                refine w_u rfl rfl rfl rfl rfl rfl ?_
                                refine w_u rfl rfl rfl rfl rfl rfl ?_
                                refine w_u rfl rfl rfl rfl rfl rfl ?_
                                refine w_o rfl rfl rfl (op_pick rfl rfl rfl ?_)
                                refine w_o rfl rfl rfl (op_move rfl ?_)
                                refine w_u rfl rfl rfl rfl rfl rfl ?_
                                refine w_u rfl rfl rfl rfl rfl rfl ?_
                                refine w_u rfl rfl rfl rfl rfl rfl ?_
                                refine w_u rfl rfl rfl rfl rfl rfl ?_
                                refine w_o rfl rfl rfl (op_pick rfl rfl rfl ?_)
                                refine w_o rfl rfl rfl (op_assign rfl ?_)
                                refine w_end ?_
                                refine seq_normal ?_
                                refine w_seq ?_
                                refine w_seq ?_
                                refine w_region ?_
                                refine w_o rfl rfl rfl (op_move rfl ?_)
                                refine w_o rfl rfl rfl (op_move rfl ?_)
                                refine w_og rfl rfl rfl rfl rfl (op_move rfl ?_)
                                refine w_og rfl rfl rfl rfl rfl (op_ne rfl rfl ?_)
                                refine w_o rfl rfl rfl (op_pick rfl rfl rfl ?_)
                                refine w_o rfl rfl rfl (op_move rfl ?_)
                                first | refine w_known (t := 92) rfl (fun g92 => ?_) (fun g92 => ?_) | refine w_knownB (t := 92) rfl (fun g92 => ?_) (fun g92 => ?_)
                                · try (first | exact absurd rfl g92 | (cases g92; done))
                                  all_goals
                                    refine w_u rfl rfl rfl rfl rfl rfl ?_
                                    refine w_u rfl rfl rfl rfl rfl rfl ?_
                                    refine w_u rfl rfl rfl rfl rfl rfl ?_
                                    refine w_u rfl rfl rfl rfl rfl rfl ?_
                                    refine w_u rfl rfl rfl rfl rfl rfl ?_
                                    refine w_u rfl rfl rfl rfl rfl rfl ?_
                                    refine w_o rfl rfl rfl (op_pick rfl rfl rfl ?_)
                                    refine w_end ?_
                                    refine seq_normal ?_
                                    refine w_condT rfl ?_
                                    refine w_seq ?_
                                    refine w_region ?_
                                    refine w_o rfl rfl rfl (op_assign rfl ?_)
                                    refine w_end ?_
                                    refine seq_normal ?_
                                    refine w_ret ?_
                                    refine seq_ret ?_
                                    refine mid_ret ?_
                                    refine block_ret ?_
                                    refine seq_ret ?_
                                    refine loop_ret ?_
                                    refine block_ret ?_
                                    refine seq_ret ?_
                                    exact ret_ret rfl (.refl _) (by assumption)
                                · try (first | exact absurd rfl g92 | (cases g92; done))
                                  all_goals
                                    refine w_og rfl rfl rfl rfl rfl (op_move rfl ?_)
                                    refine w_og rfl rfl rfl rfl rfl (op_not rfl ?_)
                                    refine w_og rfl rfl rfl rfl rfl (op_move rfl ?_)
                                    refine w_u rfl rfl rfl rfl rfl rfl ?_
                                    refine w_u rfl rfl rfl rfl rfl rfl ?_
                                    refine w_og rfl rfl rfl rfl rfl (op_pick rfl rfl rfl ?_)
                                    refine w_o rfl rfl rfl (op_pick rfl rfl rfl ?_)
                                    refine w_end ?_
                                    refine seq_normal ?_
                                    refine w_condF rfl ?_
                                    refine w_skip ?_
                                    refine seq_normal ?_
                                    refine w_seq ?_
                                    refine w_region ?_
                                    refine w_o rfl rfl rfl (op_move rfl ?_)
                                    refine w_o rfl rfl rfl (op_not rfl ?_)
                                    refine w_end ?_
                                    refine seq_normal ?_
                                    refine w_condF rfl ?_
                                    refine w_skip ?_
                                    exact mid_normal (by first | exact ⟨RInv_e (clock := clock) (hand := hand) (hx := hx) (kh := kh) hr hto hf1 hf2 hLi hM h0 hKV, rfl⟩ | exact ⟨RInv_t (clock := clock) hr hto hf1 hf2 hLi hM hh h0 hKV, rfl⟩ | exact ⟨RInv_p (clock' := clock') hr' hto' hf1' hf2' hf1 hf2 hLi hM hI5 hm1 hKV', rfl⟩ | exact ⟨RInv_s (clock := clock) hr hto hf1 hf2 hLi hM hh hKV, rfl⟩) env_ sel_
                            · try (exact absurd g76 (by omega))
                              all_goals
                                refine w_og rfl rfl rfl rfl rfl (op_fieldAddr fa_58_0 rfl ?_)
                                refine w_og rfl rfl rfl rfl rfl (op_loadF agg_3 rfl el_ rfl ?_)
                                refine w_og rfl rfl rfl rfl rfl (op_gt rfl rfl ?_)
                                refine w_o rfl rfl rfl (op_pick rfl rfl rfl ?_)
                                refine w_o rfl rfl rfl (op_move rfl ?_)
                                first | refine w_known (t := 81) rfl (fun g81 => ?_) (fun g81 => ?_) | refine w_knownB (t := 81) rfl (fun g81 => ?_) (fun g81 => ?_)
                                · try (exact absurd g81 (by omega))
                                  all_goals
                                    refine w_u rfl rfl rfl rfl rfl rfl ?_
                                    refine w_u rfl rfl rfl rfl rfl rfl ?_
                                    refine w_u rfl rfl rfl rfl rfl rfl ?_
                                    refine w_u rfl rfl rfl rfl rfl rfl ?_
                                    refine w_o rfl rfl rfl (op_pick rfl rfl rfl ?_)
                                    refine w_o rfl rfl rfl (op_assign rfl ?_)
                                    refine w_end ?_
                                    refine seq_normal ?_
                                    refine w_seq ?_
                                    refine w_seq ?_
                                    refine w_region ?_
                                    refine w_o rfl rfl rfl (op_move rfl ?_)
                                    refine w_o rfl rfl rfl (op_move rfl ?_)
                                    refine w_og rfl rfl rfl rfl rfl (op_move rfl ?_)
                                    refine w_og rfl rfl rfl rfl rfl (op_ne rfl rfl ?_)
                                    refine w_o rfl rfl rfl (op_pick rfl rfl rfl ?_)
                                    refine w_o rfl rfl rfl (op_move rfl ?_)
                                    first | refine w_known (t := 92) rfl (fun g92 => ?_) (fun g92 => ?_) | refine w_knownB (t := 92) rfl (fun g92 => ?_) (fun g92 => ?_)
                                    · try (first | exact absurd rfl g92 | (cases g92; done))
                                      all_goals
                                        refine w_u rfl rfl rfl rfl rfl rfl ?_
                                        refine w_u rfl rfl rfl rfl rfl rfl ?_
                                        refine w_u rfl rfl rfl rfl rfl rfl ?_
                                        refine w_u rfl rfl rfl rfl rfl rfl ?_
                                        refine w_u rfl rfl rfl rfl rfl rfl ?_
                                        refine w_u rfl rfl rfl rfl rfl rfl ?_
                                        refine w_o rfl rfl rfl (op_pick rfl rfl rfl ?_)
                                        refine w_end ?_
                                        refine seq_normal ?_
                                        refine w_condT rfl ?_
                                        refine w_seq ?_
                                        refine w_region ?_
                                        refine w_o rfl rfl rfl (op_assign rfl ?_)
                                        refine w_end ?_
                                        refine seq_normal ?_
                                        refine w_ret ?_
                                        refine seq_ret ?_
                                        refine mid_ret ?_
                                        refine block_ret ?_
                                        refine seq_ret ?_
                                        refine loop_ret ?_
                                        refine block_ret ?_
                                        refine seq_ret ?_
                                        exact ret_ret rfl (.refl _) (by assumption)
                                    · try (first | exact absurd rfl g92 | (cases g92; done))
                                      all_goals
                                        refine w_og rfl rfl rfl rfl rfl (op_move rfl ?_)
                                        refine w_og rfl rfl rfl rfl rfl (op_not rfl ?_)
                                        refine w_og rfl rfl rfl rfl rfl (op_move rfl ?_)
                                        refine w_u rfl rfl rfl rfl rfl rfl ?_
                                        refine w_u rfl rfl rfl rfl rfl rfl ?_
                                        refine w_og rfl rfl rfl rfl rfl (op_pick rfl rfl rfl ?_)
                                        refine w_o rfl rfl rfl (op_pick rfl rfl rfl ?_)
                                        refine w_end ?_
                                        refine seq_normal ?_
                                        refine w_condF rfl ?_
                                        refine w_skip ?_
                                        refine seq_normal ?_
                                        refine w_seq ?_
                                        refine w_region ?_
                                        refine w_o rfl rfl rfl (op_move rfl ?_)
                                        refine w_o rfl rfl rfl (op_not rfl ?_)
                                        refine w_end ?_
                                        refine seq_normal ?_
                                        refine w_condF rfl ?_
                                        refine w_skip ?_
                                        exact mid_normal (by first | exact ⟨RInv_e (clock := clock) (hand := hand) (hx := hx) (kh := kh) hr hto hf1 hf2 hLi hM h0 hKV, rfl⟩ | exact ⟨RInv_t (clock := clock) hr hto hf1 hf2 hLi hM hh h0 hKV, rfl⟩ | exact ⟨RInv_p (clock' := clock') hr' hto' hf1' hf2' hf1 hf2 hLi hM hI5 hm1 hKV', rfl⟩ | exact ⟨RInv_s (clock := clock) hr hto hf1 hf2 hLi hM hh hKV, rfl⟩) env_ sel_
                                · try (exact absurd g81 (by omega))
                                  all_goals
                                    refine w_og rfl rfl rfl rfl rfl (op_fieldAddr fa_58_1 rfl ?_)
                                    refine w_og rfl rfl rfl rfl rfl (op_loadF agg_22 rfl el_ rfl ?_)
                                    refine w_og rfl rfl rfl rfl rfl (op_call rfl rfl rfl ?_)
                                    first
                                      | (have hbad : lx.all rightS = false := by
                                           rcases hb with h | h | h
                                           · omega
                                           · omega
                                           · exact h
                                         refine R04All_w (hsx.sub subs_) (by omega) ?_
                                         rw [hbad])
                                      | (refine R04All_w (hsx.sub subs_) (by omega) ?_
                                         rw [hall])
                                    refine w_og rfl rfl rfl rfl rfl (op_not rfl ?_)
                                    refine w_o rfl rfl rfl (op_pick rfl rfl rfl ?_)
                                    refine w_o rfl rfl rfl (op_assign rfl ?_)
                                    refine w_end ?_
                                    refine seq_normal ?_
                                    refine w_seq ?_
                                    refine w_seq ?_
                                    refine w_region ?_
                                    refine w_o rfl rfl rfl (op_move rfl ?_)
                                    refine w_o rfl rfl rfl (op_move rfl ?_)
                                    first | refine w_known (t := 88) rfl (fun g88 => ?_) (fun g88 => ?_) | refine w_knownB (t := 88) rfl (fun g88 => ?_) (fun g88 => ?_)
                                    · try (cases g88; done)
                                      all_goals
                                        refine w_og rfl rfl rfl rfl rfl (op_move rfl ?_)
                                        refine w_og rfl rfl rfl rfl rfl (op_ne rfl rfl ?_)
                                        refine w_o rfl rfl rfl (op_pick rfl rfl rfl ?_)
                                        refine w_o rfl rfl rfl (op_move rfl ?_)
                                        first | refine w_known (t := 92) rfl (fun g92 => ?_) (fun g92 => ?_) | refine w_knownB (t := 92) rfl (fun g92 => ?_) (fun g92 => ?_)
                                        · try (first | exact absurd rfl g92 | (cases g92; done))
                                          all_goals
                                            refine w_u rfl rfl rfl rfl rfl rfl ?_
                                            refine w_u rfl rfl rfl rfl rfl rfl ?_
                                            refine w_u rfl rfl rfl rfl rfl rfl ?_
                                            refine w_u rfl rfl rfl rfl rfl rfl ?_
                                            refine w_u rfl rfl rfl rfl rfl rfl ?_
                                            refine w_u rfl rfl rfl rfl rfl rfl ?_
                                            refine w_o rfl rfl rfl (op_pick rfl rfl rfl ?_)
                                            refine w_end ?_
                                            refine seq_normal ?_
                                            refine w_condT rfl ?_
                                            refine w_seq ?_
                                            refine w_region ?_
                                            refine w_o rfl rfl rfl (op_assign rfl ?_)
                                            refine w_end ?_
                                            refine seq_normal ?_
                                            refine w_ret ?_
                                            refine seq_ret ?_
                                            refine mid_ret ?_
                                            refine block_ret ?_
                                            refine seq_ret ?_
                                            refine loop_ret ?_
                                            refine block_ret ?_
                                            refine seq_ret ?_
                                            exact ret_ret rfl (.refl _) (by assumption)
                                        · try (first | exact absurd rfl g92 | (cases g92; done))
                                          all_goals
                                            refine w_og rfl rfl rfl rfl rfl (op_move rfl ?_)
                                            refine w_og rfl rfl rfl rfl rfl (op_not rfl ?_)
                                            refine w_og rfl rfl rfl rfl rfl (op_move rfl ?_)
                                            first | refine w_known (t := 95) rfl (fun g95 => ?_) (fun g95 => ?_) | refine w_knownB (t := 95) rfl (fun g95 => ?_) (fun g95 => ?_)
                                            · try (cases g95; done)
                                              all_goals
                                                refine w_og rfl rfl rfl rfl rfl (op_move rfl ?_)
                                                refine w_og rfl rfl rfl rfl rfl (op_ne rfl rfl ?_)
                                                refine w_og rfl rfl rfl rfl rfl (op_pick rfl rfl rfl ?_)
                                                refine w_o rfl rfl rfl (op_pick rfl rfl rfl ?_)
                                                refine w_end ?_
                                                refine seq_normal ?_
                                                first | refine w_cond rfl (fun hI8 => ?_) (fun hI8 => ?_) | refine w_condB rfl (fun hI8 => ?_) (fun hI8 => ?_)
                                                · try (first | exact absurd rfl hI8 | (cases hI8; done))
                                                  all_goals
                                                    refine w_seq ?_
                                                    refine w_region ?_
                                                    refine w_o rfl rfl rfl (op_assign rfl ?_)
                                                    refine w_end ?_
                                                    refine seq_normal ?_
                                                    refine w_ret ?_
                                                    refine seq_ret ?_
                                                    refine mid_ret ?_
                                                    refine block_ret ?_
                                                    refine seq_ret ?_
                                                    refine loop_ret ?_
                                                    refine block_ret ?_
                                                    refine seq_ret ?_
                                                    exact ret_ret rfl (.refl _) (by assumption)
                                                · try (first | exact absurd rfl hI8 | (cases hI8; done))
                                                  all_goals
                                                    refine w_skip ?_
                                                    refine seq_normal ?_
                                                    refine w_seq ?_
                                                    refine w_region ?_
                                                    refine w_o rfl rfl rfl (op_move rfl ?_)
                                                    refine w_o rfl rfl rfl (op_not rfl ?_)
                                                    refine w_end ?_
                                                    refine seq_normal ?_
                                                    first | refine w_cond rfl (fun hI9 => ?_) (fun hI9 => ?_) | refine w_condB rfl (fun hI9 => ?_) (fun hI9 => ?_)
                                                    · try (cases hI9; done)
                                                      all_goals
                                                        refine w_region ?_
                                                        refine w_o rfl rfl rfl (op_loadA agg_56 siz_56 rfl rfl el_ ?_)
                                                        refine w_o rfl rfl rfl (op_fieldAddr fa_58_1 rfl ?_)
                                                        refine w_o rfl rfl rfl (op_loadF agg_22 rfl el_ rfl ?_)
                                                        refine w_o rfl rfl rfl (op_fieldAddr fa_58_0 rfl ?_)
                                                        refine w_o rfl rfl rfl (op_loadF agg_3 rfl el_ rfl ?_)
                                                        refine w_o rfl rfl rfl (op_move rfl ?_)
                                                        refine w_o rfl rfl rfl (op_call rfl rfl rfl ?_)
                                                        first
                                                          | refine RPushNil_w (hsx.sub subs_) hz ?_
                                                          | refine RPush_w (H1 := NK ++ H) (M := 60 * i) subs_ hKV (hsx.app) (by omega) hne hM (by omega) (by omega) ⟨hw1, hw2⟩ fun ck' NK' hKV' => ?_
                                                        refine w_on rfl rfl (op_store siz_56 rfl rfl rfl (by (repeat (first | exact Pick.head _ _ _ | apply Pick.tail | apply Pick.app)); first | done | fail) (Nat.le_of_ble_eq_true rfl) rfl ?_)
                                                        refine w_end ?_
                                                        exact mid_normal (by first | exact ⟨RInv_e (clock := clock) (hand := hand) (hx := hx) (kh := kh) hr hto hf1 hf2 hLi hM h0 hKV, rfl⟩ | exact ⟨RInv_t (clock := clock) hr hto hf1 hf2 hLi hM hh h0 hKV, rfl⟩ | exact ⟨RInv_p (clock' := clock') hr' hto' hf1' hf2' hf1 hf2 hLi hM hI5 hm1 hKV', rfl⟩ | exact ⟨RInv_s (clock := clock) hr hto hf1 hf2 hLi hM hh hKV, rfl⟩) env_ sel_
                                                    · try (cases hI9; done)
                                                      all_goals
                                                        refine w_skip ?_
                                                        exact mid_normal (by first | exact ⟨RInv_e (clock := clock) (hand := hand) (hx := hx) (kh := kh) hr hto hf1 hf2 hLi hM h0 hKV, rfl⟩ | exact ⟨RInv_t (clock := clock) hr hto hf1 hf2 hLi hM hh h0 hKV, rfl⟩ | exact ⟨RInv_p (clock' := clock') hr' hto' hf1' hf2' hf1 hf2 hLi hM hI5 hm1 hKV', rfl⟩ | exact ⟨RInv_s (clock := clock) hr hto hf1 hf2 hLi hM hh hKV, rfl⟩) env_ sel_
                                            · try (cases g95; done)
                                              all_goals
                                                refine w_u rfl rfl rfl rfl rfl rfl ?_
                                                refine w_u rfl rfl rfl rfl rfl rfl ?_
                                                refine w_og rfl rfl rfl rfl rfl (op_pick rfl rfl rfl ?_)
                                                refine w_o rfl rfl rfl (op_pick rfl rfl rfl ?_)
                                                refine w_end ?_
                                                refine seq_normal ?_
                                                refine w_condF rfl ?_
                                                refine w_skip ?_
                                                refine seq_normal ?_
                                                refine w_seq ?_
                                                refine w_region ?_
                                                refine w_o rfl rfl rfl (op_move rfl ?_)
                                                refine w_o rfl rfl rfl (op_not rfl ?_)
                                                refine w_end ?_
                                                refine seq_normal ?_
                                                first | refine w_cond rfl (fun hI9 => ?_) (fun hI9 => ?_) | refine w_condB rfl (fun hI9 => ?_) (fun hI9 => ?_)
                                                · try (cases hI9; done)
                                                  all_goals
                                                    refine w_region ?_
                                                    refine w_o rfl rfl rfl (op_loadA agg_56 siz_56 rfl rfl el_ ?_)
                                                    refine w_o rfl rfl rfl (op_fieldAddr fa_58_1 rfl ?_)
                                                    refine w_o rfl rfl rfl (op_loadF agg_22 rfl el_ rfl ?_)
                                                    refine w_o rfl rfl rfl (op_fieldAddr fa_58_0 rfl ?_)
                                                    refine w_o rfl rfl rfl (op_loadF agg_3 rfl el_ rfl ?_)
                                                    refine w_o rfl rfl rfl (op_move rfl ?_)
                                                    refine w_o rfl rfl rfl (op_call rfl rfl rfl ?_)
                                                    first
                                                      | refine RPushNil_w (hsx.sub subs_) hz ?_
                                                      | refine RPush_w (H1 := NK ++ H) (M := 60 * i) subs_ hKV (hsx.app) (by omega) hne hM (by omega) (by omega) ⟨hw1, hw2⟩ fun ck' NK' hKV' => ?_
                                                    refine w_on rfl rfl (op_store siz_56 rfl rfl rfl (by (repeat (first | exact Pick.head _ _ _ | apply Pick.tail | apply Pick.app)); first | done | fail) (Nat.le_of_ble_eq_true rfl) rfl ?_)
                                                    refine w_end ?_
                                                    exact mid_normal (by first | exact ⟨RInv_e (clock := clock) (hand := hand) (hx := hx) (kh := kh) hr hto hf1 hf2 hLi hM h0 hKV, rfl⟩ | exact ⟨RInv_t (clock := clock) hr hto hf1 hf2 hLi hM hh h0 hKV, rfl⟩ | exact ⟨RInv_p (clock' := clock') hr' hto' hf1' hf2' hf1 hf2 hLi hM hI5 hm1 hKV', rfl⟩ | exact ⟨RInv_s (clock := clock) hr hto hf1 hf2 hLi hM hh hKV, rfl⟩) env_ sel_
                                                · try (cases hI9; done)
                                                  all_goals
                                                    refine w_skip ?_
                                                    exact mid_normal (by first | exact ⟨RInv_e (clock := clock) (hand := hand) (hx := hx) (kh := kh) hr hto hf1 hf2 hLi hM h0 hKV, rfl⟩ | exact ⟨RInv_t (clock := clock) hr hto hf1 hf2 hLi hM hh h0 hKV, rfl⟩ | exact ⟨RInv_p (clock' := clock') hr' hto' hf1' hf2' hf1 hf2 hLi hM hI5 hm1 hKV', rfl⟩ | exact ⟨RInv_s (clock := clock) hr hto hf1 hf2 hLi hM hh hKV, rfl⟩) env_ sel_
                                    · try (cases g88; done)
                                      all_goals
                                        refine w_u rfl rfl rfl rfl rfl rfl ?_
                                        refine w_u rfl rfl rfl rfl rfl rfl ?_
                                        refine w_o rfl rfl rfl (op_pick rfl rfl rfl ?_)
                                        refine w_o rfl rfl rfl (op_move rfl ?_)
                                        refine w_og rfl rfl rfl rfl rfl (op_move rfl ?_)
                                        refine w_og rfl rfl rfl rfl rfl (op_not rfl ?_)
                                        refine w_og rfl rfl rfl rfl rfl (op_move rfl ?_)
                                        first | refine w_known (t := 95) rfl (fun g95 => ?_) (fun g95 => ?_) | refine w_knownB (t := 95) rfl (fun g95 => ?_) (fun g95 => ?_)
                                        · try (cases g95; done)
                                          all_goals
                                            refine w_og rfl rfl rfl rfl rfl (op_move rfl ?_)
                                            refine w_og rfl rfl rfl rfl rfl (op_ne rfl rfl ?_)
                                            refine w_og rfl rfl rfl rfl rfl (op_pick rfl rfl rfl ?_)
                                            refine w_o rfl rfl rfl (op_pick rfl rfl rfl ?_)
                                            refine w_end ?_
                                            refine seq_normal ?_
                                            first | refine w_cond rfl (fun hI8 => ?_) (fun hI8 => ?_) | refine w_condB rfl (fun hI8 => ?_) (fun hI8 => ?_)
                                            · try (first | exact absurd rfl hI8 | (cases hI8; done))
                                              all_goals
                                                refine w_seq ?_
                                                refine w_region ?_
                                                refine w_o rfl rfl rfl (op_assign rfl ?_)
                                                refine w_end ?_
                                                refine seq_normal ?_
                                                refine w_ret ?_
                                                refine seq_ret ?_
                                                refine mid_ret ?_
                                                refine block_ret ?_
                                                refine seq_ret ?_
                                                refine loop_ret ?_
                                                refine block_ret ?_
                                                refine seq_ret ?_
                                                exact ret_ret rfl (.refl _) (by assumption)
                                            · try (first | exact absurd rfl hI8 | (cases hI8; done))
                                              all_goals
                                                refine w_skip ?_
                                                refine seq_normal ?_
                                                refine w_seq ?_
                                                refine w_region ?_
                                                refine w_o rfl rfl rfl (op_move rfl ?_)
                                                refine w_o rfl rfl rfl (op_not rfl ?_)
                                                refine w_end ?_
                                                refine seq_normal ?_
                                                first | refine w_cond rfl (fun hI9 => ?_) (fun hI9 => ?_) | refine w_condB rfl (fun hI9 => ?_) (fun hI9 => ?_)
                                                · try (cases hI9; done)
                                                  all_goals
                                                    refine w_region ?_
                                                    refine w_o rfl rfl rfl (op_loadA agg_56 siz_56 rfl rfl el_ ?_)
                                                    refine w_o rfl rfl rfl (op_fieldAddr fa_58_1 rfl ?_)
                                                    refine w_o rfl rfl rfl (op_loadF agg_22 rfl el_ rfl ?_)
                                                    refine w_o rfl rfl rfl (op_fieldAddr fa_58_0 rfl ?_)
                                                    refine w_o rfl rfl rfl (op_loadF agg_3 rfl el_ rfl ?_)
                                                    refine w_o rfl rfl rfl (op_move rfl ?_)
                                                    refine w_o rfl rfl rfl (op_call rfl rfl rfl ?_)
                                                    first
                                                      | refine RPushNil_w (hsx.sub subs_) hz ?_
                                                      | refine RPush_w (H1 := NK ++ H) (M := 60 * i) subs_ hKV (hsx.app) (by omega) hne hM (by omega) (by omega) ⟨hw1, hw2⟩ fun ck' NK' hKV' => ?_
                                                    refine w_on rfl rfl (op_store siz_56 rfl rfl rfl (by (repeat (first | exact Pick.head _ _ _ | apply Pick.tail | apply Pick.app)); first | done | fail) (Nat.le_of_ble_eq_true rfl) rfl ?_)
                                                    refine w_end ?_
                                                    exact mid_normal (by first | exact ⟨RInv_e (clock := clock) (hand := hand) (hx := hx) (kh := kh) hr hto hf1 hf2 hLi hM h0 hKV, rfl⟩ | exact ⟨RInv_t (clock := clock) hr hto hf1 hf2 hLi hM hh h0 hKV, rfl⟩ | exact ⟨RInv_p (clock' := clock') hr' hto' hf1' hf2' hf1 hf2 hLi hM hI5 hm1 hKV', rfl⟩ | exact ⟨RInv_s (clock := clock) hr hto hf1 hf2 hLi hM hh hKV, rfl⟩) env_ sel_
                                                · try (cases hI9; done)
                                                  all_goals
                                                    refine w_skip ?_
                                                    exact mid_normal (by first | exact ⟨RInv_e (clock := clock) (hand := hand) (hx := hx) (kh := kh) hr hto hf1 hf2 hLi hM h0 hKV, rfl⟩ | exact ⟨RInv_t (clock := clock) hr hto hf1 hf2 hLi hM hh h0 hKV, rfl⟩ | exact ⟨RInv_p (clock' := clock') hr' hto' hf1' hf2' hf1 hf2 hLi hM hI5 hm1 hKV', rfl⟩ | exact ⟨RInv_s (clock := clock) hr hto hf1 hf2 hLi hM hh hKV, rfl⟩) env_ sel_
                                        · try (cases g95; done)
                                          all_goals
                                            refine w_u rfl rfl rfl rfl rfl rfl ?_
                                            refine w_u rfl rfl rfl rfl rfl rfl ?_
                                            refine w_og rfl rfl rfl rfl rfl (op_pick rfl rfl rfl ?_)
                                            refine w_o rfl rfl rfl (op_pick rfl rfl rfl ?_)
                                            refine w_end ?_
                                            refine seq_normal ?_
                                            refine w_condF rfl ?_
                                            refine w_skip ?_
                                            refine seq_normal ?_
                                            refine w_seq ?_
                                            refine w_region ?_
                                            refine w_o rfl rfl rfl (op_move rfl ?_)
                                            refine w_o rfl rfl rfl (op_not rfl ?_)
                                            refine w_end ?_
                                            refine seq_normal ?_
                                            first | refine w_cond rfl (fun hI9 => ?_) (fun hI9 => ?_) | refine w_condB rfl (fun hI9 => ?_) (fun hI9 => ?_)
                                            · try (cases hI9; done)
                                              all_goals
                                                refine w_region ?_
                                                refine w_o rfl rfl rfl (op_loadA agg_56 siz_56 rfl rfl el_ ?_)
                                                refine w_o rfl rfl rfl (op_fieldAddr fa_58_1 rfl ?_)
                                                refine w_o rfl rfl rfl (op_loadF agg_22 rfl el_ rfl ?_)
                                                refine w_o rfl rfl rfl (op_fieldAddr fa_58_0 rfl ?_)
                                                refine w_o rfl rfl rfl (op_loadF agg_3 rfl el_ rfl ?_)
                                                refine w_o rfl rfl rfl (op_move rfl ?_)
                                                refine w_o rfl rfl rfl (op_call rfl rfl rfl ?_)
                                                first
                                                  | refine RPushNil_w (hsx.sub subs_) hz ?_
                                                  | refine RPush_w (H1 := NK ++ H) (M := 60 * i) subs_ hKV (hsx.app) (by omega) hne hM (by omega) (by omega) ⟨hw1, hw2⟩ fun ck' NK' hKV' => ?_
                                                refine w_on rfl rfl (op_store siz_56 rfl rfl rfl (by (repeat (first | exact Pick.head _ _ _ | apply Pick.tail | apply Pick.app)); first | done | fail) (Nat.le_of_ble_eq_true rfl) rfl ?_)
                                                refine w_end ?_
                                                exact mid_normal (by first | exact ⟨RInv_e (clock := clock) (hand := hand) (hx := hx) (kh := kh) hr hto hf1 hf2 hLi hM h0 hKV, rfl⟩ | exact ⟨RInv_t (clock := clock) hr hto hf1 hf2 hLi hM hh h0 hKV, rfl⟩ | exact ⟨RInv_p (clock' := clock') hr' hto' hf1' hf2' hf1 hf2 hLi hM hI5 hm1 hKV', rfl⟩ | exact ⟨RInv_s (clock := clock) hr hto hf1 hf2 hLi hM hh hKV, rfl⟩) env_ sel_
                                            · try (cases hI9; done)
                                              all_goals
                                                refine w_skip ?_
                                                exact mid_normal (by first | exact ⟨RInv_e (clock := clock) (hand := hand) (hx := hx) (kh := kh) hr hto hf1 hf2 hLi hM h0 hKV, rfl⟩ | exact ⟨RInv_t (clock := clock) hr hto hf1 hf2 hLi hM hh h0 hKV, rfl⟩ | exact ⟨RInv_p (clock' := clock') hr' hto' hf1' hf2' hf1 hf2 hLi hM hI5 hm1 hKV', rfl⟩ | exact ⟨RInv_s (clock := clock) hr hto hf1 hf2 hLi hM hh hKV, rfl⟩) env_ sel_
                          · refine w_o rfl rfl rfl (op_assign rfl ?_)
                            refine w_end ?_
                            refine seq_normal ?_
                            refine w_seq ?_
                            refine w_region ?_
                            refine w_o rfl rfl rfl (op_fieldAddr fa_58_0 rfl ?_)
                            refine w_o rfl rfl rfl (op_loadF agg_3 rfl el_ rfl ?_)
                            refine w_o rfl rfl rfl (op_lt rfl rfl ?_)
                            refine w_o rfl rfl rfl (op_move rfl ?_)
                            first | refine w_known (t := 76) rfl (fun g76 => ?_) (fun g76 => ?_) | refine w_knownB (t := 76) rfl (fun g76 => ?_) (fun g76 => ?_)
                            · try (exact absurd g76 (by omega))
                              all_goals
                                refine w_u rfl rfl rfl rfl rfl rfl ?_
                                refine w_u rfl rfl rfl rfl rfl rfl ?_
                                refine w_u rfl rfl rfl rfl rfl rfl ?_
                                refine w_o rfl rfl rfl (op_pick rfl rfl rfl ?_)
                                refine w_o rfl rfl rfl (op_move rfl ?_)
                                refine w_u rfl rfl rfl rfl rfl rfl ?_
                                refine w_u rfl rfl rfl rfl rfl rfl ?_
                                refine w_u rfl rfl rfl rfl rfl rfl ?_
                                refine w_u rfl rfl rfl rfl rfl rfl ?_
                                refine w_o rfl rfl rfl (op_pick rfl rfl rfl ?_)
                                refine w_o rfl rfl rfl (op_assign rfl ?_)
                                refine w_end ?_
                                refine seq_normal ?_
                                refine w_seq ?_
                                refine w_seq ?_
                                refine w_region ?_
                                refine w_o rfl rfl rfl (op_move rfl ?_)
                                refine w_o rfl rfl rfl (op_move rfl ?_)
                                refine w_og rfl rfl rfl rfl rfl (op_move rfl ?_)
                                refine w_og rfl rfl rfl rfl rfl (op_ne rfl rfl ?_)
                                refine w_o rfl rfl rfl (op_pick rfl rfl rfl ?_)
                                refine w_o rfl rfl rfl (op_move rfl ?_)
                                first | refine w_known (t := 92) rfl (fun g92 => ?_) (fun g92 => ?_) | refine w_knownB (t := 92) rfl (fun g92 => ?_) (fun g92 => ?_)
                                · try (first | exact absurd rfl g92 | (cases g92; done))
                                  all_goals
                                    refine w_u rfl rfl rfl rfl rfl rfl ?_
                                    refine w_u rfl rfl rfl rfl rfl rfl ?_
                                    refine w_u rfl rfl rfl rfl rfl rfl ?_
                                    refine w_u rfl rfl rfl rfl rfl rfl ?_
                                    refine w_u rfl rfl rfl rfl rfl rfl ?_
                                    refine w_u rfl rfl rfl rfl rfl rfl ?_
                                    refine w_o rfl rfl rfl (op_pick rfl rfl rfl ?_)
                                    refine w_end ?_
                                    refine seq_normal ?_
                                    refine w_condT rfl ?_
                                    refine w_seq ?_
                                    refine w_region ?_
                                    refine w_o rfl rfl rfl (op_assign rfl ?_)
                                    refine w_end ?_
                                    refine seq_normal ?_
                                    refine w_ret ?_
                                    refine seq_ret ?_
                                    refine mid_ret ?_
                                    refine block_ret ?_
                                    refine seq_ret ?_
                                    refine loop_ret ?_
                                    refine block_ret ?_
                                    refine seq_ret ?_
                                    exact ret_ret rfl (.refl _) (by assumption)
                                · try (first | exact absurd rfl g92 | (cases g92; done))
                                  all_goals
                                    refine w_og rfl rfl rfl rfl rfl (op_move rfl ?_)
                                    refine w_og rfl rfl rfl rfl rfl (op_not rfl ?_)
                                    refine w_og rfl rfl rfl rfl rfl (op_move rfl ?_)
                                    refine w_u rfl rfl rfl rfl rfl rfl ?_
                                    refine w_u rfl rfl rfl rfl rfl rfl ?_
                                    refine w_og rfl rfl rfl rfl rfl (op_pick rfl rfl rfl ?_)
                                    refine w_o rfl rfl rfl (op_pick rfl rfl rfl ?_)
                                    refine w_end ?_
                                    refine seq_normal ?_
                                    refine w_condF rfl ?_
                                    refine w_skip ?_
                                    refine seq_normal ?_
                                    refine w_seq ?_
                                    refine w_region ?_
                                    refine w_o rfl rfl rfl (op_move rfl ?_)
                                    refine w_o rfl rfl rfl (op_not rfl ?_)
                                    refine w_end ?_
                                    refine seq_normal ?_
                                    refine w_condF rfl ?_
                                    refine w_skip ?_
                                    exact mid_normal (by first | exact ⟨RInv_e (clock := clock) (hand := hand) (hx := hx) (kh := kh) hr hto hf1 hf2 hLi hM h0 hKV, rfl⟩ | exact ⟨RInv_t (clock := clock) hr hto hf1 hf2 hLi hM hh h0 hKV, rfl⟩ | exact ⟨RInv_p (clock' := clock') hr' hto' hf1' hf2' hf1 hf2 hLi hM hI5 hm1 hKV', rfl⟩ | exact ⟨RInv_s (clock := clock) hr hto hf1 hf2 hLi hM hh hKV, rfl⟩) env_ sel_
                            · try (exact absurd g76 (by omega))
                              all_goals
                                refine w_og rfl rfl rfl rfl rfl (op_fieldAddr fa_58_0 rfl ?_)
                                refine w_og rfl rfl rfl rfl rfl (op_loadF agg_3 rfl el_ rfl ?_)
                                refine w_og rfl rfl rfl rfl rfl (op_gt rfl rfl ?_)
                                refine w_o rfl rfl rfl (op_pick rfl rfl rfl ?_)
                                refine w_o rfl rfl rfl (op_move rfl ?_)
                                first | refine w_known (t := 81) rfl (fun g81 => ?_) (fun g81 => ?_) | refine w_knownB (t := 81) rfl (fun g81 => ?_) (fun g81 => ?_)
                                · try (exact absurd g81 (by omega))
                                  all_goals
                                    refine w_u rfl rfl rfl rfl rfl rfl ?_
                                    refine w_u rfl rfl rfl rfl rfl rfl ?_
                                    refine w_u rfl rfl rfl rfl rfl rfl ?_
                                    refine w_u rfl rfl rfl rfl rfl rfl ?_
                                    refine w_o rfl rfl rfl (op_pick rfl rfl rfl ?_)
                                    refine w_o rfl rfl rfl (op_assign rfl ?_)
                                    refine w_end ?_
                                    refine seq_normal ?_
                                    refine w_seq ?_
                                    refine w_seq ?_
                                    refine w_region ?_
                                    refine w_o rfl rfl rfl (op_move rfl ?_)
                                    refine w_o rfl rfl rfl (op_move rfl ?_)
                                    refine w_og rfl rfl rfl rfl rfl (op_move rfl ?_)
                                    refine w_og rfl rfl rfl rfl rfl (op_ne rfl rfl ?_)
                                    refine w_o rfl rfl rfl (op_pick rfl rfl rfl ?_)
                                    refine w_o rfl rfl rfl (op_move rfl ?_)
                                    first | refine w_known (t := 92) rfl (fun g92 => ?_) (fun g92 => ?_) | refine w_knownB (t := 92) rfl (fun g92 => ?_) (fun g92 => ?_)
                                    · try (first | exact absurd rfl g92 | (cases g92; done))
                                      all_goals
                                        refine w_u rfl rfl rfl rfl rfl rfl ?_
                                        refine w_u rfl rfl rfl rfl rfl rfl ?_
                                        refine w_u rfl rfl rfl rfl rfl rfl ?_
                                        refine w_u rfl rfl rfl rfl rfl rfl ?_
                                        refine w_u rfl rfl rfl rfl rfl rfl ?_
                                        refine w_u rfl rfl rfl rfl rfl rfl ?_
                                        refine w_o rfl rfl rfl (op_pick rfl rfl rfl ?_)
                                        refine w_end ?_
                                        refine seq_normal ?_
                                        refine w_condT rfl ?_
                                        refine w_seq ?_
                                        refine w_region ?_
                                        refine w_o rfl rfl rfl (op_assign rfl ?_)
                                        refine w_end ?_
                                        refine seq_normal ?_
                                        refine w_ret ?_
                                        refine seq_ret ?_
                                        refine mid_ret ?_
                                        refine block_ret ?_
                                        refine seq_ret ?_
                                        refine loop_ret ?_
                                        refine block_ret ?_
                                        refine seq_ret ?_
                                        exact ret_ret rfl (.refl _) (by assumption)
                                    · try (first | exact absurd rfl g92 | (cases g92; done))
                                      all_goals
                                        refine w_og rfl rfl rfl rfl rfl (op_move rfl ?_)
                                        refine w_og rfl rfl rfl rfl rfl (op_not rfl ?_)
                                        refine w_og rfl rfl rfl rfl rfl (op_move rfl ?_)
                                        refine w_u rfl rfl rfl rfl rfl rfl ?_
                                        refine w_u rfl rfl rfl rfl rfl rfl ?_
                                        refine w_og rfl rfl rfl rfl rfl (op_pick rfl rfl rfl ?_)
                                        refine w_o rfl rfl rfl (op_pick rfl rfl rfl ?_)
                                        refine w_end ?_
                                        refine seq_normal ?_
                                        refine w_condF rfl ?_
                                        refine w_skip ?_
                                        refine seq_normal ?_
                                        refine w_seq ?_
                                        refine w_region ?_
                                        refine w_o rfl rfl rfl (op_move rfl ?_)
                                        refine w_o rfl rfl rfl (op_not rfl ?_)
                                        refine w_end ?_
                                        refine seq_normal ?_
                                        refine w_condF rfl ?_
                                        refine w_skip ?_
                                        exact mid_normal (by first | exact ⟨RInv_e (clock := clock) (hand := hand) (hx := hx) (kh := kh) hr hto hf1 hf2 hLi hM h0 hKV, rfl⟩ | exact ⟨RInv_t (clock := clock) hr hto hf1 hf2 hLi hM hh h0 hKV, rfl⟩ | exact ⟨RInv_p (clock' := clock') hr' hto' hf1' hf2' hf1 hf2 hLi hM hI5 hm1 hKV', rfl⟩ | exact ⟨RInv_s (clock := clock) hr hto hf1 hf2 hLi hM hh hKV, rfl⟩) env_ sel_
                                · try (exact absurd g81 (by omega))
                                  all_goals
                                    refine w_og rfl rfl rfl rfl rfl (op_fieldAddr fa_58_1 rfl ?_)
                                    refine w_og rfl rfl rfl rfl rfl (op_loadF agg_22 rfl el_ rfl ?_)
                                    refine w_og rfl rfl rfl rfl rfl (op_call rfl rfl rfl ?_)
                                    first
                                      | (have hbad : lx.all rightS = false := by
                                           rcases hb with h | h | h
                                           · omega
                                           · omega
                                           · exact h
                                         refine R04All_w (hsx.sub subs_) (by omega) ?_
                                         rw [hbad])
                                      | (refine R04All_w (hsx.sub subs_) (by omega) ?_
                                         rw [hall])
                                    refine w_og rfl rfl rfl rfl rfl (op_not rfl ?_)
                                    refine w_o rfl rfl rfl (op_pick rfl rfl rfl ?_)
                                    refine w_o rfl rfl rfl (op_assign rfl ?_)
                                    refine w_end ?_
                                    refine seq_normal ?_
                                    refine w_seq ?_
                                    refine w_seq ?_
                                    refine w_region ?_
                                    refine w_o rfl rfl rfl (op_move rfl ?_)
                                    refine w_o rfl rfl rfl (op_move rfl ?_)
                                    first | refine w_known (t := 88) rfl (fun g88 => ?_) (fun g88 => ?_) | refine w_knownB (t := 88) rfl (fun g88 => ?_) (fun g88 => ?_)
                                    · try (cases g88; done)
                                      all_goals
                                        refine w_og rfl rfl rfl rfl rfl (op_move rfl ?_)
                                        refine w_og rfl rfl rfl rfl rfl (op_ne rfl rfl ?_)
                                        refine w_o rfl rfl rfl (op_pick rfl rfl rfl ?_)
                                        refine w_o rfl rfl rfl (op_move rfl ?_)
                                        first | refine w_known (t := 92) rfl (fun g92 => ?_) (fun g92 => ?_) | refine w_knownB (t := 92) rfl (fun g92 => ?_) (fun g92 => ?_)
                                        · try (first | exact absurd rfl g92 | (cases g92; done))
                                          all_goals
                                            refine w_u rfl rfl rfl rfl rfl rfl ?_
                                            refine w_u rfl rfl rfl rfl rfl rfl ?_
                                            refine w_u rfl rfl rfl rfl rfl rfl ?_
                                            refine w_u rfl rfl rfl rfl rfl rfl ?_
                                            refine w_u rfl rfl rfl rfl rfl rfl ?_
                                            refine w_u rfl rfl rfl rfl rfl rfl ?_
                                            refine w_o rfl rfl rfl (op_pick rfl rfl rfl ?_)
                                            refine w_end ?_
                                            refine seq_normal ?_
                                            refine w_condT rfl ?_
                                            refine w_seq ?_
                                            refine w_region ?_
                                            refine w_o rfl rfl rfl (op_assign rfl ?_)
                                            refine w_end ?_
                                            refine seq_normal ?_
                                            refine w_ret ?_
                                            refine seq_ret ?_
                                            refine mid_ret ?_
                                            refine block_ret ?_
                                            refine seq_ret ?_
                                            refine loop_ret ?_
                                            refine block_ret ?_
                                            refine seq_ret ?_
                                            exact ret_ret rfl (.refl _) (by assumption)
                                        · try (first | exact absurd rfl g92 | (cases g92; done))
                                          all_goals
                                            refine w_og rfl rfl rfl rfl rfl (op_move rfl ?_)
                                            refine w_og rfl rfl rfl rfl rfl (op_not rfl ?_)
                                            refine w_og rfl rfl rfl rfl rfl (op_move rfl ?_)
                                            first | refine w_known (t := 95) rfl (fun g95 => ?_) (fun g95 => ?_) | refine w_knownB (t := 95) rfl (fun g95 => ?_) (fun g95 => ?_)
                                            · try (cases g95; done)
                                              all_goals
                                                refine w_og rfl rfl rfl rfl rfl (op_move rfl ?_)
                                                refine w_og rfl rfl rfl rfl rfl (op_ne rfl rfl ?_)
                                                refine w_og rfl rfl rfl rfl rfl (op_pick rfl rfl rfl ?_)
                                                refine w_o rfl rfl rfl (op_pick rfl rfl rfl ?_)
                                                refine w_end ?_
                                                refine seq_normal ?_
                                                first | refine w_cond rfl (fun hI8 => ?_) (fun hI8 => ?_) | refine w_condB rfl (fun hI8 => ?_) (fun hI8 => ?_)
                                                · try (first | exact absurd rfl hI8 | (cases hI8; done))
                                                  all_goals
                                                    refine w_seq ?_
                                                    refine w_region ?_
                                                    refine w_o rfl rfl rfl (op_assign rfl ?_)
                                                    refine w_end ?_
                                                    refine seq_normal ?_
                                                    refine w_ret ?_
                                                    refine seq_ret ?_
                                                    refine mid_ret ?_
                                                    refine block_ret ?_
                                                    refine seq_ret ?_
                                                    refine loop_ret ?_
                                                    refine block_ret ?_
                                                    refine seq_ret ?_
                                                    exact ret_ret rfl (.refl _) (by assumption)
                                                · try (first | exact absurd rfl hI8 | (cases hI8; done))
                                                  all_goals
                                                    refine w_skip ?_
                                                    refine seq_normal ?_
                                                    refine w_seq ?_
                                                    refine w_region ?_
                                                    refine w_o rfl rfl rfl (op_move rfl ?_)
                                                    refine w_o rfl rfl rfl (op_not rfl ?_)
                                                    refine w_end ?_
                                                    refine seq_normal ?_
                                                    first | refine w_cond rfl (fun hI9 => ?_) (fun hI9 => ?_) | refine w_condB rfl (fun hI9 => ?_) (fun hI9 => ?_)
                                                    · try (cases hI9; done)
                                                      all_goals
                                                        refine w_region ?_
                                                        refine w_o rfl rfl rfl (op_loadA agg_56 siz_56 rfl rfl el_ ?_)
                                                        refine w_o rfl rfl rfl (op_fieldAddr fa_58_1 rfl ?_)
                                                        refine w_o rfl rfl rfl (op_loadF agg_22 rfl el_ rfl ?_)
                                                        refine w_o rfl rfl rfl (op_fieldAddr fa_58_0 rfl ?_)
                                                        refine w_o rfl rfl rfl (op_loadF agg_3 rfl el_ rfl ?_)
                                                        refine w_o rfl rfl rfl (op_move rfl ?_)
                                                        refine w_o rfl rfl rfl (op_call rfl rfl rfl ?_)
                                                        first
                                                          | refine RPushNil_w (hsx.sub subs_) hz ?_
                                                          | refine RPush_w (H1 := NK ++ H) (M := 60 * i) subs_ hKV (hsx.app) (by omega) hne hM (by omega) (by omega) ⟨hw1, hw2⟩ fun ck' NK' hKV' => ?_
                                                        refine w_on rfl rfl (op_store siz_56 rfl rfl rfl (by (repeat (first | exact Pick.head _ _ _ | apply Pick.tail | apply Pick.app)); first | done | fail) (Nat.le_of_ble_eq_true rfl) rfl ?_)
                                                        refine w_end ?_
                                                        exact mid_normal (by first | exact ⟨RInv_e (clock := clock) (hand := hand) (hx := hx) (kh := kh) hr hto hf1 hf2 hLi hM h0 hKV, rfl⟩ | exact ⟨RInv_t (clock := clock) hr hto hf1 hf2 hLi hM hh h0 hKV, rfl⟩ | exact ⟨RInv_p (clock' := clock') hr' hto' hf1' hf2' hf1 hf2 hLi hM hI5 hm1 hKV', rfl⟩ | exact ⟨RInv_s (clock := clock) hr hto hf1 hf2 hLi hM hh hKV, rfl⟩) env_ sel_
                                                    · try (cases hI9; done)
                                                      all_goals
                                                        refine w_skip ?_
                                                        exact mid_normal (by first | exact ⟨RInv_e (clock := clock) (hand := hand) (hx := hx) (kh := kh) hr hto hf1 hf2 hLi hM h0 hKV, rfl⟩ | exact ⟨RInv_t (clock := clock) hr hto hf1 hf2 hLi hM hh h0 hKV, rfl⟩ | exact ⟨RInv_p (clock' := clock') hr' hto' hf1' hf2' hf1 hf2 hLi hM hI5 hm1 hKV', rfl⟩ | exact ⟨RInv_s (clock := clock) hr hto hf1 hf2 hLi hM hh hKV, rfl⟩) env_ sel_
                                            · try (cases g95; done)
                                              all_goals
                                                refine w_u rfl rfl rfl rfl rfl rfl ?_
                                                refine w_u rfl rfl rfl rfl rfl rfl ?_
                                                refine w_og rfl rfl rfl rfl rfl (op_pick rfl rfl rfl ?_)
                                                refine w_o rfl rfl rfl (op_pick rfl rfl rfl ?_)
                                                refine w_end ?_
                                                refine seq_normal ?_
                                                refine w_condF rfl ?_
                                                refine w_skip ?_
                                                refine seq_normal ?_
                                                refine w_seq ?_
                                                refine w_region ?_
                                                refine w_o rfl rfl rfl (op_move rfl ?_)
                                                refine w_o rfl rfl rfl (op_not rfl ?_)
                                                refine w_end ?_
                                                refine seq_normal ?_
                                                first | refine w_cond rfl (fun hI9 => ?_) (fun hI9 => ?_) | refine w_condB rfl (fun hI9 => ?_) (fun hI9 => ?_)
                                                · try (cases hI9; done)
                                                  all_goals
                                                    refine w_region ?_
                                                    refine w_o rfl rfl rfl (op_loadA agg_56 siz_56 rfl rfl el_ ?_)
                                                    refine w_o rfl rfl rfl (op_fieldAddr fa_58_1 rfl ?_)
                                                    refine w_o rfl rfl rfl (op_loadF agg_22 rfl el_ rfl ?_)
                                                    refine w_o rfl rfl rfl (op_fieldAddr fa_58_0 rfl ?_)
                                                    refine w_o rfl rfl rfl (op_loadF agg_3 rfl el_ rfl ?_)
                                                    refine w_o rfl rfl rfl (op_move rfl ?_)
                                                    refine w_o rfl rfl rfl (op_call rfl rfl rfl ?_)
                                                    first
                                                      | refine RPushNil_w (hsx.sub subs_) hz ?_
                                                      | refine RPush_w (H1 := NK ++ H) (M := 60 * i) subs_ hKV (hsx.app) (by omega) hne hM (by omega) (by omega) ⟨hw1, hw2⟩ fun ck' NK' hKV' => ?_
                                                    refine w_on rfl rfl (op_store siz_56 rfl rfl rfl (by (repeat (first | exact Pick.head _ _ _ | apply Pick.tail | apply Pick.app)); first | done | fail) (Nat.le_of_ble_eq_true rfl) rfl ?_)
                                                    refine w_end ?_
                                                    exact mid_normal (by first | exact ⟨RInv_e (clock := clock) (hand := hand) (hx := hx) (kh := kh) hr hto hf1 hf2 hLi hM h0 hKV, rfl⟩ | exact ⟨RInv_t (clock := clock) hr hto hf1 hf2 hLi hM hh h0 hKV, rfl⟩ | exact ⟨RInv_p (clock' := clock') hr' hto' hf1' hf2' hf1 hf2 hLi hM hI5 hm1 hKV', rfl⟩ | exact ⟨RInv_s (clock := clock) hr hto hf1 hf2 hLi hM hh hKV, rfl⟩) env_ sel_
                                                · try (cases hI9; done)
                                                  all_goals
                                                    refine w_skip ?_
                                                    exact mid_normal (by first | exact ⟨RInv_e (clock := clock) (hand := hand) (hx := hx) (kh := kh) hr hto hf1 hf2 hLi hM h0 hKV, rfl⟩ | exact ⟨RInv_t (clock := clock) hr hto hf1 hf2 hLi hM hh h0 hKV, rfl⟩ | exact ⟨RInv_p (clock' := clock') hr' hto' hf1' hf2' hf1 hf2 hLi hM hI5 hm1 hKV', rfl⟩ | exact ⟨RInv_s (clock := clock) hr hto hf1 hf2 hLi hM hh hKV, rfl⟩) env_ sel_
                                    · try (cases g88; done)
                                      all_goals
                                        refine w_u rfl rfl rfl rfl rfl rfl ?_
                                        refine w_u rfl rfl rfl rfl rfl rfl ?_
                                        refine w_o rfl rfl rfl (op_pick rfl rfl rfl ?_)
                                        refine w_o rfl rfl rfl (op_move rfl ?_)
                                        refine w_og rfl rfl rfl rfl rfl (op_move rfl ?_)
                                        refine w_og rfl rfl rfl rfl rfl (op_not rfl ?_)
                                        refine w_og rfl rfl rfl rfl rfl (op_move rfl ?_)
                                        first | refine w_known (t := 95) rfl (fun g95 => ?_) (fun g95 => ?_) | refine w_knownB (t := 95) rfl (fun g95 => ?_) (fun g95 => ?_)
                                        · try (cases g95; done)
                                          all_goals
                                            refine w_og rfl rfl rfl rfl rfl (op_move rfl ?_)
                                            refine w_og rfl rfl rfl rfl rfl (op_ne rfl rfl ?_)
                                            refine w_og rfl rfl rfl rfl rfl (op_pick rfl rfl rfl ?_)
                                            refine w_o rfl rfl rfl (op_pick rfl rfl rfl ?_)
                                            refine w_end ?_
                                            refine seq_normal ?_
                                            first | refine w_cond rfl (fun hI8 => ?_) (fun hI8 => ?_) | refine w_condB rfl (fun hI8 => ?_) (fun hI8 => ?_)
                                            · try (first | exact absurd rfl hI8 | (cases hI8; done))
                                              all_goals
                                                refine w_seq ?_
                                                refine w_region ?_
                                                refine w_o rfl rfl rfl (op_assign rfl ?_)
                                                refine w_end ?_
                                                refine seq_normal ?_
                                                refine w_ret ?_
                                                refine seq_ret ?_
                                                refine mid_ret ?_
                                                refine block_ret ?_
                                                refine seq_ret ?_
                                                refine loop_ret ?_
                                                refine block_ret ?_
                                                refine seq_ret ?_
                                                exact ret_ret rfl (.refl _) (by assumption)
                                            · try (first | exact absurd rfl hI8 | (cases hI8; done))
                                              all_goals
                                                refine w_skip ?_
                                                refine seq_normal ?_
                                                refine w_seq ?_
                                                refine w_region ?_
                                                refine w_o rfl rfl rfl (op_move rfl ?_)
                                                refine w_o rfl rfl rfl (op_not rfl ?_)
                                                refine w_end ?_
                                                refine seq_normal ?_
                                                first | refine w_cond rfl (fun hI9 => ?_) (fun hI9 => ?_) | refine w_condB rfl (fun hI9 => ?_) (fun hI9 => ?_)
                                                · try (cases hI9; done)
                                                  all_goals
                                                    refine w_region ?_
                                                    refine w_o rfl rfl rfl (op_loadA agg_56 siz_56 rfl rfl el_ ?_)
                                                    refine w_o rfl rfl rfl (op_fieldAddr fa_58_1 rfl ?_)
                                                    refine w_o rfl rfl rfl (op_loadF agg_22 rfl el_ rfl ?_)
                                                    refine w_o rfl rfl rfl (op_fieldAddr fa_58_0 rfl ?_)
                                                    refine w_o rfl rfl rfl (op_loadF agg_3 rfl el_ rfl ?_)
                                                    refine w_o rfl rfl rfl (op_move rfl ?_)
                                                    refine w_o rfl rfl rfl (op_call rfl rfl rfl ?_)
                                                    first
                                                      | refine RPushNil_w (hsx.sub subs_) hz ?_
                                                      | refine RPush_w (H1 := NK ++ H) (M := 60 * i) subs_ hKV (hsx.app) (by omega) hne hM (by omega) (by omega) ⟨hw1, hw2⟩ fun ck' NK' hKV' => ?_
                                                    refine w_on rfl rfl (op_store siz_56 rfl rfl rfl (by (repeat (first | exact Pick.head _ _ _ | apply Pick.tail | apply Pick.app)); first | done | fail) (Nat.le_of_ble_eq_true rfl) rfl ?_)
                                                    refine w_end ?_
                                                    exact mid_normal (by first | exact ⟨RInv_e (clock := clock) (hand := hand) (hx := hx) (kh := kh) hr hto hf1 hf2 hLi hM h0 hKV, rfl⟩ | exact ⟨RInv_t (clock := clock) hr hto hf1 hf2 hLi hM hh h0 hKV, rfl⟩ | exact ⟨RInv_p (clock' := clock') hr' hto' hf1' hf2' hf1 hf2 hLi hM hI5 hm1 hKV', rfl⟩ | exact ⟨RInv_s (clock := clock) hr hto hf1 hf2 hLi hM hh hKV, rfl⟩) env_ sel_
                                                · try (cases hI9; done)
                                                  all_goals
                                                    refine w_skip ?_
                                                    exact mid_normal (by first | exact ⟨RInv_e (clock := clock) (hand := hand) (hx := hx) (kh := kh) hr hto hf1 hf2 hLi hM h0 hKV, rfl⟩ | exact ⟨RInv_t (clock := clock) hr hto hf1 hf2 hLi hM hh h0 hKV, rfl⟩ | exact ⟨RInv_p (clock' := clock') hr' hto' hf1' hf2' hf1 hf2 hLi hM hI5 hm1 hKV', rfl⟩ | exact ⟨RInv_s (clock := clock) hr hto hf1 hf2 hLi hM hh hKV, rfl⟩) env_ sel_
                                        · try (cases g95; done)
                                          all_goals
                                            refine w_u rfl rfl rfl rfl rfl rfl ?_
                                            refine w_u rfl rfl rfl rfl rfl rfl ?_
                                            refine w_og rfl rfl rfl rfl rfl (op_pick rfl rfl rfl ?_)
                                            refine w_o rfl rfl rfl (op_pick rfl rfl rfl ?_)
                                            refine w_end ?_
                                            refine seq_normal ?_
                                            refine w_condF rfl ?_
                                            refine w_skip ?_
                                            refine seq_normal ?_
                                            refine w_seq ?_
                                            refine w_region ?_
                                            refine w_o rfl rfl rfl (op_move rfl ?_)
                                            refine w_o rfl rfl rfl (op_not rfl ?_)
                                            refine w_end ?_
                                            refine seq_normal ?_
                                            first | refine w_cond rfl (fun hI9 => ?_) (fun hI9 => ?_) | refine w_condB rfl (fun hI9 => ?_) (fun hI9 => ?_)
                                            · try (cases hI9; done)
                                              all_goals
                                                refine w_region ?_
                                                refine w_o rfl rfl rfl (op_loadA agg_56 siz_56 rfl rfl el_ ?_)
                                                refine w_o rfl rfl rfl (op_fieldAddr fa_58_1 rfl ?_)
                                                refine w_o rfl rfl rfl (op_loadF agg_22 rfl el_ rfl ?_)
                                                refine w_o rfl rfl rfl (op_fieldAddr fa_58_0 rfl ?_)
                                                refine w_o rfl rfl rfl (op_loadF agg_3 rfl el_ rfl ?_)
                                                refine w_o rfl rfl rfl (op_move rfl ?_)
                                                refine w_o rfl rfl rfl (op_call rfl rfl rfl ?_)
                                                first
                                                  | refine RPushNil_w (hsx.sub subs_) hz ?_
                                                  | refine RPush_w (H1 := NK ++ H) (M := 60 * i) subs_ hKV (hsx.app) (by omega) hne hM (by omega) (by omega) ⟨hw1, hw2⟩ fun ck' NK' hKV' => ?_
                                                refine w_on rfl rfl (op_store siz_56 rfl rfl rfl (by (repeat (first | exact Pick.head _ _ _ | apply Pick.tail | apply Pick.app)); first | done | fail) (Nat.le_of_ble_eq_true rfl) rfl ?_)
                                                refine w_end ?_
                                                exact mid_normal (by first | exact ⟨RInv_e (clock := clock) (hand := hand) (hx := hx) (kh := kh) hr hto hf1 hf2 hLi hM h0 hKV, rfl⟩ | exact ⟨RInv_t (clock := clock) hr hto hf1 hf2 hLi hM hh h0 hKV, rfl⟩ | exact ⟨RInv_p (clock' := clock') hr' hto' hf1' hf2' hf1 hf2 hLi hM hI5 hm1 hKV', rfl⟩ | exact ⟨RInv_s (clock := clock) hr hto hf1 hf2 hLi hM hh hKV, rfl⟩) env_ sel_
                                            · try (cases hI9; done)
                                              all_goals
                                                refine w_skip ?_
                                                exact mid_normal (by first | exact ⟨RInv_e (clock := clock) (hand := hand) (hx := hx) (kh := kh) hr hto hf1 hf2 hLi hM h0 hKV, rfl⟩ | exact ⟨RInv_t (clock := clock) hr hto hf1 hf2 hLi hM hh h0 hKV, rfl⟩ | exact ⟨RInv_p (clock' := clock') hr' hto' hf1' hf2' hf1 hf2 hLi hM hI5 hm1 hKV', rfl⟩ | exact ⟨RInv_s (clock := clock) hr hto hf1 hf2 hLi hM hh hKV, rfl⟩) env_ sel_
                          · refine w_o rfl rfl rfl (op_assign rfl ?_)
                            refine w_end ?_
                            refine seq_normal ?_
                            refine w_seq ?_
                            refine w_region ?_
                            refine w_o rfl rfl rfl (op_fieldAddr fa_58_0 rfl ?_)
                            refine w_o rfl rfl rfl (op_loadF agg_3 rfl el_ rfl ?_)
                            refine w_o rfl rfl rfl (op_lt rfl rfl ?_)
                            refine w_o rfl rfl rfl (op_move rfl ?_)
                            first | refine w_known (t := 76) rfl (fun g76 => ?_) (fun g76 => ?_) | refine w_knownB (t := 76) rfl (fun g76 => ?_) (fun g76 => ?_)
                            · try (exact absurd g76 (by omega))
                              all_goals
                                refine w_u rfl rfl rfl rfl rfl rfl ?_
                                refine w_u rfl rfl rfl rfl rfl rfl ?_
                                refine w_u rfl rfl rfl rfl rfl rfl ?_
                                refine w_o rfl rfl rfl (op_pick rfl rfl rfl ?_)
                                refine w_o rfl rfl rfl (op_move rfl ?_)
                                refine w_u rfl rfl rfl rfl rfl rfl ?_
                                refine w_u rfl rfl rfl rfl rfl rfl ?_
                                refine w_u rfl rfl rfl rfl rfl rfl ?_
                                refine w_u rfl rfl rfl rfl rfl rfl ?_
                                refine w_o rfl rfl rfl (op_pick rfl rfl rfl ?_)
                                refine w_o rfl rfl rfl (op_assign rfl ?_)
                                refine w_end ?_
                                refine seq_normal ?_
                                refine w_seq ?_
                                refine w_seq ?_
                                refine w_region ?_
                                refine w_o rfl rfl rfl (op_move rfl ?_)
                                refine w_o rfl rfl rfl (op_move rfl ?_)
                                refine w_og rfl rfl rfl rfl rfl (op_move rfl ?_)
                                refine w_og rfl rfl rfl rfl rfl (op_ne rfl rfl ?_)
                                refine w_o rfl rfl rfl (op_pick rfl rfl rfl ?_)
                                refine w_o rfl rfl rfl (op_move rfl ?_)
                                first | refine w_known (t := 92) rfl (fun g92 => ?_) (fun g92 => ?_) | refine w_knownB (t := 92) rfl (fun g92 => ?_) (fun g92 => ?_)
                                · try (first | exact absurd rfl g92 | (cases g92; done))
                                  all_goals
                                    refine w_u rfl rfl rfl rfl rfl rfl ?_
                                    refine w_u rfl rfl rfl rfl rfl rfl ?_
                                    refine w_u rfl rfl rfl rfl rfl rfl ?_
                                    refine w_u rfl rfl rfl rfl rfl rfl ?_
                                    refine w_u rfl rfl rfl rfl rfl rfl ?_
                                    refine w_u rfl rfl rfl rfl rfl rfl ?_
                                    refine w_o rfl rfl rfl (op_pick rfl rfl rfl ?_)
                                    refine w_end ?_
                                    refine seq_normal ?_
                                    refine w_condT rfl ?_
                                    refine w_seq ?_
                                    refine w_region ?_
                                    refine w_o rfl rfl rfl (op_assign rfl ?_)
                                    refine w_end ?_
                                    refine seq_normal ?_
                                    refine w_ret ?_
                                    refine seq_ret ?_
                                    refine mid_ret ?_
                                    refine block_ret ?_
                                    refine seq_ret ?_
                                    refine loop_ret ?_
                                    refine block_ret ?_
                                    refine seq_ret ?_
                                    exact ret_ret rfl (.refl _) (by assumption)
                                · try (first | exact absurd rfl g92 | (cases g92; done))
                                  all_goals
                                    refine w_og rfl rfl rfl rfl rfl (op_move rfl ?_)
                                    refine w_og rfl rfl rfl rfl rfl (op_not rfl ?_)
                                    refine w_og rfl rfl rfl rfl rfl (op_move rfl ?_)
                                    refine w_u rfl rfl rfl rfl rfl rfl ?_
                                    refine w_u rfl rfl rfl rfl rfl rfl ?_
                                    refine w_og rfl rfl rfl rfl rfl (op_pick rfl rfl rfl ?_)
                                    refine w_o rfl rfl rfl (op_pick rfl rfl rfl ?_)
                                    refine w_end ?_
                                    refine seq_normal ?_
                                    refine w_condF rfl ?_
                                    refine w_skip ?_
                                    refine seq_normal ?_
                                    refine w_seq ?_
                                    refine w_region ?_
                                    refine w_o rfl rfl rfl (op_move rfl ?_)
                                    refine w_o rfl rfl rfl (op_not rfl ?_)
                                    refine w_end ?_
                                    refine seq_normal ?_
                                    refine w_condF rfl ?_
                                    refine w_skip ?_
                                    exact mid_normal (by first | exact ⟨RInv_e (clock := clock) (hand := hand) (hx := hx) (kh := kh) hr hto hf1 hf2 hLi hM h0 hKV, rfl⟩ | exact ⟨RInv_t (clock := clock) hr hto hf1 hf2 hLi hM hh h0 hKV, rfl⟩ | exact ⟨RInv_p (clock' := clock') hr' hto' hf1' hf2' hf1 hf2 hLi hM hI5 hm1 hKV', rfl⟩ | exact ⟨RInv_s (clock := clock) hr hto hf1 hf2 hLi hM hh hKV, rfl⟩) env_ sel_
                            · try (exact absurd g76 (by omega))
                              all_goals
                                refine w_og rfl rfl rfl rfl rfl (op_fieldAddr fa_58_0 rfl ?_)
                                refine w_og rfl rfl rfl rfl rfl (op_loadF agg_3 rfl el_ rfl ?_)
                                refine w_og rfl rfl rfl rfl rfl (op_gt rfl rfl ?_)
                                refine w_o rfl rfl rfl (op_pick rfl rfl rfl ?_)
                                refine w_o rfl rfl rfl (op_move rfl ?_)
                                first | refine w_known (t := 81) rfl (fun g81 => ?_) (fun g81 => ?_) | refine w_knownB (t := 81) rfl (fun g81 => ?_) (fun g81 => ?_)
                                · try (exact absurd g81 (by omega))
                                  all_goals
                                    refine w_u rfl rfl rfl rfl rfl rfl ?_
                                    refine w_u rfl rfl rfl rfl rfl rfl ?_
                                    refine w_u rfl rfl rfl rfl rfl rfl ?_
                                    refine w_u rfl rfl rfl rfl rfl rfl ?_
                                    refine w_o rfl rfl rfl (op_pick rfl rfl rfl ?_)
                                    refine w_o rfl rfl rfl (op_assign rfl ?_)
                                    refine w_end ?_
                                    refine seq_normal ?_
                                    refine w_seq ?_
                                    refine w_seq ?_
                                    refine w_region ?_
                                    refine w_o rfl rfl rfl (op_move rfl ?_)
                                    refine w_o rfl rfl rfl (op_move rfl ?_)
                                    refine w_og rfl rfl rfl rfl rfl (op_move rfl ?_)
                                    refine w_og rfl rfl rfl rfl rfl (op_ne rfl rfl ?_)
                                    refine w_o rfl rfl rfl (op_pick rfl rfl rfl ?_)
                                    refine w_o rfl rfl rfl (op_move rfl ?_)
                                    first | refine w_known (t := 92) rfl (fun g92 => ?_) (fun g92 => ?_) | refine w_knownB (t := 92) rfl (fun g92 => ?_) (fun g92 => ?_)
                                    · try (first | exact absurd rfl g92 | (cases g92; done))
                                      all_goals
                                        refine w_u rfl rfl rfl rfl rfl rfl ?_
                                        refine w_u rfl rfl rfl rfl rfl rfl ?_
                                        refine w_u rfl rfl rfl rfl rfl rfl ?_
                                        refine w_u rfl rfl rfl rfl rfl rfl ?_
                                        refine w_u rfl rfl rfl rfl rfl rfl ?_
                                        refine w_u rfl rfl rfl rfl rfl rfl ?_
                                        refine w_o rfl rfl rfl (op_pick rfl rfl rfl ?_)
                                        refine w_end ?_
                                        refine seq_normal ?_
                                        refine w_condT rfl ?_
                                        refine w_seq ?_
                                        refine w_region ?_
                                        refine w_o rfl rfl rfl (op_assign rfl ?_)
                                        refine w_end ?_
                                        refine seq_normal ?_
                                        refine w_ret ?_
                                        refine seq_ret ?_
                                        refine mid_ret ?_
                                        refine block_ret ?_
                                        refine seq_ret ?_
                                        refine loop_ret ?_
                                        refine block_ret ?_
                                        refine seq_ret ?_
                                        exact ret_ret rfl (.refl _) (by assumption)
                                    · try (first | exact absurd rfl g92 | (cases g92; done))
                                      all_goals
                                        refine w_og rfl rfl rfl rfl rfl (op_move rfl ?_)
                                        refine w_og rfl rfl rfl rfl rfl (op_not rfl ?_)
                                        refine w_og rfl rfl rfl rfl rfl (op_move rfl ?_)
                                        refine w_u rfl rfl rfl rfl rfl rfl ?_
                                        refine w_u rfl rfl rfl rfl rfl rfl ?_
                                        refine w_og rfl rfl rfl rfl rfl (op_pick rfl rfl rfl ?_)
                                        refine w_o rfl rfl rfl (op_pick rfl rfl rfl ?_)
                                        refine w_end ?_
                                        refine seq_normal ?_
                                        refine w_condF rfl ?_
                                        refine w_skip ?_
                                        refine seq_normal ?_
                                        refine w_seq ?_
                                        refine w_region ?_
                                        refine w_o rfl rfl rfl (op_move rfl ?_)
                                        refine w_o rfl rfl rfl (op_not rfl ?_)
                                        refine w_end ?_
                                        refine seq_normal ?_
                                        refine w_condF rfl ?_
                                        refine w_skip ?_
                                        exact mid_normal (by first | exact ⟨RInv_e (clock := clock) (hand := hand) (hx := hx) (kh := kh) hr hto hf1 hf2 hLi hM h0 hKV, rfl⟩ | exact ⟨RInv_t (clock := clock) hr hto hf1 hf2 hLi hM hh h0 hKV, rfl⟩ | exact ⟨RInv_p (clock' := clock') hr' hto' hf1' hf2' hf1 hf2 hLi hM hI5 hm1 hKV', rfl⟩ | exact ⟨RInv_s (clock := clock) hr hto hf1 hf2 hLi hM hh hKV, rfl⟩) env_ sel_
                                · try (exact absurd g81 (by omega))
                                  all_goals
                                    refine w_og rfl rfl rfl rfl rfl (op_fieldAddr fa_58_1 rfl ?_)
                                    refine w_og rfl rfl rfl rfl rfl (op_loadF agg_22 rfl el_ rfl ?_)
                                    refine w_og rfl rfl rfl rfl rfl (op_call rfl rfl rfl ?_)
                                    first
                                      | (have hbad : lx.all rightS = false := by
                                           rcases hb with h | h | h
                                           · omega
                                           · omega
                                           · exact h
                                         refine R04All_w (hsx.sub subs_) (by omega) ?_
                                         rw [hbad])
                                      | (refine R04All_w (hsx.sub subs_) (by omega) ?_
                                         rw [hall])
                                    refine w_og rfl rfl rfl rfl rfl (op_not rfl ?_)
                                    refine w_o rfl rfl rfl (op_pick rfl rfl rfl ?_)
                                    refine w_o rfl rfl rfl (op_assign rfl ?_)
                                    refine w_end ?_
                                    refine seq_normal ?_
                                    refine w_seq ?_
                                    refine w_seq ?_
                                    refine w_region ?_
                                    refine w_o rfl rfl rfl (op_move rfl ?_)
                                    refine w_o rfl rfl rfl (op_move rfl ?_)
                                    first | refine w_known (t := 88) rfl (fun g88 => ?_) (fun g88 => ?_) | refine w_knownB (t := 88) rfl (fun g88 => ?_) (fun g88 => ?_)
                                    · try (cases g88; done)
                                      all_goals
                                        refine w_og rfl rfl rfl rfl rfl (op_move rfl ?_)
                                        refine w_og rfl rfl rfl rfl rfl (op_ne rfl rfl ?_)
                                        refine w_o rfl rfl rfl (op_pick rfl rfl rfl ?_)
                                        refine w_o rfl rfl rfl (op_move rfl ?_)
                                        first | refine w_known (t := 92) rfl (fun g92 => ?_) (fun g92 => ?_) | refine w_knownB (t := 92) rfl (fun g92 => ?_) (fun g92 => ?_)
                                        · try (first | exact absurd rfl g92 | (cases g92; done))
                                          all_goals
                                            refine w_u rfl rfl rfl rfl rfl rfl ?_
                                            refine w_u rfl rfl rfl rfl rfl rfl ?_
                                            refine w_u rfl rfl rfl rfl rfl rfl ?_
                                            refine w_u rfl rfl rfl rfl rfl rfl ?_
                                            refine w_u rfl rfl rfl rfl rfl rfl ?_
                                            refine w_u rfl rfl rfl rfl rfl rfl ?_
                                            refine w_o rfl rfl rfl (op_pick rfl rfl rfl ?_)
                                            refine w_end ?_
                                            refine seq_normal ?_
                                            refine w_condT rfl ?_
                                            refine w_seq ?_
                                            refine w_region ?_
                                            refine w_o rfl rfl rfl (op_assign rfl ?_)
                                            refine w_end ?_
                                            refine seq_normal ?_
                                            refine w_ret ?_
                                            refine seq_ret ?_
                                            refine mid_ret ?_
                                            refine block_ret ?_
                                            refine seq_ret ?_
                                            refine loop_ret ?_
                                            refine block_ret ?_
                                            refine seq_ret ?_
                                            exact ret_ret rfl (.refl _) (by assumption)
                                        · try (first | exact absurd rfl g92 | (cases g92; done))
                                          all_goals
                                            refine w_og rfl rfl rfl rfl rfl (op_move rfl ?_)
                                            refine w_og rfl rfl rfl rfl rfl (op_not rfl ?_)
                                            refine w_og rfl rfl rfl rfl rfl (op_move rfl ?_)
                                            first | refine w_known (t := 95) rfl (fun g95 => ?_) (fun g95 => ?_) | refine w_knownB (t := 95) rfl (fun g95 => ?_) (fun g95 => ?_)
                                            · try (cases g95; done)
                                              all_goals
                                                refine w_og rfl rfl rfl rfl rfl (op_move rfl ?_)
                                                refine w_og rfl rfl rfl rfl rfl (op_ne rfl rfl ?_)
                                                refine w_og rfl rfl rfl rfl rfl (op_pick rfl rfl rfl ?_)
                                                refine w_o rfl rfl rfl (op_pick rfl rfl rfl ?_)
                                                refine w_end ?_
                                                refine seq_normal ?_
                                                first | refine w_cond rfl (fun hI8 => ?_) (fun hI8 => ?_) | refine w_condB rfl (fun hI8 => ?_) (fun hI8 => ?_)
                                                · try (first | exact absurd rfl hI8 | (cases hI8; done))
                                                  all_goals
                                                    refine w_seq ?_
                                                    refine w_region ?_
                                                    refine w_o rfl rfl rfl (op_assign rfl ?_)
                                                    refine w_end ?_
                                                    refine seq_normal ?_
                                                    refine w_ret ?_
                                                    refine seq_ret ?_
                                                    refine mid_ret ?_
                                                    refine block_ret ?_
                                                    refine seq_ret ?_
                                                    refine loop_ret ?_
                                                    refine block_ret ?_
                                                    refine seq_ret ?_
                                                    exact ret_ret rfl (.refl _) (by assumption)
                                                · try (first | exact absurd rfl hI8 | (cases hI8; done))
                                                  all_goals
                                                    refine w_skip ?_
                                                    refine seq_normal ?_
                                                    refine w_seq ?_
                                                    refine w_region ?_
                                                    refine w_o rfl rfl rfl (op_move rfl ?_)
                                                    refine w_o rfl rfl rfl (op_not rfl ?_)
                                                    refine w_end ?_
                                                    refine seq_normal ?_
                                                    first | refine w_cond rfl (fun hI9 => ?_) (fun hI9 => ?_) | refine w_condB rfl (fun hI9 => ?_) (fun hI9 => ?_)
                                                    · try (cases hI9; done)
                                                      all_goals
                                                        refine w_region ?_
                                                        refine w_o rfl rfl rfl (op_loadA agg_56 siz_56 rfl rfl el_ ?_)
                                                        refine w_o rfl rfl rfl (op_fieldAddr fa_58_1 rfl ?_)
                                                        refine w_o rfl rfl rfl (op_loadF agg_22 rfl el_ rfl ?_)
                                                        refine w_o rfl rfl rfl (op_fieldAddr fa_58_0 rfl ?_)
                                                        refine w_o rfl rfl rfl (op_loadF agg_3 rfl el_ rfl ?_)
                                                        refine w_o rfl rfl rfl (op_move rfl ?_)
                                                        refine w_o rfl rfl rfl (op_call rfl rfl rfl ?_)
                                                        first
                                                          | refine RPushNil_w (hsx.sub subs_) hz ?_
                                                          | refine RPush_w (H1 := NK ++ H) (M := 60 * i) subs_ hKV (hsx.app) (by omega) hne hM (by omega) (by omega) ⟨hw1, hw2⟩ fun ck' NK' hKV' => ?_
                                                        refine w_on rfl rfl (op_store siz_56 rfl rfl rfl (by (repeat (first | exact Pick.head _ _ _ | apply Pick.tail | apply Pick.app)); first | done | fail) (Nat.le_of_ble_eq_true rfl) rfl ?_)
                                                        refine w_end ?_
                                                        exact mid_normal (by first | exact ⟨RInv_e (clock := clock) (hand := hand) (hx := hx) (kh := kh) hr hto hf1 hf2 hLi hM h0 hKV, rfl⟩ | exact ⟨RInv_t (clock := clock) hr hto hf1 hf2 hLi hM hh h0 hKV, rfl⟩ | exact ⟨RInv_p (clock' := clock') hr' hto' hf1' hf2' hf1 hf2 hLi hM hI5 hm1 hKV', rfl⟩ | exact ⟨RInv_s (clock := clock) hr hto hf1 hf2 hLi hM hh hKV, rfl⟩) env_ sel_
                                                    · try (cases hI9; done)
                                                      all_goals
                                                        refine w_skip ?_
                                                        exact mid_normal (by first | exact ⟨RInv_e (clock := clock) (hand := hand) (hx := hx) (kh := kh) hr hto hf1 hf2 hLi hM h0 hKV, rfl⟩ | exact ⟨RInv_t (clock := clock) hr hto hf1 hf2 hLi hM hh h0 hKV, rfl⟩ | exact ⟨RInv_p (clock' := clock') hr' hto' hf1' hf2' hf1 hf2 hLi hM hI5 hm1 hKV', rfl⟩ | exact ⟨RInv_s (clock := clock) hr hto hf1 hf2 hLi hM hh hKV, rfl⟩) env_ sel_
                                            · try (cases g95; done)
                                              all_goals
                                                refine w_u rfl rfl rfl rfl rfl rfl ?_
                                                refine w_u rfl rfl rfl rfl rfl rfl ?_
                                                refine w_og rfl rfl rfl rfl rfl (op_pick rfl rfl rfl ?_)
                                                refine w_o rfl rfl rfl (op_pick rfl rfl rfl ?_)
                                                refine w_end ?_
                                                refine seq_normal ?_
                                                refine w_condF rfl ?_
                                                refine w_skip ?_
                                                refine seq_normal ?_
                                                refine w_seq ?_
                                                refine w_region ?_
                                                refine w_o rfl rfl rfl (op_move rfl ?_)
                                                refine w_o rfl rfl rfl (op_not rfl ?_)
                                                refine w_end ?_
                                                refine seq_normal ?_
                                                first | refine w_cond rfl (fun hI9 => ?_) (fun hI9 => ?_) | refine w_condB rfl (fun hI9 => ?_) (fun hI9 => ?_)
                                                · try (cases hI9; done)
                                                  all_goals
                                                    refine w_region ?_
                                                    refine w_o rfl rfl rfl (op_loadA agg_56 siz_56 rfl rfl el_ ?_)
                                                    refine w_o rfl rfl rfl (op_fieldAddr fa_58_1 rfl ?_)
                                                    refine w_o rfl rfl rfl (op_loadF agg_22 rfl el_ rfl ?_)
                                                    refine w_o rfl rfl rfl (op_fieldAddr fa_58_0 rfl ?_)
                                                    refine w_o rfl rfl rfl (op_loadF agg_3 rfl el_ rfl ?_)
                                                    refine w_o rfl rfl rfl (op_move rfl ?_)
                                                    refine w_o rfl rfl rfl (op_call rfl rfl rfl ?_)
                                                    first
                                                      | refine RPushNil_w (hsx.sub subs_) hz ?_
                                                      | refine RPush_w (H1 := NK ++ H) (M := 60 * i) subs_ hKV (hsx.app) (by omega) hne hM (by omega) (by omega) ⟨hw1, hw2⟩ fun ck' NK' hKV' => ?_
                                                    refine w_on rfl rfl (op_store siz_56 rfl rfl rfl (by (repeat (first | exact Pick.head _ _ _ | apply Pick.tail | apply Pick.app)); first | done | fail) (Nat.le_of_ble_eq_true rfl) rfl ?_)
                                                    refine w_end ?_
                                                    exact mid_normal (by first | exact ⟨RInv_e (clock := clock) (hand := hand) (hx := hx) (kh := kh) hr hto hf1 hf2 hLi hM h0 hKV, rfl⟩ | exact ⟨RInv_t (clock := clock) hr hto hf1 hf2 hLi hM hh h0 hKV, rfl⟩ | exact ⟨RInv_p (clock' := clock') hr' hto' hf1' hf2' hf1 hf2 hLi hM hI5 hm1 hKV', rfl⟩ | exact ⟨RInv_s (clock := clock) hr hto hf1 hf2 hLi hM hh hKV, rfl⟩) env_ sel_
                                                · try (cases hI9; done)
                                                  all_goals
                                                    refine w_skip ?_
                                                    exact mid_normal (by first | exact ⟨RInv_e (clock := clock) (hand := hand) (hx := hx) (kh := kh) hr hto hf1 hf2 hLi hM h0 hKV, rfl⟩ | exact ⟨RInv_t (clock := clock) hr hto hf1 hf2 hLi hM hh h0 hKV, rfl⟩ | exact ⟨RInv_p (clock' := clock') hr' hto' hf1' hf2' hf1 hf2 hLi hM hI5 hm1 hKV', rfl⟩ | exact ⟨RInv_s (clock := clock) hr hto hf1 hf2 hLi hM hh hKV, rfl⟩) env_ sel_
                                    · try (cases g88; done)
                                      all_goals
                                        refine w_u rfl rfl rfl rfl rfl rfl ?_
                                        refine w_u rfl rfl rfl rfl rfl rfl ?_
                                        refine w_o rfl rfl rfl (op_pick rfl rfl rfl ?_)
                                        refine w_o rfl rfl rfl (op_move rfl ?_)
                                        refine w_og rfl rfl rfl rfl rfl (op_move rfl ?_)
                                        refine w_og rfl rfl rfl rfl rfl (op_not rfl ?_)
                                        refine w_og rfl rfl rfl rfl rfl (op_move rfl ?_)
                                        first | refine w_known (t := 95) rfl (fun g95 => ?_) (fun g95 => ?_) | refine w_knownB (t := 95) rfl (fun g95 => ?_) (fun g95 => ?_)
                                        · try (cases g95; done)
                                          all_goals
                                            refine w_og rfl rfl rfl rfl rfl (op_move rfl ?_)
                                            refine w_og rfl rfl rfl rfl rfl (op_ne rfl rfl ?_)
                                            refine w_og rfl rfl rfl rfl rfl (op_pick rfl rfl rfl ?_)
                                            refine w_o rfl rfl rfl (op_pick rfl rfl rfl ?_)
                                            refine w_end ?_
                                            refine seq_normal ?_
                                            first | refine w_cond rfl (fun hI8 => ?_) (fun hI8 => ?_) | refine w_condB rfl (fun hI8 => ?_) (fun hI8 => ?_)
                                            · try (first | exact absurd rfl hI8 | (cases hI8; done))
                                              all_goals
                                                refine w_seq ?_
                                                refine w_region ?_
                                                refine w_o rfl rfl rfl (op_assign rfl ?_)
                                                refine w_end ?_
                                                refine seq_normal ?_
                                                refine w_ret ?_
                                                refine seq_ret ?_
                                                refine mid_ret ?_
                                                refine block_ret ?_
                                                refine seq_ret ?_
                                                refine loop_ret ?_
                                                refine block_ret ?_
                                                refine seq_ret ?_
                                                exact ret_ret rfl (.refl _) (by assumption)
                                            · try (first | exact absurd rfl hI8 | (cases hI8; done))
                                              all_goals
                                                refine w_skip ?_
                                                refine seq_normal ?_
                                                refine w_seq ?_
                                                refine w_region ?_
                                                refine w_o rfl rfl rfl (op_move rfl ?_)
                                                refine w_o rfl rfl rfl (op_not rfl ?_)
                                                refine w_end ?_
                                                refine seq_normal ?_
                                                first | refine w_cond rfl (fun hI9 => ?_) (fun hI9 => ?_) | refine w_condB rfl (fun hI9 => ?_) (fun hI9 => ?_)
                                                · try (cases hI9; done)
                                                  all_goals
                                                    refine w_region ?_
                                                    refine w_o rfl rfl rfl (op_loadA agg_56 siz_56 rfl rfl el_ ?_)
                                                    refine w_o rfl rfl rfl (op_fieldAddr fa_58_1 rfl ?_)
                                                    refine w_o rfl rfl rfl (op_loadF agg_22 rfl el_ rfl ?_)
                                                    refine w_o rfl rfl rfl (op_fieldAddr fa_58_0 rfl ?_)
                                                    refine w_o rfl rfl rfl (op_loadF agg_3 rfl el_ rfl ?_)
                                                    refine w_o rfl rfl rfl (op_move rfl ?_)
                                                    refine w_o rfl rfl rfl (op_call rfl rfl rfl ?_)
                                                    first
                                                      | refine RPushNil_w (hsx.sub subs_) hz ?_
                                                      | refine RPush_w (H1 := NK ++ H) (M := 60 * i) subs_ hKV (hsx.app) (by omega) hne hM (by omega) (by omega) ⟨hw1, hw2⟩ fun ck' NK' hKV' => ?_
                                                    refine w_on rfl rfl (op_store siz_56 rfl rfl rfl (by (repeat (first | exact Pick.head _ _ _ | apply Pick.tail | apply Pick.app)); first | done | fail) (Nat.le_of_ble_eq_true rfl) rfl ?_)
                                                    refine w_end ?_
                                                    exact mid_normal (by first | exact ⟨RInv_e (clock := clock) (hand := hand) (hx := hx) (kh := kh) hr hto hf1 hf2 hLi hM h0 hKV, rfl⟩ | exact ⟨RInv_t (clock := clock) hr hto hf1 hf2 hLi hM hh h0 hKV, rfl⟩ | exact ⟨RInv_p (clock' := clock') hr' hto' hf1' hf2' hf1 hf2 hLi hM hI5 hm1 hKV', rfl⟩ | exact ⟨RInv_s (clock := clock) hr hto hf1 hf2 hLi hM hh hKV, rfl⟩) env_ sel_
                                                · try (cases hI9; done)
                                                  all_goals
                                                    refine w_skip ?_
                                                    exact mid_normal (by first | exact ⟨RInv_e (clock := clock) (hand := hand) (hx := hx) (kh := kh) hr hto hf1 hf2 hLi hM h0 hKV, rfl⟩ | exact ⟨RInv_t (clock := clock) hr hto hf1 hf2 hLi hM hh h0 hKV, rfl⟩ | exact ⟨RInv_p (clock' := clock') hr' hto' hf1' hf2' hf1 hf2 hLi hM hI5 hm1 hKV', rfl⟩ | exact ⟨RInv_s (clock := clock) hr hto hf1 hf2 hLi hM hh hKV, rfl⟩) env_ sel_
                                        · try (cases g95; done)
                                          all_goals
                                            refine w_u rfl rfl rfl rfl rfl rfl ?_
                                            refine w_u rfl rfl rfl rfl rfl rfl ?_
                                            refine w_og rfl rfl rfl rfl rfl (op_pick rfl rfl rfl ?_)
                                            refine w_o rfl rfl rfl (op_pick rfl rfl rfl ?_)
                                            refine w_end ?_
                                            refine seq_normal ?_
                                            refine w_condF rfl ?_
                                            refine w_skip ?_
                                            refine seq_normal ?_
                                            refine w_seq ?_
                                            refine w_region ?_
                                            refine w_o rfl rfl rfl (op_move rfl ?_)
                                            refine w_o rfl rfl rfl (op_not rfl ?_)
                                            refine w_end ?_
                                            refine seq_normal ?_
                                            first | refine w_cond rfl (fun hI9 => ?_) (fun hI9 => ?_) | refine w_condB rfl (fun hI9 => ?_) (fun hI9 => ?_)
                                            · try (cases hI9; done)
                                              all_goals
                                                refine w_region ?_
                                                refine w_o rfl rfl rfl (op_loadA agg_56 siz_56 rfl rfl el_ ?_)
                                                refine w_o rfl rfl rfl (op_fieldAddr fa_58_1 rfl ?_)
                                                refine w_o rfl rfl rfl (op_loadF agg_22 rfl el_ rfl ?_)
                                                refine w_o rfl rfl rfl (op_fieldAddr fa_58_0 rfl ?_)
                                                refine w_o rfl rfl rfl (op_loadF agg_3 rfl el_ rfl ?_)
                                                refine w_o rfl rfl rfl (op_move rfl ?_)
                                                refine w_o rfl rfl rfl (op_call rfl rfl rfl ?_)
                                                first
                                                  | refine RPushNil_w (hsx.sub subs_) hz ?_
                                                  | refine RPush_w (H1 := NK ++ H) (M := 60 * i) subs_ hKV (hsx.app) (by omega) hne hM (by omega) (by omega) ⟨hw1, hw2⟩ fun ck' NK' hKV' => ?_
                                                refine w_on rfl rfl (op_store siz_56 rfl rfl rfl (by (repeat (first | exact Pick.head _ _ _ | apply Pick.tail | apply Pick.app)); first | done | fail) (Nat.le_of_ble_eq_true rfl) rfl ?_)
                                                refine w_end ?_
                                                exact mid_normal (by first | exact ⟨RInv_e (clock := clock) (hand := hand) (hx := hx) (kh := kh) hr hto hf1 hf2 hLi hM h0 hKV, rfl⟩ | exact ⟨RInv_t (clock := clock) hr hto hf1 hf2 hLi hM hh h0 hKV, rfl⟩ | exact ⟨RInv_p (clock' := clock') hr' hto' hf1' hf2' hf1 hf2 hLi hM hI5 hm1 hKV', rfl⟩ | exact ⟨RInv_s (clock := clock) hr hto hf1 hf2 hLi hM hh hKV, rfl⟩) env_ sel_
                                            · try (cases hI9; done)
                                              all_goals
                                                refine w_skip ?_
                                                exact mid_normal (by first | exact ⟨RInv_e (clock := clock) (hand := hand) (hx := hx) (kh := kh) hr hto hf1 hf2 hLi hM h0 hKV, rfl⟩ | exact ⟨RInv_t (clock := clock) hr hto hf1 hf2 hLi hM hh h0 hKV, rfl⟩ | exact ⟨RInv_p (clock' := clock') hr' hto' hf1' hf2' hf1 hf2 hLi hM hI5 hm1 hKV', rfl⟩ | exact ⟨RInv_s (clock := clock) hr hto hf1 hf2 hLi hM hh hKV, rfl⟩) env_ sel_
                      · rintro e H' ⟨⟨clock, fr, tz, hand, L, es, NS, hx, ck, kh, NK, hr, hto, hf1, hf2, hLi, hM, hh, hKV, rfl⟩, rfl⟩
                        obtain ⟨csk, hk1, hk2, hk3⟩ := id hKV
                        refine w_seq ?_
                        refine w_drawF (_) sel_ (by decide +kernel) (by decide +kernel) ?_
                        refine f_b (guard_none rfl) rfl rfl rfl rfl (op_move rfl ?_)
                        refine f_m (guard_none rfl) rfl rfl rfl (op_call rfl rfl rfl ?_)
                        refine Len_w (fr := fr) (tz := tz) (hand := hand) (most := most) (m := m) mem_ hf1 (by omega) (by omega) (by omega) ?_
                        refine ⟨sel_, ?_⟩
                        refine f_b (guard_none rfl) rfl rfl rfl rfl (op_fieldAddr fa_56_0 rfl ?_)
                        refine f_l (guard_none rfl) rfl rfl rfl sel_ (op_loadF agg_34 rfl el_ rfl rfl) ?_
                        refine f_b (guard_none rfl) rfl rfl rfl rfl (op_lenC und_34 rfl hk1.lenC ?_)
                        refine f_b (guard_none rfl) rfl rfl rfl rfl (op_ne rfl rfl ?_)
                        refine f_b (guard_none rfl) rfl rfl rfl rfl (op_move rfl ?_)
                        first | refine f_known (t := 115) rfl (fun g115 => ?_) (fun g115 => ?_) | refine f_knownB (t := 115) rfl (fun g115 => ?_) (fun g115 => ?_)
                        · exact absurd (by omega) g115 --closed
                        · refine f_b (guard_some rfl rfl rfl rfl) rfl rfl rfl rfl (op_move rfl ?_)
                          refine f_m (guard_some rfl rfl rfl rfl) rfl rfl rfl (op_call rfl rfl rfl ?_)
                          refine Now_w (fr := fr) (tz := tz) (hand := hand) (most := most) (m := m) (es := es) (clock := clock) (hi := hx) (M := 60 * (i + 1)) mem_ hto (fun h => ⟨(hh h).1, (hh h).2.1⟩) mem_ hr subs_ hf1 (by omega) (by omega) hM (by omega) fun cn Nn hN => ?_
                          refine ⟨sel_, ?_⟩
                          refine f_l (guard_some rfl rfl rfl rfl) rfl rfl rfl sel_ (op_loadA agg_56 siz_56 rfl rfl el_ rfl) ?_
                          refine f_m (guard_some rfl rfl rfl rfl) rfl rfl rfl (op_call rfl rfl rfl ?_)
                          refine RNow_w (M := 0) (hi := hx) (hKV.sub subs_) (by omega) (fun h => ⟨(hh h).2.2, (hh h).2.1⟩) fun cr hR => ?_
                          refine ⟨sel_, ?_⟩
                          refine f_m (guard_some rfl rfl rfl rfl) rfl rfl rfl (op_call rfl rfl rfl ?_)
                          refine R04Same_w (hN.slT (fun _ => rfl) (by decide) (fun x hx => List.mem_append_left _ hx)) hR (by
                            split
                            · simp
                            · rename_i h0
                              have hx2 := (hh h0).2.1
                              have hg : L[hx]? = some L[hx] := List.getElem?_eq_getElem hx2
                              have e : nowM L hx = L[hx] := by unfold nowM; rw [hg]; rfl
                              have := hM _ (List.mem_of_getElem? hg)
                              rw [e]; omega) ?_
                          rw [decide_eq_true rfl]
                          refine ⟨sel_, ?_⟩
                          refine f_b (guard_some rfl rfl rfl rfl) rfl rfl rfl rfl (op_not rfl ?_)
                          refine f_b (guard_none rfl) rfl rfl rfl rfl (op_pick rfl rfl rfl ?_)
                          refine f_b (guard_none rfl) rfl rfl rfl rfl (op_move rfl ?_)
                          refine f_b (guard_some rfl rfl rfl rfl) rfl rfl rfl rfl (op_move rfl ?_)
                          refine f_m (guard_some rfl rfl rfl rfl) rfl rfl rfl (op_call rfl rfl rfl ?_)
                          refine All_w (fr := fr) (tz := tz) (hand := hand) (most := most) (m := m) (es := es) (clock := clock) (M := 60 * (i + 1)) mem_ hto mem_ hr subs_ hf1 (by omega) (by omega) hM (by omega) fun ca csa No Ni hOa hcsa hina => ?_
                          refine ⟨sel_, ?_⟩
                          refine f_b (guard_some rfl rfl rfl rfl) rfl rfl rfl rfl (op_fieldAddr fa_56_0 rfl ?_)
                          refine f_l (guard_some rfl rfl rfl rfl) rfl rfl rfl sel_ (op_loadF agg_34 rfl el_ rfl rfl) ?_
                          refine f_m (guard_some rfl rfl rfl rfl) rfl rfl rfl (op_call rfl rfl rfl ?_)
                          refine Lists_w (M := 0) (L := L) (L' := L) ⟨csa, hOa.slT (fun _ => rfl) (by decide) (fun x hx => List.mem_append_left _ hx), hcsa, fun i d x a b => (hina i d x a b).sub (fun y hy => List.mem_append_right _ (List.mem_append_left _ hy))⟩ (hKV.sub subs_) (by omega) (fun t ht => by have := hM t ht; omega) rfl ?_
                          refine ⟨sel_, ?_⟩
                          refine f_b (guard_some rfl rfl rfl rfl) rfl rfl rfl rfl (op_not rfl ?_)
                          refine f_b (guard_none rfl) rfl rfl rfl rfl (op_pick rfl rfl rfl ?_)
                          refine f_end ?_
                          refine seq_normal ?_
                          refine w_condF rfl ?_
                          refine w_skip ?_
                          refine block_normal ?_
                          refine seq_normal ?_
                          refine w_region ?_
                          refine w_o rfl rfl rfl (op_move rfl ?_)
                          refine w_o rfl rfl rfl (op_addi rfl rfl (by omega) (by omega) ?_)
                          refine w_o rfl rfl rfl (op_assign rfl ?_)
                          refine w_end ?_
                          exact loop_normal (k' := ps.length - (i + 1)) (by omega) ⟨i + 1, by omega, rfl, by omega, ⟨clock, fr, tz, hand, L, es, NS, hx, ck, kh, NK, hr, hto, hf1, hf2, hLi, hM, hh, hKV, rfl⟩, rfl⟩ env_ sel_
                  · refine w_exit ?_
                    refine seq_exit ?_
                    refine loop_exit ?_
                    refine block_hit rfl ?_
                    refine seq_normal ?_
                    refine w_seq ?_
                    refine w_region ?_
                    refine w_o rfl rfl rfl (op_assign rfl ?_)
                    refine w_end ?_
                    refine seq_normal ?_
                    refine w_ret ?_
                    exact ret_ret rfl (.refl _) rfl
                · refine w_u rfl rfl rfl rfl rfl rfl ?_
                  refine w_u rfl rfl rfl rfl rfl rfl ?_
                  refine w_o rfl rfl rfl (op_pick rfl rfl rfl ?_)
                  refine w_end ?_
                  refine seq_normal ?_
                  refine w_condF rfl ?_
                  refine w_exit ?_
                  refine seq_exit ?_
                  refine loop_exit ?_
                  refine block_hit rfl ?_
                  refine seq_normal ?_
                  refine w_seq ?_
                  refine w_region ?_
                  refine w_o rfl rfl rfl (op_assign rfl ?_)
                  refine w_end ?_
                  refine seq_normal ?_
                  refine w_ret ?_
                  exact ret_ret rfl (.refl _) rfl
end Go.Proofs.Ytlmmeihgjpgooaa.AM.B
