/- The law HistBounds: it answers true, whatever comes in. -/
import Derived.Test.YtajhjfgoefhdnaaAX
import Derived.Test.YtajhjfgoefhdnaaBhist2
set_option linter.unusedVariables false
set_option linter.unusedSimpArgs false
set_option maxRecDepth 10000
set_option maxHeartbeats 4000000
namespace Go.Proofs.Ytajhjfgoefhdnaa.AM.B
open Go Go.RowKit
/-- What is so of all entries. -/
def EntOK (E : List (List Sign)) (m n : Int) : Prop := (E.length : Int) ≤ m ∧ (∀ x ∈ E, 1 ≤ x.length ∧ (x.length : Int) ≤ n ∧ ∀ s ∈ x, s.f1 = 3) ∧ E.Pairwise fun a b => ¬ valsS a = valsS b
theorem add_ok {E : List (List Sign)} {l : List Sign} {m n : Int} (h : EntOK E m n) (hm : 1 ≤ m) (h1 : l.length ≠ 0) (h2 : (l.length : Int) ≤ n) : EntOK (addH E (withS l 3) m) m n ∧ (addH E (withS l 3) m).length ≠ 0 ∧ (addH E (withS l 3) m)[(addH E (withS l 3) m).length - 1]? = some (withS l 3) := by
  unfold addH
  generalize hk : E.filter (fun y => !decide (withS l 3 = y)) = kept
  have hlen : (kept ++ [withS l 3]).length = kept.length + 1 := by rw [List.length_append]; rfl
  have hmem : ∀ x ∈ kept, x ∈ E ∧ ¬ withS l 3 = x := by
    intro x hx
    rw [← hk, List.mem_filter] at hx
    exact ⟨hx.1, by simpa using hx.2⟩
  have hpw : (kept ++ [withS l 3]).Pairwise fun a b => ¬ valsS a = valsS b := by
    rw [List.pairwise_append]
    refine ⟨by rw [← hk]; exact h.2.2.filter _, List.pairwise_singleton _ _, fun a ha b hb e => ?_⟩
    rw [List.mem_singleton] at hb
    subst hb
    obtain ⟨ha1, ha2⟩ := hmem a ha
    rw [valsS_withS] at e
    exact ha2 ((withS_eq (h.2.1 a ha1).2.2).2 e).symm
  have hall : ∀ x ∈ kept ++ [withS l 3], 1 ≤ x.length ∧ (x.length : Int) ≤ n ∧ ∀ s ∈ x, s.f1 = 3 := by
    intro x hx
    rcases List.mem_append.1 hx with q | q
    · exact h.2.1 x (hmem x q).1
    · rw [List.mem_singleton] at q
      subst q
      exact ⟨by rw [withS_len]; omega, by rw [withS_len]; exact h2, withS_lab l 3⟩
  rw [hlen]
  generalize hlo : (max (((kept.length + 1 : Nat) : Int) - m) 0).toNat = lo
  have hlo1 : lo ≤ kept.length := by omega
  refine ⟨⟨by rw [List.length_drop, hlen]; omega, fun x hx => hall x (List.mem_of_mem_drop hx), hpw.sublist (List.drop_sublist _ _)⟩, by rw [List.length_drop, hlen]; omega, ?_⟩
  rw [List.length_drop, hlen, List.getElem?_drop, show lo + (kept.length + 1 - lo - 1) = kept.length by omega, List.getElem?_append_right (Nat.le_refl _), Nat.sub_self]
  rfl
theorem addR_ok {E E' : List (List Sign)} {l : List Sign} {m n f : Int} (hR : AddR E l m n f E') (h : EntOK E m n) (hm : 1 ≤ m) : EntOK E' m n ∧ (f = 0 → l.length ≠ 0 → E'.length ≠ 0 ∧ E'[E'.length - 1]? = some (withS l 3)) := by
  rcases hR with ⟨h1, rfl⟩ | ⟨h1, h2, rfl⟩ | ⟨h1, h2, h3, rfl⟩
  · exact ⟨h, fun q => absurd q h1⟩
  · exact ⟨h, fun _ q => absurd h2 q⟩
  · have := add_ok h hm h3 h2
    exact ⟨this.1, fun _ _ => this.2⟩
theorem HistBounds_law {H : Hyp} {c0 : Cell} {L : List (List Sign)} {a1 a2 : Int} (hL : KVh H L c0) (hb1 : 0 ≤ a1 ∧ a1 ≤ 255) (hb2 : 0 ≤ a2 ∧ a2 ≤ 255) : CallW Try.prog Xs 3 [.one (.c c0), .one (.c (.int .u8 a1)), .one (.c (.int .u8 a2))] H (fun v _ => v = vB true) := by
  obtain ⟨ls, g1, g2, g3⟩ := hL
  have hq1 : 0 ≤ a1.tmod 9 := Int.tmod_nonneg _ hb1.1
  have hq2 : a1.tmod 9 < 9 := Int.tmod_lt_of_pos _ (by decide)
  generalize hqm : a1.tmod 9 = qm at hq1 hq2
  have hq3 : 0 ≤ a2.tmod 40 := Int.tmod_nonneg _ hb2.1
  have hq4 : a2.tmod 40 < 40 := Int.tmod_lt_of_pos _ (by decide)
  generalize hqn : a2.tmod 40 = qn at hq3 hq4
  refine call_of (n := 150) (fun _ => rfl) Try.func3 rfl rfl ?_
  refine w_seq ?_
  refine w_region ?_
  refine w_o rfl rfl rfl (op_assign rfl ?_)
  refine w_end ?_
  refine seq_normal ?_
  refine w_seq ?_
  refine w_seq ?_
  refine w_region ?_
  refine w_o rfl rfl rfl (op_move rfl ?_)
  refine w_o rfl rfl rfl (op_lenC und_22 rfl g1.lenC ?_)
  refine w_o rfl rfl rfl (op_gt rfl rfl ?_)
  refine w_o rfl rfl rfl (op_move rfl ?_)
  first | refine w_known (t := 19) rfl (fun g19 => ?_) (fun g19 => ?_) | refine w_knownB (t := 19) rfl (fun g19 => ?_) (fun g19 => ?_)
  · refine w_u rfl rfl rfl rfl rfl rfl ?_
    refine w_u rfl rfl rfl rfl rfl rfl ?_
    refine w_o rfl rfl rfl (op_pick rfl rfl rfl ?_)
    refine w_end ?_
    refine seq_normal ?_
    refine w_condT rfl ?_
    refine w_seq ?_
    refine w_region ?_
    refine w_o rfl rfl rfl (op_call rfl rfl rfl ?_)
    refine awake_w ?_
    refine w_o rfl rfl rfl (op_assign rfl ?_)
    refine w_end ?_
    refine seq_normal ?_
    refine w_ret ?_
    refine seq_ret ?_
    exact ret_ret rfl (.refl _) rfl
  · refine w_og rfl rfl rfl rfl rfl (op_call rfl rfl rfl ?_)
    refine awake_w ?_
    refine w_og rfl rfl rfl rfl rfl (op_not rfl ?_)
    refine w_o rfl rfl rfl (op_pick rfl rfl rfl ?_)
    refine w_end ?_
    refine seq_normal ?_
    refine w_condF rfl ?_
    refine w_skip ?_
    refine seq_normal ?_
    refine w_seq ?_
    refine w_region ?_
    refine w_o rfl rfl rfl (op_move rfl ?_)
    refine w_o rfl rfl rfl (op_remi rfl rfl (by decide) hqm ?_)
    refine w_o rfl rfl rfl (op_convi und_5 und_3 rfl (wrap_i64 (by omega) (by omega)) ?_)
    refine w_o rfl rfl rfl (op_addi rfl rfl (by omega) (by omega) ?_)
    refine w_o rfl rfl rfl (op_move rfl ?_)
    refine w_o rfl rfl rfl (op_remi rfl rfl (by decide) hqn ?_)
    refine w_o rfl rfl rfl (op_convi und_5 und_3 rfl (wrap_i64 (by omega) (by omega)) ?_)
    refine w_o rfl rfl rfl (op_addi rfl rfl (by omega) (by omega) ?_)
    refine w_o rfl rfl rfl (op_assign rfl ?_)
    refine w_o rfl rfl rfl (op_assign rfl ?_)
    refine w_end ?_
    refine seq_normal ?_
    refine w_seq ?_
    refine w_region ?_
    refine w_o rfl rfl rfl (op_move rfl ?_)
    refine w_o rfl rfl rfl (op_move rfl ?_)
    refine w_o rfl rfl rfl (op_call rfl rfl rfl ?_)
    refine New_w (by omega) (by omega) fun p => ?_
    refine w_o rfl rfl rfl (op_move rfl ?_)
    refine w_o rfl rfl rfl (op_extract rfl rfl ?_)
    refine w_o rfl rfl rfl (op_extract rfl rfl ?_)
    refine w_o rfl rfl rfl (op_assign rfl ?_)
    refine w_o rfl rfl rfl (op_assign rfl ?_)
    refine w_end ?_
    refine seq_normal ?_
    refine w_seq ?_
    refine w_seq ?_
    refine w_region ?_
    refine w_o rfl rfl rfl (op_move rfl ?_)
    refine w_o rfl rfl rfl (op_ne rfl rfl ?_)
    refine w_o rfl rfl rfl (op_move rfl ?_)
    first | refine w_known (t := 40) rfl (fun g40 => ?_) (fun g40 => ?_) | refine w_knownB (t := 40) rfl (fun g40 => ?_) (fun g40 => ?_)
    · exact absurd rfl g40 --closed
    · refine w_og rfl rfl rfl rfl rfl (op_move rfl ?_)
      refine w_og rfl rfl rfl rfl rfl (op_nilEq rfl rfl rfl (by simp only [nilKind, und_24]) ?_)
      refine w_o rfl rfl rfl (op_pick rfl rfl rfl ?_)
      refine w_end ?_
      refine seq_normal ?_
      refine w_condF rfl ?_
      refine w_skip ?_
      refine seq_normal ?_
      refine w_seq ?_
      refine w_seq ?_
      refine w_region ?_
      refine w_o rfl rfl rfl (op_assign rfl ?_)
      refine w_end ?_
      refine seq_normal ?_
      refine w_block ?_
      refine w_loop (fun q e H' => ∃ (i : Nat) (c : Cell) (cs : List Cell) (N Ne : Hyp) (hand : Int) (ct : Cell) (E : List (List Sign)), i ≤ L.length ∧ q = L.length - i ∧ HL 28 c cs N ∧ Ents Ne cs E ∧ EntOK E (qm + 1) (qn + 1) ∧ H' = (p, hRow c hand ct (qm + 1) (qn + 1)) :: (N ++ (Ne ++ H)) ∧ e = [(0, .one (.c c0)), (7, vI (qm + 1)), (8, vI (qn + 1)), (9, ptrV p 0), (11, vI (i : Nat))]) ?_ ?_
      · exact ⟨_, _, _, ⟨0, .nils, [], [], [], 0, .nils, [], Nat.zero_le _, rfl, .nil, ⟨rfl, fun i d x h => by simp at h⟩, ⟨by simp; omega, (fun x h => by cases h), .nil⟩, rfl, rfl⟩, env_, sel_⟩
      · rintro q e H' ⟨i, c, cs, N, Ne, hand, ct, E, hi, rfl, hH, hE, hok, rfl, rfl⟩
        have hEl := hok.1
        refine w_seq ?_
        refine w_seq ?_
        refine w_region ?_
        refine w_o rfl rfl rfl (op_move rfl ?_)
        refine w_o rfl rfl rfl (op_move rfl ?_)
        refine w_o rfl rfl rfl (op_lenC und_22 rfl g1.lenC ?_)
        refine w_o rfl rfl rfl (op_lt rfl rfl ?_)
        refine w_end ?_
        refine seq_normal ?_
        first | refine w_cond rfl (fun hI3 => ?_) (fun hI3 => ?_) | refine w_condB rfl (fun hI3 => ?_) (fun hI3 => ?_)
        · obtain ⟨x, hx⟩ : ∃ x, L[i]? = some x := ⟨_, List.getElem?_eq_getElem (by omega)⟩
          refine w_skip ?_
          refine seq_normal ?_
          refine w_seq ?_
          refine w_block ?_
          refine w_seq ?_
          refine w_seq ?_
          refine w_region ?_
          refine w_o rfl rfl rfl (op_move rfl ?_)
          refine w_o rfl rfl rfl (op_move rfl ?_)
          refine w_o rfl rfl rfl (op_indexT (enc := encC) (xs := ls) (j := i) und_22 siz_28 rfl rfl (g1.sub subs_) (fun _ => rfl) rfl (by omega) fun b52 o52 z52 h52 e52 => ?_)
          refine w_o rfl rfl rfl (op_load1 agg_28 rfl el_ ?_)
          refine w_o rfl rfl rfl (op_lenC und_28 rfl (g3 i z52 x h52 hx).lenC ?_)
          refine w_o rfl rfl rfl (op_gt rfl rfl ?_)
          refine w_end ?_
          refine seq_normal ?_
          first | refine w_cond rfl (fun hI4 => ?_) (fun hI4 => ?_) | refine w_condB rfl (fun hI4 => ?_) (fun hI4 => ?_)
          · refine w_seq ?_
            refine w_region ?_
            refine w_o rfl rfl rfl (op_assign rfl ?_)
            refine w_end ?_
            refine seq_normal ?_
            refine w_ret ?_
            refine seq_ret ?_
            refine block_ret ?_
            refine seq_ret ?_
            refine loop_ret ?_
            refine block_ret ?_
            refine seq_ret ?_
            exact ret_ret rfl (.refl _) rfl
          · refine w_skip ?_
            refine seq_normal ?_
            refine w_seq ?_
            refine w_region ?_
            refine w_o rfl rfl rfl (op_move rfl ?_)
            refine w_o rfl rfl rfl (op_move rfl ?_)
            refine w_o rfl rfl rfl (op_move rfl ?_)
            refine w_o rfl rfl rfl (op_indexT (enc := encC) (xs := ls) (j := i) und_22 siz_28 rfl rfl (g1.sub subs_) (fun _ => rfl) rfl (by omega) fun b59 o59 z59 h59 e59 => ?_)
            refine w_o rfl rfl rfl (op_load1 agg_28 rfl el_ ?_)
            refine w_o rfl rfl rfl (op_call rfl rfl rfl ?_)
            refine Add_w hH hE (g3 i z59 x h59 hx) (by omega) (by omega) (by omega) fun f c' cs' N' Nx hand' ct' E' hH' hE' hR => ?_
            obtain ⟨hok', hlast⟩ := addR_ok hR hok (by omega)
            have hEl' := hok'.1
            refine w_o rfl rfl rfl (op_assign rfl ?_)
            refine w_end ?_
            refine seq_normal ?_
            refine w_seq ?_
            refine w_region ?_
            refine w_o rfl rfl rfl (op_move rfl ?_)
            refine w_o rfl rfl rfl (op_call rfl rfl rfl ?_)
            refine histAll_w (L := E') (List.Mem.head _) ⟨cs', hH'.sl.sub (fun y hy => List.Mem.tail _ (List.mem_append_left _ hy)), hE'.1, fun j d y a b => (hE'.2 j d y a b).sub (fun y hy => List.Mem.tail _ (List.mem_append_right _ (by rw [← List.append_assoc]; exact List.mem_append_left _ hy)))⟩ (by omega) (fun y hy => by have := (hok'.2.1 y hy).2.1; omega) fun c63 N63 hA => ?_
            obtain ⟨al, u1, u2, u3⟩ := hA
            refine w_o rfl rfl rfl (op_assign rfl ?_)
            refine w_end ?_
            refine seq_normal ?_
            refine w_cut (fun e G' => N63 ++ ((p, hRow c' hand' ct' (qm + 1) (qn + 1)) :: (N' ++ (Nx ++ (Ne ++ H)))) = G' ∧ e = [(0, .one (.c c0)), (7, vI (qm + 1)), (8, vI (qn + 1)), (9, ptrV p 0), (11, vI (i : Nat)), (13, .one (.c c63))]) ?_ ?_
            · refine w_seq ?_
              refine w_drawF (N63 ++ ((p, hRow c' hand' ct' (qm + 1) (qn + 1)) :: (N' ++ (Nx ++ (Ne ++ H))))) sel_ (by decide +kernel) (by decide +kernel) ?_
              refine f_b (guard_none rfl) rfl rfl rfl rfl (op_move rfl ?_)
              refine f_b (guard_none rfl) rfl rfl rfl rfl (op_eq rfl rfl ?_)
              refine f_b (guard_none rfl) rfl rfl rfl rfl (op_move rfl ?_)
              first | refine f_known (t := 66) rfl (fun g66 => ?_) (fun g66 => ?_) | refine f_knownB (t := 66) rfl (fun g66 => ?_) (fun g66 => ?_)
              · refine f_b (guard_some rfl rfl rfl rfl) rfl rfl rfl rfl (op_move rfl ?_)
                refine f_b (guard_some rfl rfl rfl rfl) rfl rfl rfl rfl (op_move rfl ?_)
                refine f_b (guard_some rfl rfl rfl rfl) rfl rfl rfl rfl (op_indexT (enc := encC) (xs := ls) (j := i) und_22 siz_28 rfl rfl (g1.sub subs_) (fun _ => rfl) rfl (by omega) fun b69 o69 z69 h69 e69 => ?_)
                refine f_a (guard_some rfl rfl rfl rfl) rfl rfl rfl (by decide +kernel) (op_load1 agg_28 rfl el_ ?_)
                refine f_b (guard_some rfl rfl rfl rfl) rfl rfl rfl rfl (op_lenC und_28 rfl (g3 i z69 x h69 hx).lenC ?_)
                refine f_b (guard_some rfl rfl rfl rfl) rfl rfl rfl rfl (op_gt rfl rfl ?_)
                refine f_b (guard_none rfl) rfl rfl rfl rfl (op_pick rfl rfl rfl ?_)
                refine f_b (guard_none rfl) rfl rfl rfl rfl (op_move rfl ?_)
                first | refine f_known (t := 74) rfl (fun g74 => ?_) (fun g74 => ?_) | refine f_knownB (t := 74) rfl (fun g74 => ?_) (fun g74 => ?_)
                · obtain ⟨hl1, hl2⟩ := hlast g66 (by omega)
                  refine f_b (guard_some rfl rfl rfl rfl) rfl rfl rfl rfl (op_move rfl ?_)
                  refine f_b (guard_some rfl rfl rfl rfl) rfl rfl rfl rfl (op_lenC und_22 rfl u1.lenC ?_)
                  refine f_b (guard_some rfl rfl rfl rfl) rfl rfl rfl rfl (op_eq rfl rfl ?_)
                  refine f_b (guard_some rfl rfl rfl rfl) rfl rfl rfl rfl (op_move rfl ?_)
                  first | refine f_known (t := 78) rfl (fun g78 => ?_) (fun g78 => ?_) | refine f_knownB (t := 78) rfl (fun g78 => ?_) (fun g78 => ?_)
                  · exact absurd g78 (by omega) --closed
                  · refine f_b (guard_some rfl rfl rfl rfl) rfl rfl rfl rfl (op_move rfl ?_)
                    refine f_b (guard_some rfl rfl rfl rfl) rfl rfl rfl rfl (op_move rfl ?_)
                    refine f_b (guard_some rfl rfl rfl rfl) rfl rfl rfl rfl (op_lenC und_22 rfl u1.lenC ?_)
                    refine f_b (guard_some rfl rfl rfl rfl) rfl rfl rfl rfl (op_subi rfl rfl (by omega) (by omega) ?_)
                    refine f_b (guard_some rfl rfl rfl rfl) rfl rfl rfl rfl (op_indexT (enc := encC) (xs := al) (j := al.length - 1) und_22 siz_28 rfl rfl (u1.sub subs_) (fun _ => rfl) (by omega) (by omega) fun b83 o83 z83 h83 e83 => ?_)
                    refine f_l (guard_some rfl rfl rfl rfl) rfl rfl rfl sel_ (op_load1 agg_28 rfl el_ rfl) ?_
                    refine f_b (guard_some rfl rfl rfl rfl) rfl rfl rfl rfl (op_move rfl ?_)
                    refine f_b (guard_some rfl rfl rfl rfl) rfl rfl rfl rfl (op_move rfl ?_)
                    refine f_b (guard_some rfl rfl rfl rfl) rfl rfl rfl rfl (op_indexT (enc := encC) (xs := ls) (j := i) und_22 siz_28 rfl rfl (g1.sub subs_) (fun _ => rfl) rfl (by omega) fun b87 o87 z87 h87 e87 => ?_)
                    refine f_a (guard_some rfl rfl rfl rfl) rfl rfl rfl (by decide +kernel) (op_load1 agg_28 rfl el_ ?_)
                    refine f_m (guard_some rfl rfl rfl rfl) rfl rfl rfl (op_call rfl rfl rfl ?_)
                    refine R04With_w (g3 i z87 x h87 hx) subs_ (by omega) fun c89 N89 h89 => ?_
                    refine ⟨sel_, ?_⟩
                    refine f_m (guard_some rfl rfl rfl rfl) rfl rfl rfl (op_call rfl rfl rfl ?_)
                    rw [show al.length - 1 = E'.length - 1 by omega] at h83
                    refine R04Same_w (l := withS x 3) (l' := withS x 3) ((u3 _ z83 _ h83 hl2).sub subs_) (h89.slT (fun _ => rfl) (by decide) (fun y hy => List.mem_append_left _ hy)) (by rw [withS_len]; omega) ?_
                    rw [decide_eq_true (rfl : withS x 3 = withS x 3)]
                    refine ⟨sel_, ?_⟩
                    refine f_b (guard_some rfl rfl rfl rfl) rfl rfl rfl rfl (op_not rfl ?_)
                    refine f_b (guard_some rfl rfl rfl rfl) rfl rfl rfl rfl (op_pick rfl rfl rfl ?_)
                    refine f_b (guard_none rfl) rfl rfl rfl rfl (op_pick rfl rfl rfl ?_)
                    refine f_b (guard_none rfl) rfl rfl rfl rfl (op_move rfl ?_)
                    refine f_b (guard_some rfl rfl rfl rfl) rfl rfl rfl rfl (op_move rfl ?_)
                    refine f_b (guard_some rfl rfl rfl rfl) rfl rfl rfl rfl (op_lenC und_22 rfl u1.lenC ?_)
                    refine f_b (guard_some rfl rfl rfl rfl) rfl rfl rfl rfl (op_move rfl ?_)
                    refine f_b (guard_some rfl rfl rfl rfl) rfl rfl rfl rfl (op_gt rfl rfl ?_)
                    refine f_b (guard_none rfl) rfl rfl rfl rfl (op_pick rfl rfl rfl ?_)
                    refine f_end ?_
                    refine seq_normal ?_
                    refine w_condN rfl (by omega) ?_
                    refine w_skip ?_
                    exact mid_normal ⟨rfl, rfl⟩ env_ sel_
                · refine f_u (guard_some rfl rfl rfl rfl) rfl rfl sel_ ?_
                  refine f_u (guard_some rfl rfl rfl rfl) rfl rfl sel_ ?_
                  refine f_u (guard_some rfl rfl rfl rfl) rfl rfl sel_ ?_
                  refine f_u (guard_some rfl rfl rfl rfl) rfl rfl sel_ ?_
                  refine f_u (guard_some rfl rfl rfl rfl) rfl rfl sel_ ?_
                  refine f_u (guard_some rfl rfl rfl rfl) rfl rfl sel_ ?_
                  refine f_u (guard_some rfl rfl rfl rfl) rfl rfl sel_ ?_
                  refine f_u (guard_some rfl rfl rfl rfl) rfl rfl sel_ ?_
                  refine f_u (guard_some rfl rfl rfl rfl) rfl rfl sel_ ?_
                  refine f_u (guard_some rfl rfl rfl rfl) rfl rfl sel_ ?_
                  refine f_u (guard_some rfl rfl rfl rfl) rfl rfl sel_ ?_
                  refine f_u (guard_some rfl rfl rfl rfl) rfl rfl sel_ ?_
                  refine f_u (guard_some rfl rfl rfl rfl) rfl rfl sel_ ?_
                  refine f_u (guard_some rfl rfl rfl rfl) rfl rfl sel_ ?_
                  refine f_u (guard_some rfl rfl rfl rfl) rfl rfl sel_ ?_
                  refine f_u (guard_some rfl rfl rfl rfl) rfl rfl sel_ ?_
                  refine f_u (guard_some rfl rfl rfl rfl) rfl rfl sel_ ?_
                  refine f_u (guard_some rfl rfl rfl rfl) rfl rfl sel_ ?_
                  refine f_b (guard_none rfl) rfl rfl rfl rfl (op_pick rfl rfl rfl ?_)
                  refine f_b (guard_none rfl) rfl rfl rfl rfl (op_move rfl ?_)
                  refine f_b (guard_some rfl rfl rfl rfl) rfl rfl rfl rfl (op_move rfl ?_)
                  refine f_b (guard_some rfl rfl rfl rfl) rfl rfl rfl rfl (op_lenC und_22 rfl u1.lenC ?_)
                  refine f_b (guard_some rfl rfl rfl rfl) rfl rfl rfl rfl (op_move rfl ?_)
                  refine f_b (guard_some rfl rfl rfl rfl) rfl rfl rfl rfl (op_gt rfl rfl ?_)
                  refine f_b (guard_none rfl) rfl rfl rfl rfl (op_pick rfl rfl rfl ?_)
                  refine f_end ?_
                  refine seq_normal ?_
                  refine w_condN rfl (by omega) ?_
                  refine w_skip ?_
                  exact mid_normal ⟨rfl, rfl⟩ env_ sel_
              · refine f_u (guard_some rfl rfl rfl rfl) rfl rfl sel_ ?_
                refine f_u (guard_some rfl rfl rfl rfl) rfl rfl sel_ ?_
                refine f_u (guard_some rfl rfl rfl rfl) rfl rfl sel_ ?_
                refine f_u (guard_some rfl rfl rfl rfl) rfl rfl sel_ ?_
                refine f_u (guard_some rfl rfl rfl rfl) rfl rfl sel_ ?_
                refine f_u (guard_some rfl rfl rfl rfl) rfl rfl sel_ ?_
                refine f_b (guard_none rfl) rfl rfl rfl rfl (op_pick rfl rfl rfl ?_)
                refine f_b (guard_none rfl) rfl rfl rfl rfl (op_move rfl ?_)
                refine f_u (guard_some rfl rfl rfl rfl) rfl rfl sel_ ?_
                refine f_u (guard_some rfl rfl rfl rfl) rfl rfl sel_ ?_
                refine f_u (guard_some rfl rfl rfl rfl) rfl rfl sel_ ?_
                refine f_u (guard_some rfl rfl rfl rfl) rfl rfl sel_ ?_
                refine f_u (guard_some rfl rfl rfl rfl) rfl rfl sel_ ?_
                refine f_u (guard_some rfl rfl rfl rfl) rfl rfl sel_ ?_
                refine f_u (guard_some rfl rfl rfl rfl) rfl rfl sel_ ?_
                refine f_u (guard_some rfl rfl rfl rfl) rfl rfl sel_ ?_
                refine f_u (guard_some rfl rfl rfl rfl) rfl rfl sel_ ?_
                refine f_u (guard_some rfl rfl rfl rfl) rfl rfl sel_ ?_
                refine f_u (guard_some rfl rfl rfl rfl) rfl rfl sel_ ?_
                refine f_u (guard_some rfl rfl rfl rfl) rfl rfl sel_ ?_
                refine f_u (guard_some rfl rfl rfl rfl) rfl rfl sel_ ?_
                refine f_u (guard_some rfl rfl rfl rfl) rfl rfl sel_ ?_
                refine f_u (guard_some rfl rfl rfl rfl) rfl rfl sel_ ?_
                refine f_u (guard_some rfl rfl rfl rfl) rfl rfl sel_ ?_
                refine f_u (guard_some rfl rfl rfl rfl) rfl rfl sel_ ?_
                refine f_u (guard_some rfl rfl rfl rfl) rfl rfl sel_ ?_
                refine f_b (guard_none rfl) rfl rfl rfl rfl (op_pick rfl rfl rfl ?_)
                refine f_b (guard_none rfl) rfl rfl rfl rfl (op_move rfl ?_)
                refine f_b (guard_some rfl rfl rfl rfl) rfl rfl rfl rfl (op_move rfl ?_)
                refine f_b (guard_some rfl rfl rfl rfl) rfl rfl rfl rfl (op_lenC und_22 rfl u1.lenC ?_)
                refine f_b (guard_some rfl rfl rfl rfl) rfl rfl rfl rfl (op_move rfl ?_)
                refine f_b (guard_some rfl rfl rfl rfl) rfl rfl rfl rfl (op_gt rfl rfl ?_)
                refine f_b (guard_none rfl) rfl rfl rfl rfl (op_pick rfl rfl rfl ?_)
                refine f_end ?_
                refine seq_normal ?_
                refine w_condN rfl (by omega) ?_
                refine w_skip ?_
                exact mid_normal ⟨rfl, rfl⟩ env_ sel_
            · rintro e G' ⟨rfl, rfl⟩
              refine w_seq ?_
              refine w_region ?_
              refine w_o rfl rfl rfl (op_assign rfl ?_)
              refine w_end ?_
              refine seq_normal ?_
              refine w_block ?_
              refine w_loop (fun q e G' => ∃ (k : Nat), k ≤ E'.length ∧ q = E'.length - k ∧ N63 ++ ((p, hRow c' hand' ct' (qm + 1) (qn + 1)) :: (N' ++ (Nx ++ (Ne ++ H)))) = G' ∧ e = [(0, .one (.c c0)), (7, vI (qm + 1)), (8, vI (qn + 1)), (9, ptrV p 0), (11, vI (i : Nat)), (13, .one (.c c63)), (14, vI (k : Nat))]) ?_ ?_
              · exact ⟨_, _, _, ⟨0, Nat.zero_le _, rfl, rfl, rfl⟩, env_, sel_⟩
              · rintro q e G' ⟨k, hk, rfl, rfl, rfl⟩
                refine w_seq ?_
                refine w_seq ?_
                refine w_region ?_
                refine w_o rfl rfl rfl (op_move rfl ?_)
                refine w_o rfl rfl rfl (op_move rfl ?_)
                refine w_o rfl rfl rfl (op_lenC und_22 rfl u1.lenC ?_)
                refine w_o rfl rfl rfl (op_lt rfl rfl ?_)
                refine w_end ?_
                refine seq_normal ?_
                first | refine w_cond rfl (fun hI6 => ?_) (fun hI6 => ?_) | refine w_condB rfl (fun hI6 => ?_) (fun hI6 => ?_)
                · obtain ⟨y, hy⟩ : ∃ y, E'[k]? = some y := ⟨_, List.getElem?_eq_getElem (by omega)⟩
                  have hyk := hok'.2.1 y (List.mem_of_getElem? hy)
                  refine w_skip ?_
                  refine seq_normal ?_
                  refine w_seq ?_
                  refine w_block ?_
                  refine w_seq ?_
                  refine w_seq ?_
                  refine w_drawF (N63 ++ ((p, hRow c' hand' ct' (qm + 1) (qn + 1)) :: (N' ++ (Nx ++ (Ne ++ H))))) sel_ (by decide +kernel) (by decide +kernel) ?_
                  refine f_b (guard_none rfl) rfl rfl rfl rfl (op_move rfl ?_)
                  refine f_b (guard_none rfl) rfl rfl rfl rfl (op_move rfl ?_)
                  refine f_b (guard_none rfl) rfl rfl rfl rfl (op_indexT (enc := encC) (xs := al) (j := k) und_22 siz_28 rfl rfl u1 (fun _ => rfl) rfl (by omega) fun b108 o108 z108 h108 e108 => ?_)
                  refine f_a (guard_none rfl) rfl rfl rfl (by decide +kernel) (op_load1 agg_28 rfl el_ ?_)
                  refine f_b (guard_none rfl) rfl rfl rfl rfl (op_lenC und_28 rfl (u3 k z108 y h108 hy).lenC ?_)
                  refine f_b (guard_none rfl) rfl rfl rfl rfl (op_eq rfl rfl ?_)
                  refine f_b (guard_none rfl) rfl rfl rfl rfl (op_move rfl ?_)
                  first | refine f_known (t := 112) rfl (fun g112 => ?_) (fun g112 => ?_) | refine f_knownB (t := 112) rfl (fun g112 => ?_) (fun g112 => ?_)
                  · exact absurd g112 (by omega) --closed
                  · refine f_b (guard_some rfl rfl rfl rfl) rfl rfl rfl rfl (op_move rfl ?_)
                    refine f_b (guard_some rfl rfl rfl rfl) rfl rfl rfl rfl (op_move rfl ?_)
                    refine f_b (guard_some rfl rfl rfl rfl) rfl rfl rfl rfl (op_indexT (enc := encC) (xs := al) (j := k) und_22 siz_28 rfl rfl u1 (fun _ => rfl) rfl (by omega) fun b115 o115 z115 h115 e115 => ?_)
                    refine f_a (guard_some rfl rfl rfl rfl) rfl rfl rfl (by decide +kernel) (op_load1 agg_28 rfl el_ ?_)
                    refine f_b (guard_some rfl rfl rfl rfl) rfl rfl rfl rfl (op_lenC und_28 rfl (u3 k z115 y h115 hy).lenC ?_)
                    refine f_b (guard_some rfl rfl rfl rfl) rfl rfl rfl rfl (op_move rfl ?_)
                    refine f_b (guard_some rfl rfl rfl rfl) rfl rfl rfl rfl (op_gt rfl rfl ?_)
                    refine f_b (guard_none rfl) rfl rfl rfl rfl (op_pick rfl rfl rfl ?_)
                    refine f_b (guard_none rfl) rfl rfl rfl rfl (op_move rfl ?_)
                    first | refine f_known (t := 121) rfl (fun g121 => ?_) (fun g121 => ?_) | refine f_knownB (t := 121) rfl (fun g121 => ?_) (fun g121 => ?_)
                    · exact absurd g121 (by omega) --closed
                    · refine f_b (guard_some rfl rfl rfl rfl) rfl rfl rfl rfl (op_move rfl ?_)
                      refine f_b (guard_some rfl rfl rfl rfl) rfl rfl rfl rfl (op_move rfl ?_)
                      refine f_b (guard_some rfl rfl rfl rfl) rfl rfl rfl rfl (op_indexT (enc := encC) (xs := al) (j := k) und_22 siz_28 rfl rfl u1 (fun _ => rfl) rfl (by omega) fun b124 o124 z124 h124 e124 => ?_)
                      refine f_l (guard_some rfl rfl rfl rfl) rfl rfl rfl sel_ (op_load1 agg_28 rfl el_ rfl) ?_
                      refine f_b (guard_some rfl rfl rfl rfl) rfl rfl rfl rfl (op_move rfl ?_)
                      refine f_b (guard_some rfl rfl rfl rfl) rfl rfl rfl rfl (op_move rfl ?_)
                      refine f_b (guard_some rfl rfl rfl rfl) rfl rfl rfl rfl (op_indexT (enc := encC) (xs := al) (j := k) und_22 siz_28 rfl rfl u1 (fun _ => rfl) rfl (by omega) fun b128 o128 z128 h128 e128 => ?_)
                      refine f_a (guard_some rfl rfl rfl rfl) rfl rfl rfl (by decide +kernel) (op_load1 agg_28 rfl el_ ?_)
                      refine f_m (guard_some rfl rfl rfl rfl) rfl rfl rfl (op_call rfl rfl rfl ?_)
                      refine R04With_w (u3 k z128 y h128 hy) (fun y hy => hy) (by omega) fun c130 N130 h130 => ?_
                      refine ⟨sel_, ?_⟩
                      refine f_m (guard_some rfl rfl rfl rfl) rfl rfl rfl (op_call rfl rfl rfl ?_)
                      refine R04Same_w (l := y) (l' := withS y 3) ((u3 k z124 y h124 hy).app) (h130.slT (fun _ => rfl) (by decide) (fun y hy => List.mem_append_left _ hy)) (by omega) ?_
                      rw [decide_eq_true ((withS_eq hyk.2.2).2 rfl : y = withS y 3)]
                      refine ⟨sel_, ?_⟩
                      refine f_b (guard_some rfl rfl rfl rfl) rfl rfl rfl rfl (op_not rfl ?_)
                      refine f_b (guard_none rfl) rfl rfl rfl rfl (op_pick rfl rfl rfl ?_)
                      refine f_end ?_
                      refine seq_normal ?_
                      refine w_condF rfl ?_
                      refine w_skip ?_
                      refine seq_normal ?_
                      refine w_seq ?_
                      refine w_region ?_
                      refine w_o rfl rfl rfl (op_assign rfl ?_)
                      refine w_end ?_
                      refine seq_normal ?_
                      refine w_block ?_
                      refine w_loop (fun q e G' => ∃ (j : Nat), j ≤ k ∧ q = k - j ∧ N63 ++ ((p, hRow c' hand' ct' (qm + 1) (qn + 1)) :: (N' ++ (Nx ++ (Ne ++ H)))) = G' ∧ e = [(0, .one (.c c0)), (7, vI (qm + 1)), (8, vI (qn + 1)), (9, ptrV p 0), (11, vI (i : Nat)), (13, .one (.c c63)), (14, vI (k : Nat)), (15, vI (j : Nat))]) ?_ ?_
                      · exact ⟨_, _, _, ⟨0, Nat.zero_le _, rfl, rfl, rfl⟩, env_, sel_⟩
                      · rintro q e G' ⟨j, hj, rfl, rfl, rfl⟩
                        refine w_seq ?_
                        refine w_seq ?_
                        refine w_region ?_
                        refine w_o rfl rfl rfl (op_move rfl ?_)
                        refine w_o rfl rfl rfl (op_move rfl ?_)
                        refine w_o rfl rfl rfl (op_lt rfl rfl ?_)
                        refine w_end ?_
                        refine seq_normal ?_
                        first | refine w_cond rfl (fun hI8 => ?_) (fun hI8 => ?_) | refine w_condB rfl (fun hI8 => ?_) (fun hI8 => ?_)
                        · obtain ⟨w, hw⟩ : ∃ w, E'[j]? = some w := ⟨_, List.getElem?_eq_getElem (by omega)⟩
                          have hwk := hok'.2.1 w (List.mem_of_getElem? hw)
                          have hne : ¬ valsS w = valsS y := by
                            have h1 := (List.getElem?_eq_some_iff.1 hw)
                            have h2 := (List.getElem?_eq_some_iff.1 hy)
                            have := List.pairwise_iff_getElem.1 hok'.2.2 j k h1.1 h2.1 (by omega)
                            rw [h1.2, h2.2] at this
                            exact this
                          refine w_skip ?_
                          refine seq_normal ?_
                          refine w_seq ?_
                          refine w_block ?_
                          refine w_seq ?_
                          refine w_drawF (N63 ++ ((p, hRow c' hand' ct' (qm + 1) (qn + 1)) :: (N' ++ (Nx ++ (Ne ++ H))))) sel_ (by decide +kernel) (by decide +kernel) ?_
                          refine f_b (guard_none rfl) rfl rfl rfl rfl (op_move rfl ?_)
                          refine f_b (guard_none rfl) rfl rfl rfl rfl (op_move rfl ?_)
                          refine f_b (guard_none rfl) rfl rfl rfl rfl (op_indexT (enc := encC) (xs := al) (j := j) und_22 siz_28 rfl rfl u1 (fun _ => rfl) rfl (by omega) fun b141 o141 z141 h141 e141 => ?_)
                          refine f_a (guard_none rfl) rfl rfl rfl (by decide +kernel) (op_load1 agg_28 rfl el_ ?_)
                          refine f_m (guard_none rfl) rfl rfl rfl (op_call rfl rfl rfl ?_)
                          refine R04Values_w (u3 j z141 w h141 hw) (fun y hy => hy) (by omega) fun c143 N143 h143 => ?_
                          refine ⟨sel_, ?_⟩
                          refine f_b (guard_none rfl) rfl rfl rfl rfl (op_move rfl ?_)
                          refine f_b (guard_none rfl) rfl rfl rfl rfl (op_move rfl ?_)
                          refine f_b (guard_none rfl) rfl rfl rfl rfl (op_indexT1 (enc := encC) (xs := al) (j := k) und_22 siz_28 rfl rfl u1 (fun _ => rfl) rfl (by omega) fun b146 o146 z146 h146 e146 => ?_)
                          refine f_l (guard_none rfl) rfl rfl rfl sel_ (op_load1 agg_28 rfl el_ rfl) ?_
                          refine f_m (guard_none rfl) rfl rfl rfl (op_call rfl rfl rfl ?_)
                          refine R04Values_w (u3 k z146 y h146 hy) (fun y hy => List.mem_append_right _ hy) (by omega) fun c148 N148 h148 => ?_
                          refine ⟨sel_, ?_⟩
                          refine f_m (guard_none rfl) rfl rfl rfl (op_call rfl rfl rfl ?_)
                          refine R01Ints_w (l := valsS w) (l' := valsS y) (h143.slT (fun _ => rfl) (by decide) (fun y hy => List.mem_append_right _ (List.mem_append_left _ hy))) (h148.slT (fun _ => rfl) (by decide) (fun y hy => List.mem_append_left _ hy)) (by rw [valsS_len]; omega) ?_
                          rw [decide_eq_false hne]
                          refine ⟨sel_, ?_⟩
                          refine f_end ?_
                          refine seq_normal ?_
                          refine w_condF rfl ?_
                          refine w_skip ?_
                          refine block_normal ?_
                          refine seq_normal ?_
                          refine w_region ?_
                          refine w_o rfl rfl rfl (op_move rfl ?_)
                          refine w_o rfl rfl rfl (op_addi rfl rfl (by omega) (by omega) ?_)
                          refine w_o rfl rfl rfl (op_assign rfl ?_)
                          refine w_end ?_
                          exact loop_normal (k' := k - (j + 1)) (by omega) ⟨j + 1, by omega, rfl, rfl, rfl⟩ env_ sel_
                        · refine w_exit ?_
                          refine seq_exit ?_
                          refine loop_exit ?_
                          refine block_hit rfl ?_
                          refine block_normal ?_
                          refine seq_normal ?_
                          refine w_region ?_
                          refine w_o rfl rfl rfl (op_move rfl ?_)
                          refine w_o rfl rfl rfl (op_addi rfl rfl (by omega) (by omega) ?_)
                          refine w_o rfl rfl rfl (op_assign rfl ?_)
                          refine w_end ?_
                          exact loop_normal (k' := E'.length - (k + 1)) (by omega) ⟨k + 1, by omega, rfl, rfl, rfl⟩ env_ sel_
                · refine w_exit ?_
                  refine seq_exit ?_
                  refine loop_exit ?_
                  refine block_hit rfl ?_
                  refine block_normal ?_
                  refine seq_normal ?_
                  refine w_region ?_
                  refine w_o rfl rfl rfl (op_move rfl ?_)
                  refine w_o rfl rfl rfl (op_addi rfl rfl (by omega) (by omega) ?_)
                  refine w_o rfl rfl rfl (op_assign rfl ?_)
                  refine w_end ?_
                  exact loop_normal (k' := L.length - (i + 1)) (by omega) ⟨i + 1, c', cs', N', Nx ++ Ne, hand', ct', E', by omega, rfl, hH', hE', hok', rfl, rfl⟩ env_ sel_
        · refine w_exit ?_
          refine seq_exit ?_
          refine loop_exit ?_
          refine block_hit rfl ?_
          refine seq_normal ?_
          refine w_seq ?_
          refine w_region ?_
          refine w_o rfl rfl rfl (op_assign rfl ?_)
          refine w_end ?_
          refine seq_normal ?_
          refine w_ret ?_
          exact ret_ret rfl (.refl _) rfl
end Go.Proofs.Ytajhjfgoefhdnaa.AM.B
