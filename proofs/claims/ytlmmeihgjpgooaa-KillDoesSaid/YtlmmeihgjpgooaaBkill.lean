/- What a ring of texts answers, over the abstract machine. -/
import Derived.Test.YtlmmeihgjpgooaaAX
import Derived.Test.YtlmmeihgjpgooaaBsign
set_option linter.unusedVariables false
set_option linter.unusedSimpArgs false
set_option maxRecDepth 10000
set_option maxHeartbeats 4000000
namespace Go.Proofs.Ytlmmeihgjpgooaa.AM.B
open Go Go.RowKit
def ringRow (m : Nat) (fr tz hand most : Int) : Fact := .row true 106 1 [.map m, .int .i64 fr, .int .i64 tz, .int .i64 hand, .int .i64 most]
abbrev Ents := List (V1 × V1 × Nat)
structure RingOK (L : List (List Sign)) (es : Ents) (fr : Int) (NS : Hyp) : Prop where
  len : es.length = L.length
  key : ∀ (i : Nat) (x : V1 × V1 × Nat), es[i]? = some x → x.1 = .c (.int .i64 (fr + i))
  sl : ∀ (i : Nat) (x : V1 × V1 × Nat) (l : List Sign), es[i]? = some x → L[i]? = some l → ∃ c, x.2.1 = .c c ∧ Sl NS 46 2 c l.length (l.flatMap encS)
theorem RingOK.mono {L : List (List Sign)} {es : Ents} {fr : Int} {NS NS' : Hyp} (h : RingOK L es fr NS) (hs : ∀ y ∈ NS, y ∈ NS') : RingOK L es fr NS' :=
  ⟨h.len, h.key, fun i x l h1 h2 => by obtain ⟨c, q1, q2⟩ := h.sl i x l h1 h2; exact ⟨c, q1, q2.sub hs⟩⟩
theorem findA_at {fr k : Int} : ∀ {es : Ents} {a : Nat}, (∀ (i : Nat) (x : V1 × V1 × Nat), es[i]? = some x → x.1 = .c (.int .i64 (fr + i))) →
    findA (.int .i64) (.c (.int .i64 k)) es a = some (if fr ≤ k then (es[(k - fr).toNat]?).map (fun x => (a + (k - fr).toNat, x.2.1)) else none)
  | [], a, h => by simp [findA]
  | x :: es, a, h => by
    have hx : x.1 = .c (.int .i64 fr) := by simpa using h 0 x rfl
    have ih := findA_at (fr := fr + 1) (k := k) (es := es) (a := a + 1) (fun i y hy => by
      have := h (i + 1) y (by simpa using hy)
      rw [this, show fr + ((i + 1 : Nat) : Int) = fr + 1 + (i : Int) by omega])
    simp only [findA, sameKey, hx]
    by_cases e : k = fr
    · subst e; simp
    · have e1 : (k == fr) = false := by simp [e]
      rw [if_pos trivial, e1]
      simp only [ih]
      by_cases h2 : fr ≤ k
      · rw [if_pos h2, if_pos (by omega)]
        have e3 : (k - fr).toNat = (k - (fr + 1)).toNat + 1 := by omega
        rw [e3, List.getElem?_cons_succ]
        congr 3
        funext y
        congr 1; omega
      · rw [if_neg h2, if_neg (by omega)]
theorem RingOK.find {L : List (List Sign)} {es : Ents} {fr : Int} {NS : Hyp} (h : RingOK L es fr NS) (k : Int) :
    findA (.int .i64) (.c (.int .i64 k)) es 0 = some (if fr ≤ k then (es[(k - fr).toNat]?).map (fun x => ((k - fr).toNat, x.2.1)) else none) := by
  have := findA_at (k := k) (a := 0) h.key
  simpa using this
/-- What is found under a number: a text, or none. -/
theorem RingOK.look {L : List (List Sign)} {es : Ents} {fr : Int} {NS : Hyp} (h : RingOK L es fr NS) (k : Int) (hk : fr ≤ k → k < fr + L.length → False) :
    findA (.int .i64) (.c (.int .i64 k)) es 0 = some none := by
  rw [h.find k]
  by_cases h2 : fr ≤ k
  · rw [if_pos h2, List.getElem?_eq_none]; rfl
    have : ¬ (k < fr + L.length) := hk h2
    rw [h.len]; omega
  · rw [if_neg h2]
theorem RingOK.look_at {L : List (List Sign)} {es : Ents} {fr : Int} {NS : Hyp} (h : RingOK L es fr NS) {i : Nat} {l : List Sign} (hl : L[i]? = some l) :
    ∃ c, findA (.int .i64) (.c (.int .i64 (fr + i))) es 0 = some (some (i, .c c)) ∧ Sl NS 46 2 c l.length (l.flatMap encS) := by
  have hi := (List.getElem?_eq_some_iff.1 hl).1
  have hi' : i < es.length := by rw [h.len]; exact hi
  have hx : es[i]? = some es[i] := List.getElem?_eq_getElem hi'
  obtain ⟨c, h1, h2⟩ := h.sl i _ l hx hl
  refine ⟨c, ?_, h2⟩
  rw [h.find, if_pos (by omega), show (fr + (i : Int) - fr).toNat = i by omega, hx]
  simp [h1]
def lastL (L : List (List Sign)) : List Sign := L.getLastD []
def joinM (L : List (List Sign)) (l : List Sign) (how : Int) : List Sign := if L.length = 0 ∨ how = 0 then l else if how = 1 then lastL L ++ l else l ++ lastL L
def outM (L : List (List Sign)) (l : List Sign) (how : Int) : List (List Sign) := if L.length = 0 ∨ how = 0 then L ++ [l] else L.dropLast ++ [joinM L l how]
def pushM (L : List (List Sign)) (l : List Sign) (how : Int) (most : Int) : List (List Sign) := if (outM L l how).length > most then (outM L l how).drop 1 else outM L l how
theorem outM_len (L : List (List Sign)) (l : List Sign) (how : Int) : (outM L l how).length = if L.length = 0 ∨ how = 0 then L.length + 1 else L.length := by
  unfold outM
  split
  · simp
  · rename_i h
    have : L.length ≠ 0 := fun q => h (.inl q)
    simp; omega
theorem getLastD_at {L : List (List Sign)} (h : L.length ≠ 0) : L[L.length - 1]? = some (lastL L) := by
  unfold lastL
  cases L with
  | nil => simp at h
  | cons a l =>
    have : (a :: l).getLastD [] = (a :: l).getLast (by simp) := by simp [List.getLastD, List.getLast?_eq_some_getLast]
    rw [this, List.getLast_eq_getElem, List.getElem?_eq_getElem]
section
variable {H : Hyp} {K : V → Hyp → Prop} {p m clock : Nat} {fr tz hand most : Int} {L : List (List Sign)} {es : Ents} {NS : Hyp}
theorem Len_w (hp : (p, ringRow m fr tz hand most) ∈ H) (h1 : 0 ≤ fr) (h2 : fr ≤ 1000000) (h3 : 0 ≤ tz) (h4 : tz ≤ 1000000) (k : K (vI (tz - fr)) H) : CallW Try.prog Xs 46 [ptrV p 0] H K := by
  unfold ringRow at hp
  refine call_of (n := 14) (fun _ => rfl) Try.func46 rfl rfl ?_
  refine w_seq ?_
  refine w_region ?_
  refine w_o rfl rfl rfl (op_assign rfl ?_)
  refine w_end ?_
  refine seq_normal ?_
  refine w_seq ?_
  refine w_seq ?_
  refine w_region ?_
  refine w_o rfl rfl rfl (op_move rfl ?_)
  refine w_o rfl rfl rfl (op_nilEq rfl rfl rfl (by simp only [nilKind, und_51]) ?_)
  refine w_end ?_
  refine seq_normal ?_
  refine w_condF rfl ?_
  refine w_skip ?_
  refine seq_normal ?_
  refine w_seq ?_
  refine w_draw (by decide +kernel) (by decide +kernel) ?_
  refine w_d rfl rfl rfl (op_move rfl ?_)
  refine w_d rfl rfl rfl (op_nilCheck rfl ?_)
  refine w_d rfl rfl rfl (op_fieldAddr fa_106_2 rfl ?_)
  refine w_d rfl rfl rfl (op_loadF agg_3 rfl el_ rfl ?_)
  refine w_d rfl rfl rfl (op_move rfl ?_)
  refine w_d rfl rfl rfl (op_nilCheck rfl ?_)
  refine w_d rfl rfl rfl (op_fieldAddr fa_106_1 rfl ?_)
  refine w_d rfl rfl rfl (op_loadF agg_3 rfl el_ rfl ?_)
  refine w_d rfl rfl rfl (op_subi rfl rfl (by omega) (by omega) ?_)
  refine w_d rfl rfl rfl (op_assign rfl ?_)
  refine w_end ?_
  refine seq_normal ?_
  refine w_ret ?_
  exact ret_ret rfl sel_ k
theorem joined_w {c : Cell} {l : List Sign} {how : Int} {M : Nat} (hp : (p, ringRow m fr tz hand most) ∈ H) (hto : tz = fr + L.length) (hm : (m, Fact.map es clock) ∈ H) (hr : RingOK L es fr NS) (hN : ∀ y ∈ NS, y ∈ H) (hl : Sl H 46 2 c l.length (l.flatMap encS))
    (h1 : 0 ≤ fr) (h2 : fr ≤ 100000) (h4 : L.length ≤ 1000) (hM : ∀ t ∈ L, t.length ≤ M) (hM2 : M + l.length ≤ 100000)
    (k : ∀ c' N, Own 46 2 c' ((joinM L l how).flatMap encS) N → K (.one (.c c')) (N ++ H)) : CallW Try.prog Xs 92 [ptrV p 0, .one (.c c), vI how] H K := by
  have hlast : ∃ r cz, findA (.int .i64) (.c (.int .i64 (tz - 1))) es 0 = some r ∧ lookV (.c .nils) r = .c cz ∧ (L.length ≠ 0 → Sl H 46 2 cz (lastL L).length ((lastL L).flatMap encS)) := by
    by_cases h0 : L.length = 0
    · refine ⟨none, .nils, hr.look _ (fun a b => by omega), rfl, fun q => absurd h0 q⟩
    · obtain ⟨cz, q1, q2⟩ := hr.look_at (getLastD_at h0)
      refine ⟨_, cz, by rw [show tz - 1 = fr + ((L.length - 1 : Nat) : Int) by omega]; exact q1, rfl, fun _ => q2.sub hN⟩
  obtain ⟨r, cz, hf, hz, hcz⟩ := hlast
  have hlm : L.length ≠ 0 → (lastL L).length ≤ M := fun h0 => hM _ (List.mem_of_getElem? (getLastD_at h0))
  have hp' := hp
  unfold ringRow at hp
  refine call_of (n := 39) (fun _ => rfl) Try.func92 rfl rfl ?_
  refine w_seq ?_
  refine w_region ?_
  refine w_o rfl rfl rfl (op_assign rfl ?_)
  refine w_end ?_
  refine seq_normal ?_
  refine w_seq ?_
  refine w_draw (by decide +kernel) (by decide +kernel) ?_
  refine w_d rfl rfl rfl (op_move rfl ?_)
  refine w_d rfl rfl rfl (op_nilCheck rfl ?_)
  refine w_d rfl rfl rfl (op_fieldAddr fa_106_0 rfl ?_)
  refine w_d rfl rfl rfl (op_loadF agg_104 rfl el_ rfl ?_)
  refine w_d rfl rfl rfl (op_move rfl ?_)
  refine w_d rfl rfl rfl (op_nilCheck rfl ?_)
  refine w_d rfl rfl rfl (op_fieldAddr fa_106_2 rfl ?_)
  refine w_d rfl rfl rfl (op_loadF agg_3 rfl el_ rfl ?_)
  refine w_d rfl rfl rfl (op_subi rfl rfl (by omega) (by omega) ?_)
  refine w_d rfl rfl rfl (op_lookup und_104 und_3 (z := .c .nils) (by kernel_rfl) rfl rfl hm rfl hf hz ?_)
  refine w_d rfl rfl rfl (op_assign rfl ?_)
  refine w_end ?_
  refine seq_normal ?_
  refine w_seq ?_
  refine w_block ?_
  refine w_seq ?_
  refine w_region ?_
  refine w_o rfl rfl rfl (op_move rfl ?_)
  refine w_o rfl rfl rfl (op_call rfl rfl rfl ?_)
  refine Len_w hp' h1 (by omega) (by omega) (by omega) ?_
  refine w_o rfl rfl rfl (op_eq rfl rfl ?_)
  refine w_o rfl rfl rfl (op_move rfl ?_)
  first | refine w_known (t := 22) rfl (fun g22 => ?_) (fun g22 => ?_) | refine w_knownB (t := 22) rfl (fun g22 => ?_) (fun g22 => ?_)
  · refine w_u rfl rfl rfl rfl rfl rfl ?_
    refine w_u rfl rfl rfl rfl rfl rfl ?_
    refine w_o rfl rfl rfl (op_pick rfl rfl rfl ?_)
    refine w_o rfl rfl rfl (op_assign rfl ?_)
    refine w_end ?_
    refine seq_normal ?_
    refine w_condT rfl ?_
    refine w_seq ?_
    refine w_region ?_
    refine w_o rfl rfl rfl (op_move rfl ?_)
    refine w_o rfl rfl rfl (op_call rfl rfl rfl ?_)
    have ej : joinM L l how = l := by unfold joinM; rw [if_pos (by omega)]
    refine CloneS_w hl (by omega) fun c' N hO => ?_
    rw [← ej] at hO
    refine w_o rfl rfl rfl (op_assign rfl ?_)
    refine w_end ?_
    refine seq_normal ?_
    refine w_ret ?_
    refine block_ret ?_
    refine seq_ret ?_
    exact ret_ret rfl sel_ (k _ _ hO)
  · refine w_og rfl rfl rfl rfl rfl (op_move rfl ?_)
    refine w_og rfl rfl rfl rfl rfl (op_eq rfl rfl ?_)
    refine w_o rfl rfl rfl (op_pick rfl rfl rfl ?_)
    refine w_o rfl rfl rfl (op_assign rfl ?_)
    refine w_end ?_
    refine seq_normal ?_
    first | refine w_cond rfl (fun hI1 => ?_) (fun hI1 => ?_) | refine w_condB rfl (fun hI1 => ?_) (fun hI1 => ?_)
    · refine w_seq ?_
      refine w_region ?_
      refine w_o rfl rfl rfl (op_move rfl ?_)
      refine w_o rfl rfl rfl (op_call rfl rfl rfl ?_)
      have ej : joinM L l how = l := by unfold joinM; rw [if_pos (by omega)]
      refine CloneS_w hl (by omega) fun c' N hO => ?_
      rw [← ej] at hO
      refine w_o rfl rfl rfl (op_assign rfl ?_)
      refine w_end ?_
      refine seq_normal ?_
      refine w_ret ?_
      refine block_ret ?_
      refine seq_ret ?_
      exact ret_ret rfl sel_ (k _ _ hO)
    · refine w_seq ?_
      refine w_region ?_
      refine w_o rfl rfl rfl (op_move rfl ?_)
      refine w_o rfl rfl rfl (op_eq rfl rfl ?_)
      refine w_o rfl rfl rfl (op_assign rfl ?_)
      refine w_end ?_
      refine seq_normal ?_
      first | refine w_cond rfl (fun hI2 => ?_) (fun hI2 => ?_) | refine w_condB rfl (fun hI2 => ?_) (fun hI2 => ?_)
      · have h0 : L.length ≠ 0 ∧ how ≠ 0 := ⟨by omega, by omega⟩
        have ej : joinM L l how = lastL L ++ l := by unfold joinM; rw [if_neg (by omega), if_pos hI2]
        have q0 := hlm h0.1
        have q1 := hcz h0.1
        refine w_seq ?_
        refine w_region ?_
        refine w_o rfl rfl rfl (op_move rfl ?_)
        refine w_o rfl rfl rfl (op_move rfl ?_)
        refine w_o rfl rfl rfl (op_buildSlice rfl (bsl_34 _ _ _ (rfl : _ = some [_, _]) rfl (by decide)) fun b33 => ?_)
        refine w_o rfl rfl rfl (op_call rfl rfl rfl ?_)
        refine ConcatS_w (cs := [cz, c]) (ll := [lastL L, l]) (Sl.of_row (List.Mem.head _) rfl) (fun i c' l' a b => ?_) rfl (by simp) (by simp; omega) fun c' N hO => ?_
        · match i with
          | 0 => simp at a b; subst a; subst b; exact q1.cons
          | 1 => simp at a b; subst a; subst b; exact hl.cons
          | i + 2 => simp at a
        have e2 : [lastL L, l].flatten = joinM L l how := by rw [ej]; simp
        rw [e2] at hO
        refine w_o rfl rfl rfl (op_assign rfl ?_)
        refine w_end ?_
        refine seq_normal ?_
        refine w_ret ?_
        refine block_ret ?_
        refine seq_ret ?_
        exact ret_ret rfl sel_ (k _ _ hO)
      · have h0 : L.length ≠ 0 ∧ how ≠ 0 := ⟨by omega, by omega⟩
        have ej : joinM L l how = l ++ lastL L := by unfold joinM; rw [if_neg (by omega), if_neg hI2]
        have q0 := hlm h0.1
        have q1 := hcz h0.1
        refine w_skip ?_
        refine block_normal ?_
        refine seq_normal ?_
        refine w_seq ?_
        refine w_region ?_
        refine w_o rfl rfl rfl (op_move rfl ?_)
        refine w_o rfl rfl rfl (op_move rfl ?_)
        refine w_o rfl rfl rfl (op_buildSlice rfl (bsl_34 _ _ _ (rfl : _ = some [_, _]) rfl (by decide)) fun b37 => ?_)
        refine w_o rfl rfl rfl (op_call rfl rfl rfl ?_)
        refine ConcatS_w (cs := [c, cz]) (ll := [l, lastL L]) (Sl.of_row (List.Mem.head _) rfl) (fun i c' l' a b => ?_) rfl (by simp) (by simp; omega) fun c' N hO => ?_
        · match i with
          | 0 => simp at a b; subst a; subst b; exact hl.cons
          | 1 => simp at a b; subst a; subst b; exact q1.cons
          | i + 2 => simp at a
        have e2 : [l, lastL L].flatten = joinM L l how := by rw [ej]; simp
        rw [e2] at hO
        refine w_o rfl rfl rfl (op_assign rfl ?_)
        refine w_end ?_
        refine seq_normal ?_
        refine w_ret ?_
        exact ret_ret rfl sel_ (k _ _ hO)
theorem ring_put {cx : Cell} {Nx : Hyp} {l : List Sign} {how : Int} {key : Int} (hr : RingOK L es fr NS) (hx : Sl Nx 46 2 cx (joinM L l how).length ((joinM L l how).flatMap encS)) (hkey : key = fr + (outM L l how).length - 1) :
    ∃ r es1 clock1, findA (.int .i64) (.c (.int .i64 key)) es 0 = some r ∧ putA es clock (.c (.int .i64 key)) (.c cx) r = .map es1 clock1 ∧ RingOK (outM L l how) es1 fr (Nx ++ NS) := by
  have hol := outM_len L l how
  by_cases h : L.length = 0 ∨ how = 0
  · rw [if_pos h] at hol
    refine ⟨none, _, _, hr.look _ (fun a b => by omega), rfl, ?_, ?_, ?_⟩
    · rw [List.length_append, hr.len, hol]; rfl
    · intro i x hi
      rw [List.getElem?_append] at hi
      split at hi
      · exact hr.key i x hi
      · rename_i h2
        have e1 : i - es.length = 0 := by
          rcases Nat.eq_zero_or_pos (i - es.length) with q | q
          · exact q
          · rw [List.getElem?_eq_none (by simp; omega)] at hi; cases hi
        rw [e1] at hi
        simp at hi
        subst hi
        have := hr.len
        show V1.c (.int .i64 key) = _
        rw [show key = fr + (i : Int) by omega]
    · intro i x l' hi hl'
      have eo : outM L l how = L ++ [l] := by unfold outM; rw [if_pos h]
      have ej : joinM L l how = l := by unfold joinM; rw [if_pos h]
      rw [eo] at hl'
      rw [ej] at hx
      rw [List.getElem?_append] at hi hl'
      rw [hr.len] at hi
      split at hi
      · rename_i h2
        rw [if_pos h2] at hl'
        obtain ⟨c, q1, q2⟩ := hr.sl i x l' hi hl'
        exact ⟨c, q1, q2.app⟩
      · rename_i h2
        rw [if_neg h2] at hl'
        have e1 : i - L.length = 0 := by
          rcases Nat.eq_zero_or_pos (i - L.length) with q | q
          · exact q
          · rw [List.getElem?_eq_none (by simp; omega)] at hi; cases hi
        rw [e1] at hi hl'
        simp at hi hl'
        subst hi; subst hl'
        exact ⟨cx, rfl, hx.sub fun y hy => List.mem_append_left _ hy⟩
  · rw [if_neg h] at hol
    have h0 : L.length ≠ 0 := fun q => h (.inl q)
    obtain ⟨c0, q1, q2⟩ := hr.look_at (getLastD_at h0)
    have eo : outM L l how = L.dropLast ++ [joinM L l how] := by unfold outM; rw [if_neg h]
    refine ⟨_, _, _, by rw [show key = fr + ((L.length - 1 : Nat) : Int) by omega]; exact q1, rfl, ?_, ?_, ?_⟩
    · rw [List.length_modify, hr.len, hol]
    · intro i x hi
      rw [List.getElem?_modify] at hi
      split at hi
      · rename_i e
        obtain ⟨y, hy, rfl⟩ := Option.map_eq_some_iff.1 hi
        show V1.c (.int .i64 key) = _
        rw [show key = fr + (i : Int) by omega]
      · simp at hi; exact hr.key i x hi
    · intro i x l' hi hl'
      rw [eo] at hl'
      rw [List.getElem?_modify] at hi
      rw [List.getElem?_append] at hl'
      simp only [List.length_dropLast] at hl'
      split at hi
      · rename_i e
        obtain ⟨y, hy, rfl⟩ := Option.map_eq_some_iff.1 hi
        rw [if_neg (by omega), show i - (L.length - 1) = 0 by omega] at hl'
        simp at hl'
        subst hl'
        exact ⟨cx, rfl, hx.sub fun y hy => List.mem_append_left _ hy⟩
      · rename_i e
        simp at hi
        have hi2 := (List.getElem?_eq_some_iff.1 hi).1
        rw [hr.len] at hi2
        rw [if_pos (by omega), List.getElem?_dropLast, if_pos (by omega)] at hl'
        obtain ⟨c, q3, q4⟩ := hr.sl i x l' hi hl'
        exact ⟨c, q3, q4.app⟩
theorem ring_del (hr : RingOK L es fr NS) (h0 : L.length ≠ 0) :
    ∃ r es2, findA (.int .i64) (.c (.int .i64 fr)) es 0 = some r ∧ delA es clock r = .map es2 clock ∧ RingOK (L.drop 1) es2 (fr + 1) NS := by
  obtain ⟨l0, hl0⟩ : ∃ l, L[0]? = some l := ⟨_, List.getElem?_eq_getElem (by omega)⟩
  obtain ⟨c0, q1, q2⟩ := hr.look_at hl0
  refine ⟨_, _, by simpa using q1, rfl, ?_, ?_, ?_⟩
  · rw [List.length_eraseIdx, if_pos (by rw [hr.len]; omega), hr.len, List.length_drop]
  · intro i x hi
    rw [List.eraseIdx_zero, List.getElem?_tail] at hi
    have := hr.key (i + 1) x hi
    rw [this, show fr + ((i + 1 : Nat) : Int) = fr + 1 + (i : Int) by omega]
  · intro i x l' hi hl'
    rw [List.eraseIdx_zero, List.getElem?_tail] at hi
    rw [List.getElem?_drop] at hl'
    exact hr.sl (i + 1) x l' hi (by rw [Nat.add_comm]; exact hl')
theorem Push_w {R : Hyp} {c : Cell} {l : List Sign} {how : Int} {M : Nat} (hto : tz = fr + L.length) (hr : RingOK L es fr NS) (hl : Sl R 46 2 c l.length (l.flatMap encS))
    (h1 : 0 ≤ fr) (h2 : fr ≤ 10000) (h4 : L.length ≤ 1000) (hM : ∀ t ∈ L, t.length ≤ M) (hM2 : M + l.length ≤ 60000)
    (k1 : (how < 0 ∨ 2 < how ∨ l.all rightS = false) → K (vI 2) ((p, ringRow m fr tz hand most) :: (m, .map es clock) :: (NS ++ R)))
    (k2 : 0 ≤ how → how ≤ 2 → l.all rightS = true → l.length = 0 → K (vI 0) ((p, ringRow m fr tz hand most) :: (m, .map es clock) :: (NS ++ R)))
    (k3 : 0 ≤ how → how ≤ 2 → l.all rightS = true → l.length ≠ 0 → ∀ es' clock' fr' tz' NS', RingOK (pushM L l how most) es' fr' NS' → tz' = fr' + (pushM L l how most).length → fr ≤ fr' → fr' ≤ fr + 1 → K (vI 0) ((p, ringRow m fr' tz' (tz' - 1) most) :: (m, .map es' clock') :: (NS' ++ R))) :
    CallW Try.prog Xs 43 [ptrV p 0, .one (.c c), vI how] ((p, ringRow m fr tz hand most) :: (m, .map es clock) :: (NS ++ R)) K := by
  have hol := outM_len L l how
  have hob : (outM L l how).length ≤ L.length + 1 ∧ 1 ≤ (outM L l how).length := by
    rw [hol]; split <;> omega
  have hjl : (joinM L l how).length ≤ M + l.length := by
    unfold joinM
    split
    · omega
    · rename_i q
      have : (lastL L).length ≤ M := hM _ (List.mem_of_getElem? (getLastD_at fun e => q (.inl e)))
      split <;> rw [List.length_append] <;> omega
  have hl' : Sl ((p, ringRow m fr tz hand most) :: (m, .map es clock) :: (NS ++ R)) 46 2 c l.length (l.flatMap encS) := hl.app.cons.cons
  refine call_of (n := 85) (fun _ => rfl) Try.func43 rfl rfl ?_
  refine w_seq ?_
  refine w_region ?_
  refine w_o rfl rfl rfl (op_assign rfl ?_)
  refine w_end ?_
  refine seq_normal ?_
  refine w_seq ?_
  refine w_seq ?_
  refine w_region ?_
  refine w_o rfl rfl rfl (op_move rfl ?_)
  refine w_o rfl rfl rfl (op_nilEq rfl rfl rfl (by simp only [nilKind, und_51]) ?_)
  refine w_end ?_
  refine seq_normal ?_
  refine w_condF rfl ?_
  refine w_skip ?_
  refine seq_normal ?_
  refine w_seq ?_
  refine w_seq ?_
  refine w_region ?_
  refine w_o rfl rfl rfl (op_move rfl ?_)
  refine w_o rfl rfl rfl (op_lt rfl rfl ?_)
  refine w_o rfl rfl rfl (op_move rfl ?_)
  first | refine w_known (t := 12) rfl (fun g12 => ?_) (fun g12 => ?_) | refine w_knownB (t := 12) rfl (fun g12 => ?_) (fun g12 => ?_)
  · refine w_u rfl rfl rfl rfl rfl rfl ?_
    refine w_u rfl rfl rfl rfl rfl rfl ?_
    refine w_o rfl rfl rfl (op_pick rfl rfl rfl ?_)
    refine w_o rfl rfl rfl (op_move rfl ?_)
    refine w_u rfl rfl rfl rfl rfl rfl ?_
    refine w_u rfl rfl rfl rfl rfl rfl ?_
    refine w_u rfl rfl rfl rfl rfl rfl ?_
    refine w_o rfl rfl rfl (op_pick rfl rfl rfl ?_)
    refine w_end ?_
    refine seq_normal ?_
    refine w_condT rfl ?_
    refine w_seq ?_
    refine w_region ?_
    refine w_o rfl rfl rfl (op_assign rfl ?_)
    refine w_end ?_
    refine seq_normal ?_
    refine w_ret ?_
    refine seq_ret ?_
    exact ret_ret rfl sel_ (k1 (by first | exact .inl (by omega) | exact .inr (.inl (by omega)) | exact hbad))
  · refine w_og rfl rfl rfl rfl rfl (op_move rfl ?_)
    refine w_og rfl rfl rfl rfl rfl (op_gt rfl rfl ?_)
    refine w_o rfl rfl rfl (op_pick rfl rfl rfl ?_)
    refine w_o rfl rfl rfl (op_move rfl ?_)
    first | refine w_known (t := 16) rfl (fun g16 => ?_) (fun g16 => ?_) | refine w_knownB (t := 16) rfl (fun g16 => ?_) (fun g16 => ?_)
    · refine w_u rfl rfl rfl rfl rfl rfl ?_
      refine w_u rfl rfl rfl rfl rfl rfl ?_
      refine w_u rfl rfl rfl rfl rfl rfl ?_
      refine w_o rfl rfl rfl (op_pick rfl rfl rfl ?_)
      refine w_end ?_
      refine seq_normal ?_
      refine w_condT rfl ?_
      refine w_seq ?_
      refine w_region ?_
      refine w_o rfl rfl rfl (op_assign rfl ?_)
      refine w_end ?_
      refine seq_normal ?_
      refine w_ret ?_
      refine seq_ret ?_
      exact ret_ret rfl sel_ (k1 (by first | exact .inl (by omega) | exact .inr (.inl (by omega)) | exact hbad))
    · refine w_og rfl rfl rfl rfl rfl (op_move rfl ?_)
      refine w_og rfl rfl rfl rfl rfl (op_call rfl rfl rfl ?_)
      refine signCheck_w hl' (by omega) ?_
      refine w_og rfl rfl rfl rfl rfl (op_ne rfl rfl ?_)
      refine w_o rfl rfl rfl (op_pick rfl rfl rfl ?_)
      refine w_end ?_
      refine seq_normal ?_
      first | refine w_cond rfl (fun hI2 => ?_) (fun hI2 => ?_) | refine w_condB rfl (fun hI2 => ?_) (fun hI2 => ?_)
      · have hbad : how < 0 ∨ 2 < how ∨ l.all rightS = false := by
          first
            | omega
            | (refine .inr (.inr ?_)
               cases hq : l.all rightS with
               | false => rfl
               | true => rw [hq] at hI2; exact absurd rfl hI2)
        refine w_seq ?_
        refine w_region ?_
        refine w_o rfl rfl rfl (op_assign rfl ?_)
        refine w_end ?_
        refine seq_normal ?_
        refine w_ret ?_
        refine seq_ret ?_
        exact ret_ret rfl sel_ (k1 (by first | exact .inl (by omega) | exact .inr (.inl (by omega)) | exact hbad))
      · have hok : l.all rightS = true := by
          cases hq : l.all rightS with
          | true => rfl
          | false => rw [hq] at hI2; exact absurd (by decide) hI2
        refine w_skip ?_
        refine seq_normal ?_
        refine w_seq ?_
        refine w_region ?_
        refine w_o rfl rfl rfl (op_move rfl ?_)
        refine w_o rfl rfl rfl (op_move rfl ?_)
        refine w_o rfl rfl rfl (op_move rfl ?_)
        refine w_o rfl rfl rfl (op_call rfl rfl rfl ?_)
        refine joined_w (M := M) (List.Mem.head _) hto (List.Mem.tail _ (List.Mem.head _)) hr (fun y hy => by simp [hy]) hl' h1 (by omega) (by omega) hM (by omega) fun cx Nx hX => ?_
        refine w_o rfl rfl rfl (op_assign rfl ?_)
        refine w_end ?_
        refine seq_normal ?_
        refine w_seq ?_
        refine w_seq ?_
        refine w_region ?_
        refine w_o rfl rfl rfl (op_move rfl ?_)
        refine w_o rfl rfl rfl (op_lenC und_22 rfl (by first | exact ⟨rfl, fun s e => by cases e⟩ | exact Sl.lenC (by assumption) | (refine Own.lenT (by assumption) ?_ ?_ <;> first | exact fun _ => rfl | decide)) ?_)
        refine w_o rfl rfl rfl (op_gt rfl rfl ?_)
        refine w_end ?_
        refine seq_normal ?_
        refine w_condN rfl (by omega) ?_
        refine w_skip ?_
        refine seq_normal ?_
        refine w_seq ?_
        refine w_seq ?_
        refine w_region ?_
        refine w_o rfl rfl rfl (op_move rfl ?_)
        refine w_o rfl rfl rfl (op_lenC und_22 rfl (by first | exact ⟨rfl, fun s e => by cases e⟩ | exact Sl.lenC (by assumption) | (refine Own.lenT (by assumption) ?_ ?_ <;> first | exact fun _ => rfl | decide)) ?_)
        refine w_o rfl rfl rfl (op_eq rfl rfl ?_)
        refine w_end ?_
        refine seq_normal ?_
        first | refine w_cond rfl (fun hI4 => ?_) (fun hI4 => ?_) | refine w_condB rfl (fun hI4 => ?_) (fun hI4 => ?_)
        · refine w_seq ?_
          refine w_region ?_
          refine w_o rfl rfl rfl (op_assign rfl ?_)
          refine w_end ?_
          refine seq_normal ?_
          refine w_ret ?_
          refine seq_ret ?_
          exact ret_ret rfl sel_ (k2 (by omega) (by omega) hok (by omega))
        · refine w_skip ?_
          refine seq_normal ?_
          refine w_cut (fun e H' => e = [(0, ptrV p 0), (7, .one (.c cx))] ∧ H' = (p, ringRow m fr (fr + (outM L l how).length) hand most) :: (m, .map es clock) :: (Nx ++ (NS ++ R))) ?_ ?_
          · refine w_seq ?_
            refine w_region ?_
            refine w_o rfl rfl rfl (op_move rfl ?_)
            refine w_o rfl rfl rfl (op_call rfl rfl rfl ?_)
            refine Len_w (fr := fr) (tz := tz) (hand := hand) (most := most) (m := m) mem_ h1 (by omega) (by omega) (by omega) ?_
            refine w_o rfl rfl rfl (op_eq rfl rfl ?_)
            refine w_o rfl rfl rfl (op_move rfl ?_)
            first | refine w_known (t := 34) rfl (fun g34 => ?_) (fun g34 => ?_) | refine w_knownB (t := 34) rfl (fun g34 => ?_) (fun g34 => ?_)
            · refine w_u rfl rfl rfl rfl rfl rfl ?_
              refine w_u rfl rfl rfl rfl rfl rfl ?_
              refine w_o rfl rfl rfl (op_pick rfl rfl rfl ?_)
              refine w_end ?_
              refine seq_normal ?_
              refine w_condT rfl ?_
              refine w_region ?_
              refine w_o rfl rfl rfl (op_move rfl ?_)
              refine w_o rfl rfl rfl (op_nilCheck rfl ?_)
              refine w_o rfl rfl rfl (op_fieldAddr fa_106_2 rfl ?_)
              refine w_o rfl rfl rfl (op_loadF agg_3 rfl el_ rfl ?_)
              refine w_o rfl rfl rfl (op_addi rfl rfl (by omega) (by omega) ?_)
              refine w_o rfl rfl rfl (op_nilCheck rfl ?_)
              refine w_o rfl rfl rfl (op_fieldAddr fa_106_2 rfl ?_)
              refine w_on rfl rfl (op_store siz_3 rfl rfl rfl (by (repeat (first | exact Pick.head _ _ _ | apply Pick.tail | apply Pick.app)); first | done | fail) (Nat.le_of_ble_eq_true rfl) rfl ?_)
              refine w_end ?_
              first
                | (have e1 : fr + ((outM L l how).length : Int) = tz + 1 := by rw [hol, if_pos (by omega)]; omega
                   rw [e1]
                   exact mid_normal ⟨rfl, rfl⟩ env_ sel_)
                | (have e1 : fr + ((outM L l how).length : Int) = tz := by rw [hol, if_neg (by omega)]; omega
                   rw [e1]
                   exact mid_normal ⟨rfl, rfl⟩ env_ sel_)
            · refine w_og rfl rfl rfl rfl rfl (op_move rfl ?_)
              refine w_og rfl rfl rfl rfl rfl (op_eq rfl rfl ?_)
              refine w_o rfl rfl rfl (op_pick rfl rfl rfl ?_)
              refine w_end ?_
              refine seq_normal ?_
              first | refine w_cond rfl (fun hI5 => ?_) (fun hI5 => ?_) | refine w_condB rfl (fun hI5 => ?_) (fun hI5 => ?_)
              · refine w_region ?_
                refine w_o rfl rfl rfl (op_move rfl ?_)
                refine w_o rfl rfl rfl (op_nilCheck rfl ?_)
                refine w_o rfl rfl rfl (op_fieldAddr fa_106_2 rfl ?_)
                refine w_o rfl rfl rfl (op_loadF agg_3 rfl el_ rfl ?_)
                refine w_o rfl rfl rfl (op_addi rfl rfl (by omega) (by omega) ?_)
                refine w_o rfl rfl rfl (op_nilCheck rfl ?_)
                refine w_o rfl rfl rfl (op_fieldAddr fa_106_2 rfl ?_)
                refine w_on rfl rfl (op_store siz_3 rfl rfl rfl (by (repeat (first | exact Pick.head _ _ _ | apply Pick.tail | apply Pick.app)); first | done | fail) (Nat.le_of_ble_eq_true rfl) rfl ?_)
                refine w_end ?_
                first
                  | (have e1 : fr + ((outM L l how).length : Int) = tz + 1 := by rw [hol, if_pos (by omega)]; omega
                     rw [e1]
                     exact mid_normal ⟨rfl, rfl⟩ env_ sel_)
                  | (have e1 : fr + ((outM L l how).length : Int) = tz := by rw [hol, if_neg (by omega)]; omega
                     rw [e1]
                     exact mid_normal ⟨rfl, rfl⟩ env_ sel_)
              · refine w_skip ?_
                first
                  | (have e1 : fr + ((outM L l how).length : Int) = tz + 1 := by rw [hol, if_pos (by omega)]; omega
                     rw [e1]
                     exact mid_normal ⟨rfl, rfl⟩ env_ sel_)
                  | (have e1 : fr + ((outM L l how).length : Int) = tz := by rw [hol, if_neg (by omega)]; omega
                     rw [e1]
                     exact mid_normal ⟨rfl, rfl⟩ env_ sel_)
          · rintro e H' ⟨rfl, rfl⟩
            obtain ⟨r, es1, clock1, hf, heq, hr1⟩ := ring_put (clock := clock) (key := fr + ((outM L l how).length : Int) - 1) hr (hX.slT (H := Nx) (fun _ => rfl) (by decide) fun x hx => hx) rfl
            refine w_seq ?_
            refine w_draw (by decide +kernel) (by decide +kernel) ?_
            refine w_d rfl rfl rfl (op_move rfl ?_)
            refine w_d rfl rfl rfl (op_nilCheck rfl ?_)
            refine w_d rfl rfl rfl (op_fieldAddr fa_106_0 rfl ?_)
            refine w_d rfl rfl rfl (op_loadF agg_104 rfl el_ rfl ?_)
            refine w_d rfl rfl rfl (op_move rfl ?_)
            refine w_d rfl rfl rfl (op_nilCheck rfl ?_)
            refine w_d rfl rfl rfl (op_fieldAddr fa_106_2 rfl ?_)
            refine w_d rfl rfl rfl (op_loadF agg_3 rfl el_ rfl ?_)
            refine w_d rfl rfl rfl (op_subi rfl rfl (by omega) (by omega) ?_)
            refine w_d rfl rfl rfl (op_move rfl ?_)
            refine w_dn rfl rfl (op_mapUpdate und_104 und_3 rfl rfl rfl (by (repeat (first | exact Pick.head _ _ _ | apply Pick.tail | apply Pick.app)); first | done | fail) rfl hf ?_)
            rw [heq]
            refine w_end ?_
            refine seq_normal ?_
            refine w_seq ?_
            refine w_seq ?_
            refine w_drawF (_) sel_ (by decide +kernel) (by decide +kernel) ?_
            refine f_b (guard_none rfl) rfl rfl rfl rfl (op_move rfl ?_)
            refine f_m (guard_none rfl) rfl rfl rfl (op_call rfl rfl rfl ?_)
            refine Len_w (fr := fr) (tz := fr + (outM L l how).length) (hand := hand) (most := most) (m := m) mem_ h1 (by omega) (by omega) (by omega) ?_
            refine ⟨sel_, ?_⟩
            refine f_b (guard_none rfl) rfl rfl rfl rfl (op_move rfl ?_)
            refine f_b (guard_none rfl) rfl rfl rfl rfl (op_nilCheck rfl ?_)
            refine f_b (guard_none rfl) rfl rfl rfl rfl (op_fieldAddr fa_106_4 rfl ?_)
            refine f_l (guard_none rfl) rfl rfl rfl sel_ (op_loadF agg_3 rfl el_ rfl rfl) ?_
            refine f_b (guard_none rfl) rfl rfl rfl rfl (op_gt rfl rfl ?_)
            refine f_end ?_
            refine seq_normal ?_
            first | refine w_cond rfl (fun hI6 => ?_) (fun hI6 => ?_) | refine w_condB rfl (fun hI6 => ?_) (fun hI6 => ?_)
            · obtain ⟨r2, es2, hf2, heq2, hr2⟩ := ring_del (clock := clock1) hr1 (by omega)
              refine w_seq ?_
              refine w_draw (by decide +kernel) (by decide +kernel) ?_
              refine w_d rfl rfl rfl (op_move rfl ?_)
              refine w_d rfl rfl rfl (op_nilCheck rfl ?_)
              refine w_d rfl rfl rfl (op_fieldAddr fa_106_0 rfl ?_)
              refine w_d rfl rfl rfl (op_loadF agg_104 rfl el_ rfl ?_)
              refine w_d rfl rfl rfl (op_move rfl ?_)
              refine w_d rfl rfl rfl (op_nilCheck rfl ?_)
              refine w_d rfl rfl rfl (op_fieldAddr fa_106_1 rfl ?_)
              refine w_d rfl rfl rfl (op_loadF agg_3 rfl el_ rfl ?_)
              refine w_dn rfl rfl (op_delete und_104 und_3 rfl rfl (by (repeat (first | exact Pick.head _ _ _ | apply Pick.tail | apply Pick.app)); first | done | fail) rfl hf2 ?_)
              rw [heq2]
              refine w_end ?_
              refine seq_normal ?_
              refine w_region ?_
              refine w_o rfl rfl rfl (op_move rfl ?_)
              refine w_o rfl rfl rfl (op_nilCheck rfl ?_)
              refine w_o rfl rfl rfl (op_fieldAddr fa_106_1 rfl ?_)
              refine w_o rfl rfl rfl (op_loadF agg_3 rfl el_ rfl ?_)
              refine w_o rfl rfl rfl (op_addi rfl rfl (by omega) (by omega) ?_)
              refine w_o rfl rfl rfl (op_nilCheck rfl ?_)
              refine w_o rfl rfl rfl (op_fieldAddr fa_106_1 rfl ?_)
              refine w_on rfl rfl (op_store siz_3 rfl rfl rfl (by (repeat (first | exact Pick.head _ _ _ | apply Pick.tail | apply Pick.app)); first | done | fail) (Nat.le_of_ble_eq_true rfl) rfl ?_)
              refine w_end ?_
              refine seq_normal ?_
              refine w_seq ?_
              refine w_region ?_
              refine w_o rfl rfl rfl (op_move rfl ?_)
              refine w_o rfl rfl rfl (op_move rfl ?_)
              refine w_o rfl rfl rfl (op_nilCheck rfl ?_)
              refine w_o rfl rfl rfl (op_fieldAddr fa_106_2 rfl ?_)
              refine w_o rfl rfl rfl (op_loadF agg_3 rfl el_ rfl ?_)
              refine w_o rfl rfl rfl (op_subi rfl rfl (by omega) (by omega) ?_)
              refine w_o rfl rfl rfl (op_nilCheck rfl ?_)
              refine w_o rfl rfl rfl (op_fieldAddr fa_106_3 rfl ?_)
              refine w_on rfl rfl (op_store siz_3 rfl rfl rfl (by (repeat (first | exact Pick.head _ _ _ | apply Pick.tail | apply Pick.app)); first | done | fail) (Nat.le_of_ble_eq_true rfl) rfl ?_)
              refine w_end ?_
              refine seq_normal ?_
              refine w_seq ?_
              refine w_region ?_
              refine w_o rfl rfl rfl (op_assign rfl ?_)
              refine w_end ?_
              refine seq_normal ?_
              refine w_ret ?_
              first
                | (have ep : pushM L l how most = (outM L l how).drop 1 := by unfold pushM; rw [if_pos (by omega)]
                   rw [← ep] at hr2
                   have k' := k3 (by omega) (by omega) hok (by omega) _ clock1 _ (fr + ((outM L l how).length : Int)) (Nx ++ NS) hr2 (by rw [ep, List.length_drop]; omega) (by omega) (by omega)
                   rw [List.append_assoc] at k'
                   exact ret_ret rfl sel_ k')
                | (have ep : pushM L l how most = outM L l how := by unfold pushM; rw [if_neg (by omega)]
                   rw [← ep] at hr1
                   have k' := k3 (by omega) (by omega) hok (by omega) _ clock1 _ (fr + ((outM L l how).length : Int)) (Nx ++ NS) hr1 (by rw [ep]) (by omega) (by omega)
                   rw [List.append_assoc] at k'
                   exact ret_ret rfl sel_ k')
            · refine w_skip ?_
              refine seq_normal ?_
              refine w_seq ?_
              refine w_region ?_
              refine w_o rfl rfl rfl (op_move rfl ?_)
              refine w_o rfl rfl rfl (op_move rfl ?_)
              refine w_o rfl rfl rfl (op_nilCheck rfl ?_)
              refine w_o rfl rfl rfl (op_fieldAddr fa_106_2 rfl ?_)
              refine w_o rfl rfl rfl (op_loadF agg_3 rfl el_ rfl ?_)
              refine w_o rfl rfl rfl (op_subi rfl rfl (by omega) (by omega) ?_)
              refine w_o rfl rfl rfl (op_nilCheck rfl ?_)
              refine w_o rfl rfl rfl (op_fieldAddr fa_106_3 rfl ?_)
              refine w_on rfl rfl (op_store siz_3 rfl rfl rfl (by (repeat (first | exact Pick.head _ _ _ | apply Pick.tail | apply Pick.app)); first | done | fail) (Nat.le_of_ble_eq_true rfl) rfl ?_)
              refine w_end ?_
              refine seq_normal ?_
              refine w_seq ?_
              refine w_region ?_
              refine w_o rfl rfl rfl (op_assign rfl ?_)
              refine w_end ?_
              refine seq_normal ?_
              refine w_ret ?_
              first
                | (have ep : pushM L l how most = (outM L l how).drop 1 := by unfold pushM; rw [if_pos (by omega)]
                   rw [← ep] at hr2
                   have k' := k3 (by omega) (by omega) hok (by omega) _ clock1 _ (fr + ((outM L l how).length : Int)) (Nx ++ NS) hr2 (by rw [ep, List.length_drop]; omega) (by omega) (by omega)
                   rw [List.append_assoc] at k'
                   exact ret_ret rfl sel_ k')
                | (have ep : pushM L l how most = outM L l how := by unfold pushM; rw [if_neg (by omega)]
                   rw [← ep] at hr1
                   have k' := k3 (by omega) (by omega) hok (by omega) _ clock1 _ (fr + ((outM L l how).length : Int)) (Nx ++ NS) hr1 (by rw [ep]) (by omega) (by omega)
                   rw [List.append_assoc] at k'
                   exact ret_ret rfl sel_ k')
theorem New_w {most : Int} (k1 : (most < 1 ∨ 60 < most) → K (.tup [.c .nilp, .c (.int .i64 3)]) H) (k2 : 1 ≤ most → most ≤ 60 → ∀ p m, K (.tup [.c (.ptr p 0), .c (.int .i64 0)]) ((p, ringRow m 0 0 0 most) :: (m, .map [] 0) :: H)) :
    CallW Try.prog Xs 40 [vI most] H K := by
  refine call_of (n := 14) (fun _ => rfl) Try.func40 rfl rfl ?_
  refine w_seq ?_
  refine w_region ?_
  refine w_o rfl rfl rfl (op_assign rfl ?_)
  refine w_o rfl rfl rfl (op_assign rfl ?_)
  refine w_end ?_
  refine seq_normal ?_
  refine w_seq ?_
  refine w_seq ?_
  refine w_region ?_
  refine w_o rfl rfl rfl (op_move rfl ?_)
  refine w_o rfl rfl rfl (op_lt rfl rfl ?_)
  refine w_o rfl rfl rfl (op_move rfl ?_)
  first | refine w_known (t := 6) rfl (fun g6 => ?_) (fun g6 => ?_) | refine w_knownB (t := 6) rfl (fun g6 => ?_) (fun g6 => ?_)
  · refine w_u rfl rfl rfl rfl rfl rfl ?_
    refine w_u rfl rfl rfl rfl rfl rfl ?_
    refine w_o rfl rfl rfl (op_pick rfl rfl rfl ?_)
    refine w_end ?_
    refine seq_normal ?_
    refine w_condT rfl ?_
    refine w_seq ?_
    refine w_region ?_
    refine w_o rfl rfl rfl (op_assign rfl ?_)
    refine w_o rfl rfl rfl (op_assign rfl ?_)
    refine w_end ?_
    refine seq_normal ?_
    refine w_ret ?_
    refine seq_ret ?_
    exact ret_ret rfl (.refl _) (k1 (by omega))
  · refine w_og rfl rfl rfl rfl rfl (op_move rfl ?_)
    refine w_og rfl rfl rfl rfl rfl (op_gt rfl rfl ?_)
    refine w_o rfl rfl rfl (op_pick rfl rfl rfl ?_)
    refine w_end ?_
    refine seq_normal ?_
    first | refine w_cond rfl (fun hI1 => ?_) (fun hI1 => ?_) | refine w_condB rfl (fun hI1 => ?_) (fun hI1 => ?_)
    · refine w_seq ?_
      refine w_region ?_
      refine w_o rfl rfl rfl (op_assign rfl ?_)
      refine w_o rfl rfl rfl (op_assign rfl ?_)
      refine w_end ?_
      refine seq_normal ?_
      refine w_ret ?_
      refine seq_ret ?_
      exact ret_ret rfl (.refl _) (k1 (by omega))
    · refine w_skip ?_
      refine seq_normal ?_
      refine w_seq ?_
      refine w_region ?_
      refine w_o rfl rfl rfl (op_makeMap und_104 fun b10 => ?_)
      refine w_o rfl rfl rfl (op_move rfl ?_)
      refine w_o rfl rfl rfl (op_build rfl ((bld_106 _).trans (rfl : _ = some [_, _, _, _, _])) ?_)
      refine w_o rfl rfl rfl (op_box rfl fun b13 => ?_)
      refine w_o rfl rfl rfl (op_assign rfl ?_)
      refine w_o rfl rfl rfl (op_assign rfl ?_)
      refine w_end ?_
      refine seq_normal ?_
      refine w_ret ?_
      exact ret_ret rfl (.refl _) (k2 (by omega) (by omega) _ _)
def nowM (L : List (List Sign)) (hi : Nat) : List Sign := (L[hi]?).getD []
theorem Now_w {hi M : Nat} (hp : (p, ringRow m fr tz hand most) ∈ H) (hto : tz = fr + L.length) (hh : L.length ≠ 0 → hand = fr + hi ∧ hi < L.length) (hm : (m, Fact.map es clock) ∈ H) (hr : RingOK L es fr NS) (hN : ∀ y ∈ NS, y ∈ H) (h1 : 0 ≤ fr) (h2 : fr ≤ 100000) (h4 : L.length ≤ 1000) (hM : ∀ t ∈ L, t.length ≤ M) (hM2 : M ≤ 100000)
    (k : ∀ c' N, Own 46 2 c' ((if L.length = 0 then [] else nowM L hi).flatMap encS) N → K (.one (.c c')) (N ++ H)) : CallW Try.prog Xs 48 [ptrV p 0] H K := by
  have hp' := hp
  unfold ringRow at hp
  refine call_of (n := 16) (fun _ => rfl) Try.func48 rfl rfl ?_
  refine w_seq ?_
  refine w_region ?_
  refine w_o rfl rfl rfl (op_assign rfl ?_)
  refine w_end ?_
  refine seq_normal ?_
  refine w_seq ?_
  refine w_seq ?_
  refine w_region ?_
  refine w_o rfl rfl rfl (op_move rfl ?_)
  refine w_o rfl rfl rfl (op_call rfl rfl rfl ?_)
  refine Len_w hp' h1 (by omega) (by omega) (by omega) ?_
  refine w_o rfl rfl rfl (op_eq rfl rfl ?_)
  refine w_end ?_
  refine seq_normal ?_
  first | refine w_cond rfl (fun hI1 => ?_) (fun hI1 => ?_) | refine w_condB rfl (fun hI1 => ?_) (fun hI1 => ?_)
  · rw [if_pos (by omega)] at k
    refine w_seq ?_
    refine w_region ?_
    refine w_o rfl rfl rfl (op_assign rfl ?_)
    refine w_end ?_
    refine seq_normal ?_
    refine w_ret ?_
    refine seq_ret ?_
    exact ret_ret rfl (.refl _) (k _ [] .nil)
  · have h0 : L.length ≠ 0 := by omega
    rw [if_neg h0] at k
    obtain ⟨hh1, hh2⟩ := hh h0
    obtain ⟨l0, hl0⟩ : ∃ l, L[hi]? = some l := ⟨_, List.getElem?_eq_getElem hh2⟩
    obtain ⟨c0, q1, q2⟩ := hr.look_at hl0
    rw [← hh1] at q1
    have en : nowM L hi = l0 := by unfold nowM; rw [hl0]; rfl
    rw [en] at k
    have hb := hM l0 (List.mem_of_getElem? hl0)
    refine w_skip ?_
    refine seq_normal ?_
    refine w_seq ?_
    refine w_draw (by decide +kernel) (by decide +kernel) ?_
    refine w_d rfl rfl rfl (op_move rfl ?_)
    refine w_d rfl rfl rfl (op_nilCheck rfl ?_)
    refine w_d rfl rfl rfl (op_fieldAddr fa_106_0 rfl ?_)
    refine w_d rfl rfl rfl (op_loadF agg_104 rfl el_ rfl ?_)
    refine w_d rfl rfl rfl (op_move rfl ?_)
    refine w_d rfl rfl rfl (op_nilCheck rfl ?_)
    refine w_d rfl rfl rfl (op_fieldAddr fa_106_3 rfl ?_)
    refine w_d rfl rfl rfl (op_loadF agg_3 rfl el_ rfl ?_)
    refine w_d rfl rfl rfl (op_lookup und_104 und_3 (z := .c .nils) (by kernel_rfl) rfl rfl hm rfl q1 rfl ?_)
    refine w_d rfl rfl rfl (op_call rfl rfl rfl ?_)
    refine CloneS_w (q2.sub hN) (by omega) fun c' N hO => ?_
    refine w_d rfl rfl rfl (op_assign rfl ?_)
    refine w_end ?_
    refine seq_normal ?_
    refine w_ret ?_
    exact ret_ret rfl (.refl _) (k _ _ hO)
theorem Turn_w {R : Hyp} (hto : tz = fr + L.length) (h1 : 0 ≤ fr) (h2 : fr ≤ 100000) (h4 : L.length ≤ 1000) (hh : L.length ≠ 0 → fr ≤ hand ∧ hand < tz) (k1 : L.length = 0 → K (vB false) ((p, ringRow m fr tz hand most) :: R)) (k2 : L.length ≠ 0 → K (vB true) ((p, ringRow m fr tz (if hand - 1 < fr then tz - 1 else hand - 1) most) :: R)) :
    CallW Try.prog Xs 41 [ptrV p 0] ((p, ringRow m fr tz hand most) :: R) K := by
  refine call_of (n := 30) (fun _ => rfl) Try.func41 rfl rfl ?_
  refine w_seq ?_
  refine w_region ?_
  refine w_o rfl rfl rfl (op_assign rfl ?_)
  refine w_end ?_
  refine seq_normal ?_
  refine w_seq ?_
  refine w_seq ?_
  refine w_region ?_
  refine w_o rfl rfl rfl (op_move rfl ?_)
  refine w_o rfl rfl rfl (op_call rfl rfl rfl ?_)
  refine Len_w (fr := fr) (tz := tz) (hand := hand) (most := most) (m := m) mem_ h1 (by omega) (by omega) (by omega) ?_
  refine w_o rfl rfl rfl (op_eq rfl rfl ?_)
  refine w_end ?_
  refine seq_normal ?_
  first | refine w_cond rfl (fun hI1 => ?_) (fun hI1 => ?_) | refine w_condB rfl (fun hI1 => ?_) (fun hI1 => ?_)
  · refine w_seq ?_
    refine w_region ?_
    refine w_o rfl rfl rfl (op_assign rfl ?_)
    refine w_end ?_
    refine seq_normal ?_
    refine w_ret ?_
    refine seq_ret ?_
    exact ret_ret rfl (.refl _) (k1 (by omega))
  · have h0 : L.length ≠ 0 := by omega
    have hh0 := hh h0
    have k2' := k2 h0
    refine w_skip ?_
    refine seq_normal ?_
    refine w_seq ?_
    refine w_region ?_
    refine w_o rfl rfl rfl (op_move rfl ?_)
    refine w_o rfl rfl rfl (op_nilCheck rfl ?_)
    refine w_o rfl rfl rfl (op_fieldAddr fa_106_3 rfl ?_)
    refine w_o rfl rfl rfl (op_loadF agg_3 rfl el_ rfl ?_)
    refine w_o rfl rfl rfl (op_subi rfl rfl (by omega) (by omega) ?_)
    refine w_o rfl rfl rfl (op_nilCheck rfl ?_)
    refine w_o rfl rfl rfl (op_fieldAddr fa_106_3 rfl ?_)
    refine w_on rfl rfl (op_store siz_3 rfl rfl rfl (by (repeat (first | exact Pick.head _ _ _ | apply Pick.tail | apply Pick.app)); first | done | fail) (Nat.le_of_ble_eq_true rfl) rfl ?_)
    refine w_end ?_
    refine seq_normal ?_
    refine w_seq ?_
    refine w_seq ?_
    refine w_draw (by decide +kernel) (by decide +kernel) ?_
    refine w_d rfl rfl rfl (op_move rfl ?_)
    refine w_d rfl rfl rfl (op_nilCheck rfl ?_)
    refine w_d rfl rfl rfl (op_fieldAddr fa_106_3 rfl ?_)
    refine w_d rfl rfl rfl (op_loadF agg_3 rfl el_ rfl ?_)
    refine w_d rfl rfl rfl (op_move rfl ?_)
    refine w_d rfl rfl rfl (op_nilCheck rfl ?_)
    refine w_d rfl rfl rfl (op_fieldAddr fa_106_1 rfl ?_)
    refine w_d rfl rfl rfl (op_loadF agg_3 rfl el_ rfl ?_)
    refine w_d rfl rfl rfl (op_lt rfl rfl ?_)
    refine w_end ?_
    refine seq_normal ?_
    first | refine w_cond rfl (fun hI2 => ?_) (fun hI2 => ?_) | refine w_condB rfl (fun hI2 => ?_) (fun hI2 => ?_)
    · refine w_region ?_
      refine w_o rfl rfl rfl (op_move rfl ?_)
      refine w_o rfl rfl rfl (op_move rfl ?_)
      refine w_o rfl rfl rfl (op_nilCheck rfl ?_)
      refine w_o rfl rfl rfl (op_fieldAddr fa_106_2 rfl ?_)
      refine w_o rfl rfl rfl (op_loadF agg_3 rfl el_ rfl ?_)
      refine w_o rfl rfl rfl (op_subi rfl rfl (by omega) (by omega) ?_)
      refine w_o rfl rfl rfl (op_nilCheck rfl ?_)
      refine w_o rfl rfl rfl (op_fieldAddr fa_106_3 rfl ?_)
      refine w_on rfl rfl (op_store siz_3 rfl rfl rfl (by (repeat (first | exact Pick.head _ _ _ | apply Pick.tail | apply Pick.app)); first | done | fail) (Nat.le_of_ble_eq_true rfl) rfl ?_)
      refine w_end ?_
      refine seq_normal ?_
      refine w_seq ?_
      refine w_region ?_
      refine w_o rfl rfl rfl (op_assign rfl ?_)
      refine w_end ?_
      refine seq_normal ?_
      refine w_ret ?_
      first
        | (rw [if_pos hI2] at k2'; exact ret_ret rfl sel_ k2')
        | (rw [if_neg hI2] at k2'; exact ret_ret rfl sel_ k2')
    · refine w_skip ?_
      refine seq_normal ?_
      refine w_seq ?_
      refine w_region ?_
      refine w_o rfl rfl rfl (op_assign rfl ?_)
      refine w_end ?_
      refine seq_normal ?_
      refine w_ret ?_
      first
        | (rw [if_pos hI2] at k2'; exact ret_ret rfl sel_ k2')
        | (rw [if_neg hI2] at k2'; exact ret_ret rfl sel_ k2')
theorem All1_w {bo br : Nat} {co : Cell} {cs : List Cell} {No H0 : Hyp} {i : Nat} {l : List Sign} (hO : Own 22 1 co (cs.flatMap encC) No) (hcs : cs.length ≤ 1000) (hbr : (br, Fact.row true 51 1 [.ptr p 0]) ∈ H0) (hp : (p, ringRow m fr tz hand most) ∈ H0) (hm : (m, Fact.map es clock) ∈ H0) (hr : RingOK L es fr NS) (hN : ∀ y ∈ NS, y ∈ H0) (hl : L[i]? = some l) (hM : l.length ≤ 100000)
    (k : ∀ c' No' c Nc, Own 22 1 c' ((cs ++ [c]).flatMap encC) No' → Own 46 2 c (l.flatMap encS) Nc → K (.tup []) ((bo, .row true 34 1 [c']) :: (No' ++ (Nc ++ H0)))) :
    CallW Try.prog Xs 95 [vI (fr + i), ptrV bo 0, ptrV br 0] ((bo, .row true 34 1 [co]) :: (No ++ H0)) K := by
  unfold ringRow at hp
  obtain ⟨c0, q1, q2⟩ := hr.look_at hl
  refine call_of (n := 14) (fun _ => rfl) Try.func95 rfl rfl ?_
  refine w_drawF ((bo, .row true 34 1 [co]) :: H0) sel_ (by decide +kernel) (by decide +kernel) ?_
  refine f_l (guard_none rfl) rfl rfl rfl sel_ (op_load1 agg_34 rfl el_ rfl) ?_
  refine f_l (guard_none rfl) rfl rfl rfl sel_ (op_load1 agg_51 rfl el_ rfl) ?_
  refine f_b (guard_none rfl) rfl rfl rfl rfl (op_nilCheck rfl ?_)
  refine f_b (guard_none rfl) rfl rfl rfl rfl (op_fieldAddr fa_106_0 rfl ?_)
  refine f_l (guard_none rfl) rfl rfl rfl sel_ (op_loadF agg_104 rfl el_ rfl rfl) ?_
  refine f_b (guard_none rfl) rfl rfl rfl rfl (op_move rfl ?_)
  refine f_l (guard_none rfl) rfl rfl rfl sel_ (op_lookup und_104 und_3 (z := .c .nils) (by kernel_rfl) rfl rfl mem_ rfl q1 rfl rfl) ?_
  refine f_m (guard_none rfl) rfl rfl rfl (op_call rfl rfl rfl ?_)
  refine CloneS_w (l := l) ((q2.sub hN).app.cons) (by omega) fun cc Nc hC => ?_
  refine ⟨sel_, ?_⟩
  refine f_m (guard_none rfl) rfl rfl rfl (op_buildSlice rfl (bsl_34 _ _ _ (rfl : _ = some [_]) rfl (by decide)) fun b12 => ?_)
  refine ⟨sel_, ?_⟩
  refine f_m (guard_none rfl) rfl rfl rfl (op_append1 (enc := encC) elm_34 inf_22 zer_22 (by decide) und_34 rfl rfl (by assumption) (fun _ => rfl) (by (repeat (first | exact PickL.front _ _ | exact PickL.nil _ | apply PickL.skip | apply PickL.skipL)); first | done | fail) rfl (by omega) fun c13 N13 h13 => ?_)
  refine ⟨sel_, ?_⟩
  refine f_wn (guard_none rfl) rfl rfl rfl (op_store siz_34 rfl rfl rfl (by (repeat (first | exact Pick.head _ _ _ | apply Pick.tail | apply Pick.app)); first | done | fail) (Nat.le_of_ble_eq_true rfl) rfl ?_)
  refine f_end ?_
  exact ret_normal rfl sel_ (k _ _ _ _ h13 hC)
theorem All_w {M : Nat} (hp : (p, ringRow m fr tz hand most) ∈ H) (hto : tz = fr + L.length) (hm : (m, Fact.map es clock) ∈ H) (hr : RingOK L es fr NS) (hN : ∀ y ∈ NS, y ∈ H) (h1 : 0 ≤ fr) (h2 : fr ≤ 100000) (h4 : L.length ≤ 900) (hM : ∀ t ∈ L, t.length ≤ M) (hM2 : M ≤ 100000)
    (k : ∀ (c : Cell) (cs : List Cell) (No Ni : Hyp), Own 22 1 c (cs.flatMap encC) No → cs.length = L.length → (∀ (j : Nat) (c : Cell) (l : List Sign), cs[j]? = some c → L[j]? = some l → Sl Ni 46 2 c l.length (l.flatMap encS)) → K (.one (.c c)) (No ++ (Ni ++ H))) : CallW Try.prog Xs 51 [ptrV p 0] H K := by
  have hp' := hp
  unfold ringRow at hp
  refine call_of (n := 26) (fun _ => rfl) Try.func51 rfl rfl ?_
  refine w_seq ?_
  refine w_region ?_
  refine w_o rfl rfl rfl (op_box rfl fun b1 => ?_)
  refine w_o rfl rfl rfl (op_assign rfl ?_)
  refine w_end ?_
  refine seq_normal ?_
  refine w_seq ?_
  refine w_region ?_
  refine w_o rfl rfl rfl (op_alloc zer_34 fun b3 => ?_)
  refine w_end ?_
  refine seq_normal ?_
  refine w_seq ?_
  refine w_seq ?_
  refine w_region ?_
  refine w_o rfl rfl rfl (op_load1 agg_51 rfl el_ ?_)
  refine w_o rfl rfl rfl (op_nilEq rfl rfl rfl (by simp only [nilKind, und_51]) ?_)
  refine w_end ?_
  refine seq_normal ?_
  refine w_condF rfl ?_
  refine w_skip ?_
  refine seq_normal ?_
  refine w_seq ?_
  refine w_region ?_
  refine w_o rfl rfl rfl (op_makeFunc rfl ?_)
  refine w_o rfl rfl rfl (op_assign rfl ?_)
  refine w_end ?_
  refine seq_normal ?_
  refine w_seq ?_
  refine w_seq ?_
  refine w_region ?_
  refine w_o rfl rfl rfl (op_load1 agg_51 rfl el_ ?_)
  refine w_o rfl rfl rfl (op_nilCheck rfl ?_)
  refine w_o rfl rfl rfl (op_fieldAddr fa_106_1 rfl ?_)
  refine w_o rfl rfl rfl (op_loadF agg_3 rfl el_ rfl ?_)
  refine w_o rfl rfl rfl (op_assign rfl ?_)
  refine w_end ?_
  refine seq_normal ?_
  refine w_block ?_
  refine w_loop (fun q e H' => ∃ (i : Nat) (co : Cell) (cs : List Cell) (No Ni : Hyp), i ≤ L.length ∧ q = L.length - i ∧ Own 22 1 co (cs.flatMap encC) No ∧ cs.length = i ∧ (∀ (j : Nat) (c : Cell) (l : List Sign), cs[j]? = some c → L[j]? = some l → Sl Ni 46 2 c l.length (l.flatMap encS)) ∧ H' = (b3, .row true 34 1 [co]) :: (No ++ (Ni ++ ((b1, .row true 51 1 [.ptr p 0]) :: H))) ∧ e = [(1, ptrV b1 0), (3, ptrV b3 0), (4, .one (.c (.fn 95 [(b3, 0), (b1, 0)]))), (5, vI (fr + i))]) ?_ ?_
  · exact ⟨_, _, _, ⟨0, .nils, [], [], [], Nat.zero_le _, rfl, .nil, rfl, (fun j c l h => by simp at h), rfl, by rw [show fr + ((0 : Nat) : Int) = fr by omega]⟩, env_, sel_⟩
  · rintro q e H' ⟨i, co, cs, No, Ni, hi, rfl, hO, hcl, hin, rfl, rfl⟩
    refine w_seq ?_
    refine w_seq ?_
    refine w_region ?_
    refine w_o rfl rfl rfl (op_move rfl ?_)
    refine w_o rfl rfl rfl (op_load1 agg_51 rfl el_ ?_)
    refine w_o rfl rfl rfl (op_nilCheck rfl ?_)
    refine w_o rfl rfl rfl (op_fieldAddr fa_106_2 rfl ?_)
    refine w_o rfl rfl rfl (op_loadF agg_3 rfl el_ rfl ?_)
    refine w_o rfl rfl rfl (op_lt rfl rfl ?_)
    refine w_end ?_
    refine seq_normal ?_
    first | refine w_cond rfl (fun hI2 => ?_) (fun hI2 => ?_) | refine w_condB rfl (fun hI2 => ?_) (fun hI2 => ?_)
    · obtain ⟨l, hl⟩ : ∃ l, L[i]? = some l := ⟨_, List.getElem?_eq_getElem (by omega)⟩
      have hb := hM l (List.mem_of_getElem? hl)
      refine w_skip ?_
      refine seq_normal ?_
      refine w_seq ?_
      refine w_block ?_
      refine w_region ?_
      refine w_o rfl rfl rfl (op_move rfl ?_)
      refine w_o rfl rfl rfl (op_move rfl ?_)
      refine w_o rfl rfl rfl (op_call rfl rfl rfl ?_)
      refine All1_w (cs := cs) (H0 := Ni ++ ((b1, .row true 51 1 [.ptr p 0]) :: H)) hO (by omega) (List.mem_append_right _ (List.Mem.head _)) (List.mem_append_right _ (List.Mem.tail _ hp')) (List.mem_append_right _ (List.Mem.tail _ hm)) hr (fun y hy => List.mem_append_right _ (List.Mem.tail _ (hN y hy))) hl (by omega) fun c' No' c Nc hO' hC => ?_
      refine w_end ?_
      refine block_normal ?_
      refine seq_normal ?_
      refine w_region ?_
      refine w_o rfl rfl rfl (op_move rfl ?_)
      refine w_o rfl rfl rfl (op_addi rfl rfl (by omega) (by omega) ?_)
      refine w_o rfl rfl rfl (op_assign rfl ?_)
      refine w_end ?_
      refine loop_normal (k' := L.length - (i + 1)) (by omega) ⟨i + 1, c', cs ++ [c], No', Nc ++ Ni, by omega, rfl, hO', by simp [hcl], ?_, rfl, by rw [show fr + ((i + 1 : Nat) : Int) = fr + (i : Int) + 1 by omega]⟩ env_ sel_
      intro j c2 l2 h h'
      rw [List.getElem?_append] at h
      split at h
      · exact (hin j c2 l2 h h').app
      · have e1 : j = i := by
          rcases Nat.lt_or_ge (j - cs.length) 1 with q | q
          · omega
          · rw [List.getElem?_eq_none (by simpa using q)] at h; cases h
        subst e1
        rw [hcl, Nat.sub_self] at h
        simp at h
        subst h
        rw [hl] at h'; cases h'
        exact hC.slT (fun _ => rfl) (by decide) fun x hx => List.mem_append_left _ hx
    · refine w_exit ?_
      refine seq_exit ?_
      refine loop_exit ?_
      refine block_hit rfl ?_
      refine seq_normal ?_
      refine w_seq ?_
      refine w_region ?_
      refine w_o rfl rfl rfl (op_load1 agg_34 rfl el_ ?_)
      refine w_o rfl rfl rfl (op_assign rfl ?_)
      refine w_end ?_
      refine seq_normal ?_
      refine w_ret ?_
      have hi2 : i = L.length := by omega
      subst hi2
      exact ret_ret rfl sel_ (k _ _ _ _ hO hcl hin)
end
end Go.Proofs.Ytlmmeihgjpgooaa.AM.B
