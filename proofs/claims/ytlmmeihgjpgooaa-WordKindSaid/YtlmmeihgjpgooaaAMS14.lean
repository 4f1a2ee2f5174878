/- The abstract machine's regions that draw their order: any order comes to the text's order. -/
import Derived.Test.YtlmmeihgjpgooaaAMS13
set_option linter.unusedSimpArgs false
set_option linter.unusedVariables false
namespace Go.Proofs.Ytlmmeihgjpgooaa.AM
open Go Go.RowKit Go.MapKept

/-! ### What a set of operations has left, in the text's order -/
def dstOf (ops : Array Oper) (i : Nat) : Option Nat := (ops[i]?).bind (·.dst)
def valOf (trs : List Tr) (i : Nat) : V := (trs[i]?.getD default).v
def moverAt (ops : Array Oper) (i : Nat) : Bool := (ops[i]?).any fun u => isMover u.op
def frameOf (ops : Array Oper) (trs : List Tr) (fr0 : List V) (L : Nat → Bool) : Nat → List V
  | 0 => fr0
  | k + 1 => if L k then putV (frameOf ops trs fr0 L k) (dstOf ops k) (valOf trs k) else frameOf ops trs fr0 L k
def stateOf (ops : Array Oper) (trs : List Tr) (s0 : St) (L : Nat → Bool) : Nat → St
  | 0 => s0
  | k + 1 => if L k && moverAt ops k then (trs[k]?.getD default).s' else stateOf ops trs s0 L k

section
variable {ops : Array Oper} {trs : List Tr} {fr0 : List V} {s0 : St}
theorem putV_length (fr : List V) (d : Option Nat) (v : V) : (putV fr d v).length = fr.length := by cases d <;> simp [putV]
theorem frameOf_length (L : Nat → Bool) : ∀ k, (frameOf ops trs fr0 L k).length = fr0.length
  | 0 => rfl
  | k + 1 => by
    simp only [frameOf]
    split
    · rw [putV_length]; exact frameOf_length L k
    · exact frameOf_length L k
theorem putV_other {fr : List V} {d : Option Nat} {v : V} {t : Nat} (h : d ≠ some t) : (putV fr d v).getD t undefV = fr.getD t undefV := by
  cases d with
  | none => rfl
  | some d =>
    have : d ≠ t := fun e => h (by rw [e])
    simp only [putV, List.getD_eq_getElem?_getD]
    rw [List.getElem?_set_ne this]
theorem putV_congr {fr fr' : List V} {d : Option Nat} {v : V} {t : Nat} (hl : fr.length = fr'.length) (h : fr.getD t undefV = fr'.getD t undefV) : (putV fr d v).getD t undefV = (putV fr' d v).getD t undefV := by
  cases d with
  | none => exact h
  | some d =>
    simp only [putV, List.getD_eq_getElem?_getD, List.getElem?_set] at h ⊢
    by_cases e : d = t
    · simp only [e, if_true, hl]
    · simp only [e, if_false]; exact h
/-- Only the writers of a variable count. -/
theorem frameOf_agree {L L' : Nat → Bool} {t : Nat} : ∀ k, (∀ j, j < k → dstOf ops j = some t → L j = L' j) → (frameOf ops trs fr0 L k).getD t undefV = (frameOf ops trs fr0 L' k).getD t undefV
  | 0, _ => rfl
  | k + 1, h => by
    have ih := frameOf_agree (L := L) (L' := L') k fun j hj => h j (by omega)
    simp only [frameOf]
    by_cases hd : dstOf ops k = some t
    · rw [h k (by omega) hd]
      split
      · exact putV_congr (by rw [frameOf_length, frameOf_length]) ih
      · exact ih
    · have h1 := putV_other (fr := frameOf ops trs fr0 L k) (v := valOf trs k) hd
      have h2 := putV_other (fr := frameOf ops trs fr0 L' k) (v := valOf trs k) hd
      split <;> split <;> simp only [h1, h2, ih]
/-- Only those below count. -/
theorem frameOf_below {L : Nat → Bool} {i : Nat} : ∀ k, i ≤ k → (∀ j, i ≤ j → j < k → L j = false) → frameOf ops trs fr0 L k = frameOf ops trs fr0 L i
  | 0, h, _ => by have : i = 0 := by omega
                  subst this; rfl
  | k + 1, h, hL => by
    by_cases e : i = k + 1
    · subst e; rfl
    · simp only [frameOf]
      rw [if_neg (by rw [hL k (by omega) (by omega)]; simp)]
      exact frameOf_below k (by omega) fun j h1 h2 => hL j h1 (by omega)
theorem frameOf_pre {L L' : Nat → Bool} : ∀ k, (∀ j, j < k → L j = L' j) → frameOf ops trs fr0 L k = frameOf ops trs fr0 L' k
  | 0, _ => rfl
  | k + 1, h => by simp only [frameOf]; rw [h k (by omega), frameOf_pre k fun j hj => h j (by omega)]
/-- One more operation. -/
theorem frameOf_add {L : Nat → Bool} {i n : Nat} (hi : i < n) (hL : L i = false) (hlast : ∀ j, i < j → j < n → L j = true → ∀ d, dstOf ops i = some d → dstOf ops j ≠ some d) (t : Nat) :
    (frameOf ops trs fr0 (fun j => L j || j == i) n).getD t undefV = (putV (frameOf ops trs fr0 L n) (dstOf ops i) (valOf trs i)).getD t undefV := by
  by_cases hd : dstOf ops i = some t
  · -- i is the last writer
    have key : ∀ k, i < k → k ≤ n → (frameOf ops trs fr0 (fun j => L j || j == i) k).getD t undefV = (putV (frameOf ops trs fr0 L k) (some t) (valOf trs i)).getD t undefV := by
      intro k
      induction k with
      | zero => intro h; omega
      | succ k ih =>
        intro h1 h2
        by_cases e : k = i
        · subst e
          have hpre : frameOf ops trs fr0 (fun j => L j || j == k) k = frameOf ops trs fr0 L k := frameOf_pre k fun j hj => by
            have hjk : (j == k) = false := by simp; omega
            simp [hjk]
          simp only [frameOf, hL, hd, hpre, beq_self_eq_true, Bool.or_true, if_true, Bool.false_eq_true, if_false]
        · have ih := ih (by omega) (by omega)
          have hki : (k == i) = false := by simp; exact e
          simp only [frameOf, hki, Bool.or_false]
          cases hk : L k with
          | false => simpa using ih
          | true =>
            have hne := hlast k (by omega) (by omega) hk t hd
            simp only [if_true]
            rw [putV_other hne, ih]
            exact putV_congr (by rw [putV_length]) (putV_other hne).symm
    rw [key n hi (Nat.le_refl _), hd]
  · rw [putV_other hd]
    refine frameOf_agree n fun j hj hdj => ?_
    have : j ≠ i := fun e => hd (by rw [← e]; exact hdj)
    simp [this]
theorem stateOf_agree {L L' : Nat → Bool} : ∀ k, (∀ j, j < k → moverAt ops j = true → L j = L' j) → stateOf ops trs s0 L k = stateOf ops trs s0 L' k
  | 0, _ => rfl
  | k + 1, h => by
    simp only [stateOf]
    rw [stateOf_agree k fun j hj => h j (by omega)]
    cases hm : moverAt ops k with
    | false => simp
    | true => rw [h k (by omega) hm]
theorem stateOf_last {L : Nat → Bool} : ∀ k, (stateOf ops trs s0 L k = s0 ∧ ∀ j, j < k → moverAt ops j = true → L j = false) ∨
    ∃ j, j < k ∧ L j = true ∧ moverAt ops j = true ∧ stateOf ops trs s0 L k = (trs[j]?.getD default).s' ∧ ∀ j', j < j' → j' < k → moverAt ops j' = true → L j' = false
  | 0 => .inl ⟨rfl, fun j hj => by omega⟩
  | k + 1 => by
    simp only [stateOf]
    by_cases hk : L k && moverAt ops k
    · rw [if_pos hk]
      simp only [Bool.and_eq_true] at hk
      exact .inr ⟨k, by omega, hk.1, hk.2, rfl, fun j' h1 h2 => by omega⟩
    · rw [if_neg hk]
      have hk' : moverAt ops k = true → L k = false := by
        intro hm; cases hl : L k with
        | false => rfl
        | true => simp [hl, hm] at hk
      rcases stateOf_last (L := L) k with ⟨h1, h2⟩ | ⟨j, h1, h2, h3, h4, h5⟩
      · exact .inl ⟨h1, fun j hj hm => by
          by_cases e : j = k
          · subst e; exact hk' hm
          · exact h2 j (by omega) hm⟩
      · exact .inr ⟨j, by omega, h2, h3, h4, fun j' q1 q2 q3 => by
          by_cases e : j' = k
          · subst e; exact hk' q3
          · exact h5 j' q1 (by omega) q3⟩
theorem stateOf_top {L : Nat → Bool} {i n : Nat} (hi : i < n) (hm : moverAt ops i = true) (hLi : L i = true) (hno : ∀ j, i < j → j < n → moverAt ops j = true → L j = false) : stateOf ops trs s0 L n = (trs[i]?.getD default).s' := by
  rcases stateOf_last (ops := ops) (trs := trs) (s0 := s0) (L := L) n with ⟨_, h2⟩ | ⟨j, h1, h2, h3, h4, h5⟩
  · rw [h2 i hi hm] at hLi; cases hLi
  · by_cases e : j = i
    · subst e; exact h4
    · by_cases hlt : j < i
      · rw [h5 i hlt hi hm] at hLi; cases hLi
      · rw [hno j (by omega) h1 h3] at h2; cases h2

/-! ### The trace -/
variable {P : Program} {X : Spec} {callF : CallF}
structure TraceOK (P : Program) (X : Spec) (callF : CallF) (ops : Array Oper) (l : List Oper) (trs : List Tr) (fr : List V) (s : St) (fr' : List V) (s' : St) : Prop where
  len : trs.length = l.length
  step : ∀ (i : Nat) (o : Oper) (t : Tr), l[i]? = some o → trs[i]? = some t →
    (t.want = wantedA ops t.fr o) ∧ (t.want = true → opRun P X callF (restr (o.looksAt ops) t.fr) t.s o = some (t.v, t.s')) ∧ (t.want = false → t.v = undefV ∧ t.s' = t.s) ∧ (isMover o.op = false → t.s' = t.s)
  first : ∀ t, trs[0]? = some t → t.fr = fr ∧ t.s = s
  next : ∀ (i : Nat) (o : Oper) (t u : Tr), l[i]? = some o → trs[i]? = some t → trs[i + 1]? = some u → u.fr = putV t.fr o.dst t.v ∧ u.s = t.s'
  last : ∀ (i : Nat) (o : Oper) (t : Tr), l[i]? = some o → trs[i]? = some t → i + 1 = l.length → fr' = putV t.fr o.dst t.v ∧ s' = t.s'
  nil : l = [] → fr' = fr ∧ s' = s
theorem trace_ok : ∀ {l : List Oper} {fr : List V} {s : St} {trs : List Tr} {fr' : List V} {s' : St}, trace P X callF ops l fr s = some (trs, fr', s') → TraceOK P X callF ops l trs fr s fr' s'
  | [], fr, s, trs, fr', s', h => by
    simp only [trace, Option.some.injEq, Prod.mk.injEq] at h
    obtain ⟨rfl, rfl, rfl⟩ := h
    exact ⟨rfl, by intro i o t h; simp at h, by intro t h; simp at h, by intro i o t u h; simp at h, by intro i o t h; simp at h, fun _ => ⟨rfl, rfl⟩⟩
  | o :: rest, fr, s, trs, fr', s', h => by
    -- the first entry, and the rest
    have key : ∃ (t0 : Tr) (l : List Tr) (fr1 : List V) (s1 : St), trs = t0 :: l ∧ t0.fr = fr ∧ t0.s = s ∧ fr1 = putV fr o.dst t0.v ∧ s1 = t0.s' ∧ TraceOK P X callF ops rest l fr1 s1 fr' s' ∧
        (t0.want = wantedA ops t0.fr o) ∧ (t0.want = true → opRun P X callF (restr (o.looksAt ops) t0.fr) t0.s o = some (t0.v, t0.s')) ∧ (t0.want = false → t0.v = undefV ∧ t0.s' = t0.s) ∧ (isMover o.op = false → t0.s' = t0.s) := by
      simp only [trace] at h
      split at h
      · rename_i hw
        split at h
        · rename_i v s1 hop
          split at h
          · rename_i hq
            split at h
            · rename_i l fr2 s2 hr
              cases h
              refine ⟨_, l, _, _, rfl, rfl, rfl, rfl, rfl, trace_ok hr, hw.symm, fun _ => hop, fun e => (by cases e), fun hm => ?_⟩
              rw [hm, Bool.false_or, beq_iff_eq] at hq
              exact quiet_state hm hop hq
            · cases h
          · cases h
        · cases h
      · rename_i hw
        split at h
        · rename_i l fr2 s2 hr
          cases h
          exact ⟨_, l, _, _, rfl, rfl, rfl, rfl, rfl, trace_ok hr, by simpa using hw, fun e => (by cases e), fun _ => ⟨rfl, rfl⟩, fun _ => rfl⟩
        · cases h
    obtain ⟨t0, l, fr1, s1, rfl, e1, e2, e3, e4, T, q1, q2, q3, q4⟩ := key
    refine ⟨by simp [T.len], ?_, ?_, ?_, ?_, by intro h; cases h⟩
    · intro i o' t hi ht
      cases i with
      | zero => simp at hi ht; subst hi; subst ht; exact ⟨q1, q2, q3, q4⟩
      | succ i => simp at hi ht; exact T.step i o' t hi ht
    · intro t ht; simp at ht; subst ht; exact ⟨e1, e2⟩
    · intro i o' t u hi ht hu
      cases i with
      | zero =>
        simp at hi ht hu; subst hi; subst ht
        have := T.first u (by simpa using hu)
        rw [this.1, this.2, e3, e4, e1]; exact ⟨rfl, rfl⟩
      | succ i => simp at hi ht hu; exact T.next i o' t u hi ht (by simpa using hu)
    · intro i o' t hi ht hl
      cases i with
      | zero =>
        simp at hi ht hl; subst hi; subst ht
        have := T.nil hl
        rw [this.1, this.2, e3, e4, e1]; exact ⟨rfl, rfl⟩
      | succ i => simp at hi ht hl; exact T.last i o' t hi ht hl
/-- The trace's frames and states are those of what stands ahead. -/
theorem TraceOK.at {fr : List V} {s : St} {fr' : List V} {s' : St} (T : TraceOK P X callF ops ops.toList trs fr s fr' s') : ∀ (i : Nat), i ≤ ops.size →
    (∀ t, trs[i]? = some t → t.fr = frameOf ops trs fr (fun _ => true) i ∧ t.s = stateOf ops trs s (fun _ => true) i) ∧ (i = ops.size → fr' = frameOf ops trs fr (fun _ => true) i ∧ s' = stateOf ops trs s (fun _ => true) i)
  | 0, h => by
    refine ⟨fun t ht => T.first t ht, fun e => ?_⟩
    have : ops.toList = [] := by simpa using e.symm
    exact T.nil this
  | i + 1, h => by
    have ih := TraceOK.at T i (by omega)
    have hlt : i < trs.length := by rw [T.len, Array.length_toList]; omega
    obtain ⟨ti, hti⟩ : ∃ t, trs[i]? = some t := ⟨_, List.getElem?_eq_getElem hlt⟩
    have hlo : i < ops.toList.length := by rw [Array.length_toList]; omega
    obtain ⟨o, ho⟩ : ∃ o, ops.toList[i]? = some o := ⟨_, List.getElem?_eq_getElem hlo⟩
    have ho' : ops[i]? = some o := by rw [← Array.getElem?_toList]; exact ho
    obtain ⟨hf, hs⟩ := ih.1 ti hti
    have hd : dstOf ops i = o.dst := by simp [dstOf, ho']
    have hv : valOf trs i = ti.v := by simp [valOf, hti]
    have hm : moverAt ops i = isMover o.op := by simp [moverAt, ho']
    have hst : stateOf ops trs s (fun _ => true) (i + 1) = ti.s' := by
      simp only [stateOf, Bool.true_and, hm]
      cases hmo : isMover o.op with
      | true => simp [hti]
      | false => simp only [Bool.false_eq_true, if_false]; rw [← hs]; exact ((T.step i o ti ho hti).2.2.2 hmo).symm
    have hfr : frameOf ops trs fr (fun _ => true) (i + 1) = putV ti.fr o.dst ti.v := by
      simp only [frameOf, if_true, hd, hv, hf]
    refine ⟨fun t ht => ?_, fun e => ?_⟩
    · have := T.next i o ti t ho hti ht
      rw [hst, hfr]; exact this
    · have := T.last i o ti ho hti (by simpa using e)
      rw [hst, hfr]; exact this
end
end Go.Proofs.Ytlmmeihgjpgooaa.AM
