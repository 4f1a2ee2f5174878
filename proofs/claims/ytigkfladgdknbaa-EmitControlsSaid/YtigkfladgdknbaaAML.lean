/- A logic over the abstract machine, more. -/
import Derived.Test.YtigkfladgdknbaaAMK
import Derived.SizedLaws
import Derived.ChangeSlices
import Derived.ChangeArms
import Derived.ChangeKeysEq
/- A logic over the abstract machine: what comes in, and what goes out. -/
set_option linter.unusedSimpArgs false
set_option linter.unusedVariables false
namespace Go.Proofs.Ytigkfladgdknbaa.AM
open Go Go.RowKit
section
variable {P : Program} {X : Spec}
/-- What came in lies in memory, to be read only. -/
structure InW (w : World) (μ : Map) (s : St) (H : Hyp) : Prop where
  rel : Rel w μ s w
  hp : Hp s H
  ro : ∀ b l, μ b = some l → ∃ cells ty esz, s.get b = some (.blk cells ty esz 0 0)
  fam : 0 < s.next → s.fam 0 = (1, 0)
  own : ∀ x ∈ H, x.2.isOwn = false
theorem inW_start (w : World) : InW w nowhere St.empty [] :=
  ⟨rel_start w, ⟨⟨rfl, rfl⟩, (fun k h => absurd h (Nat.not_lt_zero _)), (fun x h => by cases h), List.Pairwise.nil⟩, (fun b l h => by cases h), (fun h => absurd h (Nat.not_lt_zero _)), (fun x h => by cases h)⟩
theorem InW.add {w : World} {μ : Map} {s : St} {H : Hyp} (h : InW w μ s H) (cells : List Cell) (ty esz : Nat) (l : Loc) (hl : l.blk < w.heap.size) (hc : cells.length ≤ l.cap * esz)
    (hr : ∀ (i : Nat) (c : Cell), cells[i]? = some c → ∃ v, c.conc μ = some v ∧ w.cell? ⟨l.blk, l.sh + i, none⟩ = some v) :
    Sub μ (upd μ s.next l) ∧ InW w (upd μ s.next l) (s.push (.blk cells ty esz 0 0)) ((s.next, .row false ty esz cells) :: H) := by
  have hsub := sub_upd l h.rel.fresh
  have hwf := h.hp.wf
  have hg : ∀ b, (s.push (.blk cells ty esz 0 0)).get b = if b = s.next then some (.blk cells ty esz 0 0) else s.get b := fun b => St.get_push hwf _ b
  have hfam0 : (s.push (.blk cells ty esz 0 0)).fam 0 = (1, 0) := by
    rw [St.fam_push hwf _ _ (Nat.zero_le _)]
    split
    · rfl
    · exact h.fam (by omega)
  have hro : ∀ b l', upd μ s.next l b = some l' → ∃ cells' ty' esz', (s.push (.blk cells ty esz 0 0)).get b = some (.blk cells' ty' esz' 0 0) := by
    intro b l' hb
    rw [hg]
    by_cases e : b = s.next
    · rw [if_pos e]; exact ⟨_, _, _, rfl⟩
    · rw [if_neg e]
      simp only [upd, if_neg e] at hb
      exact h.ro b l' hb
  refine ⟨hsub, ⟨St.wf_push hwf _, Below.refl _ _, ?_, ?_⟩, ⟨St.wf_push hwf _, ?_, ?_, ?_⟩, hro, fun _ => hfam0, ?_⟩
  · intro b l' hb
    by_cases e : b = s.next
    · subst e
      rw [upd_self] at hb; cases hb
      refine ⟨_, by rw [hg, if_pos rfl], ?_⟩
      refine ⟨by simp [St.push], Nat.zero_le _, hl, hc, fun q => ?_, fun _ i c hi => ?_⟩
      · rw [hfam0] at q; cases q
      · obtain ⟨v, q1, q2⟩ := hr i c hi
        exact ⟨v, Cell.conc_mono hsub q1, q2⟩
    · simp only [upd, if_neg e] at hb
      obtain ⟨o', ho', hr'⟩ := h.rel.obj b l' hb
      refine ⟨o', by rw [hg, if_neg e]; exact ho', hr'.keep hsub (fun r hr2 => ?_) (by simp [St.push]) rfl⟩
      rw [St.fam_push hwf _ _ (by omega), if_neg (by omega)]
  · intro b1 b2 l1 l2 hne h1 h2 he
    obtain ⟨c1, t1, e1, g1⟩ := hro b1 l1 h1
    obtain ⟨c2, t2, e2, g2⟩ := hro b2 l2 h2
    refine ⟨c1, t1, e1, 0, 0, c2, t2, e2, 0, g1, g2, ?_, ?_, ?_⟩
    · rw [hfam0]; intro q; cases q.1
    · rw [hfam0]; intro q; cases q
    · rw [hfam0]; intro q; cases q
  · intro k hk
    have hk' : k ≤ s.next := by simp only [St.push] at hk; omega
    rw [St.fam_push hwf _ k hk']
    split
    · decide
    · exact h.hp.pos k (by omega)
  · intro x hx
    rcases List.mem_cons.1 hx with rfl | hx
    · exact ⟨0, 0, by rw [hg, if_pos rfl], by simp [St.push], by rw [hfam0]; exact Nat.le_refl _, fun q => by cases q⟩
    · exact fact_push hwf _ (h.hp.fact x hx)
  · refine List.Pairwise.cons (fun y hy => ?_) (pairwise_imp_mem h.hp.apart fun x hx y hy q => q.push hwf _ (fact_lt (h.hp.fact x hx)) (fact_lt (h.hp.fact y hy)))
    have hlt := (fact_lt (h.hp.fact y hy))
    refine ⟨?_, fun a b c => ?_⟩
    · show s.next ≠ y.1; omega
    · have := h.own y hy
      simp [Fact.isOwn, this] at c
      cases hy2 : y.2 <;> rw [hy2] at this c <;> simp [Fact.isOwn] at this c
      rw [this] at c; cases c
  · intro x hx
    rcases List.mem_cons.1 hx with rfl | hx
    · rfl
    · exact h.own x hx
/-- How a value that lies in memory is told: kind by kind. -/
abbrev Lay (α : Type) := Hyp → α → List Cell → Prop
def Lay.mono {α : Type} (lay : Lay α) : Prop := ∀ H H' x cs, (∀ y ∈ H, y ∈ H') → lay H x cs → lay H' x cs
def layFlat {α : Type} (enc : α → List Cell) : Lay α := fun _ x cs => cs = enc x
/-- Elements, one behind the other. -/
inductive Lay2 {α : Type} (lay : Lay α) (H : Hyp) : List α → List (List Cell) → Prop
  | nil : Lay2 lay H [] []
  | cons {x : α} {xs : List α} {cs : List Cell} {css : List (List Cell)} (h : lay H x cs) (t : Lay2 lay H xs css) : Lay2 lay H (x :: xs) (cs :: css)
theorem Lay2.mono {α : Type} {lay : Lay α} (hm : lay.mono) {H H' : Hyp} (hs : ∀ y ∈ H, y ∈ H') {xs : List α} {css : List (List Cell)} (h : Lay2 lay H xs css) : Lay2 lay H' xs css := by
  induction h with
  | nil => exact .nil
  | cons h t ih => exact .cons (hm _ _ _ _ hs h) ih
theorem Lay2.length {α : Type} {lay : Lay α} {H : Hyp} {xs : List α} {css : List (List Cell)} (h : Lay2 lay H xs css) : css.length = xs.length := by
  induction h with
  | nil => rfl
  | cons h t ih => simp [ih]
theorem Lay2.get {α : Type} {lay : Lay α} {H : Hyp} {xs : List α} {css : List (List Cell)} (h : Lay2 lay H xs css) : ∀ {i : Nat} {x : α}, xs[i]? = some x → ∃ cs, css[i]? = some cs ∧ lay H x cs := by
  induction h with
  | nil => intro i x hx; simp at hx
  | cons h t ih =>
    intro i x hx
    cases i with
    | zero => simp at hx; subst hx; exact ⟨_, rfl, h⟩
    | succ i => simp at hx; obtain ⟨cs, h1, h2⟩ := ih hx; exact ⟨cs, by simpa using h1, h2⟩
/-- Laying behind a call's answer: true. -/
theorem true_of_call {f : Nat} {args : List V} {H : Hyp} {w : World} {μ : Map} {s : St} {vals : List Value} (hm : P.follows .mixedOrders = true) (hX : SpecAt P X w) (hN : PlainNames P) (hX0 : ∀ vals, X f vals = none)
    (hI : InW w μ s H) (hv : concVs μ args = some vals) (h : CallW P X f args H (fun v _ => v = vB true)) : Calls P f vals.toArray w fun e w' => e = .returned (.bool true) ∧ Below w.heap.size w w' := by
  obtain ⟨n, v, s', H', h1, h2, rfl⟩ := h s hI.hp
  have h1' : callA P X n f args s = some (vB true, s') := by
    unfold xCallFn at h1
    cases hq : scalars args with
    | none => rw [hq] at h1; exact h1
    | some vs => rw [hq] at h1; simp only [Option.bind_some, hX0] at h1; exact h1
  refine (call_sim hm hX hN h1' hI.rel hv).mono fun e w' q => ?_
  obtain ⟨μ', v', _, q2, rfl, q4⟩ := q
  simp only [V.conc, V1.conc, Cell.conc, Option.some.injEq] at q2
  subst q2
  exact ⟨rfl, q4.below⟩
end
end Go.Proofs.Ytigkfladgdknbaa.AM
/- A logic over the abstract machine: regions that draw their order, where what is looked at stays as it is (F). -/
set_option linter.unusedSimpArgs false
set_option linter.unusedVariables false
namespace Go.Proofs.Ytigkfladgdknbaa.AM
open Go Go.RowKit
section
variable {P : Program} {X : Spec} {sz : Nat}
/-- What moves memory, but writes to nothing that was there. -/
def freeOp : Op → Bool
  | .alloc _ | .box .. | .buildSlice .. | .makeSlice .. | .makeMap .. | .range .. => true
  | .call { callee := .value _, .. } => true
  | .call { callee := .builtin .append, .. } => true
  | _ => false
structure FOK (P : Program) (X : Spec) (n : Nat) (ops : Array Oper) (F : Hyp) (o : Oper) (t : Tr) : Prop where
  mover : isMover o.op = true → freeOp o.op = true → Hp t.s' F
  quiet : t.want = true → isMover o.op = false → blind P o.op = false → ∀ s2, Hp s2 F → opRun P X (callA P X n) (restr (o.looksAt ops) t.fr) s2 o = some (t.v, s2)
theorem FOK.mono {n m : Nat} (h : n ≤ m) {ops : Array Oper} {F : Hyp} {o : Oper} {t : Tr} (q : FOK P X n ops F o t) : FOK P X m ops F o t :=
  ⟨q.mover, fun a b c s2 hs => opRun_mono (callA_le h) (q.quiet a b c s2 hs)⟩
def WF (P : Program) (X : Spec) (sz : Nat) (ops : Array Oper) (F : Hyp) (l : List Oper) (e : Env) (H : Hyp) (Q : Env → Hyp → Prop) : Prop :=
  ∀ fr s, fr.size = sz → Has fr e → Hp s H → ∃ n trs fr' s' e' H', trace P X (callA P X n) ops l fr s = some (trs, fr', s') ∧ fr'.size = sz ∧ Has fr' e' ∧ Hp s' H' ∧ Q e' H' ∧ ∀ (i : Nat) o t, l[i]? = some o → trs[i]? = some t → FOK P X n ops F o t
variable {ops : Array Oper} {F : Hyp} {o : Oper} {l : List Oper} {e : Env} {H : Hyp} {Q : Env → Hyp → Prop}
theorem f_end (h : Q e H) : WF P X sz ops F [] e H Q :=
  fun fr s h1 h2 h3 => ⟨0, [], fr, s, e, H, rfl, h1, h2, h3, h, fun i o t hi => by simp at hi⟩
theorem f_step (hd : dstOk sz o.dst = true) {fr : Fr} {s : St} (h1 : fr.size = sz) (h2 : Has fr e) (h3 : Hp s H) (hw : wantedA ops fr o = true)
    (h : OpW P X true o (Env.only (o.looksAt ops) e) H (fun v H' => WF P X sz ops F l (putE e o.dst v) H' Q ∧ (isMover o.op = true → freeOp o.op = true → Sel H' F) ∧
      (isMover o.op = false → blind P o.op = false → OpW P X true o (Env.only (o.looksAt ops) e) F (fun v' _ => v' = v)))) :
    ∃ n trs fr' s' e' H', trace P X (callA P X n) ops (o :: l) fr s = some (trs, fr', s') ∧ fr'.size = sz ∧ Has fr' e' ∧ Hp s' H' ∧ Q e' H' ∧ ∀ (i : Nat) o' t, (o :: l)[i]? = some o' → trs[i]? = some t → FOK P X n ops F o' t := by
  obtain ⟨n, v, s1, H1, a1, a2, ⟨a3, a5, a6⟩, a4⟩ := h (restr (o.looksAt ops) fr) s (h2.only _) h3
  obtain ⟨m, trs, fr2, s2, e2, H2, b1, b2, b3, b4, b5, b6⟩ := a3 (putV fr o.dst v) s1 (by rw [putV_size, h1]) (h2.putV h1 hd v) a2
  -- what looks again: at one depth
  have hq : ∃ p, isMover o.op = false → blind P o.op = false → ∀ s2, Hp s2 F → opRun P X (callA P X p) (restr (o.looksAt ops) fr) s2 o = some (v, s2) := by
    refine ⟨n, fun hm hb s2 hs2 => ?_⟩
    obtain ⟨p, v', s3, H3, c1, c2, c3, c4⟩ := a6 hm hb (restr (o.looksAt ops) fr) s2 (h2.only _) hs2
    subst c3
    have hs3 := quiet_state hm c1 (c4 rfl hm)
    subst hs3
    have : ∀ p q : Nat, opRun P X (callA P X p) (restr (o.looksAt ops) fr) s3 o = opRun P X (callA P X q) (restr (o.looksAt ops) fr) s3 o := by
      intro p q
      obtain ⟨dst, op, type, pos, after, guard⟩ := o
      cases op with
      | call cl =>
        obtain ⟨callee, args, argTypes⟩ := cl
        cases callee with
        | value g => cases hm
        | builtin b => rfl
        | invoke a b => rfl
      | makeFunc fn first captured =>
        obtain ⟨first⟩ := first
        cases fn <;> cases first <;> rfl
      | makeMap t r => cases r <;> rfl
      | next it b => cases b <;> rfl
      | _ => rfl
    rw [this n p]; exact c1
  obtain ⟨p, hq⟩ := hq
  refine ⟨max p (max n m), ⟨true, v, s, s1, fr⟩ :: trs, fr2, s2, e2, H2, ?_, b2, b3, b4, b5, ?_⟩
  · simp only [trace, hw, if_true]
    rw [opRun_mono (callA_le (by omega)) a1]
    have hq : (isMover o.op || s1.next == s.next) = true := by
      cases hm : isMover o.op with
      | true => rfl
      | false => simp [a4 rfl hm]
    simp only [hq, if_true]
    rw [trace_mono (callA_le (by omega)) b1]
  · intro i o' t hi ht
    cases i with
    | zero =>
      simp at hi ht
      subst hi; subst ht
      exact ⟨fun x y => a2.sel (a5 x y), fun _ x y s2 hs2 => opRun_mono (callA_le (by omega)) (hq x y s2 hs2)⟩
    | succ i => exact (b6 i o' t (by simpa using hi) (by simpa using ht)).mono (by omega)
/-- Is an operation wanted: by its guard. -/
def GuardIs (ops : Array Oper) (e : Env) (o : Oper) (w : Bool) : Prop := (o.guard = none ∧ w = true) ∨ ∃ j want t v, o.guard = some (j, want) ∧ (ops[j]?).bind (·.dst) = some t ∧ Env.get e t = some v ∧ boolIs want v = w
theorem guard_none {ops : Array Oper} {e : Env} {o : Oper} (h : o.guard = none) : GuardIs ops e o true := .inl ⟨h, rfl⟩
theorem GuardIs.ok {w : Bool} (h : GuardIs ops e o w) {fr : Fr} (hf : Has fr e) : wantedA ops fr o = w := by
  unfold wantedA
  rcases h with ⟨h, rfl⟩ | ⟨j, want, t, v, h, hj, ht, hv⟩
  · rw [h]
  · rw [h]; simp only [hj, hf t _ ht, hv]
section
variable {dd : Nat}
/-- What moves memory, and leaves F. -/
theorem f_m (hg : GuardIs ops e o true) (h0 : o.dst = some dd) (hd : Nat.blt dd sz = true) (hm : isMover o.op = true) (h : OpW P X true o (Env.only (o.looksAt ops) e) H (fun v H' => Sel H' F ∧ WF P X sz ops F l ((dd, v) :: e) H' Q)) : WF P X sz ops F (o :: l) e H Q :=
  fun fr s h1 h2 h3 => f_step (by rw [h0]; exact hd) h1 h2 h3 (hg.ok h2) (by
    rw [h0]
    intro fr s a b
    obtain ⟨n, v, s', H', c1, c2, ⟨c3, c4⟩, c5⟩ := h fr s a b
    exact ⟨n, v, s', H', c1, c2, ⟨c4, (fun _ _ => c3), (fun x => by rw [hm] at x; cases x)⟩, c5⟩)
/-- What asks nothing of memory. -/
theorem f_b (hg : GuardIs ops e o true) (h0 : o.dst = some dd) (hd : Nat.blt dd sz = true) (hm : isMover o.op = false) (hb : blind P o.op = true) (h : OpW P X true o (Env.only (o.looksAt ops) e) H (fun v H' => WF P X sz ops F l ((dd, v) :: e) H' Q)) : WF P X sz ops F (o :: l) e H Q :=
  fun fr s h1 h2 h3 => f_step (by rw [h0]; exact hd) h1 h2 h3 (hg.ok h2) (by
    rw [h0]
    intro fr s a b
    obtain ⟨n, v, s', H', c1, c2, c4, c5⟩ := h fr s a b
    exact ⟨n, v, s', H', c1, c2, ⟨c4, (fun x => by rw [hm] at x; cases x), (fun _ x => by rw [hb] at x; cases x)⟩, c5⟩)
/-- What looks at F. -/
theorem f_l {v : V} (hg : GuardIs ops e o true) (h0 : o.dst = some dd) (hd : Nat.blt dd sz = true) (hm : isMover o.op = false) (hs : Sel H F) (h : OpW P X true o (Env.only (o.looksAt ops) e) F (fun v' _ => v' = v)) (k : WF P X sz ops F l ((dd, v) :: e) H Q) : WF P X sz ops F (o :: l) e H Q :=
  fun fr s h1 h2 h3 => f_step (by rw [h0]; exact hd) h1 h2 h3 (hg.ok h2) (by
    rw [h0]
    intro fr s a b
    obtain ⟨n, v', s', H', c1, c2, c4, c5⟩ := h fr s a (b.sel hs)
    subst c4
    have := quiet_state hm c1 (c5 rfl hm)
    subst this
    exact ⟨n, _, s', H, c1, b, ⟨k, fun x => (by rw [hm] at x; cases x), fun _ _ => h⟩, c5⟩)
end
def memOK2 (P : Program) (ops : Array Oper) : Bool :=
  let b := Region.before ops
  (List.range ops.size).all fun i => ((ops[i]?).all fun o => isMover o.op || blind P o.op) ||
    (List.range ops.size).all fun j => ((ops[j]?).all fun u => !isMover u.op || freeOp u.op) || bitB b j i || (List.range ops.size).any fun k => decide (j < k) && moverAt ops k && bitB b i k
theorem dynOK_ofF {n : Nat} {trs : List Tr} {fr fr' : Fr} {s s' : St} (T : TraceOK P X (callA P X n) ops ops.toList trs fr s fr' s') (hM : memOK2 P ops = true) (hF : Hp s F)
    (hK : ∀ (i : Nat) o t, ops.toList[i]? = some o → trs[i]? = some t → FOK P X n ops F o t) : dynOK P X (callA P X n) ops trs s = true := by
  unfold dynOK
  simp only [List.all_eq_true, List.mem_range]
  intro i hi
  have hti : i < trs.length := by rw [T.len, Array.length_toList]; exact hi
  have ho : ops[i]? = some ops[i] := Array.getElem?_eq_getElem hi
  have ht : trs[i]? = some trs[i] := List.getElem?_eq_getElem hti
  simp only [ho, ht]
  generalize hoe : ops[i] = o at ho ⊢
  generalize hte : trs[i] = t at ht ⊢
  cases hm : isMover o.op with
  | true => rfl
  | false =>
    cases hw : t.want with
    | false => rfl
    | true =>
      simp only [Bool.not_true, Bool.or_self, Bool.false_or, Bool.and_eq_true]
      have hol : ops.toList[i]? = some o := by rw [Array.getElem?_toList]; exact ho
      obtain ⟨_, h1, _, h3⟩ := T.step i o t hol ht
      have hrun := h1 hw
      rw [h3 hm] at hrun
      cases hb : blind P o.op with
      | true =>
        refine ⟨by rw [sameAt_blind hb hrun s]; simp, ?_⟩
        simp only [List.all_eq_true, List.mem_range]
        intro j hj
        have htj : j < trs.length := by rw [T.len, Array.length_toList]; exact hj
        simp only [Array.getElem?_eq_getElem hj, List.getElem?_eq_getElem htj]
        rw [sameAt_blind hb hrun]; simp
      | false =>
        have hsame : ∀ s2, Hp s2 F → sameAt P X (callA P X n) ops o t s2 = true := by
          intro s2 hs2
          unfold sameAt
          rw [(hK i o t hol ht).quiet hw hm hb s2 hs2]; simp
        unfold memOK2 at hM
        simp only [List.all_eq_true, List.mem_range] at hM
        have hMi := hM i hi
        simp only [ho, Option.all_some, hm, hb, Bool.or_self, Bool.false_or, List.all_eq_true, List.mem_range] at hMi
        refine ⟨by rw [hsame s hF]; simp, ?_⟩
        simp only [List.all_eq_true, List.mem_range]
        intro j hj
        have htj : j < trs.length := by rw [T.len, Array.length_toList]; exact hj
        have hoj : ops[j]? = some ops[j] := Array.getElem?_eq_getElem hj
        have htj' : trs[j]? = some trs[j] := List.getElem?_eq_getElem htj
        simp only [hoj, htj']
        have h9 := hMi j hj
        simp only [hoj, Option.all_some] at h9
        cases hmv : isMover (ops[j]).op with
        | false => rfl
        | true =>
          simp only [hmv, Bool.not_true, Bool.false_or, Bool.or_eq_true, Bool.and_eq_true, decide_eq_true_eq, List.any_eq_true, List.mem_range] at h9 ⊢
          rcases h9 with (h9 | h9) | ⟨k, hk, h9⟩
          · exact .inr (hsame _ ((hK j _ _ (by rw [Array.getElem?_toList]; exact hoj) htj').mover hmv h9))
          · exact .inl (.inl h9)
          · refine .inl (.inr ⟨k, hk, ⟨h9.1.1, ?_⟩, h9.2⟩)
            have := h9.1.2
            unfold moverAt at this; exact this
theorem w_drawF {id : Nat} {Q : Post} (F : Hyp) (hF : Sel H F) (hS : staticOK ops = true) (hM : memOK2 P ops = true) (h : WF P X sz ops F ops.toList e H (fun e H => Q .normal e H)) : W P X sz (.region id ops true) e H Q := by
  intro fr s h1 h2 h3
  obtain ⟨n, trs, fr', s', e', H', a, b1, b2, b3, b4, b5⟩ := h fr s h1 h2 h3
  refine ⟨n + 1, .normal, fr', s', e', H', ?_, b1, b2, b3, b4⟩
  show ((if true = true then drawRun P X (callA P X n) ops fr s else opsRun P X (callA P X n) ops ops.toList fr s).map fun q => (Ex.normal, q.1, q.2)) = _
  rw [if_pos rfl]
  unfold drawRun
  rw [if_pos hS, a]
  simp only
  rw [if_pos (dynOK_ofF (trace_ok a) hM (h3.sel hF) b5)]; rfl
end
end Go.Proofs.Ytigkfladgdknbaa.AM
/- A logic over the abstract machine: rows with room, slices of nothing, structs that are compared. -/
set_option linter.unusedSimpArgs false
set_option linter.unusedVariables false
namespace Go.Proofs.Ytigkfladgdknbaa.AM
open Go Go.RowKit
section
variable {P : Program} {X : Spec} {sz : Nat} {q : Bool} {d : Option Nat} {ty : Nat} {pos : String} {af : Array Edge} {g : Option (Nat × Bool)} {e : Env} {H : Hyp} {K : V → Hyp → Prop}
/-- A slice of its own with room behind it. -/
inductive OwnR (te n : Nat) : Cell → List Cell → List Cell → Hyp → Prop
  | nil : OwnR te n .nils [] [] []
  | row (b len : Nat) (cells room : List Cell) (hl : cells.length = len * n) : OwnR te n (.sl b 0 len (.lim 0)) cells room [(b, .row true te n (cells ++ room))]
theorem OwnR.own {te n : Nat} {c : Cell} {cells : List Cell} {N : Hyp} (h : OwnR te n c cells [] N) : Own te n c cells N := by
  cases h with
  | nil => exact .nil
  | row b len cells room hl => rw [List.append_nil]; exact .row b len cells hl
/-- Structs of whole numbers: are they equal? -/
theorem pure?_part {t : Nat} {vs : Array Value} {off : Nat} {u : Value} (ht : aggT P t = some false) (hu : vs[off]? = some u) : pure? P (part t vs off) = some u := by
  have h1 : pure? P (isAgg t) = some false := by
    unfold aggT at ht
    obtain ⟨dd, h2, h3⟩ := Option.map_eq_some_iff.1 ht
    unfold isAgg
    rw [pure?_bind', pure?_und h2]
    simp only [Option.bind_some]
    cases dd <;> first | rfl | cases h3
  unfold part
  rw [pure?_bind', h1]
  simp only [Option.bind_some, Bool.false_eq_true, if_false, hu]
  rfl
theorem eqIn_int {t : Nat} {k : IntKind} {a b : Int} (hu : P.underlying t = some (.int k)) (n : Nat) : pure? P (Op.equalIn (n + 1) t (.int k a) (.int k b)) = some (a == b) := by
  simp only [Op.equalIn, pure?_bind', pure?_und hu, Option.bind_some, if_true, pure?_pure]
theorem eqIn_str {t : Nat} {a b : ByteArray} (hu : P.underlying t = some .string) (n : Nat) : pure? P (Op.equalIn (n + 1) t (.string a) (.string b)) = some (a == b) := by
  simp only [Op.equalIn, pure?_bind', pure?_und hu, Option.bind_some, pure?_pure]
theorem eqIn_struct {t : Nat} {fields : Array Field} {xs ys : Array Value} {n : Nat} (r : Field → Bool) (hu : P.underlying t = some (.struct fields)) (hs : P.stoodInHeld t = false)
    (hf : ∀ f ∈ fields.toList, f.name ≠ "_" ∧ ∃ a b, pure? P (part f.type xs f.offset) = some a ∧ pure? P (part f.type ys f.offset) = some b ∧ pure? P (Op.equalIn n f.type a b) = some (r f)) :
    pure? P (Op.equalIn (n + 1) t (.agg xs) (.agg ys)) = some (fields.toList.all r) := by
  rw [Op.equalIn]
  simp only [pure?_bind', pure?_und hu, Option.bind_some]
  have hp : pure? P program = some P := rfl
  simp only [hp, Option.bind_some, hs, Bool.false_eq_true, if_false]
  rw [pure?_bind', ← Array.forIn_toList]
  generalize fields.toList = l at hf
  have key : ∀ (l : List Field), (∀ f ∈ l, f.name ≠ "_" ∧ ∃ a b, pure? P (part f.type xs f.offset) = some a ∧ pure? P (part f.type ys f.offset) = some b ∧ pure? P (Op.equalIn n f.type a b) = some (r f)) →
      pure? P (forIn l ((none, ()) : Option Bool × Unit) fun f __s =>
        if f.name ≠ "_" then do
          let __do_lift ← part f.type xs f.offset
          let __do_lift_1 ← part f.type ys f.offset
          let __do_lift ← Op.equalIn n f.type __do_lift __do_lift_1
          if (!__do_lift) = true then pure (ForInStep.done (some false, ()))
            else pure (ForInStep.yield (none, ()))
        else pure (ForInStep.yield (none, ()))) = some ((if l.all r then none else some false), ()) := by
    intro l
    induction l with
    | nil => intro _; rfl
    | cons f l ih =>
      intro h
      obtain ⟨h1, a, b, h2, h3, h4⟩ := h f (by simp)
      rw [List.forIn_cons, pure?_bind', if_pos h1, pure?_bind', h2, Option.bind_some, pure?_bind', h3, Option.bind_some, pure?_bind', h4, Option.bind_some]
      cases hr : r f with
      | false => simp [pure?_pure, hr]
      | true =>
        have := ih fun f hf => h f (by simp [hf])
        simp only [Bool.not_true, Bool.false_eq_true, if_false, pure?_pure, Option.bind_some, List.all_cons, hr, Bool.true_and]
        exact this
  rw [key l hf]
  cases l.all r <;> rfl
theorem op_binA {op : BinOp} {t ty' : Nat} {x y : Operand} {cs ds : List Cell} {vs ws : List Value} {v : Value} {r : V} (hx : evE e x = some (.one (.agg cs))) (hy : evE e y = some (.one (.agg ds))) (hc : concs nowhere cs = some vs) (hd : concs nowhere ds = some ws) (hg : P.eqGuardType P.depth t = false)
    (hv : pure? P (binOp op t (.agg vs.toArray) (.agg ws.toArray)) = some v) (hr : ofV v = some r) (k : K r H) : OpW P X q ⟨d, .binOp op t x y ty', ty, pos, af, g⟩ e H K := by
  intro fr s h1 h2
  refine ⟨0, r, s, H, ?_, h2, k, fun _ _ => rfl⟩
  have sa := scalar_of h1 hx (v := .agg vs.toArray) (by simp only [V.conc, V1.conc, hc]; rfl)
  have sb := scalar_of h1 hy (v := .agg ws.toArray) (by simp only [V.conc, V1.conc, hd]; rfl)
  have na : evalC fr x = none := by unfold evalC; rw [evO h1 hx]
  simp only [opRun, na]
  unfold pureOp
  rw [if_pos (by simp [Op.operands, sa, sb])]
  have hp : pure? P program = some P := rfl
  have hguard : pure? P (eqGuard op t x y (.agg vs.toArray) (.agg ws.toArray)) = some () := by
    unfold eqGuard
    cases op <;> first
      | rfl
      | (simp only [Bool.not_true, Bool.false_eq_true, if_false, pure?_bind', hp, Option.bind_some, hg, Bool.not_false, if_true]; rfl)
  have : pure? P (execOp (fun x => (scalarOf fr x).getD undef) ⟨d, .binOp op t x y ty', ty, pos, af, g⟩) = some (.value v) := by
    simp only [execOp, sa, sb, Option.getD_some, pure?_bind', hguard, hv, Option.bind_some, pure?_pure]
  rw [this]; simp only [hr]; rfl
theorem Own.lenT {α : Type} {xs : List α} {enc : α → List Cell} {te n : Nat} {c : Cell} {N : Hyp} (h : Own te n c (xs.flatMap enc) N) (henc : ∀ x, (enc x).length = n) (hn : 0 < n) : LenC c xs.length :=
  (h.sl (H := N) hn (flatMap_len henc xs) fun x hx => hx).lenC
theorem Own.slT {α : Type} {xs : List α} {enc : α → List Cell} {te n : Nat} {c : Cell} {N : Hyp} (h : Own te n c (xs.flatMap enc) N) (henc : ∀ x, (enc x).length = n) (hn : 0 < n) (hs : ∀ x ∈ N, x ∈ H) : Sl H te n c xs.length (xs.flatMap enc) :=
  h.sl hn (flatMap_len henc xs) hs
theorem Sl.sel {H' : Hyp} {te n len : Nat} {c : Cell} {cells : List Cell} (h : Sl H te n c len cells) (hs : Sel H' H) : Sl H' te n c len cells := h.sub hs.mem
theorem El.sel {H' : Hyp} {b o : Nat} {cs : List Cell} (h : El H b o cs) (hs : Sel H' H) : El H' b o cs := h.sub hs.mem
theorem ret_bool {rs : List ResultVar} {K : V → Hyp → Prop} {H' : Hyp} {b b' : Bool} (h : resE e rs = some [.c (.bool b)]) (hs : Sel H H') (hb : b = b') (hk : K (vB b') H') : retPost P rs K .ret e H := by
  subst hb; exact ret_ret h hs hk
theorem ret_int {rs : List ResultVar} {K : V → Hyp → Prop} {H' : Hyp} {k : IntKind} {a b : Int} (h : resE e rs = some [.c (.int k a)]) (hs : Sel H H') (hb : a = b) (hk : K (.one (.c (.int k b))) H') : retPost P rs K .ret e H := by
  subst hb; exact ret_ret h hs hk
/-- A result that is a struct in memory. -/
theorem ret_cellA {K : V → Hyp → Prop} {H' : Hyp} {a t b o n : Nat} {cs : List Cell} (ha : Env.get e a = some (ptrV b o)) (ht : aggT P t = some true) (hn : sizeT P t = some n) (hE : El H b o cs) (hl : cs.length = n) (hs : Sel H H') (hk : K (.one (.agg cs)) H') : retPost P [.cell a t] K .ret e H := by
  intro fr s h1 h2
  refine ⟨[.agg cs], ?_, H', h2.sel hs, hk⟩
  have hr := hE.read h2
  rw [hl] at hr
  simp only [resultsA, h1 a _ ha, xLoad, ht, hn, ptrV, hr]; rfl
theorem w_condNB {P : Program} {X : Spec} {sz : Nat} {x : Operand} {p : Bool} {a b : Code} {e : Env} {H : Hyp} {Q : Post} (hx : evE e x = some (.one (.c (.bool p)))) (hp : p = false) (hb : W P X sz b e H Q) : W P X sz (.cond x a b) e H Q := w_condB hx (fun h => by rw [hp] at h; cases h) (fun _ => hb)
end
end Go.Proofs.Ytigkfladgdknbaa.AM
/- A logic over the abstract machine: what is read as data, laid into the machine. -/
set_option linter.unusedSimpArgs false
set_option linter.unusedVariables false
namespace Go.Proofs.Ytigkfladgdknbaa.AM
open Go Go.RowKit
section
variable {P : Program} {t : TypeId}
theorem Lay2.snoc {α : Type} {lay : Lay α} {H : Hyp} : ∀ {xs : List α} {css : List (List Cell)} {x : α} {cs : List Cell}, Lay2 lay H xs css → lay H x cs → Lay2 lay H (xs ++ [x]) (css ++ [cs])
  | _, _, x, cs, .nil, h => .cons h .nil
  | _, _, x, cs, .cons a t, h => .cons a (Lay2.snoc t h)
end
/-! ### Searches, as arguments that are found -/
theorem sel_ {H H' : Hyp} (h : Sel H H' := by (repeat (first | exact Sel.refl _ | refine Sel.assocR ?_ | refine Sel.assocL ?_ | (refine Sel.pickL (by (repeat (first | exact PickL.front _ _ | exact PickL.nil _ | apply PickL.skip | apply PickL.skipL)); first | done | fail) ?_) | (refine Sel.pick (by (repeat (first | exact Pick.head _ _ _ | apply Pick.tail | apply Pick.app)); first | done | fail) ?_) | refine Sel.drop _ ?_ | refine Sel.dropL _ ?_)); first | done | fail) : Sel H H' := h
theorem env_ {e e' : Env} (h : ESub e e' := by (repeat (first | exact ESub.nil _ | refine ESub.cons rfl ?_)); first | done | fail) : ESub e e' := h
theorem subs_ {H H' : Hyp} (h : ∀ y ∈ H, y ∈ H' := by intro y hy; (repeat (first | exact hy | apply List.Mem.tail | (apply List.mem_append_left; exact hy) | apply List.mem_append_right)); first | done | fail) : ∀ y ∈ H, y ∈ H' := h
theorem mem_ {x : Nat × Fact} {H : Hyp} (h : x ∈ H := by repeat (first | exact List.Mem.head _ | assumption | apply List.Mem.tail | apply List.mem_append_right)) : x ∈ H := h
theorem el_ {H : Hyp} {b o : Nat} {cs : List Cell} (h : El H b o cs := by first | assumption | exact El.row (by repeat (first | exact List.Mem.head _ | assumption | apply List.Mem.tail | apply List.mem_append_right)) | (repeat (first | assumption | apply El.cons | apply El.app))) : El H b o cs := h
end Go.Proofs.Ytigkfladgdknbaa.AM
