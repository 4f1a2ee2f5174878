/- A logic over the abstract machine, more. -/
import Derived.Test.YtdhnjkagmbfoaaaAMK
import Derived.SizedLaws
import Derived.ChangeSlices
import Derived.ChangeArms
import Derived.ChangeKeysEq
/- A logic over the abstract machine: what comes in, and what goes out. -/
set_option linter.unusedSimpArgs false
set_option linter.unusedVariables false
namespace Go.Proofs.Ytdhnjkagmbfoaaa.AM
open Go Go.RowKit
section
variable {P : Program} {X : Spec}
/-- What came in lies in memory, to be read only. -/
structure InW (w : World) (μ : Map) (s : St) (H : Hyp) : Prop where
  rel : Rel w μ s w
  hp : Hp s H
  ro : ∀ b l, μ b = some l → ∃ cells ty esz, s.get b = some (.blk cells ty esz 0 0)
  fam : 0 < s.next → s.fam 0 = (1, 0)
  own : ∀ x ∈ H, x.2.isOwn = false
theorem inW_start (w : World) : InW w nowhere St.empty [] :=
  ⟨rel_start w, ⟨⟨rfl, rfl⟩, (fun k h => absurd h (Nat.not_lt_zero _)), (fun x h => by cases h), List.Pairwise.nil⟩, (fun b l h => by cases h), (fun h => absurd h (Nat.not_lt_zero _)), (fun x h => by cases h)⟩
theorem InW.add {w : World} {μ : Map} {s : St} {H : Hyp} (h : InW w μ s H) (cells : List Cell) (ty esz : Nat) (l : Loc) (hl : l.blk < w.heap.size) (hc : cells.length ≤ l.cap * esz)
    (hr : ∀ (i : Nat) (c : Cell), cells[i]? = some c → ∃ v, c.conc μ = some v ∧ w.cell? ⟨l.blk, l.sh + i, none⟩ = some v) :
    Sub μ (upd μ s.next l) ∧ InW w (upd μ s.next l) (s.push (.blk cells ty esz 0 0)) ((s.next, .row false ty esz cells) :: H) := by
  have hsub := sub_upd l h.rel.fresh
  have hwf := h.hp.wf
  have hg : ∀ b, (s.push (.blk cells ty esz 0 0)).get b = if b = s.next then some (.blk cells ty esz 0 0) else s.get b := fun b => St.get_push hwf _ b
  have hfam0 : (s.push (.blk cells ty esz 0 0)).fam 0 = (1, 0) := by
    rw [St.fam_push hwf _ _ (Nat.zero_le _)]
    split
    · rfl
    · exact h.fam (by omega)
  have hro : ∀ b l', upd μ s.next l b = some l' → ∃ cells' ty' esz', (s.push (.blk cells ty esz 0 0)).get b = some (.blk cells' ty' esz' 0 0) := by
    intro b l' hb
    rw [hg]
    by_cases e : b = s.next
    · rw [if_pos e]; exact ⟨_, _, _, rfl⟩
    · rw [if_neg e]
      simp only [upd, if_neg e] at hb
      exact h.ro b l' hb
  refine ⟨hsub, ⟨St.wf_push hwf _, Below.refl _ _, ?_, ?_, Nat.le_refl _⟩, ⟨St.wf_push hwf _, ?_, ?_, ?_⟩, hro, fun _ => hfam0, ?_⟩
  · intro b l' hb
    by_cases e : b = s.next
    · subst e
      rw [upd_self] at hb; cases hb
      refine ⟨_, by rw [hg, if_pos rfl], ?_⟩
      refine ⟨by simp [St.push], Nat.zero_le _, hl, hc, fun q => ?_, fun _ i c hi => ?_⟩
      · rw [hfam0] at q; cases q
      · obtain ⟨v, q1, q2⟩ := hr i c hi
        exact ⟨v, Cell.conc_mono hsub q1, q2⟩
    · simp only [upd, if_neg e] at hb
      obtain ⟨o', ho', hr'⟩ := h.rel.obj b l' hb
      refine ⟨o', by rw [hg, if_neg e]; exact ho', hr'.keep hsub (fun r hr2 => ?_) (by simp [St.push]) rfl⟩
      rw [St.fam_push hwf _ _ (by omega), if_neg (by omega)]
  · intro b1 b2 l1 l2 hne h1 h2 he
    obtain ⟨c1, t1, e1, g1⟩ := hro b1 l1 h1
    obtain ⟨c2, t2, e2, g2⟩ := hro b2 l2 h2
    refine ⟨c1, t1, e1, 0, 0, c2, t2, e2, 0, g1, g2, ?_, ?_, ?_⟩
    · rw [hfam0]; intro q; cases q.1
    · rw [hfam0]; intro q; cases q
    · rw [hfam0]; intro q; cases q
  · intro k hk
    have hk' : k ≤ s.next := by simp only [St.push] at hk; omega
    rw [St.fam_push hwf _ k hk']
    split
    · decide
    · exact h.hp.pos k (by omega)
  · intro x hx
    rcases List.mem_cons.1 hx with rfl | hx
    · exact ⟨0, 0, by rw [hg, if_pos rfl], by simp [St.push], by rw [hfam0]; exact Nat.le_refl _, fun q => by cases q⟩
    · exact fact_push hwf _ (h.hp.fact x hx)
  · refine List.Pairwise.cons (fun y hy => ?_) (pairwise_imp_mem h.hp.apart fun x hx y hy q => q.push hwf _ (fact_lt (h.hp.fact x hx)) (fact_lt (h.hp.fact y hy)))
    have hlt := (fact_lt (h.hp.fact y hy))
    refine ⟨?_, fun a b c => ?_⟩
    · show s.next ≠ y.1; omega
    · have := h.own y hy
      simp [Fact.isOwn, this] at c
      cases hy2 : y.2 <;> rw [hy2] at this c <;> simp [Fact.isOwn] at this c
      rw [this] at c; cases c
  · intro x hx
    rcases List.mem_cons.1 hx with rfl | hx
    · rfl
    · exact h.own x hx
/-- How a value that lies in memory is told: kind by kind. -/
abbrev Lay (α : Type) := Hyp → α → List Cell → Prop
def Lay.mono {α : Type} (lay : Lay α) : Prop := ∀ H H' x cs, (∀ y ∈ H, y ∈ H') → lay H x cs → lay H' x cs
def layFlat {α : Type} (enc : α → List Cell) : Lay α := fun _ x cs => cs = enc x
theorem layFlat_mono {α : Type} (enc : α → List Cell) : (layFlat enc).mono := fun _ _ _ _ _ h => h
/-- Elements, one behind the other. -/
inductive Lay2 {α : Type} (lay : Lay α) (H : Hyp) : List α → List (List Cell) → Prop
  | nil : Lay2 lay H [] []
  | cons {x : α} {xs : List α} {cs : List Cell} {css : List (List Cell)} (h : lay H x cs) (t : Lay2 lay H xs css) : Lay2 lay H (x :: xs) (cs :: css)
theorem Lay2.mono {α : Type} {lay : Lay α} (hm : lay.mono) {H H' : Hyp} (hs : ∀ y ∈ H, y ∈ H') {xs : List α} {css : List (List Cell)} (h : Lay2 lay H xs css) : Lay2 lay H' xs css := by
  induction h with
  | nil => exact .nil
  | cons h t ih => exact .cons (hm _ _ _ _ hs h) ih
theorem Lay2.length {α : Type} {lay : Lay α} {H : Hyp} {xs : List α} {css : List (List Cell)} (h : Lay2 lay H xs css) : css.length = xs.length := by
  induction h with
  | nil => rfl
  | cons h t ih => simp [ih]
theorem Lay2.get {α : Type} {lay : Lay α} {H : Hyp} {xs : List α} {css : List (List Cell)} (h : Lay2 lay H xs css) : ∀ {i : Nat} {x : α}, xs[i]? = some x → ∃ cs, css[i]? = some cs ∧ lay H x cs := by
  induction h with
  | nil => intro i x hx; simp at hx
  | cons h t ih =>
    intro i x hx
    cases i with
    | zero => simp at hx; subst hx; exact ⟨_, rfl, h⟩
    | succ i => simp at hx; obtain ⟨cs, h1, h2⟩ := ih hx; exact ⟨cs, by simpa using h1, h2⟩
theorem Lay2.flat {α : Type} {enc : α → List Cell} {H : Hyp} {xs : List α} {css : List (List Cell)} (h : Lay2 (layFlat enc) H xs css) : css.flatten = xs.flatMap enc := by
  induction h with
  | nil => rfl
  | cons h t ih => simp only [layFlat] at h; subst h; simp [ih, List.flatMap_cons]
/-- A slice: its elements, one behind the other in a row. -/
def laySl {α : Type} (te n : Nat) (lay : Lay α) : Lay (List α) := fun H xs cs => ∃ c css, cs = [c] ∧ Sl H te n c xs.length css.flatten ∧ Lay2 lay H xs css ∧ ∀ r ∈ css, r.length = n
theorem laySl_mono {α : Type} {te n : Nat} {lay : Lay α} (hm : lay.mono) : (laySl te n lay).mono := by
  intro H H' xs cs hs h
  obtain ⟨c, css, h1, h2, h3, h4⟩ := h
  exact ⟨c, css, h1, h2.sub hs, h3.mono hm hs, h4⟩
/-- Laying behind a call's answer: true. -/
theorem true_of_call {f : Nat} {args : List V} {H : Hyp} {w : World} {μ : Map} {s : St} {vals : List Value} (hm : P.follows .mixedOrders = true) (hX : SpecAt P X w) (hN : PlainNames P) (hX0 : ∀ vals, X f vals = none)
    (hI : InW w μ s H) (hv : concVs μ args = some vals) (h : CallW P X f args H (fun v _ => v = vB true)) : Calls P f vals.toArray w fun e w' => e = .returned (.bool true) ∧ Below w.heap.size w w' := by
  obtain ⟨n, v, s', H', h1, h2, rfl⟩ := h s hI.hp
  have h1' : callA P X n f args s = some (vB true, s') := by
    unfold xCallFn at h1
    cases hq : scalars args with
    | none => rw [hq] at h1; exact h1
    | some vs => rw [hq] at h1; simp only [Option.bind_some, hX0] at h1; exact h1
  refine (call_sim hm hX hN h1' hI.rel hv).mono fun e w' q => ?_
  obtain ⟨μ', v', _, q2, rfl, q4⟩ := q
  simp only [V.conc, V1.conc, Cell.conc, Option.some.injEq] at q2
  subst q2
  exact ⟨rfl, q4.below⟩
end
end Go.Proofs.Ytdhnjkagmbfoaaa.AM
/- A logic over the abstract machine: regions that draw their order, where what is looked at stays as it is (F). -/
set_option linter.unusedSimpArgs false
set_option linter.unusedVariables false
namespace Go.Proofs.Ytdhnjkagmbfoaaa.AM
open Go Go.RowKit
section
variable {P : Program} {X : Spec} {sz : Nat}
/-- What moves memory, but writes to nothing that was there. -/
def freeOp : Op → Bool
  | .alloc _ | .box .. | .buildSlice .. | .makeSlice .. | .makeMap .. | .range .. => true
  | .call { callee := .value _, .. } => true
  | .call { callee := .builtin .append, .. } => true
  | _ => false
/-- What is asked to leave F: what is free, and (ks) every store. -/
def keepOp (ks : Bool) : Op → Bool
  | .store .. => ks
  | o => freeOp o
/-- Does an operation stand ahead of all that moves? -/
def firstOp (ops : Array Oper) (o : Oper) : Bool := match o.dst with
  | none => false
  | some d => (List.range ops.size).all fun i => match ops[i]? with
    | some u => !(u.dst == some d) || (List.range ops.size).all fun j => !moverAt ops j || bitB (Region.before ops) j i
    | none => true
structure FOK (ks : Bool) (P : Program) (X : Spec) (n : Nat) (ops : Array Oper) (F : Hyp) (o : Oper) (t : Tr) : Prop where
  mover : isMover o.op = true → keepOp ks o.op = true → Hp t.s' F
  quiet : t.want = true → isMover o.op = false → blind P o.op = false → firstOp ops o = false → ∀ s2, Hp s2 F → opRun P X (callA P X n) (restr (o.looksAt ops) t.fr) s2 o = some (t.v, s2)
theorem FOK.mono {ks : Bool} {n m : Nat} (h : n ≤ m) {ops : Array Oper} {F : Hyp} {o : Oper} {t : Tr} (q : FOK ks P X n ops F o t) : FOK ks P X m ops F o t :=
  ⟨q.mover, fun a b c d s2 hs => opRun_mono (callA_le h) (q.quiet a b c d s2 hs)⟩
def WF (ks : Bool) (P : Program) (X : Spec) (sz : Nat) (ops : Array Oper) (F : Hyp) (l : List Oper) (e : Env) (H : Hyp) (Q : Env → Hyp → Prop) : Prop :=
  ∀ fr s, fr.size = sz → Has fr e → Hp s H → ∃ n trs fr' s' e' H', trace P X (callA P X n) ops l fr s = some (trs, fr', s') ∧ fr'.size = sz ∧ Has fr' e' ∧ Hp s' H' ∧ Q e' H' ∧ ∀ (i : Nat) o t, l[i]? = some o → trs[i]? = some t → FOK ks P X n ops F o t
variable {ks : Bool} {ops : Array Oper} {F : Hyp} {o : Oper} {l : List Oper} {e : Env} {H : Hyp} {Q : Env → Hyp → Prop}
theorem f_end (h : Q e H) : WF ks P X sz ops F [] e H Q :=
  fun fr s h1 h2 h3 => ⟨0, [], fr, s, e, H, rfl, h1, h2, h3, h, fun i o t hi => by simp at hi⟩
theorem f_step (hd : dstOk sz o.dst = true) {fr : Fr} {s : St} (h1 : fr.size = sz) (h2 : Has fr e) (h3 : Hp s H) (hw : wantedA ops fr o = true)
    (h : OpW P X true o (Env.only (o.looksAt ops) e) H (fun v H' => WF ks P X sz ops F l (putE e o.dst v) H' Q ∧ (isMover o.op = true → keepOp ks o.op = true → Sel H' F) ∧
      (isMover o.op = false → blind P o.op = false → firstOp ops o = false → OpW P X true o (Env.only (o.looksAt ops) e) F (fun v' _ => v' = v)))) :
    ∃ n trs fr' s' e' H', trace P X (callA P X n) ops (o :: l) fr s = some (trs, fr', s') ∧ fr'.size = sz ∧ Has fr' e' ∧ Hp s' H' ∧ Q e' H' ∧ ∀ (i : Nat) o' t, (o :: l)[i]? = some o' → trs[i]? = some t → FOK ks P X n ops F o' t := by
  obtain ⟨n, v, s1, H1, a1, a2, ⟨a3, a5, a6⟩, a4⟩ := h (restr (o.looksAt ops) fr) s (h2.only _) h3
  obtain ⟨m, trs, fr2, s2, e2, H2, b1, b2, b3, b4, b5, b6⟩ := a3 (putV fr o.dst v) s1 (by rw [putV_size, h1]) (h2.putV h1 hd v) a2
  -- what looks again: at one depth
  have hq : ∃ p, isMover o.op = false → blind P o.op = false → firstOp ops o = false → ∀ s2, Hp s2 F → opRun P X (callA P X p) (restr (o.looksAt ops) fr) s2 o = some (v, s2) := by
    refine ⟨n, fun hm hb hf s2 hs2 => ?_⟩
    obtain ⟨p, v', s3, H3, c1, c2, c3, c4⟩ := a6 hm hb hf (restr (o.looksAt ops) fr) s2 (h2.only _) hs2
    subst c3
    have hs3 := quiet_state hm c1 (c4 rfl hm)
    subst hs3
    have : ∀ p q : Nat, opRun P X (callA P X p) (restr (o.looksAt ops) fr) s3 o = opRun P X (callA P X q) (restr (o.looksAt ops) fr) s3 o := by
      intro p q
      obtain ⟨dst, op, type, pos, after, guard⟩ := o
      cases op with
      | call cl =>
        obtain ⟨callee, args, argTypes⟩ := cl
        cases callee with
        | value g => cases hm
        | builtin b => rfl
        | invoke a b => rfl
      | makeFunc fn first captured =>
        obtain ⟨first⟩ := first
        cases fn <;> cases first <;> rfl
      | makeMap t r => cases r <;> rfl
      | next it b => cases b <;> rfl
      | _ => rfl
    rw [this n p]; exact c1
  obtain ⟨p, hq⟩ := hq
  refine ⟨max p (max n m), ⟨true, v, s, s1, fr⟩ :: trs, fr2, s2, e2, H2, ?_, b2, b3, b4, b5, ?_⟩
  · simp only [trace, hw, if_true]
    rw [opRun_mono (callA_le (by omega)) a1]
    have hq : (isMover o.op || s1.next == s.next) = true := by
      cases hm : isMover o.op with
      | true => rfl
      | false => simp [a4 rfl hm]
    simp only [hq, if_true]
    rw [trace_mono (callA_le (by omega)) b1]
  · intro i o' t hi ht
    cases i with
    | zero =>
      simp at hi ht
      subst hi; subst ht
      exact ⟨fun x y => a2.sel (a5 x y), fun _ x y z s2 hs2 => opRun_mono (callA_le (by omega)) (hq x y z s2 hs2)⟩
    | succ i => exact (b6 i o' t (by simpa using hi) (by simpa using ht)).mono (by omega)
/-- Is an operation wanted: by its guard. -/
def GuardIs (ops : Array Oper) (e : Env) (o : Oper) (w : Bool) : Prop := (o.guard = none ∧ w = true) ∨ ∃ j want t v, o.guard = some (j, want) ∧ (ops[j]?).bind (·.dst) = some t ∧ Env.get e t = some v ∧ boolIs want v = w
theorem guard_none {ops : Array Oper} {e : Env} {o : Oper} (h : o.guard = none) : GuardIs ops e o true := .inl ⟨h, rfl⟩
theorem guard_some {ops : Array Oper} {e : Env} {o : Oper} {w : Bool} {j t : Nat} {want : Bool} {v : V} (h : o.guard = some (j, want)) (hj : (ops[j]?).bind (·.dst) = some t) (ht : Env.get e t = some v) (hv : boolIs want v = w) : GuardIs ops e o w := .inr ⟨j, want, t, v, h, hj, ht, hv⟩
theorem GuardIs.ok {w : Bool} (h : GuardIs ops e o w) {fr : Fr} (hf : Has fr e) : wantedA ops fr o = w := by
  unfold wantedA
  rcases h with ⟨h, rfl⟩ | ⟨j, want, t, v, h, hj, ht, hv⟩
  · rw [h]
  · rw [h]; simp only [hj, hf t _ ht, hv]
section
variable {dd : Nat}
/-- What moves memory, and leaves F. -/
theorem f_m (hg : GuardIs ops e o true) (h0 : o.dst = some dd) (hd : Nat.blt dd sz = true) (hm : isMover o.op = true) (h : OpW P X true o (Env.only (o.looksAt ops) e) H (fun v H' => Sel H' F ∧ WF ks P X sz ops F l ((dd, v) :: e) H' Q)) : WF ks P X sz ops F (o :: l) e H Q :=
  fun fr s h1 h2 h3 => f_step (by rw [h0]; exact hd) h1 h2 h3 (hg.ok h2) (by
    rw [h0]
    intro fr s a b
    obtain ⟨n, v, s', H', c1, c2, ⟨c3, c4⟩, c5⟩ := h fr s a b
    exact ⟨n, v, s', H', c1, c2, ⟨c4, (fun _ _ => c3), (fun x => by rw [hm] at x; cases x)⟩, c5⟩)
theorem f_mn (hg : GuardIs ops e o true) (h0 : o.dst = none) (hm : isMover o.op = true) (h : OpW P X true o (Env.only (o.looksAt ops) e) H (fun v H' => Sel H' F ∧ WF ks P X sz ops F l e H' Q)) : WF ks P X sz ops F (o :: l) e H Q :=
  fun fr s h1 h2 h3 => f_step (by rw [h0]; rfl) h1 h2 h3 (hg.ok h2) (by
    rw [h0]
    intro fr s a b
    obtain ⟨n, v, s', H', c1, c2, ⟨c3, c4⟩, c5⟩ := h fr s a b
    exact ⟨n, v, s', H', c1, c2, ⟨c4, (fun _ _ => c3), (fun x => by rw [hm] at x; cases x)⟩, c5⟩)
theorem f_wn (hg : GuardIs ops e o true) (h0 : o.dst = none) (hm : isMover o.op = true) (hf : keepOp ks o.op = false) (h : OpW P X true o (Env.only (o.looksAt ops) e) H (fun v H' => WF ks P X sz ops F l e H' Q)) : WF ks P X sz ops F (o :: l) e H Q :=
  fun fr s h1 h2 h3 => f_step (by rw [h0]; rfl) h1 h2 h3 (hg.ok h2) (by
    rw [h0]
    intro fr s a b
    obtain ⟨n, v, s', H', c1, c2, c4, c5⟩ := h fr s a b
    exact ⟨n, v, s', H', c1, c2, ⟨c4, (fun _ x => by rw [hf] at x; cases x), (fun x => by rw [hm] at x; cases x)⟩, c5⟩)
/-- What asks nothing of memory. -/
theorem f_b (hg : GuardIs ops e o true) (h0 : o.dst = some dd) (hd : Nat.blt dd sz = true) (hm : isMover o.op = false) (hb : blind P o.op = true) (h : OpW P X true o (Env.only (o.looksAt ops) e) H (fun v H' => WF ks P X sz ops F l ((dd, v) :: e) H' Q)) : WF ks P X sz ops F (o :: l) e H Q :=
  fun fr s h1 h2 h3 => f_step (by rw [h0]; exact hd) h1 h2 h3 (hg.ok h2) (by
    rw [h0]
    intro fr s a b
    obtain ⟨n, v, s', H', c1, c2, c4, c5⟩ := h fr s a b
    exact ⟨n, v, s', H', c1, c2, ⟨c4, (fun x => by rw [hm] at x; cases x), (fun _ x => by rw [hb] at x; cases x)⟩, c5⟩)
/-- What looks at F. -/
theorem f_l {v : V} (hg : GuardIs ops e o true) (h0 : o.dst = some dd) (hd : Nat.blt dd sz = true) (hm : isMover o.op = false) (hs : Sel H F) (h : OpW P X true o (Env.only (o.looksAt ops) e) F (fun v' _ => v' = v)) (k : WF ks P X sz ops F l ((dd, v) :: e) H Q) : WF ks P X sz ops F (o :: l) e H Q :=
  fun fr s h1 h2 h3 => f_step (by rw [h0]; exact hd) h1 h2 h3 (hg.ok h2) (by
    rw [h0]
    intro fr s a b
    obtain ⟨n, v', s', H', c1, c2, c4, c5⟩ := h fr s a (b.sel hs)
    subst c4
    have := quiet_state hm c1 (c5 rfl hm)
    subst this
    exact ⟨n, _, s', H, c1, b, ⟨k, fun x => (by rw [hm] at x; cases x), fun _ _ _ => h⟩, c5⟩)
/-- What looks, ahead of all that moves. -/
theorem f_a (hg : GuardIs ops e o true) (h0 : o.dst = some dd) (hd : Nat.blt dd sz = true) (hm : isMover o.op = false) (hb : firstOp ops o = true) (h : OpW P X true o (Env.only (o.looksAt ops) e) H (fun v H' => WF ks P X sz ops F l ((dd, v) :: e) H' Q)) : WF ks P X sz ops F (o :: l) e H Q :=
  fun fr s h1 h2 h3 => f_step (by rw [h0]; exact hd) h1 h2 h3 (hg.ok h2) (by
    rw [h0]
    intro fr s a b
    obtain ⟨n, v, s', H', c1, c2, c4, c5⟩ := h fr s a b
    exact ⟨n, v, s', H', c1, c2, ⟨c4, (fun x => by rw [hm] at x; cases x), (fun _ _ x => by rw [hb] at x; cases x)⟩, c5⟩)
theorem f_knownB {t : Nat} {p : Bool} {lo : List Oper} (ht : Env.get e t = some (.one (.c (.bool p)))) (h1 : p = true → WF ks P X sz ops F lo ((t, .one (.c (.bool true))) :: e) H Q) (h2 : p = false → WF ks P X sz ops F lo ((t, .one (.c (.bool false))) :: e) H Q) : WF ks P X sz ops F lo e H Q := by
  intro fr s a b c
  cases p with
  | true => exact h1 rfl fr s a (has_known b ht) c
  | false => exact h2 rfl fr s a (has_known b ht) c
theorem f_known {t : Nat} {p : Prop} {dp : Decidable p} {lo : List Oper} (ht : Env.get e t = some (.one (.c (.bool (decide p))))) (h1 : p → WF ks P X sz ops F lo ((t, .one (.c (.bool true))) :: e) H Q) (h2 : ¬ p → WF ks P X sz ops F lo ((t, .one (.c (.bool false))) :: e) H Q) : WF ks P X sz ops F lo e H Q :=
  f_knownB ht (fun h => h1 (of_decide_eq_true h)) (fun h => h2 (of_decide_eq_false h))
end
def memOK2 (ks : Bool) (P : Program) (ops : Array Oper) : Bool :=
  let b := Region.before ops
  (List.range ops.size).all fun i => ((ops[i]?).all fun o => isMover o.op || blind P o.op || firstOp ops o) ||
    (List.range ops.size).all fun j => ((ops[j]?).all fun u => !isMover u.op || keepOp ks u.op) || bitB b j i || (List.range ops.size).any fun k => decide (j < k) && moverAt ops k && bitB b i k
theorem bit_lt (hS : Static ops) : ∀ m, m < ops.size → ∀ k, k < ops.size → bitB (Region.before ops) m k = true → k < m := by
  intro m
  induction m using Nat.strongRecOn with
  | _ m ih =>
    intro hm k hk hbk
    have hom : ops[m]? = some ops[m] := Array.getElem?_eq_getElem hm
    obtain ⟨e, he, hbe, hor⟩ := hS.bef m _ k hom hk hbk
    have hlt := hS.edge m _ hom e he hbe
    rcases hor with rfl | hor
    · exact hlt
    · have := ih e.on hlt (by omega) k hk hor; omega
theorem dynOK_ofF {ks : Bool} {n : Nat} {trs : List Tr} {fr fr' : Fr} {s s' : St} (T : TraceOK P X (callA P X n) ops ops.toList trs fr s fr' s') (hS : Static ops) (hM : memOK2 ks P ops = true) (hF : Hp s F)
    (hK : ∀ (i : Nat) o t, ops.toList[i]? = some o → trs[i]? = some t → FOK ks P X n ops F o t) : dynOK P X (callA P X n) ops trs s = true := by
  unfold dynOK
  simp only [List.all_eq_true, List.mem_range]
  intro i hi
  have hti : i < trs.length := by rw [T.len, Array.length_toList]; exact hi
  have ho : ops[i]? = some ops[i] := Array.getElem?_eq_getElem hi
  have ht : trs[i]? = some trs[i] := List.getElem?_eq_getElem hti
  simp only [ho, ht]
  generalize hoe : ops[i] = o at ho ⊢
  generalize hte : trs[i] = t at ht ⊢
  cases hm : isMover o.op with
  | true => rfl
  | false =>
    cases hw : t.want with
    | false => rfl
    | true =>
      simp only [Bool.not_true, Bool.or_self, Bool.false_or, Bool.and_eq_true]
      have hol : ops.toList[i]? = some o := by rw [Array.getElem?_toList]; exact ho
      obtain ⟨_, h1, _, h3⟩ := T.step i o t hol ht
      have hrun := h1 hw
      rw [h3 hm] at hrun
      cases hb : blind P o.op with
      | true =>
        refine ⟨by rw [sameAt_blind hb hrun s]; simp, ?_⟩
        simp only [List.all_eq_true, List.mem_range]
        intro j hj
        have htj : j < trs.length := by rw [T.len, Array.length_toList]; exact hj
        simp only [Array.getElem?_eq_getElem hj, List.getElem?_eq_getElem htj]
        rw [sameAt_blind hb hrun]; simp
      | false =>
       cases hfi : firstOp ops o with
       | true =>
        have hA : ∀ j, j < ops.size → moverAt ops j = true → bitB (Region.before ops) j i = true := by
          intro j hj hmj
          unfold firstOp at hfi
          split at hfi
          · cases hfi
          · rename_i d hd
            have := List.all_eq_true.1 hfi i (List.mem_range.2 hi)
            simp only [ho, hd, beq_self_eq_true, Bool.not_true, Bool.false_or, List.all_eq_true, List.mem_range] at this
            have := this j hj
            simpa [hmj] using this
        have hat := ((TraceOK.at T i (by omega)).1 t ht).2
        refine ⟨?_, ?_⟩
        · rcases stateOf_last (ops := ops) (trs := trs) (s0 := s) (L := fun _ => true) i with ⟨h4, h5⟩ | ⟨j, h4, _, h6, h7, h8⟩
          · rw [← h4, ← hat, sameAt_self hrun]; simp
          · have hjs : j < ops.size := by omega
            have := bit_lt hS j hjs i hi (hA j hjs h6)
            omega
        · simp only [List.all_eq_true, List.mem_range]
          intro j hj
          have htj : j < trs.length := by rw [T.len, Array.length_toList]; exact hj
          have hoj : ops[j]? = some ops[j] := Array.getElem?_eq_getElem hj
          simp only [hoj, List.getElem?_eq_getElem htj]
          cases hmv : isMover (ops[j]).op with
          | false => rfl
          | true =>
            have := hA j hj (by unfold moverAt; rw [hoj]; exact hmv)
            simp [this]
       | false =>
        have hsame : ∀ s2, Hp s2 F → sameAt P X (callA P X n) ops o t s2 = true := by
          intro s2 hs2
          unfold sameAt
          rw [(hK i o t hol ht).quiet hw hm hb hfi s2 hs2]; simp
        unfold memOK2 at hM
        simp only [List.all_eq_true, List.mem_range] at hM
        have hMi := hM i hi
        simp only [ho, Option.all_some, hm, hb, hfi, Bool.or_self, Bool.false_or, List.all_eq_true, List.mem_range] at hMi
        refine ⟨by rw [hsame s hF]; simp, ?_⟩
        simp only [List.all_eq_true, List.mem_range]
        intro j hj
        have htj : j < trs.length := by rw [T.len, Array.length_toList]; exact hj
        have hoj : ops[j]? = some ops[j] := Array.getElem?_eq_getElem hj
        have htj' : trs[j]? = some trs[j] := List.getElem?_eq_getElem htj
        simp only [hoj, htj']
        have h9 := hMi j hj
        simp only [hoj, Option.all_some] at h9
        cases hmv : isMover (ops[j]).op with
        | false => rfl
        | true =>
          simp only [hmv, Bool.not_true, Bool.false_or, Bool.or_eq_true, Bool.and_eq_true, decide_eq_true_eq, List.any_eq_true, List.mem_range] at h9 ⊢
          rcases h9 with (h9 | h9) | ⟨k, hk, h9⟩
          · exact .inr (hsame _ ((hK j _ _ (by rw [Array.getElem?_toList]; exact hoj) htj').mover hmv h9))
          · exact .inl (.inl h9)
          · refine .inl (.inr ⟨k, hk, ⟨h9.1.1, ?_⟩, h9.2⟩)
            have := h9.1.2
            unfold moverAt at this; exact this
theorem w_drawK (ks : Bool) {id : Nat} {Q : Post} (F : Hyp) (hF : Sel H F) (hS : staticOK ops = true) (hM : memOK2 ks P ops = true) (h : WF ks P X sz ops F ops.toList e H (fun e H => Q .normal e H)) : W P X sz (.region id ops true) e H Q := by
  intro fr s h1 h2 h3
  obtain ⟨n, trs, fr', s', e', H', a, b1, b2, b3, b4, b5⟩ := h fr s h1 h2 h3
  refine ⟨n + 1, .normal, fr', s', e', H', ?_, b1, b2, b3, b4⟩
  show ((if true = true then drawRun P X (callA P X n) ops fr s else opsRun P X (callA P X n) ops ops.toList fr s).map fun q => (Ex.normal, q.1, q.2)) = _
  rw [if_pos rfl]
  unfold drawRun
  rw [if_pos hS, a]
  simp only
  rw [if_pos (dynOK_ofF (trace_ok a) (static_of hS) hM (h3.sel hF) b5)]; rfl
theorem w_drawF {id : Nat} {Q : Post} (F : Hyp) (hF : Sel H F) (hS : staticOK ops = true) (hM : memOK2 false P ops = true) (h : WF false P X sz ops F ops.toList e H (fun e H => Q .normal e H)) : W P X sz (.region id ops true) e H Q := w_drawK false F hF hS hM h
theorem w_drawG {id : Nat} {Q : Post} (F : Hyp) (hF : Sel H F) (hS : staticOK ops = true) (hM : memOK2 true P ops = true) (h : WF true P X sz ops F ops.toList e H (fun e H => Q .normal e H)) : W P X sz (.region id ops true) e H Q := w_drawK true F hF hS hM h
/-- What stands ahead of the new variable, and where it is spoken of. -/
def freeStat (ks : Bool) (ops : Array Oper) (i d : Nat) : Bool :=
  let b := Region.before ops
  (List.range ops.size).all fun j => match ops[j]? with
    | some u => (!isMover u.op || keepOp ks u.op || bitB b j i) && (j == i || bitB b j i || !(u.dst == some d || (u.looksAt ops).contains d))
    | none => false
theorem unused_row {s : St} {H : Hyp} {b : Nat} {z : List Cell} {t : TypeId} (h : Hp s H) (hm : (b, Fact.row true t 1 z) ∈ H) : unusedAt s b z t = true := by
  obtain ⟨fam, ver, g1, g2, g3, g4⟩ := h.fact _ hm
  have g1' : s.get b = some (.blk z t 1 fam ver) := g1
  have hv := g4 rfl
  unfold unusedAt
  rw [g1']
  simp only [Bool.and_eq_true, decide_eq_true_eq, beq_self_eq_true, true_and, and_true]
  exact ⟨by simpa using g2, by omega⟩
/-- A region with one new variable that may come whenever it likes: it is there from the beginning on. -/
theorem w_drawV (ks : Bool) {id : Nat} {Q : Post} {i d : Nat} {t : TypeId} {z : List Cell} (F : Hyp) (hF : Sel H F) (hn : staticOK ops = false) (hfl : (List.range ops.size).findSome? (floatAt ops) = some (i, d, t)) (hz : zeroT P t = some z) (hS : staticOK (unfloat ops i d) = true) (hM : memOK2 ks P (unfloat ops i d) = true) (hd : Nat.blt d sz = true) (hfr : freeStat ks (unfloat ops i d) i d = true)
    (h : ∀ b, WF ks P X sz (unfloat ops i d) ((b, .row true t 1 z) :: F) (unfloat ops i d).toList ((d, ptrV b 0) :: e) ((b, .row true t 1 z) :: H) (fun e H => Q .normal e H)) : W P X sz (.region id ops true) e H Q := by
  intro fr s h1 h2 h3
  have hdl : d < fr.size := by rw [h1]; simpa only [Nat.blt_eq] using hd
  obtain ⟨n, trs, fr', s', e', H', a, b1, b2, b3, b4, b5⟩ := h s.next (fr.put d (ptrV s.next 0)) (s.new z t 1) (by rw [Fr.put_size]; exact h1) (h2.put hdl _) (h3.newRow z t 1)
  refine ⟨n + 1, .normal, fr', s', e', H', ?_, b1, b2, b3, b4⟩
  show ((if true = true then drawRun P X (callA P X n) ops fr s else opsRun P X (callA P X n) ops ops.toList fr s).map fun q => (Ex.normal, q.1, q.2)) = _
  rw [if_pos rfl]
  unfold drawRun
  rw [if_neg (by rw [hn]; decide), hfl]
  simp only
  unfold freeRun
  rw [hz]
  simp only
  rw [if_pos hS, a]
  simp only
  have T := trace_ok a
  have hSt := static_of hS
  have hH1 : Hp (s.new z t 1) ((s.next, .row true t 1 z) :: F) := (h3.newRow z t 1).sel (.pick (.head _ _ _) hF)
  have hdyn := dynOK_ofF T hSt hM hH1 b5
  obtain ⟨k, _, hk⟩ := List.exists_of_findSome?_eq_some hfl
  obtain ⟨oi, o1, o2, o3, o4⟩ := floatAt_spec hk
  have hin : i < (unfloat ops i d).size := by rw [unfloat_size]; exact (Array.getElem?_eq_some_iff.1 o1).1
  have hgo : (unfloat ops i d)[i]? = some { oi with op := .move (.tmp d) } := by rw [unfloat_get, o1, Option.map_some, if_pos rfl]
  have hfs := hfr
  unfold freeStat at hfs
  simp only [List.all_eq_true, List.mem_range] at hfs
  have hfree : freeOK (unfloat ops i d) trs i d s.next z t (s.new z t 1) = true := by
    unfold freeOK
    simp only [Bool.and_eq_true, List.all_eq_true, List.mem_range]
    refine ⟨⟨unused_row hH1 (List.Mem.head _), ?_⟩, fun j hj => ?_⟩
    · have hti : i < trs.length := by rw [T.len, Array.length_toList]; exact hin
      have ht : trs[i]? = some trs[i] := List.getElem?_eq_getElem hti
      generalize hte : trs[i] = tr at ht
      rw [ht]
      obtain ⟨tw, t1, t2, t3⟩ := T.step i _ tr (by rw [Array.getElem?_toList]; exact hgo) ht
      have hw : tr.want = true := by rw [tw]; unfold wantedA; simp only [o4]
      have hrun := t1 hw
      obtain ⟨tf, _⟩ := (TraceOK.at T i (by omega)).1 tr ht
      have hval : tr.fr.get d = ptrV s.next 0 := by
        rw [tf]
        have hno : ∀ j, j < i → dstOf (unfloat ops i d) j ≠ some d := by
          intro j hj hdj
          have hjs : j < (unfloat ops i d).size := by omega
          have hju : (unfloat ops i d)[j]? = some (unfloat ops i d)[j] := Array.getElem?_eq_getElem hjs
          have h9 := hfs j hjs
          rw [hju] at h9
          simp only [Bool.and_eq_true, Bool.or_eq_true, beq_iff_eq, Bool.not_eq_true', Bool.or_eq_false_iff] at h9
          rcases h9.2 with (h9 | h9) | h9
          · omega
          · have := bit_lt hSt j hjs i hin h9; omega
          · have : ((unfloat ops i d)[j]).dst = some d := by simpa [dstOf, hju] using hdj
            have h10 := h9.1
            simp [this] at h10
        rw [frameOf_agree (L' := fun _ => false) i fun j hj hdj => absurd hdj (hno j hj), frameOf_below (i := 0) i (by omega) (fun _ _ _ => rfl)]
        show (fr.put d (ptrV s.next 0)).get d = _
        rw [Fr.put_get, if_pos ⟨rfl, hdl⟩]
      simp only [Option.any_some, Bool.and_eq_true, decide_eq_true_eq]
      refine ⟨hw, ?_⟩
      simp only [opRun, Option.map_eq_some_iff, Prod.mk.injEq, evalO, Option.some.injEq] at hrun
      obtain ⟨x, hx, hx2, _⟩ := hrun
      rw [← hx2, ← hx, restr_get, if_pos (by simp [Oper.looksAt, Op.operands]), hval]
    · have h9 := hfs j hj
      have htj : j < trs.length := by rw [T.len, Array.length_toList]; exact hj
      have hoj : (unfloat ops i d)[j]? = some (unfloat ops i d)[j] := Array.getElem?_eq_getElem hj
      have htj' : trs[j]? = some trs[j] := List.getElem?_eq_getElem htj
      rw [hoj] at h9 ⊢
      rw [htj']
      simp only [Bool.and_eq_true] at h9 ⊢
      refine ⟨?_, h9.2⟩
      have h10 := h9.1
      simp only [Bool.or_eq_true, Bool.not_eq_true'] at h10 ⊢
      rcases h10 with (h10 | h10) | h10
      · exact .inl (.inl h10)
      · cases hmv : isMover ((unfloat ops i d)[j]).op with
        | false => exact .inl (.inl rfl)
        | true => exact .inr (unused_row ((b5 j _ _ (by rw [Array.getElem?_toList]; exact hoj) htj').mover hmv h10) (List.Mem.head _))
      · exact .inl (.inr h10)
  rw [if_pos (by rw [hdyn, hfree]; rfl)]; rfl
end
end Go.Proofs.Ytdhnjkagmbfoaaa.AM
/- A logic over the abstract machine: rows with room, slices of nothing, structs that are compared. -/
set_option linter.unusedSimpArgs false
set_option linter.unusedVariables false
namespace Go.Proofs.Ytdhnjkagmbfoaaa.AM
open Go Go.RowKit
section
variable {P : Program} {X : Spec} {sz : Nat} {q : Bool} {d : Option Nat} {ty : Nat} {pos : String} {af : Array Edge} {g : Option (Nat × Bool)} {e : Env} {H : Hyp} {K : V → Hyp → Prop}
theorem op_capNil {t te : Nat} {x : Operand} {ats : List TypeId} (hu : P.underlying t = some (.slice te)) (hx : evE e x = some (.one (.c .nils))) (k : K (vI 0) H) : OpW P X q ⟨d, .call ⟨.builtin .cap, ⟨[x]⟩, ⟨t :: ats⟩⟩, ty, pos, af, g⟩ e H K :=
  fun fr s h1 h2 => ⟨0, _, s, H, by simp only [opRun, evC h1 hx, Option.bind_some, xCap, hu], h2, k, fun _ _ => rfl⟩
theorem op_sliceNil {t te n : Nat} {x : Operand} {lo hi : Option Operand} (he : elemT P t = some te) (hn : sizeT P te = some n) (hx : evE e x = some (.one (.c .nils))) (hlo : bndE e lo 0 = some 0) (hhi : bndE e hi 0 = some 0) (k : K (.one (.c .nils)) H) : OpW P X q ⟨d, .slice t x lo hi none, ty, pos, af, g⟩ e H K := by
  intro fr s q1 q2
  have b1 := bnd_of q1 hlo (Int.le_refl _)
  have b2 := bnd_of q1 hhi (Int.le_refl _)
  refine ⟨0, _, s, H, ?_, q2, k, fun _ _ => rfl⟩
  simp only [opRun, evC q1 hx, lenA, b1, b2, xSlice]
  simp [he, hn]
/-- A part of a row, as it stands. -/
theorem op_sliceE {t te n : Nat} {x : Operand} {lo hi : Option Operand} {b off len dd : Nat} {own : Bool} {row : List Cell} {l h : Int} (he : elemT P t = some te) (hn : sizeT P te = some n) (hn0 : 0 < n) (hx : evE e x = some (.one (.c (.sl b off len (.lim dd))))) (hm : (b, Fact.row own te n row) ∈ H) (ho : off = dd * n) (hl : off + len * n ≤ row.length) (hlo : bndE e lo 0 = some l) (hhi : bndE e hi len = some h) (h0 : 0 ≤ l) (h1 : l ≤ h) (h2 : h ≤ len) (hq : l < len ∨ l = 0)
    (k : K (.one (.c (.sl b (off + l.toNat * n) (h.toNat - l.toNat) (.lim (dd + l.toNat))))) H) : OpW P X q ⟨d, .slice t x lo hi none, ty, pos, af, g⟩ e H K := by
  intro fr s q1 q2
  have b1 := bnd_of q1 hlo h0
  have b2 := bnd_of q1 hhi (by omega)
  obtain ⟨fam, ver, g1, g2, g3, g4⟩ := q2.fact _ hm
  have g1' : s.get b = some (.blk row te n fam ver) := g1
  refine ⟨0, _, s, H, ?_, q2, k, fun _ _ => rfl⟩
  simp only [opRun, evC q1 hx, lenA, b1]
  simp only [b2]
  exact slice_lim he hn g1' ⟨ho, rfl, hn0, hl⟩ ⟨by omega, by omega⟩ (by omega)
/-- Zeros behind nothing. -/
theorem op_appendN {t te n : Nat} {t1 : Nat} {ats : List TypeId} {x y : Operand} {m : Int} {B : Nat} {z : List Cell} {ki : IntKind} (he : elemT P t = some te) (hi : ∃ i, P.info? te = some i ∧ i.size = n ∧ i.bytes = B) (hz : zeroT P te = some z) (hc : z.length = n ∧ 0 < n ∧ 0 < B) (hu : P.underlying t1 = some (.int ki))
    (hx : evE e x = some (.one (.c .nils))) (hy : evE e y = some (vI m)) (h0 : 0 < m) (hB : m * B ≤ 16777216)
    (k : ∀ b, K (.one (.c (.sl b 0 m.toNat (.lim 0)))) ((b, .row true te n (repeatC z m.toNat)) :: H)) : OpW P X q ⟨d, .call ⟨.builtin .append, ⟨[x, y]⟩, ⟨t :: t1 :: ats⟩⟩, ty, pos, af, g⟩ e H K := by
  intro fr s q1 q2
  obtain ⟨i, hi, hn, hb⟩ := hi
  subst hn
  subst hb
  have hle : m ≤ 16777216 := by
    have : m * 1 ≤ m * (i.bytes : Int) := Int.mul_le_mul_of_nonneg_left (by omega) (by omega)
    omega
  refine ⟨0, .one (.c (.sl s.next 0 m.toNat (.lim 0))), s.new (repeatC z m.toNat) te i.size, _, ?_, q2.newRow (repeatC z m.toNat) te i.size, k s.next, fun _ hm => by cases hm⟩
  simp only [opRun, evC q1 hx, evC q1 hy, xAppend, he, hi, hz, List.head?_cons, Option.bind_some, hu]
  rw [if_pos hc]
  simp only [lenA]
  rw [if_pos ⟨by omega, hle⟩]
  have hB2 : (0 + m.toNat) * i.bytes ≤ 16777216 := by
    have : ((m.toNat * i.bytes : Nat) : Int) = m * (i.bytes : Int) := by rw [Int.natCast_mul, Int.toNat_of_nonneg (by omega)]
    rw [Nat.zero_add]
    omega
  rw [if_pos hB2]
  simp only [appendA]
  rw [if_neg (by omega)]
/-- A slice of its own with room behind it. -/
inductive OwnR (te n : Nat) : Cell → List Cell → List Cell → Hyp → Prop
  | nil : OwnR te n .nils [] [] []
  | row (b len : Nat) (cells room : List Cell) (hl : cells.length = len * n) : OwnR te n (.sl b 0 len (.lim 0)) cells room [(b, .row true te n (cells ++ room))]
theorem OwnR.own {te n : Nat} {c : Cell} {cells : List Cell} {N : Hyp} (h : OwnR te n c cells [] N) : Own te n c cells N := by
  cases h with
  | nil => exact .nil
  | row b len cells room hl => rw [List.append_nil]; exact .row b len cells hl
/-- More elements: where there is room. -/
theorem op_appendR {α : Type} {xs ys : List α} {enc : α → List Cell} {t te n : Nat} {t1 : Nat} {ats : List TypeId} {x y : Operand} {c c' : Cell} {room : List Cell} {N H1 : Hyp} {B : Nat} {z : List Cell} {te' : Nat} (he : elemT P t = some te) (hi : ∃ i, P.info? te = some i ∧ i.size = n ∧ i.bytes = B) (hz : zeroT P te = some z) (hc : z.length = n ∧ 0 < n ∧ 0 < B) (hu : P.underlying t1 = some (.slice te'))
    (hx : evE e x = some (.one (.c c))) (hy : evE e y = some (.one (.c c'))) (hO : OwnR te n c (xs.flatMap enc) room N) (henc : ∀ x, (enc x).length = n) (hp : PickL N H H1) (h : Sl H te n c' ys.length (ys.flatMap enc)) (hr : ys.length * n ≤ room.length) (hB : (xs.length + ys.length) * B ≤ 16777216)
    (k : ∀ c'' N' room', OwnR te n c'' ((xs ++ ys).flatMap enc) room' N' → room'.length = room.length - ys.length * n → K (.one (.c c'')) (N' ++ H1)) : OpW P X q ⟨d, .call ⟨.builtin .append, ⟨[x, y]⟩, ⟨t :: t1 :: ats⟩⟩, ty, pos, af, g⟩ e H K := by
  intro fr s q1 q2
  obtain ⟨i, hi, hn, hb⟩ := hi
  subst hn
  subst hb
  have hcl := flatMap_len henc xs
  have hcl' := flatMap_len henc ys
  have hel := h.elems q2 ys.length (Nat.le_refl _)
  rw [List.take_of_length_le (by rw [h.size]; exact Nat.le_refl _)] at hel
  have hl' := h.len
  generalize hxs : xs.flatMap enc = cells at hO hcl
  have hlx : lenA c = some xs.length := by
    cases hO with
    | nil =>
      have h0 : xs.length * i.size = 0 := by simpa using hcl.symm
      have : xs.length = 0 := by rcases Nat.mul_eq_zero.1 h0 with h | h <;> omega
      rw [this]; rfl
    | row b l2 _ _ h2 =>
      have : l2 = xs.length := Nat.eq_of_mul_eq_mul_right hc.2.1 (by omega)
      subst this; rfl
  have key : ∃ c'' s' N' room', appendA s te i.size ys.length (ys.flatMap enc) c = some (.one (.c c''), s') ∧ OwnR te i.size c'' ((xs ++ ys).flatMap enc) room' N' ∧ Hp s' (N' ++ H1) ∧ room'.length = room.length - ys.length * i.size := by
    cases hO with
    | nil =>
      cases hp
      have h0 : xs.length = 0 := by simpa [lenA] using hlx.symm
      have e0 : ys.length = 0 := by
        have h00 : ys.length * i.size = 0 := by simpa using hr
        rcases Nat.mul_eq_zero.1 h00 with h | h <;> omega
      have e1 : ys = [] := List.length_eq_zero_iff.1 e0
      have e2 : xs = [] := List.length_eq_zero_iff.1 h0
      subst e1; subst e2
      exact ⟨.nils, s, [], [], by simp [appendA], by simpa using OwnR.nil, q2, by simp⟩
    | row b l2 _ _ h2 =>
      have hll : l2 = xs.length := by simpa [lenA] using hlx
      subst hll
      cases hp with
      | cons hp1 hp2 =>
      cases hp2
      have hlen : (cells ++ room).length = xs.length * i.size + room.length := by rw [List.length_append, hcl]
      by_cases e0 : ys.length = 0
      · have e1 : ys = [] := List.length_eq_zero_iff.1 e0
        subst e1
        obtain ⟨fam, ver, g1, g2, g3, g4⟩ := (q2.perm hp1.perm).fact _ (List.mem_cons_self ..)
        have g1' : s.get b = some (.blk (cells ++ room) te i.size fam ver) := g1
        refine ⟨.sl b 0 xs.length (.lim 0), s, _, room, ?_, by rw [List.append_nil, hxs]; exact .row b xs.length cells room hcl, q2.perm hp1.perm, by simp⟩
        simp only [appendA, g1', List.length_nil]
        rw [if_pos ⟨by simp, trivial, trivial, by omega⟩, if_pos trivial]
      · obtain ⟨s', w1, w2, w3⟩ := q2.write hp1 (off := xs.length * i.size) (new := ys.flatMap enc) (by omega)
        obtain ⟨fam, ver, g1, g2, g3, g4⟩ := (q2.perm hp1.perm).fact _ (List.mem_cons_self ..)
        have g1' : s.get b = some (.blk (cells ++ room) te i.size fam ver) := g1
        have hspl : splice (cells ++ room) (xs.length * i.size) (ys.flatMap enc) = (xs ++ ys).flatMap enc ++ room.drop (ys.length * i.size) := by
          unfold splice
          rw [List.flatMap_append, hxs, hcl', ← hcl, List.take_left, ← List.drop_drop, List.drop_left]
        rw [hspl] at w2
        refine ⟨.sl b 0 (xs.length + ys.length) (.lim 0), s', _, room.drop (ys.length * i.size), ?_, .row b (xs.length + ys.length) _ _ (by rw [List.flatMap_append, List.length_append, hxs, hcl, hcl', Nat.add_mul]), w2, by rw [List.length_drop]⟩
        simp only [appendA, g1']
        rw [if_pos ⟨by simp, trivial, trivial, by omega⟩, if_neg e0, if_pos (by rw [Nat.add_mul]; omega)]
        rw [Nat.zero_add, w1]; rfl
  obtain ⟨c'', s', N', room', a1, a2, a3, a4⟩ := key
  refine ⟨0, _, s', _, ?_, a3, k c'' N' room' a2 a4, fun _ hm => by cases hm⟩
  simp only [opRun, evC q1 hx, evC q1 hy, xAppend, he, hi, hz, List.head?_cons, Option.bind_some, hu]
  rw [if_pos hc]
  simp only [hlx, hl', hel]
  rw [if_pos ⟨Nat.le_trans hB (by decide), by rw [hcl']⟩]
  exact a1
theorem flatMap_set {α : Type} {enc : α → List Cell} {n : Nat} (henc : ∀ x, (enc x).length = n) : ∀ (xs : List α) (j : Nat) (y : α), j < xs.length → splice (xs.flatMap enc) (j * n) (enc y) = (xs.set j y).flatMap enc
  | x :: xs, 0, y, h => by
    unfold splice
    simp only [Nat.zero_mul, List.take_zero, List.nil_append, Nat.zero_add, List.set_cons_zero, List.flatMap_cons]
    rw [henc y, ← henc x, List.drop_left]
  | x :: xs, j + 1, y, h => by
    have ih := flatMap_set henc xs j y (by simpa using h)
    unfold splice at ih ⊢
    simp only [List.set_cons_succ, List.flatMap_cons]
    rw [← ih, Nat.add_mul, Nat.one_mul, Nat.add_comm (j * n) n, ← henc x]
    rw [List.take_append, List.take_of_length_le (by omega), Nat.add_sub_cancel_left, Nat.add_assoc, ← List.drop_drop, List.drop_left]
    simp [List.append_assoc]
/-- An element of a slice of its own is written. -/
theorem op_storeT {α : Type} {xs : List α} {z0 : α} {enc : α → List Cell} {t n : Nat} {a x : Operand} {b o j : Nat} {v : V1} {te esz : Nat} {H' : Hyp} (hn : sizeT P t = some n) (ha : evE e a = some (ptrV b o)) (hx : evE e x = some (.one v)) (hv : v.cells = enc z0) (henc : ∀ x, (enc x).length = n) (hp : Pick b (.row true te esz (xs.flatMap enc)) H H') (ho : o = j * n) (hj : j < xs.length)
    (k : K undefV ((b, .row true te esz ((xs.set j z0).flatMap enc)) :: H')) : OpW P X q ⟨d, .store t a x, ty, pos, af, g⟩ e H K := by
  have hl : v.cells.length = n := by rw [hv, henc]
  have h2 : (j + 1) * n ≤ xs.length * n := Nat.mul_le_mul_right _ (by omega)
  rw [Nat.succ_mul] at h2
  refine op_store hn ha hx hl hp (by rw [flatMap_len henc, hl]; omega) ?_ k
  rw [hv, ho]; exact flatMap_set henc xs j z0 hj
/-- Structs of whole numbers: are they equal? -/
theorem pure?_part {t : Nat} {vs : Array Value} {off : Nat} {u : Value} (ht : aggT P t = some false) (hu : vs[off]? = some u) : pure? P (part t vs off) = some u := by
  have h1 : pure? P (isAgg t) = some false := by
    unfold aggT at ht
    obtain ⟨dd, h2, h3⟩ := Option.map_eq_some_iff.1 ht
    unfold isAgg
    rw [pure?_bind', pure?_und h2]
    simp only [Option.bind_some]
    cases dd <;> first | rfl | cases h3
  unfold part
  rw [pure?_bind', h1]
  simp only [Option.bind_some, Bool.false_eq_true, if_false, hu]
  rfl
theorem eqIn_int {t : Nat} {k : IntKind} {a b : Int} (hu : P.underlying t = some (.int k)) (n : Nat) : pure? P (Op.equalIn (n + 1) t (.int k a) (.int k b)) = some (a == b) := by
  simp only [Op.equalIn, pure?_bind', pure?_und hu, Option.bind_some, if_true, pure?_pure]
theorem eqIn_struct {t : Nat} {fields : Array Field} {xs ys : Array Value} {n : Nat} (r : Field → Bool) (hu : P.underlying t = some (.struct fields)) (hs : P.stoodInHeld t = false)
    (hf : ∀ f ∈ fields.toList, f.name ≠ "_" ∧ ∃ a b, pure? P (part f.type xs f.offset) = some a ∧ pure? P (part f.type ys f.offset) = some b ∧ pure? P (Op.equalIn n f.type a b) = some (r f)) :
    pure? P (Op.equalIn (n + 1) t (.agg xs) (.agg ys)) = some (fields.toList.all r) := by
  rw [Op.equalIn]
  simp only [pure?_bind', pure?_und hu, Option.bind_some]
  have hp : pure? P program = some P := rfl
  simp only [hp, Option.bind_some, hs, Bool.false_eq_true, if_false]
  rw [pure?_bind', ← Array.forIn_toList]
  generalize fields.toList = l at hf
  have key : ∀ (l : List Field), (∀ f ∈ l, f.name ≠ "_" ∧ ∃ a b, pure? P (part f.type xs f.offset) = some a ∧ pure? P (part f.type ys f.offset) = some b ∧ pure? P (Op.equalIn n f.type a b) = some (r f)) →
      pure? P (forIn l ((none, ()) : Option Bool × Unit) fun f __s =>
        if f.name ≠ "_" then do
          let __do_lift ← part f.type xs f.offset
          let __do_lift_1 ← part f.type ys f.offset
          let __do_lift ← Op.equalIn n f.type __do_lift __do_lift_1
          if (!__do_lift) = true then pure (ForInStep.done (some false, ()))
            else pure (ForInStep.yield (none, ()))
        else pure (ForInStep.yield (none, ()))) = some ((if l.all r then none else some false), ()) := by
    intro l
    induction l with
    | nil => intro _; rfl
    | cons f l ih =>
      intro h
      obtain ⟨h1, a, b, h2, h3, h4⟩ := h f (by simp)
      rw [List.forIn_cons, pure?_bind', if_pos h1, pure?_bind', h2, Option.bind_some, pure?_bind', h3, Option.bind_some, pure?_bind', h4, Option.bind_some]
      cases hr : r f with
      | false => simp [pure?_pure, hr]
      | true =>
        have := ih fun f hf => h f (by simp [hf])
        simp only [Bool.not_true, Bool.false_eq_true, if_false, pure?_pure, Option.bind_some, List.all_cons, hr, Bool.true_and]
        exact this
  rw [key l hf]
  cases l.all r <;> rfl
theorem op_binA {op : BinOp} {t ty' : Nat} {x y : Operand} {cs ds : List Cell} {vs ws : List Value} {v : Value} {r : V} (hx : evE e x = some (.one (.agg cs))) (hy : evE e y = some (.one (.agg ds))) (hc : concs nowhere cs = some vs) (hd : concs nowhere ds = some ws) (hg : P.eqGuardType P.depth t = false)
    (hv : pure? P (binOp op t (.agg vs.toArray) (.agg ws.toArray)) = some v) (hr : ofV v = some r) (k : K r H) : OpW P X q ⟨d, .binOp op t x y ty', ty, pos, af, g⟩ e H K := by
  intro fr s h1 h2
  refine ⟨0, r, s, H, ?_, h2, k, fun _ _ => rfl⟩
  have sa := scalar_of h1 hx (v := .agg vs.toArray) (by simp only [V.conc, V1.conc, hc]; rfl)
  have sb := scalar_of h1 hy (v := .agg ws.toArray) (by simp only [V.conc, V1.conc, hd]; rfl)
  have na : evalC fr x = none := by unfold evalC; rw [evO h1 hx]
  simp only [opRun, na]
  unfold pureOp
  rw [if_pos (by simp [Op.operands, sa, sb])]
  have hp : pure? P program = some P := rfl
  have hguard : pure? P (eqGuard op t x y (.agg vs.toArray) (.agg ws.toArray)) = some () := by
    unfold eqGuard
    cases op <;> first
      | rfl
      | (simp only [Bool.not_true, Bool.false_eq_true, if_false, pure?_bind', hp, Option.bind_some, hg, Bool.not_false, if_true]; rfl)
  have : pure? P (execOp (fun x => (scalarOf fr x).getD undef) ⟨d, .binOp op t x y ty', ty, pos, af, g⟩) = some (.value v) := by
    simp only [execOp, sa, sb, Option.getD_some, pure?_bind', hguard, hv, Option.bind_some, pure?_pure]
  rw [this]; simp only [hr]; rfl
/-- Is a slice nil? -/
def isNil : Cell → Bool
  | .nils => true
  | _ => false
theorem op_eqNil {t te ty' n : Nat} {x y : Operand} {c : Cell} (hu : P.underlying t = some (.slice te)) (hx : evE e x = some (.one (.c c))) (hy : evE e y = some (.one (.c .nils))) (hl : LenC c n) (h : K (vB (isNil c)) H) : OpW P X q ⟨d, .binOp .eql t x y ty', ty, pos, af, g⟩ e H K := by
  cases c with
  | nils => exact op_nilEq hx hy rfl (by simp only [nilKind, hu]) h
  | sl b o l cp => exact op_nilEq hx hy rfl (by simp only [nilKind, hu]) h
  | sle a cp => exact op_nilEq hx hy rfl (by simp only [nilKind, hu]) h
  | slh b o0 o d => exact op_nilEq hx hy rfl (by simp only [nilKind, hu]) h
  | str s => exact absurd rfl (hl.2 s)
  | _ => cases hl.1
theorem Sl.isNil {te n len : Nat} {c : Cell} {cells : List Cell} (h : Sl H te n c len cells) (hc : isNil c = true) : c = .nils ∧ len = 0 := by
  rcases h.at_ with h1 | ⟨he, _⟩ | ⟨b, off, cap, rfl, _⟩
  · exact h1
  · cases c <;> first | (cases he; done) | (cases hc; done)
  · cases hc
theorem Own.lenT {α : Type} {xs : List α} {enc : α → List Cell} {te n : Nat} {c : Cell} {N : Hyp} (h : Own te n c (xs.flatMap enc) N) (henc : ∀ x, (enc x).length = n) (hn : 0 < n) : LenC c xs.length :=
  (h.sl (H := N) hn (flatMap_len henc xs) fun x hx => hx).lenC
theorem Own.slT {α : Type} {xs : List α} {enc : α → List Cell} {te n : Nat} {c : Cell} {N : Hyp} (h : Own te n c (xs.flatMap enc) N) (henc : ∀ x, (enc x).length = n) (hn : 0 < n) (hs : ∀ x ∈ N, x ∈ H) : Sl H te n c xs.length (xs.flatMap enc) :=
  h.sl hn (flatMap_len henc xs) hs
theorem Sl.sel {H' : Hyp} {te n len : Nat} {c : Cell} {cells : List Cell} (h : Sl H te n c len cells) (hs : Sel H' H) : Sl H' te n c len cells := h.sub hs.mem
theorem El.sel {H' : Hyp} {b o : Nat} {cs : List Cell} (h : El H b o cs) (hs : Sel H' H) : El H' b o cs := h.sub hs.mem
theorem ret_bool {rs : List ResultVar} {K : V → Hyp → Prop} {H' : Hyp} {b b' : Bool} (h : resE e rs = some [.c (.bool b)]) (hs : Sel H H') (hb : b = b') (hk : K (vB b') H') : retPost P rs K .ret e H := by
  subst hb; exact ret_ret h hs hk
theorem ret_int {rs : List ResultVar} {K : V → Hyp → Prop} {H' : Hyp} {k : IntKind} {a b : Int} (h : resE e rs = some [.c (.int k a)]) (hs : Sel H H') (hb : a = b) (hk : K (.one (.c (.int k b))) H') : retPost P rs K .ret e H := by
  subst hb; exact ret_ret h hs hk
theorem flatMap_drop {α : Type} {enc : α → List Cell} {n : Nat} (henc : ∀ x, (enc x).length = n) : ∀ (xs : List α) (a : Nat), (xs.flatMap enc).drop (a * n) = (xs.drop a).flatMap enc
  | [], a => by simp
  | x :: xs, 0 => by simp
  | x :: xs, a + 1 => by
    rw [List.drop_succ_cons, ← flatMap_drop henc xs a, List.flatMap_cons, Nat.add_mul, Nat.one_mul, Nat.add_comm, ← List.drop_drop]
    have : (enc x ++ xs.flatMap enc).drop n = xs.flatMap enc := by rw [← henc x, List.drop_left]
    rw [this]
theorem flatMap_take {α : Type} {enc : α → List Cell} {n : Nat} (henc : ∀ x, (enc x).length = n) : ∀ (xs : List α) (a : Nat), (xs.flatMap enc).take (a * n) = (xs.take a).flatMap enc
  | [], a => by simp
  | x :: xs, 0 => by simp
  | x :: xs, a + 1 => by
    rw [List.take_succ_cons, List.flatMap_cons, List.flatMap_cons, ← flatMap_take henc xs a, Nat.add_mul, Nat.one_mul, List.take_append, List.take_of_length_le (by rw [henc]; omega), henc, Nat.add_sub_cancel]
theorem Sl.sliceT {H1 : Hyp} {α : Type} {xs : List α} {enc : α → List Cell} {te n : Nat} {c : Cell} {lo hi : Nat} (hS : Sl H1 te n c xs.length (xs.flatMap enc)) (henc : ∀ x, (enc x).length = n) (h1 : lo ≤ hi) (h2 : hi ≤ xs.length) : Sl H1 te n (sliceC n c lo hi) ((xs.drop lo).take (hi - lo)).length (((xs.drop lo).take (hi - lo)).flatMap enc) := by
  have hc := hS.slice h1 h2
  rw [flatMap_drop henc, flatMap_take henc] at hc
  have hl : ((xs.drop lo).take (hi - lo)).length = hi - lo := by rw [List.length_take, List.length_drop]; omega
  rw [hl]; exact hc
theorem op_sliceU {H1 : Hyp} {α : Type} {xs : List α} {enc : α → List Cell} {t te n : Nat} {x : Operand} {lo hi : Option Operand} {c : Cell} {l h : Int} (he : elemT P t = some te) (hn : sizeT P te = some n) (hn0 : 0 < n) (hx : evE e x = some (.one (.c c))) (hS : Sl H1 te n c xs.length (xs.flatMap enc)) (hsub : ∀ y ∈ H1, y ∈ H) (henc : ∀ x, (enc x).length = n) (hlo : bndE e lo 0 = some l) (hhi : bndE e hi xs.length = some h) (h0 : 0 ≤ l) (h1 : l ≤ h) (h2 : h ≤ xs.length)
    (k : ∀ c', Sl H1 te n c' ((xs.drop l.toNat).take (h.toNat - l.toNat)).length (((xs.drop l.toNat).take (h.toNat - l.toNat)).flatMap enc) → K (.one (.c c')) H) : OpW P X q ⟨d, .slice t x lo hi none, ty, pos, af, g⟩ e H K :=
  op_sliceD he hn hn0 hx hS hsub hlo hhi h0 h1 h2 (k _ (hS.sliceT henc (by omega) (by omega)))
/-- A part of a slice, in a region that draws its order. -/
theorem f_sliceT {H1 F : Hyp} {ks : Bool} {ops : Array Oper} {sz dd : Nat} {lst : List Oper} {Q : Env → Hyp → Prop} {o : Oper} {α : Type} {xs : List α} {enc : α → List Cell} {t te n : Nat} {x : Operand} {lo hi : Option Operand} {c : Cell} {l h : Int} (hg : GuardIs ops e o true) (hdst : o.dst = some dd) (hd : Nat.blt dd sz = true) (hop : o.op = .slice t x lo hi none) (hs : Sel H F) (he : elemT P t = some te) (hn : sizeT P te = some n) (hn0 : 0 < n) (hx : evE (Env.only (o.looksAt ops) e) x = some (.one (.c c))) (hS : Sl H1 te n c xs.length (xs.flatMap enc)) (hsub : ∀ y ∈ H1, y ∈ F) (henc : ∀ x, (enc x).length = n) (hlo : bndE (Env.only (o.looksAt ops) e) lo 0 = some l) (hhi : bndE (Env.only (o.looksAt ops) e) hi xs.length = some h) (h0 : 0 ≤ l) (h1 : l ≤ h) (h2 : h ≤ xs.length)
    (k : ∀ c', Sl H1 te n c' ((xs.drop l.toNat).take (h.toNat - l.toNat)).length (((xs.drop l.toNat).take (h.toNat - l.toNat)).flatMap enc) → WF ks P X sz ops F lst ((dd, .one (.c c')) :: e) H Q) : WF ks P X sz ops F (o :: lst) e H Q := by
  refine f_l hg hdst hd (by rw [hop]; rfl) hs ?_ (k (sliceC n c l.toNat h.toNat) (hS.sliceT henc (by omega) (by omega)))
  obtain ⟨dst, op, ty, pos, af, g⟩ := o
  simp only at hop
  subst hop
  exact op_sliceD he hn hn0 hx hS hsub hlo hhi h0 h1 h2 rfl
/-- An element's place, where the slice is written out. -/
theorem op_indexE {t te n : Nat} {x y : Operand} {b off len : Nat} {cap : Cap} {k0 : IntKind} {i : Int} (hu : P.underlying t = some (.slice te)) (hn : sizeT P te = some n) (hx : evE e x = some (.one (.c (.sl b off len cap)))) (hy : evE e y = some (.one (.c (.int k0 i)))) (h1 : 0 ≤ i) (h2 : i < len) (k : K (ptrV b (off + i.toNat * n)) H) : OpW P X q ⟨d, .indexAddr t x y, ty, pos, af, g⟩ e H K := by
  intro fr s q1 q2
  refine ⟨0, _, s, H, ?_, q2, k, fun _ _ => rfl⟩
  simp only [opRun, evC q1 hx, evC q1 hy, xIndexAddr, hu, hn]
  rw [if_pos ⟨h1, h2⟩]
theorem Own.row_of {te n : Nat} {c : Cell} {cells : List Cell} {N : Hyp} (h : Own te n c cells N) (hne : cells.length ≠ 0) : ∃ b len, c = .sl b 0 len (.lim 0) ∧ N = [(b, .row true te n cells)] ∧ cells.length = len * n := by
  cases h with
  | nil => exact absurd rfl hne
  | row b len cells hl => exact ⟨b, len, rfl, rfl, hl⟩
/-- A result that is a struct in memory. -/
theorem ret_cellA {K : V → Hyp → Prop} {H' : Hyp} {a t b o n : Nat} {cs : List Cell} (ha : Env.get e a = some (ptrV b o)) (ht : aggT P t = some true) (hn : sizeT P t = some n) (hE : El H b o cs) (hl : cs.length = n) (hs : Sel H H') (hk : K (.one (.agg cs)) H') : retPost P [.cell a t] K .ret e H := by
  intro fr s h1 h2
  refine ⟨[.agg cs], ?_, H', h2.sel hs, hk⟩
  have hr := hE.read h2
  rw [hl] at hr
  simp only [resultsA, h1 a _ ha, xLoad, ht, hn, ptrV, hr]; rfl
end
end Go.Proofs.Ytdhnjkagmbfoaaa.AM
/- A logic over the abstract machine: what is read as data, laid into the machine. -/
set_option linter.unusedSimpArgs false
set_option linter.unusedVariables false
namespace Go.Proofs.Ytdhnjkagmbfoaaa.AM
open Go Go.RowKit
def RdA {α : Type} (P : Program) (t : TypeId) (n : Nat) (lay : Lay α) (G : α → Prop) : Prop :=
  ∀ {H : Type} {enc : TypeId × Value → H} {w : World} {base : Nat} {spare : Nat → Bool} {held : Bool} {fuel : Nat} {cs : List Value} {x : DataW H × List MemPlace} {μ : Map} {s : St} {Hy : Hyp},
    DataW.trod enc P w base spare held fuel t cs = some x → InW w μ s Hy →
    ∃ (y : α) (μ' : Map) (s' : St) (N : Hyp) (cells : List Cell), Sub μ μ' ∧ InW w μ' s' (N ++ Hy) ∧ concs μ' cells = some cs ∧ cs.length = n ∧ lay (N ++ Hy) y cells ∧ ((∀ n ∈ x.1.weights P t, n ≤ reachBytes) → G y)
section
variable {P : Program} {t : TypeId}
theorem rdA_map {α : Type} {n : Nat} {lay lay' : Lay α} {G G' : α → Prop} (h : ∀ H x cs, lay H x cs → lay' H x cs) (hG : ∀ x, G x → G' x) (r : RdA P t n lay G) : RdA P t n lay' G' := by
  intro H enc w base spare held fuel cs x μ s Hy hx hI
  obtain ⟨y, μ', s', N, cells, a, b, c, d, e, f⟩ := r hx hI
  exact ⟨y, μ', s', N, cells, a, b, c, d, h _ _ _ e, fun hw => hG _ (f hw)⟩
theorem rdA_int {k : IntKind} (hu : P.underlying t = some (.int k)) : RdA P t 1 (layFlat fun n => [.int k n]) (fun n => (Lit.int k n).wf = true) := by
  intro H enc w base spare held fuel cs x μ s Hy hx hI
  obtain ⟨n, rfl, rfl, hw⟩ := DataW.trod_int hu hx
  exact ⟨n, μ, s, [], _, Sub.refl _, hI, rfl, rfl, rfl, fun _ => hw⟩
theorem weights_allA {H : Type} {e : TypeId} : ∀ {l : List (DataW H)} {d : DataW H}, d ∈ l → ∀ n ∈ d.weights P e, n ∈ DataW.weightsAll P e l
  | x :: l, d, hd, n, hn => by
    simp only [DataW.weightsAll, List.mem_append]
    rcases List.mem_cons.1 hd with rfl | hd
    · exact .inl hn
    · exact .inr (weights_allA hd n hn)
theorem cells?_atA {w : World} {base : Nat} {a : Addr} {n : Nat} {cs : List Value} (h : w.cells? base a n = some cs) : cs.length = n ∧ ∀ i u, cs[i]? = some u → w.cell? (a.add i) = some u := by
  obtain ⟨_, h1, h2⟩ := World.cells?_some h
  exact ⟨h1, fun i u hi => by rw [h2 i (by have := (List.getElem?_eq_some_iff.1 hi).1; omega)]; exact hi⟩
theorem add_addA (a : Addr) (i j : Nat) : (a.add i).add j = a.add (i + j) := by
  by_cases h1 : i = 0
  · subst h1; simp [Addr.add]
  · by_cases h2 : j = 0
    · subst h2; simp [Addr.add]
    · simp [Addr.add, h1, h2, Nat.add_assoc]
theorem Lay2.snoc {α : Type} {lay : Lay α} {H : Hyp} : ∀ {xs : List α} {css : List (List Cell)} {x : α} {cs : List Cell}, Lay2 lay H xs css → lay H x cs → Lay2 lay H (xs ++ [x]) (css ++ [cs])
  | _, _, x, cs, .nil, h => .cons h .nil
  | _, _, x, cs, .cons a t, h => .cons a (Lay2.snoc t h)
theorem rdA_slice {α : Type} {lay : Lay α} {G : α → Prop} {e : TypeId} {n B : Nat} (hu : P.underlying t = some (.slice e)) (hc : P.cellsOf e = n) (hb : P.bytesOf e = B) (hn : 0 < n) (hm : lay.mono) (r : RdA P e n lay G) :
    RdA P t 1 (laySl e n lay) (fun xs => xs.length * B ≤ 140737488351232 ∧ ∀ x ∈ xs, G x) := by
  intro H enc w base spare held fuel cs x μ s Hy hx hI
  rcases DataW.trod_slice hu hx with ⟨rfl, rfl⟩ | ⟨a, len, cap, elems, rest, fu, _, rfl, rfl, _, hl, hmx, hlen, hel, _, _⟩
  · exact ⟨[], μ, s, [], [.nils], Sub.refl _, hI, rfl, rfl, ⟨.nils, [], rfl, Sl.nil, .nil, fun r hr => by simp at hr⟩, fun _ => ⟨by simp, fun x hx => by simp at hx⟩⟩
  · by_cases h0 : len = 0
    · subst h0
      have he : elems = [] := List.length_eq_zero_iff.1 hlen
      refine ⟨[], μ, s, [], [.sle a cap], Sub.refl _, hI, rfl, rfl, ⟨.sle a cap, [], rfl, ⟨by simp, .inr (.inl ⟨rfl, rfl⟩)⟩, .nil, fun r hr => by simp at hr⟩, fun _ => ⟨by simp, fun x hx => by simp at hx⟩⟩
    · have hch : ∀ m, m ≤ len → ∃ (ys : List α) (css : List (List Cell)) (vss : List (List Value)) (μ' : Map) (s' : St) (N : Hyp), ys.length = m ∧ vss.length = m ∧ Sub μ μ' ∧ InW w μ' s' (N ++ Hy) ∧ concs μ' css.flatten = some vss.flatten ∧ Lay2 lay (N ++ Hy) ys css ∧ (∀ c ∈ css, c.length = n) ∧
          (∀ v ∈ vss, v.length = n) ∧ (∀ (i : Nat) vs, vss[i]? = some vs → ∀ j u, vs[j]? = some u → w.cell? (a.add (i * n + j)) = some u) ∧ (∀ (i : Nat) y, ys[i]? = some y → ∀ z, elems[i]? = some z → ((∀ n ∈ z.1.weights P e, n ≤ reachBytes) → G y)) := by
        intro m
        induction m with
        | zero => exact fun _ => ⟨[], [], [], μ, s, [], rfl, rfl, Sub.refl _, hI, rfl, .nil, (fun c hc => by simp at hc), (fun c hc => by simp at hc), (fun i vs h => by simp at h), (fun i y h => by simp at h)⟩
        | succ m ih =>
          intro hml
          obtain ⟨ys, css, vss, μ1, s1, N1, h1, h2, h3, h4, h5, h6, h7, h8, h9, h10⟩ := ih (by omega)
          have h11 := hel m (by omega)
          have hz : elems[m]? = some (elems[m]'(by omega)) := List.getElem?_eq_getElem (by omega)
          rw [hz] at h11
          obtain ⟨cs', h12, h13⟩ := Option.bind_eq_some_iff.1 h11
          obtain ⟨h14, h15⟩ := cells?_atA h12
          rw [hc] at h14 h15
          obtain ⟨y, μ2, s2, N2, cells, g1, g2, g3, g4, g5, g6⟩ := r h13 h4
          refine ⟨ys ++ [y], css ++ [cells], vss ++ [cs'], μ2, s2, N2 ++ N1, by simp [h1], by simp [h2], h3.trans g1, by rw [List.append_assoc]; exact g2, ?_, ?_, ?_, ?_, ?_, ?_⟩
          · rw [List.flatten_append, List.flatten_append]
            simp only [List.flatten_cons, List.flatten_nil, List.append_nil]
            exact concs_append (concs_mono g1 h5) g3
          · rw [List.append_assoc]
            exact Lay2.snoc (h6.mono hm fun y hy => List.mem_append_right _ hy) g5
          · intro c hc'
            rcases List.mem_append.1 hc' with q | q
            · exact h7 c q
            · simp at q; subst q; rw [← concs_length g3, h14]
          · intro c hc'
            rcases List.mem_append.1 hc' with q | q
            · exact h8 c q
            · simp at q; subst q; exact h14
          · intro i vs hi j u hj
            rw [List.getElem?_append] at hi
            split at hi
            · exact h9 i vs hi j u hj
            · rename_i q
              have e1 : i - vss.length = 0 := by
                rcases Nat.eq_zero_or_pos (i - vss.length) with q | q
                · exact q
                · rw [List.getElem?_eq_none (by simp; omega)] at hi; cases hi
              rw [e1] at hi
              simp at hi
              subst hi
              have e2 : i = m := by omega
              subst e2
              have := h15 j u hj
              rwa [add_addA] at this
          · intro i y' hi z hz' hw
            rw [List.getElem?_append] at hi
            split at hi
            · exact h10 i y' hi z hz' hw
            · rename_i q
              have e1 : i - ys.length = 0 := by
                rcases Nat.eq_zero_or_pos (i - ys.length) with q | q
                · exact q
                · rw [List.getElem?_eq_none (by simp; omega)] at hi; cases hi
              rw [e1] at hi
              simp at hi
              subst hi
              have e2 : i = m := by omega
              subst e2
              rw [hz] at hz'; cases hz'
              exact g6 hw
      obtain ⟨ys, css, vss, μ1, s1, N1, h1, h2, h3, h4, h5, h6, h7, h8, h9, h10⟩ := hch len (Nat.le_refl _)
      have hvl : ∀ (i : Nat), i < len * n → ∃ v, vss.flatten[i]? = some v ∧ w.cell? (a.add i) = some v := by
        have gen : ∀ (l : List (List Value)) (o : Nat), (∀ v ∈ l, v.length = n) → (∀ (i : Nat) vs, l[i]? = some vs → ∀ j u, vs[j]? = some u → w.cell? (a.add ((o + i) * n + j)) = some u) → ∀ i, i < l.length * n → ∃ v, l.flatten[i]? = some v ∧ w.cell? (a.add (o * n + i)) = some v := by
          intro l
          induction l with
          | nil => intro o _ _ i hi; simp at hi
          | cons v l ih =>
            intro o hv hc' i hi
            have hvn := hv v (by simp)
            by_cases hin : i < n
            · have hg : v[i]? = some (v[i]'(by omega)) := List.getElem?_eq_getElem (by omega)
              refine ⟨v[i]'(by omega), by rw [List.flatten_cons, List.getElem?_append_left (by omega)]; exact hg, ?_⟩
              have := hc' 0 v rfl i _ hg
              simpa using this
            · rw [List.length_cons, Nat.add_mul] at hi
              obtain ⟨u, q1, q2⟩ := ih (o + 1) (fun v hv' => hv v (by simp [hv'])) (fun i vs hi => by
                have := hc' (i + 1) vs (by simpa using hi)
                intro j u hj
                rw [show o + 1 + i = o + (i + 1) by omega]; exact this j u hj) (i - n) (by omega)
              refine ⟨u, by rw [List.flatten_cons, List.getElem?_append_right (by omega), hvn]; exact q1, ?_⟩
              rw [Nat.add_mul, Nat.one_mul] at q2
              rw [show o * n + i = o * n + n + (i - n) by omega]; exact q2
        intro i hi
        have := gen vss 0 h8 (fun i vs hi j u hj => by rw [Nat.zero_add]; exact h9 i vs hi j u hj) i (by rw [h2]; exact hi)
        simpa using this
      have hpos : 0 < len * n := Nat.mul_pos (by omega) hn
      obtain ⟨v0, _, hv0⟩ := hvl 0 hpos
      obtain ⟨ab, ao, ap⟩ := a
      have hcell : ap = none ∧ ab < w.heap.size := by
        simp only [World.cell?, Addr.add] at hv0
        cases ap with
        | some p =>
          exfalso
          simp at hv0
          split at hv0 <;> cases hv0
        | none =>
          refine ⟨rfl, ?_⟩
          cases hh : w.heap[ab]? with
          | none => simp [hh] at hv0
          | some o => exact (Array.getElem?_eq_some_iff.1 hh).1
      obtain ⟨rfl, hab⟩ := hcell
      have hfl : css.flatten.length = len * n := by
        have hcl : css.length = len := by rw [h6.length, h1]
        rw [← hcl]
        clear h5 h6 hcl
        induction css with
        | nil => simp
        | cons c css ih =>
          rw [List.flatten_cons, List.length_append, ih fun c hc' => h7 c (by simp [hc']), h7 c (by simp), List.length_cons, Nat.add_mul]; omega
      obtain ⟨q1, q2⟩ := h4.add css.flatten e n ⟨ab, ao, cap⟩ hab (by rw [hfl]; exact Nat.mul_le_mul_right _ hl) (fun i c hi => by
        obtain ⟨v, z1, z2⟩ := concs_get h5 hi
        have hil := (List.getElem?_eq_some_iff.1 hi).1
        obtain ⟨v', z3, z4⟩ := hvl i (by omega)
        rw [z2] at z3; cases z3
        refine ⟨v, z1, ?_⟩
        by_cases hi0 : i = 0
        · subst hi0; simpa [Addr.add] using z4
        · simpa [Addr.add, hi0] using z4)
      refine ⟨ys, _, _, (s1.next, .row false e n css.flatten) :: N1, [.sl s1.next 0 len (.lim 0)], h3.trans q1, q2, ?_, rfl, ⟨.sl s1.next 0 len (.lim 0), css, rfl, ?_, h6.mono hm fun y hy => List.mem_cons_of_mem _ hy, h7⟩, fun hw => ⟨?_, fun y hy => ?_⟩⟩
      · simp only [concs, Cell.conc, upd_self, Option.map_some]; rfl
      · rw [h1]; exact Sl.of_row (own := false) (List.Mem.head _) hfl
      · have := hw (((elems.map (·.1)).length + (rest.map (·.1)).length) * P.bytesOf e) (by simp [DataW.weights, hu])
        rw [hb] at this
        refine Nat.le_trans (Nat.mul_le_mul_right _ ?_) this
        simp [hlen]; omega
      · obtain ⟨i, hi, rfl⟩ := List.getElem_of_mem hy
        have hz : elems[i]? = some (elems[i]'(by omega)) := List.getElem?_eq_getElem (by omega)
        refine h10 i _ (List.getElem?_eq_getElem hi) _ hz (fun n hn' => hw n ?_)
        simp only [DataW.weights, hu, List.mem_cons, List.mem_append]
        exact .inr (.inl (weights_allA (List.mem_map.2 ⟨_, List.mem_of_getElem? hz, rfl⟩) n hn'))
/-- Fields, one behind the other. -/
def RdAL {α : Type} (P : Program) (fs : List Field) (o n : Nat) (lay : Lay α) (G : α → Prop) : Prop :=
  ∀ {H : Type} {enc : TypeId × Value → H} {w : World} {base : Nat} {spare : Nat → Bool} {held : Bool} {fuel : Nat} {cs : List Value} {xs : List (DataW H × List MemPlace)} {μ : Map} {s : St} {Hy : Hyp},
    (∀ (i : Nat) (f : Field), fs[i]? = some f → DataW.trod enc P w base spare held fuel f.type ((cs.drop f.offset).take (P.cellsOf f.type)) = xs[i]?) → cs.length = o + n → xs.length = fs.length → InW w μ s Hy →
    ∃ (y : α) (μ' : Map) (s' : St) (N : Hyp) (cells : List Cell), Sub μ μ' ∧ InW w μ' s' (N ++ Hy) ∧ concs μ' cells = some (cs.drop o) ∧ lay (N ++ Hy) y cells ∧ ((∀ n ∈ DataW.weightsEach P (fs.map (·.type)) (xs.map (·.1)), n ≤ reachBytes) → G y)
def layPair {α β : Type} (a : Lay α) (b : Lay β) : Lay (α × β) := fun H x cs => ∃ c1 c2, cs = c1 ++ c2 ∧ a H x.1 c1 ∧ b H x.2 c2
def layIso {α β : Type} (a : Lay α) (f : β → α) : Lay β := fun H x cs => a H (f x) cs
theorem rdAL_one {α : Type} {lay : Lay α} {G : α → Prop} {f : Field} {o n : Nat} (ho : f.offset = o) (hc : P.cellsOf f.type = n) (r : RdA P f.type n lay G) : RdAL P [f] o n lay G := by
  intro H enc w base spare held fuel cs xs μ s Hy h hl hx hI
  have h0 := h 0 f rfl
  obtain ⟨x, rfl⟩ : ∃ x, xs = [x] := by
    match xs, hx with
    | [x], _ => exact ⟨x, rfl⟩
  rw [ho, hc, List.take_of_length_le (by rw [List.length_drop]; omega)] at h0
  obtain ⟨y, μ', s', N, cells, a, b, c, d, e, hG⟩ := r h0 hI
  exact ⟨y, μ', s', N, cells, a, b, c, e, fun hw => hG (fun n hn => hw n (by simpa [DataW.weightsEach] using hn))⟩
theorem rdAL_cons {α β : Type} {lay : Lay α} {lay' : Lay β} {G : α → Prop} {G' : β → Prop} {f : Field} {fs : List Field} {o n n' : Nat} (ho : f.offset = o) (hc : P.cellsOf f.type = n) (hm : lay.mono) (r : RdA P f.type n lay G) (r' : RdAL P fs (o + n) n' lay' G') :
    RdAL P (f :: fs) o (n + n') (layPair lay lay') (fun x => G x.1 ∧ G' x.2) := by
  intro H enc w base spare held fuel cs xs μ s Hy h hl hx hI
  obtain ⟨x, xs, rfl⟩ : ∃ x r, xs = x :: r := by
    match xs, hx with
    | x :: r, _ => exact ⟨x, r, rfl⟩
  have h0 := h 0 f rfl
  rw [ho, hc] at h0
  obtain ⟨y, μ1, s1, N1, cells1, a1, b1, c1, d1, e1, hG⟩ := r h0 hI
  obtain ⟨y', μ2, s2, N2, cells2, a2, b2, c2, e2, hG'⟩ := r' (xs := xs) (fun i f' hf => by simpa using h (i + 1) f' (by simpa using hf)) (by rw [hl]; omega) (by simpa using hx) b1
  refine ⟨(y, y'), μ2, s2, N2 ++ N1, cells1 ++ cells2, a1.trans a2, by rw [List.append_assoc]; exact b2, ?_, ⟨cells1, cells2, rfl, by rw [List.append_assoc]; exact hm _ _ _ _ (fun y hy => List.mem_append_right _ hy) e1, by rw [List.append_assoc]; exact e2⟩, fun hw => ⟨hG fun n hn => hw n ?_, hG' fun n hn => hw n ?_⟩⟩
  · have := concs_append (concs_mono a2 c1) c2
    rwa [← List.drop_drop, List.take_append_drop] at this
  · simp only [List.map_cons, DataW.weightsEach, List.mem_append]; exact .inl hn
  · simp only [List.map_cons, DataW.weightsEach, List.mem_append]; exact .inr hn
theorem rdA_struct {α : Type} {lay : Lay α} {G : α → Prop} {fs : Array Field} {n : Nat} (hu : P.underlying t = some (.struct fs)) (hc : P.cellsOf t = n) (r : RdAL P fs.toList 0 n lay G) : RdA P t n lay G := by
  intro H enc w base spare held fuel cs x μ s Hy h hI
  obtain ⟨xs, m, rfl, rfl, hl, hx, hf⟩ := DataW.trod_struct hu h
  obtain ⟨y, μ', s', N, cells, a, b, c, e, hG⟩ := r (xs := xs) (fun i f hi => hf i f (by simpa using hi)) (by rw [hl, hc]; omega) (by rw [hx]; simp) hI
  refine ⟨y, μ', s', N, cells, a, b, by simpa using c, by rw [hl, hc], e, fun hw => hG (fun n hn => hw n ?_)⟩
  simpa [DataW.weights, hu] using hn
theorem rdA_iso {α β : Type} {lay : Lay α} {n : Nat} {G : α → Prop} {f : β → α} (g : α → β) (hg : ∀ x, f (g x) = x) (r : RdA P t n lay G) : RdA P t n (layIso lay f) (fun y => G (f y)) := by
  intro H enc w base spare held fuel cs x μ s Hy h hI
  obtain ⟨y, μ', s', N, cells, a, b, c, d, e, hG⟩ := r h hI
  refine ⟨g y, μ', s', N, cells, a, b, c, d, ?_, fun hw => ?_⟩
  · show lay (N ++ Hy) (f (g y)) cells
    rw [hg]; exact e
  · show G (f (g y))
    rw [hg]; exact hG hw
theorem weights_of_eachA {H : Type} {ts : List TypeId} {ds : List (DataW H)} (h : (DataW.weightsEach P ts ds).all (· ≤ reachBytes) = true) {j : Nat} {t : TypeId} {d : DataW H} (ht : ts[j]? = some t) (hd : ds[j]? = some d) : ∀ n ∈ d.weights P t, n ≤ reachBytes := fun n hn => by
  simpa using List.all_eq_true.1 h n (DataW.weights_mem_each ht hd n hn)
/-- A flat slice's cells. -/
theorem laySl_flat {α : Type} {te n : Nat} {enc : α → List Cell} {H : Hyp} {xs : List α} {cs : List Cell} (h : laySl te n (layFlat enc) H xs cs) : ∃ c, cs = [c] ∧ Sl H te n c xs.length (xs.flatMap enc) := by
  obtain ⟨c, css, h1, h2, h3, _⟩ := h
  rw [h3.flat] at h2
  exact ⟨c, h1, h2⟩
end
/-! ### Searches, as arguments that are found -/
theorem sel_ {H H' : Hyp} (h : Sel H H' := by (repeat (first | exact Sel.refl _ | refine Sel.assocR ?_ | refine Sel.assocL ?_ | (refine Sel.pickL (by (repeat (first | exact PickL.front _ _ | exact PickL.nil _ | apply PickL.skip | apply PickL.skipL)); first | done | fail) ?_) | (refine Sel.pick (by (repeat (first | exact Pick.head _ _ _ | apply Pick.tail | apply Pick.app)); first | done | fail) ?_) | refine Sel.drop _ ?_ | refine Sel.dropL _ ?_)); first | done | fail) : Sel H H' := h
theorem env_ {e e' : Env} (h : ESub e e' := by (repeat (first | exact ESub.nil _ | refine ESub.cons rfl ?_)); first | done | fail) : ESub e e' := h
theorem subs_ {H H' : Hyp} (h : ∀ y ∈ H, y ∈ H' := by intro y hy; (repeat (first | exact hy | apply List.Mem.tail | (apply List.mem_append_left; exact hy) | apply List.mem_append_right)); first | done | fail) : ∀ y ∈ H, y ∈ H' := h
theorem mem_ {x : Nat × Fact} {H : Hyp} (h : x ∈ H := by repeat (first | exact List.Mem.head _ | assumption | apply List.Mem.tail | apply List.mem_append_right)) : x ∈ H := h
theorem el_ {H : Hyp} {b o : Nat} {cs : List Cell} (h : El H b o cs := by first | assumption | exact El.row (by repeat (first | exact List.Mem.head _ | assumption | apply List.Mem.tail | apply List.mem_append_right)) | (repeat (first | assumption | apply El.cons | apply El.app))) : El H b o cs := h
end Go.Proofs.Ytdhnjkagmbfoaaa.AM
