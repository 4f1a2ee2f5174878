/- A logic over the abstract machine. -/
import Derived.Test.YtdhnjkagmbfoaaaAMS
import Derived.Laws.Strings
/- A logic over the abstract machine: what is known of a frame is a list of values, what is known of memory is a list of blocks. Fuel, frames, memory. -/
set_option linter.unusedSimpArgs false
set_option linter.unusedVariables false
namespace Go.Proofs.Ytdhnjkagmbfoaaa.AM
open Go Go.RowKit
section
variable {P : Program} {X : Spec}
/-! ### More fuel changes nothing -/
def CallLe (c c' : CallF) : Prop := ∀ f args s r, c f args s = some r → c' f args s = some r
theorem xCallFn_mono {c c' : CallF} (h : CallLe c c') {s : St} {f : Nat} {args : List V} {r} (hx : xCallFn X c s f args = some r) : xCallFn X c' s f args = some r := by
  unfold xCallFn at *
  cases hq : (scalars args).bind (X f) with
  | none => rw [hq] at hx; exact h _ _ _ _ hx
  | some v => rw [hq] at hx; exact hx
theorem opRun_mono {c c' : CallF} (h : CallLe c c') {fr : Fr} {s : St} {o : Oper} {r} (hx : opRun P X c fr s o = some r) : opRun P X c' fr s o = some r := by
  obtain ⟨dst, op, type, pos, after, guard⟩ := o
  cases op with
  | call cl =>
    obtain ⟨callee, args, argTypes⟩ := cl
    cases callee with
    | value g =>
      simp only [opRun] at hx ⊢
      cases h1 : evalC fr g with
      | none => rw [h1] at hx; cases hx
      | some c0 =>
        cases h2 : argsOf fr args.toList with
        | none => rw [h1, h2] at hx; cases c0 <;> cases hx
        | some vs =>
          rw [h1, h2] at hx
          cases c0 <;> first | exact xCallFn_mono h hx | cases hx
    | builtin b => exact hx
    | invoke a b => exact hx
  | makeFunc fn first captured =>
    obtain ⟨first⟩ := first
    cases fn <;> cases first <;> exact hx
  | makeMap t r => cases r <;> exact hx
  | next it b => cases b <;> exact hx
  | _ => exact hx
theorem opsRun_mono {c c' : CallF} (h : CallLe c c') {ops : Array Oper} : ∀ {l : List Oper} {fr : Fr} {s : St} {r}, opsRun P X c ops l fr s = some r → opsRun P X c' ops l fr s = some r
  | [], fr, s, r, hx => hx
  | o :: l, fr, s, r, hx => by
    simp only [opsRun] at hx ⊢
    split at hx
    · rename_i hw
      rw [if_pos hw]
      split at hx
      · rename_i v s1 ho
        rw [opRun_mono h ho]; exact opsRun_mono h hx
      · cases hx
    · rename_i hw
      rw [if_neg hw]; exact opsRun_mono h hx
theorem trace_mono {c c' : CallF} (h : CallLe c c') {ops : Array Oper} : ∀ {l : List Oper} {fr : Fr} {s : St} {r}, trace P X c ops l fr s = some r → trace P X c' ops l fr s = some r
  | [], fr, s, r, hx => hx
  | o :: l, fr, s, r, hx => by
    simp only [trace] at hx ⊢
    split at hx
    · rename_i hw
      rw [if_pos hw]
      split at hx
      · rename_i v s1 ho
        rw [opRun_mono h ho]
        simp only
        split at hx
        · rename_i hq
          rw [if_pos hq]
          split at hx
          · rename_i l1 fr1 s2 ht
            rw [trace_mono h ht]; exact hx
          · cases hx
        · cases hx
      · cases hx
    · rename_i hw
      rw [if_neg hw]
      split at hx
      · rename_i l1 fr1 s2 ht
        rw [trace_mono h ht]; exact hx
      · cases hx
theorem sameAt_mono {c c' : CallF} (h : CallLe c c') {ops : Array Oper} {o : Oper} {t : Tr} {s : St} (hx : sameAt P X c ops o t s = true) : sameAt P X c' ops o t s = true := by
  unfold sameAt at *
  cases hq : opRun P X c (restr (o.looksAt ops) t.fr) s o with
  | none => rw [hq] at hx; cases hx
  | some r => rw [hq] at hx; rw [opRun_mono h hq]; exact hx
theorem dynOK_mono {c c' : CallF} (h : CallLe c c') {ops : Array Oper} {trs : List Tr} {s : St} (hx : dynOK P X c ops trs s = true) : dynOK P X c' ops trs s = true := by
  unfold dynOK at *
  rw [List.all_eq_true] at *
  intro i hi
  have h1 := hx i hi
  cases ho : ops[i]? with
  | none => simp [ho] at h1
  | some o =>
    cases ht : trs[i]? with
    | none => simp [ho, ht] at h1
    | some t =>
      simp only [ho, ht, Bool.or_eq_true, Bool.and_eq_true, List.all_eq_true] at h1 ⊢
      rcases h1 with h1 | ⟨h1, h2⟩
      · exact .inl h1
      · refine .inr ⟨h1.imp id (sameAt_mono h), fun j hj => ?_⟩
        have h3 := h2 j hj
        cases hu : ops[j]? with
        | none => simp [hu] at h3
        | some u =>
          cases hv : trs[j]? with
          | none => simp [hu, hv] at h3
          | some tj =>
            simp only [hu, hv, Bool.or_eq_true] at h3 ⊢
            exact h3.imp id (sameAt_mono h)
theorem drawRun_mono {c c' : CallF} (h : CallLe c c') {ops : Array Oper} {fr : Fr} {s : St} {r} (hx : drawRun P X c ops fr s = some r) : drawRun P X c' ops fr s = some r := by
  unfold drawRun at *
  split at hx
  · rename_i h1
    rw [if_pos h1]
    split at hx
    · rename_i trs fr1 s1 ht
      rw [trace_mono h ht]
      simp only
      split at hx
      · rename_i hd
        rw [if_pos (dynOK_mono h hd)]; exact hx
      · cases hx
    · cases hx
  · rename_i h1
    rw [if_neg h1]
    split at hx
    · rename_i i d t hfl
      unfold freeRun at *
      split at hx
      · rename_i z hz
        split at hx
        · rename_i h2
          rw [if_pos h2]
          split at hx
          · rename_i trs fr1 s1 ht
            rw [trace_mono h ht]
            simp only
            split at hx
            · rename_i hd
              simp only [Bool.and_eq_true] at hd
              rw [if_pos (by rw [dynOK_mono h hd.1, hd.2]; rfl)]; exact hx
            · cases hx
          · cases hx
        · cases hx
      · cases hx
    · cases hx
theorem go_succ : ∀ (n : Nat) (c : Code) (fr : Fr) (s : St) (r), go P X n c fr s = some r → go P X (n + 1) c fr s = some r
  | 0, c, fr, s, r, h => by simp [go] at h
  | n + 1, c, fr, s, r, h => by
    have ih := go_succ n
    cases c with
    | skip => simpa [go] using h
    | ret => simpa [go] using h
    | exit id => simpa [go] using h
    | seq a b =>
      rw [go] at h ⊢
      cases ha : go P X n a fr s with
      | none => rw [ha] at h; cases h
      | some q =>
        rw [ha] at h; rw [ih _ _ _ _ ha]
        obtain ⟨ex, fr1, s1⟩ := q
        cases ex with
        | normal => exact ih _ _ _ _ h
        | exit _ => exact h
        | ret => exact h
    | cond x a b =>
      rw [go] at h ⊢
      split at h
      · rename_i hc; exact ih _ _ _ _ h
      · rename_i hc; exact ih _ _ _ _ h
      · cases h
    | block id a =>
      rw [go] at h ⊢
      cases ha : go P X n a fr s with
      | none => rw [ha] at h; cases h
      | some q => rw [ha] at h; rw [ih _ _ _ _ ha]; exact h
    | loop a =>
      rw [go] at h ⊢
      cases ha : go P X n a fr s with
      | none => rw [ha] at h; cases h
      | some q =>
        rw [ha] at h; rw [ih _ _ _ _ ha]
        obtain ⟨ex, fr1, s1⟩ := q
        cases ex with
        | normal => exact ih _ _ _ _ h
        | exit _ => exact h
        | ret => exact h
    | region id ops draw =>
      have hle : CallLe (callA P X n) (callA P X (n + 1)) := by
        intro f args s0 r0 hr
        unfold callA at *
        cases hfn : P.funcs[f]? with
        | none => rw [hfn] at hr; cases hr
        | some fn =>
          rw [hfn] at hr
          cases hb : fn.body with
          | none => simp only [hb] at hr; cases hr
          | some body =>
            simp only [hb] at hr ⊢
            cases hg : go P X n body (Fr.of args fn.ntmps) s0 with
            | none => rw [hg] at hr; cases hr
            | some q => rw [hg] at hr; rw [ih _ _ _ _ hg]; exact hr
      have h' : ((if draw = true then drawRun P X (callA P X n) ops fr s else opsRun P X (callA P X n) ops ops.toList fr s).map fun q => (Ex.normal, q.1, q.2)) = some r := h
      show ((if draw = true then drawRun P X (callA P X (n + 1)) ops fr s else opsRun P X (callA P X (n + 1)) ops ops.toList fr s).map fun q => (Ex.normal, q.1, q.2)) = some r
      cases draw with
      | true =>
        simp only [if_true] at h' ⊢
        obtain ⟨q, hq, rfl⟩ := Option.map_eq_some_iff.1 h'
        rw [drawRun_mono hle hq]; rfl
      | false =>
        simp only [Bool.false_eq_true, if_false] at h' ⊢
        obtain ⟨q, hq, rfl⟩ := Option.map_eq_some_iff.1 h'
        rw [opsRun_mono hle hq]; rfl
    | _ => simp [go] at h
theorem go_le {n m : Nat} (h : n ≤ m) {c : Code} {fr : Fr} {s : St} {r} (hx : go P X n c fr s = some r) : go P X m c fr s = some r := by
  induction h with
  | refl => exact hx
  | step _ ih => exact go_succ _ _ _ _ _ ih
theorem callA_le {n m : Nat} (h : n ≤ m) : CallLe (callA P X n) (callA P X m) := by
  intro f args s0 r0 hr
  unfold callA at *
  cases hfn : P.funcs[f]? with
  | none => rw [hfn] at hr; cases hr
  | some fn =>
    rw [hfn] at hr
    cases hb : fn.body with
    | none => simp only [hb] at hr; cases hr
    | some body =>
      simp only [hb] at hr ⊢
      cases hg : go P X n body (Fr.of args fn.ntmps) s0 with
      | none => rw [hg] at hr; cases hr
      | some q => rw [hg] at hr; rw [go_le h hg]; exact hr
theorem callA_eq {f : Nat} {fn : Func} {body : Code} (hfn : P.funcs[f]? = some fn) (hb : fn.body = some body) (n : Nat) (args : List V) (s : St) : callA P X n f args s = match go P X n body (Fr.of args fn.ntmps) s with
      | some (.normal, fr, s) | some (.ret, fr, s) => (resultsA P s fr fn.results.toList).map fun vs => (retV vs, s)
      | _ => none := by
  unfold callA; simp only [hfn, hb]; rfl
/-! ### What is known of a frame -/
abbrev Env := List (Nat × V)
def Env.get : Env → Nat → Option V
  | [], _ => none
  | (t, v) :: e, n => bif Nat.beq t n then some v else Env.get e n
def Has (fr : Fr) (e : Env) : Prop := ∀ t v, Env.get e t = some v → fr.get t = v
theorem Has.nil (fr : Fr) : Has fr [] := fun t v h => by cases h
theorem Has.put {fr : Fr} {e : Env} (h : Has fr e) {d : Nat} (hd : d < fr.size) (v : V) : Has (fr.put d v) ((d, v) :: e) := by
  intro t u hu
  rw [Fr.put_get]
  simp only [Env.get] at hu
  cases hb : Nat.beq d t with
  | true =>
    rw [hb] at hu
    have := Nat.eq_of_beq_eq_true hb
    subst this
    rw [if_pos ⟨rfl, hd⟩]; exact Option.some.inj hu
  | false =>
    rw [hb] at hu
    have := Nat.ne_of_beq_eq_false hb
    rw [if_neg (fun q => this q.1)]; exact h t u hu
/-- What is known of one frame is known of another. -/
def ESub (e e' : Env) : Prop := ∀ t v, Env.get e' t = some v → Env.get e t = some v
theorem Has.sub {fr : Fr} {e e' : Env} (h : Has fr e) (hs : ESub e e') : Has fr e' := fun t v q => h t v (hs t v q)
theorem ESub.nil (e : Env) : ESub e [] := fun t v h => by cases h
theorem ESub.refl (e : Env) : ESub e e := fun t v h => h
theorem ESub.cons {e e' : Env} {t : Nat} {v : V} (h : Env.get e t = some v) (hs : ESub e e') : ESub e ((t, v) :: e') := by
  intro u x hx
  simp only [Env.get] at hx
  cases hb : Nat.beq t u with
  | true =>
    rw [hb] at hx
    have := Nat.eq_of_beq_eq_true hb
    subst this
    rw [h]; exact hx
  | false => rw [hb] at hx; exact hs u x hx
def putE (e : Env) : Option Nat → V → Env
  | some d, v => (d, v) :: e
  | none, _ => e
def dstOk (sz : Nat) : Option Nat → Bool
  | some d => Nat.blt d sz
  | none => true
theorem Has.putV {fr : Fr} {e : Env} (h : Has fr e) {d : Option Nat} {sz : Nat} (hs : fr.size = sz) (hd : dstOk sz d = true) (v : V) : Has (putV fr d v) (putE e d v) := by
  cases d with
  | none => exact h
  | some d =>
    refine h.put ?_ v
    simp only [dstOk, Nat.blt_eq] at hd
    omega
def evE (e : Env) : Operand → Option V
  | .tmp t => Env.get e t
  | .const v => ofV v
  | .func f => some (.one (.c (.fn f [])))
  | .global _ => none
theorem evO {fr : Fr} {e : Env} (h : Has fr e) {x : Operand} {v : V} (hx : evE e x = some v) : evalO fr x = some v := by
  cases x with
  | tmp t => exact congrArg some (h t v hx)
  | const c => exact hx
  | global g => cases hx
  | func f => exact hx
theorem evC {fr : Fr} {e : Env} (h : Has fr e) {x : Operand} {c : Cell} (hx : evE e x = some (.one (.c c))) : evalC fr x = some c := by
  unfold evalC; rw [evO h hx]
theorem ev1 {fr : Fr} {e : Env} (h : Has fr e) {x : Operand} {c : V1} (hx : evE e x = some (.one c)) : eval1 fr x = some c := by
  unfold eval1; rw [evO h hx]
def argsE (e : Env) : List Operand → Option (List V)
  | [] => some []
  | x :: xs => match evE e x, argsE e xs with
    | some v, some vs => some (v :: vs)
    | _, _ => none
theorem evArgs {fr : Fr} {e : Env} (h : Has fr e) : ∀ {l : List Operand} {vs : List V}, argsE e l = some vs → argsOf fr l = some vs
  | [], vs, hx => hx
  | x :: l, vs, hx => by
    simp only [argsE] at hx
    cases h1 : evE e x with
    | none => rw [h1] at hx; cases hx
    | some v =>
      cases h2 : argsE e l with
      | none => rw [h1, h2] at hx; cases hx
      | some ws =>
        rw [h1, h2] at hx
        simp only [argsOf, evO h h1, evArgs h h2]; exact hx
def partsE (e : Env) : List (Nat × Operand) → Option (List (Nat × V1))
  | [] => some []
  | (i, x) :: rest => match evE e x, partsE e rest with
    | some (.one v), some vs => some ((i, v) :: vs)
    | _, _ => none
theorem evParts {fr : Fr} {e : Env} (h : Has fr e) : ∀ {l : List (Nat × Operand)} {vs}, partsE e l = some vs → evalParts fr l = some vs
  | [], vs, hx => hx
  | (i, x) :: l, vs, hx => by
    simp only [partsE] at hx
    cases h1 : evE e x with
    | none => rw [h1] at hx; cases hx
    | some v =>
      cases v with
      | tup ws => rw [h1] at hx; cases hx
      | one v =>
        cases h2 : partsE e l with
        | none => rw [h1, h2] at hx; cases hx
        | some ws =>
          rw [h1, h2] at hx
          simp only [evalParts, ev1 h h1, evParts h h2]; exact hx
def capsE (e : Env) : List Operand → Option (List (Nat × Nat))
  | [] => some []
  | x :: xs => match evE e x, capsE e xs with
    | some (.one (.c (.ptr b o))), some l => some ((b, o) :: l)
    | _, _ => none
theorem evCaps {fr : Fr} {e : Env} (h : Has fr e) : ∀ {l : List Operand} {ps}, capsE e l = some ps → capPtrs (l.map (evalC fr)) = some ps
  | [], ps, hx => hx
  | x :: l, ps, hx => by
    simp only [capsE] at hx
    split at hx
    · rename_i b o qs h1 h2
      simp only [List.map_cons, evC h h1, capPtrs, evCaps h h2]; exact hx
    · cases hx
/-! ### What is known of memory -/
inductive Fact where
  /-- A row of cells; its own: it may be written, and longer. -/
  | row (own : Bool) (ty esz : Nat) (cells : List Cell)
  /-- An end of a row: nothing can be read there. -/
  | hole (ty esz : Nat)
  | map (es : List (V1 × V1 × Nat)) (clock : Nat)
  | iter (t : ByteArray) (pos : Nat)
abbrev Hyp := List (Nat × Fact)
def Fact.on (s : St) (b : Nat) : Fact → Prop
  | .row own ty esz cells => ∃ fam ver, s.get b = some (.blk cells ty esz fam ver) ∧ fam < s.next ∧ (s.fam fam).2 ≤ ver ∧ (own = true → (s.fam fam).1 = ver)
  | .hole ty esz => ∃ fam, s.get b = some (.blk [] ty esz fam 0)
  | .map es clock => s.get b = some (.map es clock)
  | .iter t pos => s.get b = some (.iter t pos)
def Fact.isOwn : Fact → Bool
  | .row own _ _ _ => own
  | _ => false
def Fact.isRow : Fact → Bool
  | .row _ _ _ _ => true
  | _ => false
def famOf (s : St) (b : Nat) : Option Nat := match s.get b with
  | some (.blk _ _ _ fam _) => some fam
  | _ => none
def Apart (s : St) (x y : Nat × Fact) : Prop := x.1 ≠ y.1 ∧ (x.2.isRow = true → y.2.isRow = true → (x.2.isOwn || y.2.isOwn) = true → famOf s x.1 ≠ famOf s y.1)
structure Hp (s : St) (H : Hyp) : Prop where
  wf : s.wf
  pos : ∀ k, k < s.next → 0 < (s.fam k).1
  fact : ∀ x ∈ H, x.2.on s x.1
  apart : H.Pairwise (Apart s)
theorem Apart.symm {s : St} {x y : Nat × Fact} (h : Apart s x y) : Apart s y x := ⟨Ne.symm h.1, fun a b c => Ne.symm (h.2 b a (by rw [Bool.or_comm]; exact c))⟩
theorem fact_lt {s : St} {b : Nat} {f : Fact} (h : f.on s b) : b < s.next := by
  cases f with
  | row own ty esz cells => obtain ⟨_, _, h, _⟩ := h; exact St.get_lt h
  | hole ty esz => obtain ⟨_, h⟩ := h; exact St.get_lt h
  | map es c => exact St.get_lt h
  | iter t p => exact St.get_lt h
/-- One block's place in a list. -/
inductive Pick : Nat → Fact → Hyp → Hyp → Prop
  | head (b : Nat) (f : Fact) (H : Hyp) : Pick b f ((b, f) :: H) H
  | tail {b : Nat} {f : Fact} {H H' : Hyp} (x : Nat × Fact) (h : Pick b f H H') : Pick b f (x :: H) (x :: H')
theorem Pick.perm {b : Nat} {f : Fact} {H H' : Hyp} (h : Pick b f H H') : H.Perm ((b, f) :: H') := by
  induction h with
  | head => exact List.Perm.refl _
  | tail x h ih => exact (List.Perm.cons x ih).trans (List.Perm.swap _ _ _)
theorem Hp.perm {s : St} {H H' : Hyp} (h : Hp s H) (p : H.Perm H') : Hp s H' :=
  ⟨h.wf, h.pos, fun x hx => h.fact x (p.mem_iff.2 hx), (p.pairwise_iff (fun h => Apart.symm h)).1 h.apart⟩
theorem Hp.sub {s : St} {H H' : Hyp} (h : Hp s H) (p : H'.Sublist H) : Hp s H' :=
  ⟨h.wf, h.pos, fun x hx => h.fact x (p.subset hx), h.apart.sublist p⟩
/-- What is left of what is known, in another order. -/
def Sel (H H' : Hyp) : Prop := ∃ m : Hyp, H.Perm (H' ++ m)
theorem Sel.refl (H : Hyp) : Sel H H := ⟨[], by rw [List.append_nil]⟩
theorem Sel.pick {b : Nat} {f : Fact} {H H1 H' : Hyp} (h : Pick b f H H1) (q : Sel H1 H') : Sel H ((b, f) :: H') := by
  obtain ⟨m, hm⟩ := q
  exact ⟨m, h.perm.trans (List.Perm.cons _ hm)⟩
theorem Sel.drop {H H' : Hyp} (x : Nat × Fact) (h : Sel H H') : Sel (x :: H) H' := by
  obtain ⟨m, hm⟩ := h
  exact ⟨x :: m, (List.Perm.cons _ hm).trans List.perm_middle.symm⟩
theorem Sel.trans {H1 H2 H3 : Hyp} (h : Sel H1 H2) (g : Sel H2 H3) : Sel H1 H3 := by
  obtain ⟨m, hm⟩ := h
  obtain ⟨k, hk⟩ := g
  exact ⟨k ++ m, by rw [← List.append_assoc]; exact hm.trans (List.Perm.append_right _ hk)⟩
theorem Sel.mem {H H' : Hyp} (h : Sel H H') : ∀ x ∈ H', x ∈ H := by
  intro x hx
  obtain ⟨m, hm⟩ := h
  exact hm.mem_iff.2 (List.mem_append_left _ hx)
theorem Hp.sel {s : St} {H H' : Hyp} (h : Hp s H) (q : Sel H H') : Hp s H' := by
  obtain ⟨m, hm⟩ := q
  exact (h.perm hm).sub (List.sublist_append_left _ _)
theorem get_new {s : St} (h : s.wf) (o : Obj) {b : Nat} (hb : b < s.next) : (s.push o).get b = s.get b := by rw [St.get_push h, if_neg (by omega)]
theorem fact_push {s : St} (h : s.wf) (o : Obj) {b : Nat} {f : Fact} (hf : f.on s b) : f.on (s.push o) b := by
  have hb := fact_lt hf
  cases f with
  | row own ty esz cells =>
    obtain ⟨fam, ver, h1, h2, h3, h4⟩ := hf
    have hfam : (s.push o).fam fam = s.fam fam := by rw [St.fam_push h _ _ (by omega), if_neg (by omega)]
    exact ⟨fam, ver, by rw [get_new h o hb]; exact h1, by simp [St.push]; omega, by rw [hfam]; exact h3, by rw [hfam]; exact h4⟩
  | hole ty esz => obtain ⟨fam, h1⟩ := hf; exact ⟨fam, by rw [get_new h o hb]; exact h1⟩
  | map es c => exact (get_new h o hb).trans hf
  | iter t p => exact (get_new h o hb).trans hf
theorem famOf_push {s : St} (h : s.wf) (o : Obj) {b : Nat} (hb : b < s.next) : famOf (s.push o) b = famOf s b := by unfold famOf; rw [get_new h o hb]
theorem Apart.push {s : St} (h : s.wf) (o : Obj) {x y : Nat × Fact} (hx : x.1 < s.next) (hy : y.1 < s.next) (q : Apart s x y) : Apart (s.push o) x y := by
  refine ⟨q.1, fun a b c => ?_⟩
  rw [famOf_push h o hx, famOf_push h o hy]; exact q.2 a b c
theorem pairwise_imp_mem {α : Type} {R S : α → α → Prop} {l : List α} (h : l.Pairwise R) (hi : ∀ x ∈ l, ∀ y ∈ l, R x y → S x y) : l.Pairwise S := by
  induction h with
  | nil => exact List.Pairwise.nil
  | @cons a l h1 h2 ih => exact List.Pairwise.cons (fun b hb => hi _ (by simp) _ (by simp [hb]) (h1 b hb)) (ih fun x hx y hy q => hi x (by simp [hx]) y (by simp [hy]) q)
theorem fact_fam {s : St} {b : Nat} {f : Fact} (hr : f.isRow = true) (h : f.on s b) : ∃ fam, famOf s b = some fam ∧ fam < s.next := by
  cases f with
  | row own ty esz cells => obtain ⟨fam, ver, h1, h2, _⟩ := h; exact ⟨fam, by unfold famOf; rw [h1], h2⟩
  | _ => cases hr
/-- A new block, whatever it holds. -/
theorem Hp.push {s : St} {H : Hyp} (h : Hp s H) (o : Obj) (f : Fact) (hf : f.on (s.push o) s.next) (hfam : f.isRow = true → famOf (s.push o) s.next = some s.next) : Hp (s.push o) ((s.next, f) :: H) := by
  refine ⟨St.wf_push h.wf o, ?_, ?_, ?_⟩
  · intro k hk
    have hk' : k ≤ s.next := by simp only [St.push] at hk; omega
    rw [St.fam_push h.wf o k hk']
    split
    · decide
    · exact h.pos k (by omega)
  · intro x hx
    rcases List.mem_cons.1 hx with rfl | hx
    · exact hf
    · exact fact_push h.wf o (h.fact x hx)
  · refine List.Pairwise.cons (fun y hy => ?_) (pairwise_imp_mem h.apart fun x hx y hy q => q.push h.wf o (fact_lt (h.fact x hx)) (fact_lt (h.fact y hy)))
    have hlt := fact_lt (h.fact y hy)
    refine ⟨?_, fun a b c => ?_⟩
    · show s.next ≠ y.1; omega
    · show famOf (s.push o) s.next ≠ famOf (s.push o) y.1
      rw [hfam a, famOf_push h.wf o hlt]
      obtain ⟨fam, h1, h2⟩ := fact_fam b (h.fact y hy)
      rw [h1]; intro e; cases e; omega
theorem Hp.newRow {s : St} {H : Hyp} (h : Hp s H) (cells : List Cell) (ty esz : Nat) : Hp (s.new cells ty esz) ((s.next, .row true ty esz cells) :: H) := by
  have hg : (s.push (.blk cells ty esz s.next 1)).get s.next = some (.blk cells ty esz s.next 1) := by rw [St.get_push h.wf, if_pos rfl]
  have hfam : (s.push (.blk cells ty esz s.next 1)).fam s.next = (1, 0) := by rw [St.fam_push h.wf _ _ (Nat.le_refl _), if_pos rfl]
  exact h.push _ _ ⟨s.next, 1, hg, by simp [St.push], by rw [hfam]; exact Nat.zero_le _, fun _ => by rw [hfam]⟩ fun _ => by unfold famOf; rw [hg]
theorem Hp.read {s : St} {H : Hyp} (h : Hp s H) {b : Nat} {own : Bool} {ty esz : Nat} {cells : List Cell} (hm : (b, Fact.row own ty esz cells) ∈ H) {off n : Nat} (hn : off + n ≤ cells.length) : s.read b off n = some ((cells.drop off).take n) := by
  obtain ⟨fam, ver, h1, h2, h3, h4⟩ := h.fact _ hm
  unfold St.read
  by_cases e : n = 0
  · subst e; simp
  · rw [if_neg e]; simp only [h1]; rw [if_pos ⟨h3, hn⟩]
theorem read_zero {s : St} {b off : Nat} : s.read b off 0 = some [] := by simp [St.read]
theorem splice_nil (l : List Cell) (off : Nat) : splice l off [] = l := by simp [splice]
/-- A block's new content. -/
theorem Hp.setIn {s : St} {H H' : Hyp} {b : Nat} {f f' : Fact} (h : Hp s H) (hp : Pick b f H H') (s' : St) (hwf : s'.wf) (hpos : ∀ k, k < s'.next → 0 < (s'.fam k).1) (hb : f'.on s' b)
    (hkeep : ∀ x ∈ H', x.2.on s' x.1 ∧ famOf s' x.1 = famOf s x.1) (hrow : f'.isRow = f.isRow) (hown : f'.isOwn = f.isOwn) (hfam : famOf s' b = famOf s b) : Hp s' ((b, f') :: H') := by
  have h1 := h.perm hp.perm
  refine ⟨hwf, hpos, ?_, ?_⟩
  · intro x hx
    rcases List.mem_cons.1 hx with rfl | hx
    · exact hb
    · exact (hkeep x hx).1
  · have h2 := h1.apart
    rw [List.pairwise_cons] at h2 ⊢
    refine ⟨fun y hy => ?_, pairwise_imp_mem h2.2 fun x hx y hy q => ?_⟩
    · obtain ⟨q1, q2⟩ := h2.1 y hy
      refine ⟨q1, fun a b' c => ?_⟩
      show famOf s' b ≠ famOf s' y.1
      rw [hfam, (hkeep y hy).2]
      exact q2 (by rw [← hrow]; exact a) b' (by show (f.isOwn || y.2.isOwn) = true; rw [← hown]; exact c)
    · refine ⟨q.1, fun a b' c => ?_⟩
      rw [(hkeep x hx).2, (hkeep y hy).2]; exact q.2 a b' c
theorem Hp.write {s : St} {H H' : Hyp} (h : Hp s H) {b ty esz : Nat} {cells : List Cell} (hp : Pick b (.row true ty esz cells) H H') {off : Nat} {new : List Cell} (hn : off + new.length ≤ cells.length) :
    ∃ s', s.write b off new = some s' ∧ Hp s' ((b, .row true ty esz (splice cells off new)) :: H') ∧ s'.next = s.next := by
  by_cases e : new = []
  · subst e
    exact ⟨s, by simp [St.write], by rw [splice_nil]; exact h.perm hp.perm, rfl⟩
  have hq := h.perm hp.perm
  obtain ⟨fam, ver, h1, h2, h3, h4⟩ := hq.fact _ (List.mem_cons_self ..)
  have h1' : s.get b = some (.blk cells ty esz fam ver) := h1
  have hver := h4 rfl
  have hb : b < s.next := St.get_lt h1'
  let s1 := s.setObj b (.blk (splice cells off new) ty esz fam ver)
  have hw1 : s1.wf := St.wf_setObj h.wf _ _
  have hg : ∀ k, (s1.setFam fam (ver, ver)).get k = if k = b then some (.blk (splice cells off new) ty esz fam ver) else s.get k := fun k => by
    rw [St.get_setFam]; exact St.get_setObj h.wf b _ hb k
  have hf : ∀ k, k < s.next → (s1.setFam fam (ver, ver)).fam k = if k = fam then (ver, ver) else s.fam k := fun k hk => by
    rw [St.fam_setFam hw1 fam _ (by exact h2) k (by exact hk)]; rfl
  refine ⟨s1.setFam fam (ver, ver), ?_, ?_, rfl⟩
  · unfold St.write
    rw [if_neg e]; simp only [h1']; rw [if_pos ⟨⟨hver, h3⟩, hn⟩]
  · refine h.setIn hp _ (St.wf_setFam hw1 _ _) (fun k hk => ?_) ?_ ?_ rfl rfl ?_
    · rw [hf k hk]
      split
      · have := h.pos fam h2; show 0 < ver; omega
      · exact h.pos k hk
    · refine ⟨fam, ver, by rw [hg, if_pos rfl], h2, ?_, fun _ => ?_⟩
      · rw [hf fam h2, if_pos rfl]; exact Nat.le_refl _
      · rw [hf fam h2, if_pos rfl]
    · intro x hx
      have hap := hq.apart
      rw [List.pairwise_cons] at hap
      obtain ⟨a1, a2⟩ := hap.1 x hx
      have hxo := hq.fact x (List.mem_cons_of_mem _ hx)
      have hgx : (s1.setFam fam (ver, ver)).get x.1 = s.get x.1 := by rw [hg, if_neg (Ne.symm a1)]
      refine ⟨?_, by unfold famOf; rw [hgx]⟩
      obtain ⟨xb, xf⟩ := x
      cases xf with
      | row own ty' esz' cells' =>
        obtain ⟨fam', ver', k1, k2, k3, k4⟩ := hxo
        have hne : fam' ≠ fam := by
          intro e; subst e
          refine a2 rfl rfl rfl ?_
          have e1 : famOf s b = some fam' := by unfold famOf; rw [h1']
          have e2 : famOf s xb = some fam' := by unfold famOf; rw [k1]
          exact e1.trans e2.symm
        exact ⟨fam', ver', hgx.trans k1, k2, by rw [hf fam' k2, if_neg hne]; exact k3, by rw [hf fam' k2, if_neg hne]; exact k4⟩
      | hole ty' esz' => obtain ⟨fam', k1⟩ := hxo; exact ⟨fam', hgx.trans k1⟩
      | map es c => exact hgx.trans hxo
      | iter t p => exact hgx.trans hxo
    · unfold famOf; rw [hg, if_pos rfl, h1']
/-- A row grows at its end: a new block; the old one is told no more. -/
theorem Hp.grow {s : St} {H H' : Hyp} (h : Hp s H) {b ty esz : Nat} {cells : List Cell} (hp : Pick b (.row true ty esz cells) H H') (from_ : Nat) (new : List Cell) :
    ∃ fam ver, s.get b = some (.blk cells ty esz fam ver) ∧ (s.fam fam).1 = ver ∧ (s.fam fam).2 ≤ ver ∧
      Hp ((s.push (.blk (cells.drop from_ ++ new) ty esz fam (ver + 1))).setFam fam (ver + 1, (s.fam fam).2)) ((s.next, .row true ty esz (cells.drop from_ ++ new)) :: H') := by
  have hq := h.perm hp.perm
  obtain ⟨fam, ver, h1, h2, h3, h4⟩ := hq.fact _ (List.mem_cons_self ..)
  have h1' : s.get b = some (.blk cells ty esz fam ver) := h1
  have hver := h4 rfl
  refine ⟨fam, ver, h1', hver, h3, ?_⟩
  let o : Obj := .blk (cells.drop from_ ++ new) ty esz fam (ver + 1)
  have hwp : (s.push o).wf := St.wf_push h.wf o
  have hg : ∀ k, ((s.push o).setFam fam (ver + 1, (s.fam fam).2)).get k = if k = s.next then some o else s.get k := fun k => by rw [St.get_setFam]; exact St.get_push h.wf o k
  have hf : ∀ k, k < s.next → ((s.push o).setFam fam (ver + 1, (s.fam fam).2)).fam k = if k = fam then (ver + 1, (s.fam fam).2) else s.fam k := fun k hk => by
    rw [St.fam_setFam hwp fam _ (by simp [St.push]; omega) k (by simp [St.push]; omega), St.fam_push h.wf _ _ (by omega), if_neg (show ¬ k = s.next by omega)]
  have hap := hq.apart
  rw [List.pairwise_cons] at hap
  have hnx : ∀ x ∈ H', x.1 < s.next := fun x hx => fact_lt (hq.fact x (List.mem_cons_of_mem _ hx))
  have hgx : ∀ x ∈ H', ((s.push o).setFam fam (ver + 1, (s.fam fam).2)).get x.1 = s.get x.1 := fun x hx => by rw [hg, if_neg (by have := hnx x hx; omega)]
  have hne : ∀ x ∈ H', x.2.isRow = true → famOf s x.1 ≠ some fam := fun x hx hr e => by
    refine (hap.1 x hx).2 rfl hr rfl ?_
    have e1 : famOf s b = some fam := by unfold famOf; rw [h1']
    exact e1.trans e.symm
  have hnew : famOf ((s.push o).setFam fam (ver + 1, (s.fam fam).2)) s.next = some fam := by unfold famOf; rw [hg, if_pos rfl]
  refine ⟨St.wf_setFam hwp _ _, fun k hk => ?_, ?_, ?_⟩
  · by_cases e : k = s.next
    · subst e
      rw [St.fam_setFam hwp fam _ (by simp [St.push]; omega) _ (by simp [St.push]), St.fam_push h.wf _ _ (Nat.le_refl _), if_pos rfl]
      split
      · show 0 < ver + 1; omega
      · decide
    · have hk' : k < s.next := by
        have : k < s.next + 1 := hk
        omega
      rw [hf k hk']
      split
      · show 0 < ver + 1; omega
      · exact h.pos k hk'
  · intro x hx
    rcases List.mem_cons.1 hx with rfl | hx
    · refine ⟨fam, ver + 1, by rw [hg, if_pos rfl], by show fam < s.next + 1; omega, ?_, fun _ => ?_⟩
      · rw [hf fam h2, if_pos rfl]; show (s.fam fam).2 ≤ ver + 1; omega
      · rw [hf fam h2, if_pos rfl]
    · have hxo := hq.fact x (List.mem_cons_of_mem _ hx)
      have hg1 := hgx x hx
      have hn1 := hne x hx
      obtain ⟨xb, xf⟩ := x
      cases xf with
      | row own ty' esz' cells' =>
        obtain ⟨fam', ver', k1, k2, k3, k4⟩ := hxo
        have hne' : fam' ≠ fam := fun e => hn1 rfl (by unfold famOf; rw [k1, e])
        exact ⟨fam', ver', hg1.trans k1, by show fam' < s.next + 1; omega, by rw [hf fam' k2, if_neg hne']; exact k3, by rw [hf fam' k2, if_neg hne']; exact k4⟩
      | hole ty' esz' => obtain ⟨fam', k1⟩ := hxo; exact ⟨fam', hg1.trans k1⟩
      | map es c => exact hg1.trans hxo
      | iter t p => exact hg1.trans hxo
  · rw [List.pairwise_cons]
    refine ⟨fun y hy => ⟨?_, fun a b' c => ?_⟩, pairwise_imp_mem hap.2 fun x hx y hy q => ⟨q.1, fun a b' c => ?_⟩⟩
    · have := hnx y hy; show s.next ≠ y.1; omega
    · show famOf _ s.next ≠ famOf _ y.1
      rw [hnew]
      have : famOf ((s.push o).setFam fam (ver + 1, (s.fam fam).2)) y.1 = famOf s y.1 := by unfold famOf; rw [hgx y hy]
      rw [this]; exact Ne.symm (hne y hy b')
    · have e1 : famOf ((s.push o).setFam fam (ver + 1, (s.fam fam).2)) x.1 = famOf s x.1 := by unfold famOf; rw [hgx x hx]
      have e2 : famOf ((s.push o).setFam fam (ver + 1, (s.fam fam).2)) y.1 = famOf s y.1 := by unfold famOf; rw [hgx y hy]
      rw [e1, e2]; exact q.2 a b' c
/-- What is its own may also be told as not its own. -/
theorem Hp.freeze {s : St} {H H' : Hyp} (h : Hp s H) {b ty esz : Nat} {cells : List Cell} (hp : Pick b (.row true ty esz cells) H H') : Hp s ((b, .row false ty esz cells) :: H') := by
  have hq := h.perm hp.perm
  refine ⟨h.wf, h.pos, ?_, ?_⟩
  · intro x hx
    rcases List.mem_cons.1 hx with rfl | hx
    · obtain ⟨fam, ver, h1, h2, h3, _⟩ := hq.fact _ (List.mem_cons_self ..)
      exact ⟨fam, ver, h1, h2, h3, fun e => by cases e⟩
    · exact hq.fact x (List.mem_cons_of_mem _ hx)
  · have := hq.apart
    rw [List.pairwise_cons] at this ⊢
    exact ⟨fun y hy => ⟨(this.1 y hy).1, fun a b' c => (this.1 y hy).2 rfl b' rfl⟩, this.2⟩
end
end Go.Proofs.Ytdhnjkagmbfoaaa.AM
/- A logic over the abstract machine: code and operations. -/
set_option linter.unusedSimpArgs false
set_option linter.unusedVariables false
namespace Go.Proofs.Ytdhnjkagmbfoaaa.AM
open Go Go.RowKit
section
variable {P : Program} {X : Spec} {sz : Nat}
/-! ### Code -/
abbrev Post := Ex → Env → Hyp → Prop
def W (P : Program) (X : Spec) (sz : Nat) (c : Code) (e : Env) (H : Hyp) (Q : Post) : Prop :=
  ∀ fr s, fr.size = sz → Has fr e → Hp s H → ∃ n ex fr' s' e' H', go P X n c fr s = some (ex, fr', s') ∧ fr'.size = sz ∧ Has fr' e' ∧ Hp s' H' ∧ Q ex e' H'
theorem w_weak {c : Code} {e e' : Env} {H H' : Hyp} {Q : Post} (he : ESub e e') (hH : Sel H H') (h : W P X sz c e' H' Q) : W P X sz c e H Q :=
  fun fr s h1 h2 h3 => h fr s h1 (h2.sub he) (h3.sel hH)
theorem w_skip {e : Env} {H : Hyp} {Q : Post} (h : Q .normal e H) : W P X sz .skip e H Q :=
  fun fr s h1 h2 h3 => ⟨1, _, fr, s, e, H, rfl, h1, h2, h3, h⟩
theorem w_ret {e : Env} {H : Hyp} {Q : Post} (h : Q .ret e H) : W P X sz .ret e H Q :=
  fun fr s h1 h2 h3 => ⟨1, _, fr, s, e, H, rfl, h1, h2, h3, h⟩
theorem w_exit {id : Nat} {e : Env} {H : Hyp} {Q : Post} (h : Q (.exit id) e H) : W P X sz (.exit id) e H Q :=
  fun fr s h1 h2 h3 => ⟨1, _, fr, s, e, H, rfl, h1, h2, h3, h⟩
def inSeq (P : Program) (X : Spec) (sz : Nat) (b : Code) (Q : Post) : Post
  | .normal, e, H => W P X sz b e H Q
  | .exit i, e, H => Q (.exit i) e H
  | .ret, e, H => Q .ret e H
theorem w_seq {a b : Code} {e : Env} {H : Hyp} {Q : Post} (h : W P X sz a e H (inSeq P X sz b Q)) : W P X sz (.seq a b) e H Q := by
  intro fr s h1 h2 h3
  obtain ⟨n, ex, fr1, s1, e1, H1, a1, a2, a3, a4, q⟩ := h fr s h1 h2 h3
  cases ex with
  | normal =>
    obtain ⟨m, ex, fr2, s2, e2, H2, b1, b2⟩ := q fr1 s1 a2 a3 a4
    refine ⟨max n m + 1, ex, fr2, s2, e2, H2, ?_, b2⟩
    rw [go, go_le (Nat.le_max_left n m) a1]
    exact go_le (Nat.le_max_right n m) b1
  | exit i => exact ⟨n + 1, _, fr1, s1, e1, H1, by rw [go, a1], a2, a3, a4, q⟩
  | ret => exact ⟨n + 1, _, fr1, s1, e1, H1, by rw [go, a1], a2, a3, a4, q⟩
theorem seq_normal {b : Code} {e : Env} {H : Hyp} {Q : Post} (h : W P X sz b e H Q) : inSeq P X sz b Q .normal e H := h
theorem seq_exit {b : Code} {i : Nat} {e : Env} {H : Hyp} {Q : Post} (h : Q (.exit i) e H) : inSeq P X sz b Q (.exit i) e H := h
theorem seq_ret {b : Code} {e : Env} {H : Hyp} {Q : Post} (h : Q .ret e H) : inSeq P X sz b Q .ret e H := h
def inBlock (id : Nat) (Q : Post) : Post
  | .normal, e, H => Q .normal e H
  | .exit i, e, H => bif Nat.beq i id then Q .normal e H else Q (.exit i) e H
  | .ret, e, H => Q .ret e H
theorem w_block {id : Nat} {c : Code} {e : Env} {H : Hyp} {Q : Post} (h : W P X sz c e H (inBlock id Q)) : W P X sz (.block id c) e H Q := by
  intro fr s h1 h2 h3
  obtain ⟨n, ex, fr1, s1, e1, H1, a1, a2, a3, a4, q⟩ := h fr s h1 h2 h3
  cases ex with
  | normal => exact ⟨n + 1, _, fr1, s1, e1, H1, by rw [go, a1], a2, a3, a4, q⟩
  | exit i =>
    simp only [inBlock] at q
    cases hb : Nat.beq i id with
    | true =>
      rw [hb] at q
      exact ⟨n + 1, _, fr1, s1, e1, H1, by rw [go, a1]; simp only [Nat.eq_of_beq_eq_true hb, if_true], a2, a3, a4, q⟩
    | false =>
      rw [hb] at q
      exact ⟨n + 1, _, fr1, s1, e1, H1, by rw [go, a1]; simp only [if_neg (Nat.ne_of_beq_eq_false hb)], a2, a3, a4, q⟩
  | ret => exact ⟨n + 1, _, fr1, s1, e1, H1, by rw [go, a1], a2, a3, a4, q⟩
theorem block_normal {id : Nat} {e : Env} {H : Hyp} {Q : Post} (h : Q .normal e H) : inBlock id Q .normal e H := h
theorem block_hit {id i : Nat} (hi : Nat.beq i id = true) {e : Env} {H : Hyp} {Q : Post} (h : Q .normal e H) : inBlock id Q (.exit i) e H := by simp only [inBlock, hi]; exact h
theorem block_ret {id : Nat} {e : Env} {H : Hyp} {Q : Post} (h : Q .ret e H) : inBlock id Q .ret e H := h
def inLoop (Inv : Nat → Env → Hyp → Prop) (k : Nat) (Q : Post) : Post
  | .normal, e, H => ∃ k', k' < k ∧ ∃ e' H', ESub e e' ∧ Sel H H' ∧ Inv k' e' H'
  | .exit i, e, H => Q (.exit i) e H
  | .ret, e, H => Q .ret e H
theorem w_loop_at {c : Code} {Q : Post} (Inv : Nat → Env → Hyp → Prop) (body : ∀ k e H, Inv k e H → W P X sz c e H (inLoop Inv k Q)) : ∀ (k : Nat) (e : Env) (H : Hyp), Inv k e H → W P X sz (.loop c) e H Q := by
  intro k
  induction k using Nat.strongRecOn with
  | _ k ih =>
    intro e H hi fr s h1 h2 h3
    obtain ⟨n, ex, fr1, s1, e1, H1, a1, a2, a3, a4, q⟩ := body k e H hi fr s h1 h2 h3
    cases ex with
    | normal =>
      obtain ⟨k', hk, e', H', q1, q2, q3⟩ := q
      obtain ⟨m, ex, fr2, s2, e2, H2, b1, b2⟩ := ih k' hk e' H' q3 fr1 s1 a2 (a3.sub q1) (a4.sel q2)
      refine ⟨max n m + 1, ex, fr2, s2, e2, H2, ?_, b2⟩
      rw [go, go_le (Nat.le_max_left n m) a1]
      exact go_le (Nat.le_max_right n m) b1
    | exit i => exact ⟨n + 1, _, fr1, s1, e1, H1, by rw [go, a1], a2, a3, a4, q⟩
    | ret => exact ⟨n + 1, _, fr1, s1, e1, H1, by rw [go, a1], a2, a3, a4, q⟩
theorem w_loop {c : Code} {Q : Post} (Inv : Nat → Env → Hyp → Prop) {e : Env} {H : Hyp} (start : ∃ k e' H', Inv k e' H' ∧ ESub e e' ∧ Sel H H') (body : ∀ k e H, Inv k e H → W P X sz c e H (inLoop Inv k Q)) : W P X sz (.loop c) e H Q := by
  obtain ⟨k, e', H', h3, h1, h2⟩ := start
  exact w_weak h1 h2 (w_loop_at Inv body k e' H' h3)
theorem w_condB {x : Operand} {p : Bool} {a b : Code} {e : Env} {H : Hyp} {Q : Post} (hx : evE e x = some (.one (.c (.bool p)))) (ha : p = true → W P X sz a e H Q) (hb : p = false → W P X sz b e H Q) : W P X sz (.cond x a b) e H Q := by
  intro fr s h1 h2 h3
  cases p with
  | true =>
    obtain ⟨n, ex, fr1, s1, e1, H1, a1, a2⟩ := ha rfl fr s h1 h2 h3
    exact ⟨n + 1, ex, fr1, s1, e1, H1, by rw [go, evC h2 hx]; exact a1, a2⟩
  | false =>
    obtain ⟨n, ex, fr1, s1, e1, H1, a1, a2⟩ := hb rfl fr s h1 h2 h3
    exact ⟨n + 1, ex, fr1, s1, e1, H1, by rw [go, evC h2 hx]; exact a1, a2⟩
theorem w_condT {x : Operand} {a b : Code} {e : Env} {H : Hyp} {Q : Post} (hx : evE e x = some (.one (.c (.bool true)))) (ha : W P X sz a e H Q) : W P X sz (.cond x a b) e H Q := w_condB hx (fun _ => ha) (fun h => by cases h)
theorem w_condF {x : Operand} {a b : Code} {e : Env} {H : Hyp} {Q : Post} (hx : evE e x = some (.one (.c (.bool false)))) (hb : W P X sz b e H Q) : W P X sz (.cond x a b) e H Q := w_condB hx (fun h => by cases h) (fun _ => hb)
theorem w_condN {x : Operand} {p : Prop} {dp : Decidable p} {a b : Code} {e : Env} {H : Hyp} {Q : Post} (hx : evE e x = some (.one (.c (.bool (decide p))))) (hp : ¬ p) (hb : W P X sz b e H Q) : W P X sz (.cond x a b) e H Q := w_condB hx (fun h => absurd (of_decide_eq_true h) hp) (fun _ => hb)
theorem w_cond {x : Operand} {p : Prop} {dp : Decidable p} {a b : Code} {e : Env} {H : Hyp} {Q : Post} (hx : evE e x = some (.one (.c (.bool (decide p))))) (ha : p → W P X sz a e H Q) (hb : ¬ p → W P X sz b e H Q) : W P X sz (.cond x a b) e H Q :=
  w_condB hx (fun h => ha (of_decide_eq_true h)) (fun h => hb (of_decide_eq_false h))
/-! ### Operations -/
def Env.only (ts : List Nat) : Env → Env
  | [] => []
  | p :: e => bif ts.any (fun t => Nat.beq t p.1) then p :: Env.only ts e else Env.only ts e
theorem Env.only_get {ts : List Nat} : ∀ {e : Env} {t : Nat} {v : V}, Env.get (Env.only ts e) t = some v → ts.contains t = true ∧ Env.get e t = some v
  | [], t, v, h => by cases h
  | (u, x) :: e, t, v, h => by
    simp only [Env.only] at h
    cases ha : ts.any (fun t => Nat.beq t u) with
    | true =>
      rw [ha] at h
      simp only [cond_true, Env.get] at h ⊢
      cases hb : Nat.beq u t with
      | true =>
        rw [hb] at h
        have := Nat.eq_of_beq_eq_true hb
        subst this
        refine ⟨?_, h⟩
        rw [List.any_eq_true] at ha
        obtain ⟨y, hy, hy2⟩ := ha
        have := Nat.eq_of_beq_eq_true hy2
        subst this
        rw [List.contains_iff_mem]; exact hy
      | false => rw [hb] at h; exact Env.only_get h
    | false =>
      rw [ha] at h
      obtain ⟨h1, h2⟩ := Env.only_get (e := e) h
      refine ⟨h1, ?_⟩
      simp only [Env.get]
      cases hb : Nat.beq u t with
      | true =>
        have := Nat.eq_of_beq_eq_true hb
        subst this
        rw [List.contains_iff_mem] at h1
        have : ts.any (fun t => Nat.beq t u) = true := List.any_eq_true.2 ⟨u, h1, Nat.beq_refl u⟩
        rw [this] at ha; cases ha
      | false => exact h2
theorem Has.only {fr : Fr} {e : Env} (h : Has fr e) (ts : List Nat) : Has (restr ts fr) (Env.only ts e) := by
  intro t v hv
  obtain ⟨h1, h2⟩ := Env.only_get hv
  rw [restr_get, if_pos h1]; exact h t v h2
def look (q : Bool) (ops : Array Oper) (o : Oper) (e : Env) : Env := match q with
  | true => Env.only (o.looksAt ops) e
  | false => e
def OpW (P : Program) (X : Spec) (q : Bool) (o : Oper) (e : Env) (H : Hyp) (K : V → Hyp → Prop) : Prop :=
  ∀ fr s, Has fr e → Hp s H → ∃ n v s' H', opRun P X (callA P X n) fr s o = some (v, s') ∧ Hp s' H' ∧ K v H' ∧ (q = true → isMover o.op = false → s'.next = s.next)
def RunsTo (P : Program) (X : Spec) (n : Nat) (ops : Array Oper) : Bool → List Oper → Fr → St → Fr → St → Prop
  | true, l, fr, s, fr', s' => ∃ trs, trace P X (callA P X n) ops l fr s = some (trs, fr', s')
  | false, l, fr, s, fr', s' => opsRun P X (callA P X n) ops l fr s = some (fr', s')
def WOps (P : Program) (X : Spec) (sz : Nat) (ops : Array Oper) (q : Bool) (l : List Oper) (e : Env) (H : Hyp) (Q : Env → Hyp → Prop) : Prop :=
  ∀ fr s, fr.size = sz → Has fr e → Hp s H → ∃ n fr' s' e' H', RunsTo P X n ops q l fr s fr' s' ∧ fr'.size = sz ∧ Has fr' e' ∧ Hp s' H' ∧ Q e' H'
theorem w_end {ops : Array Oper} {q : Bool} {e : Env} {H : Hyp} {Q : Env → Hyp → Prop} (h : Q e H) : WOps P X sz ops q [] e H Q := by
  intro fr s h1 h2 h3
  cases q with
  | true => exact ⟨0, fr, s, e, H, ⟨[], rfl⟩, h1, h2, h3, h⟩
  | false => exact ⟨0, fr, s, e, H, rfl, h1, h2, h3, h⟩
theorem putV_size (fr : Fr) (d : Option Nat) (v : V) : (putV fr d v).size = fr.size := by cases d <;> simp [putV, Fr.put_size]
theorem step_in {ops : Array Oper} {q : Bool} {o : Oper} {l : List Oper} {e : Env} {H : Hyp} {Q : Env → Hyp → Prop} (hd : dstOk sz o.dst = true)
    {fr : Fr} {s : St} (h1 : fr.size = sz) (h2 : Has fr e) (h3 : Hp s H) (hw : wantedA ops fr o = true)
    (h : OpW P X q o (look q ops o e) H (fun v H' => WOps P X sz ops q l (putE e o.dst v) H' Q)) :
    ∃ n fr' s' e' H', RunsTo P X n ops q (o :: l) fr s fr' s' ∧ fr'.size = sz ∧ Has fr' e' ∧ Hp s' H' ∧ Q e' H' := by
  cases q with
  | false =>
    obtain ⟨n, v, s1, H1, a1, a2, a3, _⟩ := h fr s h2 h3
    obtain ⟨m, fr2, s2, e2, H2, b1, b2⟩ := a3 (putV fr o.dst v) s1 (by rw [putV_size, h1]) (h2.putV h1 hd v) a2
    refine ⟨max n m, fr2, s2, e2, H2, ?_, b2⟩
    simp only [RunsTo, opsRun, hw, if_true]
    rw [opRun_mono (callA_le (Nat.le_max_left n m)) a1]
    exact opsRun_mono (callA_le (Nat.le_max_right n m)) b1
  | true =>
    obtain ⟨n, v, s1, H1, a1, a2, a3, a4⟩ := h (restr (o.looksAt ops) fr) s (h2.only _) h3
    obtain ⟨m, fr2, s2, e2, H2, ⟨trs, b1⟩, b2⟩ := a3 (putV fr o.dst v) s1 (by rw [putV_size, h1]) (h2.putV h1 hd v) a2
    refine ⟨max n m, fr2, s2, e2, H2, ⟨⟨true, v, s, s1, fr⟩ :: trs, ?_⟩, b2⟩
    simp only [trace, hw, if_true]
    rw [opRun_mono (callA_le (Nat.le_max_left n m)) a1]
    have hq : (isMover o.op || s1.next == s.next) = true := by
      cases hm : isMover o.op with
      | true => rfl
      | false => simp [a4 rfl hm]
    simp only [hq, if_true]
    rw [trace_mono (callA_le (Nat.le_max_right n m)) b1]
theorem w_op {ops : Array Oper} {q : Bool} {o : Oper} {l : List Oper} {e : Env} {H : Hyp} {Q : Env → Hyp → Prop} (hg : o.guard = none) (hd : dstOk sz o.dst = true)
    (h : OpW P X q o (look q ops o e) H (fun v H' => WOps P X sz ops q l (putE e o.dst v) H' Q)) : WOps P X sz ops q (o :: l) e H Q :=
  fun fr s h1 h2 h3 => step_in hd h1 h2 h3 (by unfold wantedA; rw [hg]) h
theorem w_opg {ops : Array Oper} {q : Bool} {o : Oper} {l : List Oper} {e : Env} {H : Hyp} {Q : Env → Hyp → Prop} {j t : Nat} {want p : Bool} (hg : o.guard = some (j, want)) (hj : (ops[j]?).bind (·.dst) = some t) (ht : Env.get e t = some (.one (.c (.bool p)))) (hd : dstOk sz o.dst = true)
    (h : p = want → OpW P X q o (look q ops o e) H (fun v H' => WOps P X sz ops q l (putE e o.dst v) H' Q)) (h' : p = (!want) → WOps P X sz ops q l (putE e o.dst undefV) H Q) : WOps P X sz ops q (o :: l) e H Q := by
  intro fr s h1 h2 h3
  have hw : wantedA ops fr o = (p == want) := by
    unfold wantedA; rw [hg]; simp only [hj, h2 t _ ht, boolIs]
  by_cases hp : p = want
  · exact step_in hd h1 h2 h3 (by rw [hw, hp]; cases want <;> rfl) (h hp)
  · have hp' : p = !want := by cases p <;> cases want <;> first | rfl | exact absurd rfl hp
    have hw' : wantedA ops fr o = false := by rw [hw]; cases p <;> cases want <;> first | rfl | exact absurd rfl hp
    obtain ⟨m, fr2, s2, e2, H2, b1, b2⟩ := h' hp' (putV fr o.dst undefV) s (by rw [putV_size, h1]) (h2.putV h1 hd _) h3
    cases q with
    | false =>
      refine ⟨m, fr2, s2, e2, H2, ?_, b2⟩
      simp only [RunsTo, opsRun, hw', Bool.false_eq_true, if_false]; exact b1
    | true =>
      obtain ⟨trs, b1⟩ := b1
      refine ⟨m, fr2, s2, e2, H2, ⟨⟨false, undefV, s, s, fr⟩ :: trs, ?_⟩, b2⟩
      simp only [trace, hw', Bool.false_eq_true, if_false]; rw [b1]
/-- An operation whose guard is known. -/
theorem w_opw {ops : Array Oper} {q : Bool} {o : Oper} {l : List Oper} {e : Env} {H : Hyp} {Q : Env → Hyp → Prop} {j t : Nat} {want : Bool} (hg : o.guard = some (j, want)) (hj : (ops[j]?).bind (·.dst) = some t) (ht : Env.get e t = some (.one (.c (.bool want)))) (hd : dstOk sz o.dst = true)
    (h : OpW P X q o (look q ops o e) H (fun v H' => WOps P X sz ops q l (putE e o.dst v) H' Q)) : WOps P X sz ops q (o :: l) e H Q :=
  w_opg hg hj ht hd (fun _ => h) (fun h => by cases want <;> cases h)
section
variable {ops : Array Oper} {o : Oper} {l : List Oper} {e : Env} {H : Hyp} {Q : Env → Hyp → Prop} {dd : Nat}
theorem w_o (hg : o.guard = none) (h0 : o.dst = some dd) (hd : Nat.blt dd sz = true) (h : OpW P X false o e H (fun v H' => WOps P X sz ops false l ((dd, v) :: e) H' Q)) : WOps P X sz ops false (o :: l) e H Q :=
  w_op hg (by rw [h0]; exact hd) (by rw [h0]; exact h)
theorem w_on (hg : o.guard = none) (h0 : o.dst = none) (h : OpW P X false o e H (fun _ H' => WOps P X sz ops false l e H' Q)) : WOps P X sz ops false (o :: l) e H Q :=
  w_op hg (by rw [h0]; rfl) (by rw [h0]; exact h)
theorem w_d (hg : o.guard = none) (h0 : o.dst = some dd) (hd : Nat.blt dd sz = true) (h : OpW P X true o (Env.only (o.looksAt ops) e) H (fun v H' => WOps P X sz ops true l ((dd, v) :: e) H' Q)) : WOps P X sz ops true (o :: l) e H Q :=
  w_op hg (by rw [h0]; exact hd) (by rw [h0]; exact h)
theorem w_dn (hg : o.guard = none) (h0 : o.dst = none) (h : OpW P X true o (Env.only (o.looksAt ops) e) H (fun _ H' => WOps P X sz ops true l e H' Q)) : WOps P X sz ops true (o :: l) e H Q :=
  w_op hg (by rw [h0]; rfl) (by rw [h0]; exact h)
theorem w_og {j t : Nat} {want : Bool} (hg : o.guard = some (j, want)) (hj : (ops[j]?).bind (·.dst) = some t) (ht : Env.get e t = some (.one (.c (.bool want)))) (h0 : o.dst = some dd) (hd : Nat.blt dd sz = true) (h : OpW P X false o e H (fun v H' => WOps P X sz ops false l ((dd, v) :: e) H' Q)) : WOps P X sz ops false (o :: l) e H Q :=
  w_opw hg hj ht (by rw [h0]; exact hd) (by rw [h0]; exact h)
theorem w_opx {q : Bool} {j t : Nat} {want : Bool} {v : V} (hg : o.guard = some (j, want)) (hj : (ops[j]?).bind (·.dst) = some t) (ht : Env.get e t = some v) (hv : boolIs want v = false) (hd : dstOk sz o.dst = true)
    (h : WOps P X sz ops q l (putE e o.dst undefV) H Q) : WOps P X sz ops q (o :: l) e H Q := by
  intro fr s h1 h2 h3
  have hw' : wantedA ops fr o = false := by
    unfold wantedA; rw [hg]; simp only [hj, h2 t _ ht, hv]
  obtain ⟨m, fr2, s2, e2, H2, b1, b2⟩ := h (putV fr o.dst undefV) s (by rw [putV_size, h1]) (h2.putV h1 hd _) h3
  cases q with
  | false =>
    refine ⟨m, fr2, s2, e2, H2, ?_, b2⟩
    simp only [RunsTo, opsRun, hw', Bool.false_eq_true, if_false]; exact b1
  | true =>
    obtain ⟨trs, b1⟩ := b1
    refine ⟨m, fr2, s2, e2, H2, ⟨⟨false, undefV, s, s, fr⟩ :: trs, ?_⟩, b2⟩
    simp only [trace, hw', Bool.false_eq_true, if_false]; rw [b1]
theorem w_u {q : Bool} {j t : Nat} {want : Bool} {v : V} (hg : o.guard = some (j, want)) (hj : (ops[j]?).bind (·.dst) = some t) (ht : Env.get e t = some v) (hv : boolIs want v = false) (h0 : o.dst = some dd) (hd : Nat.blt dd sz = true) (h : WOps P X sz ops q l ((dd, undefV) :: e) H Q) : WOps P X sz ops q (o :: l) e H Q :=
  w_opx hg hj ht hv (by rw [h0]; exact hd) (by rw [h0]; exact h)
/-- A truth that is asked: both ways. -/
theorem has_known {fr : Fr} {t : Nat} {v : V} (h : Has fr e) (ht : Env.get e t = some v) : Has fr ((t, v) :: e) := h.sub (ESub.cons ht (ESub.refl e))
theorem w_knownB {q : Bool} {t : Nat} {p : Bool} {lo : List Oper} (ht : Env.get e t = some (.one (.c (.bool p)))) (h1 : p = true → WOps P X sz ops q lo ((t, .one (.c (.bool true))) :: e) H Q) (h2 : p = false → WOps P X sz ops q lo ((t, .one (.c (.bool false))) :: e) H Q) : WOps P X sz ops q lo e H Q := by
  intro fr s a b c
  cases p with
  | true => exact h1 rfl fr s a (has_known b ht) c
  | false => exact h2 rfl fr s a (has_known b ht) c
theorem w_known {q : Bool} {t : Nat} {p : Prop} {dp : Decidable p} {lo : List Oper} (ht : Env.get e t = some (.one (.c (.bool (decide p))))) (h1 : p → WOps P X sz ops q lo ((t, .one (.c (.bool true))) :: e) H Q) (h2 : ¬ p → WOps P X sz ops q lo ((t, .one (.c (.bool false))) :: e) H Q) : WOps P X sz ops q lo e H Q :=
  w_knownB ht (fun h => h1 (of_decide_eq_true h)) (fun h => h2 (of_decide_eq_false h))
end
theorem w_region {id : Nat} {ops : Array Oper} {e : Env} {H : Hyp} {Q : Post} (h : WOps P X sz ops false ops.toList e H (fun e H => Q .normal e H)) : W P X sz (.region id ops false) e H Q := by
  intro fr s h1 h2 h3
  obtain ⟨n, fr', s', e', H', a, b⟩ := h fr s h1 h2 h3
  refine ⟨n + 1, .normal, fr', s', e', H', ?_, b⟩
  show ((if false = true then drawRun P X (callA P X n) ops fr s else opsRun P X (callA P X n) ops ops.toList fr s).map fun q => (Ex.normal, q.1, q.2)) = _
  rw [if_neg (by decide), a]; rfl
/-! ### Functions -/
/-- A call: what it answers, and what is known of memory then. -/
def CallW (P : Program) (X : Spec) (f : Nat) (args : List V) (H : Hyp) (K : V → Hyp → Prop) : Prop :=
  ∀ s, Hp s H → ∃ n v s' H', xCallFn X (callA P X n) s f args = some (v, s') ∧ Hp s' H' ∧ K v H'
theorem CallW.mono {f : Nat} {args : List V} {H : Hyp} {K K' : V → Hyp → Prop} (h : CallW P X f args H K) (hk : ∀ v H', K v H' → K' v H') : CallW P X f args H K' := by
  intro s hs
  obtain ⟨n, v, s', H', a, b, c⟩ := h s hs
  exact ⟨n, v, s', H', a, b, hk _ _ c⟩
theorem CallW.weak {f : Nat} {args : List V} {H H' : Hyp} {K : V → Hyp → Prop} (q : Sel H H') (h : CallW P X f args H' K) : CallW P X f args H K := fun s hs => h s (hs.sel q)
def argEnv : Nat → List V → Env
  | _, [] => []
  | k, v :: vs => (k, v) :: argEnv (k + 1) vs
theorem argEnv_get : ∀ (vs : List V) (k t : Nat) (v : V), Env.get (argEnv k vs) t = some v → k ≤ t ∧ vs[t - k]? = some v
  | [], k, t, v, h => by cases h
  | x :: vs, k, t, v, h => by
    simp only [argEnv, Env.get] at h
    cases hb : Nat.beq k t with
    | true =>
      rw [hb] at h
      have := Nat.eq_of_beq_eq_true hb
      subst this
      refine ⟨Nat.le_refl _, ?_⟩
      rw [Nat.sub_self]; simpa using h
    | false =>
      rw [hb] at h
      obtain ⟨h1, h2⟩ := argEnv_get vs (k + 1) t v h
      refine ⟨by omega, ?_⟩
      rw [show t - k = (t - (k + 1)) + 1 by omega]; simpa using h2
theorem has_args (args : List V) (n : Nat) : Has (Fr.of args n) (argEnv 0 args) := by
  intro t v h
  obtain ⟨_, h2⟩ := argEnv_get args 0 t v h
  rw [Fr.of_get]
  simp only [Nat.sub_zero] at h2
  rw [h2]; rfl
/-- The results, where they are variables. -/
def resE (e : Env) : List ResultVar → Option (List V1)
  | [] => some []
  | .tmp t :: l => match Env.get e t, resE e l with
    | some (.one v), some vs => some (v :: vs)
    | _, _ => none
  | _ => none
theorem res_of {fr : Fr} {e : Env} {s : St} (h : Has fr e) : ∀ {l : List ResultVar} {vs : List V1}, resE e l = some vs → resultsA P s fr l = some vs
  | [], vs, hx => hx
  | .tmp t :: l, vs, hx => by
    simp only [resE] at hx
    split at hx
    · rename_i v ws h1 h2
      simp only [resultsA, h t _ h1, res_of h h2]; exact hx
    · cases hx
  | .cell a t :: l, vs, hx => by cases hx
/-- A result that lies in memory. -/
def RetW (P : Program) (rs : List ResultVar) (e : Env) (H : Hyp) (K : V → Hyp → Prop) : Prop :=
  ∀ fr s, Has fr e → Hp s H → ∃ vs, resultsA P s fr rs = some vs ∧ ∃ H', Hp s H' ∧ K (retV vs) H'
theorem ret_tmps {rs : List ResultVar} {e : Env} {H H' : Hyp} {K : V → Hyp → Prop} {vs : List V1} (h : resE e rs = some vs) (hs : Sel H H') (hk : K (retV vs) H') : RetW P rs e H K :=
  fun fr s h1 h2 => ⟨vs, res_of h1 h, H', h2.sel hs, hk⟩
def retPost (P : Program) (rs : List ResultVar) (K : V → Hyp → Prop) : Post
  | .exit _, _, _ => False
  | .normal, e, H => RetW P rs e H K
  | .ret, e, H => RetW P rs e H K
theorem call_of {f : Nat} {fn : Func} {body : Code} {args : List V} {H : Hyp} {K : V → Hyp → Prop} (hX : ∀ vals, X f vals = none) (hfn : P.funcs[f]? = some fn) (hb : fn.body = some body) {n : Nat} (hn : args.length + (fn.ntmps - args.length) = n)
    (h : W P X n body (argEnv 0 args) H (retPost P fn.results.toList K)) : CallW P X f args H K := by
  intro s hs
  obtain ⟨m, ex, fr', s', e', H', a1, a2, a3, a4, q⟩ := h (Fr.of args fn.ntmps) s (by rw [Fr.of_size, hn]) (has_args _ _) hs
  have hcall : ∀ r, callA P X m f args s = some r → xCallFn X (callA P X m) s f args = some r := by
    intro r hr
    unfold xCallFn
    cases hq : scalars args with
    | none => exact hr
    | some vals => simp only [Option.bind_some, hX]; exact hr
  cases ex with
  | exit i => exact q.elim
  | normal =>
    obtain ⟨vs, r1, H2, r2, r3⟩ := q fr' s' a3 a4
    exact ⟨m, retV vs, s', H2, hcall _ (by rw [callA_eq hfn hb, a1]; simp only [r1]; rfl), r2, r3⟩
  | ret =>
    obtain ⟨vs, r1, H2, r2, r3⟩ := q fr' s' a3 a4
    exact ⟨m, retV vs, s', H2, hcall _ (by rw [callA_eq hfn hb, a1]; simp only [r1]; rfl), r2, r3⟩
/-- A function that is told by its answers. -/
theorem call_spec {f : Nat} {args : List V} {vals : List Value} {r : Value} {v : V} {H : Hyp} {K : V → Hyp → Prop} (ha : scalars args = some vals) (hr : X f vals = some r) (hv : ofV r = some v) (hk : K v H) : CallW P X f args H K :=
  fun s hs => ⟨0, v, s, H, by unfold xCallFn; simp only [ha, Option.bind_some, hr, hv]; rfl, hs, hk⟩
theorem op_call {q : Bool} {d : Option Nat} {ty : Nat} {pos : String} {af : Array Edge} {g : Option (Nat × Bool)} {x : Operand} {args : Array Operand} {ats : Array TypeId} {e : Env} {H : Hyp} {K : V → Hyp → Prop} {f : Nat} {caps : List (Nat × Nat)} {vs vs' : List V}
    (hx : evE e x = some (.one (.c (.fn f caps)))) (ha : argsE e args.toList = some vs) (hv : vs ++ caps.map (fun p => ptrV p.1 p.2) = vs') (h : CallW P X f vs' H K) : OpW P X q ⟨d, .call ⟨.value x, args, ats⟩, ty, pos, af, g⟩ e H K := by
  intro fr s h1 h2
  obtain ⟨n, v, s', H', a, b, c⟩ := h s h2
  refine ⟨n, v, s', H', ?_, b, c, fun _ hm => by cases hm⟩
  subst hv
  simp only [opRun, evC h1 hx, evArgs h1 ha]
  exact a
end
end Go.Proofs.Ytdhnjkagmbfoaaa.AM
/- A logic over the abstract machine: operations, one by one. -/
set_option linter.unusedSimpArgs false
set_option linter.unusedVariables false
namespace Go.Proofs.Ytdhnjkagmbfoaaa.AM
open Go Go.RowKit
abbrev vI (n : Int) : V := .one (.c (.int .i64 n))
abbrev vB (b : Bool) : V := .one (.c (.bool b))
theorem pure?_bind {P : Program} {α β : Type} (f : α → Sem β) : ∀ (x : Sem α), pure? P (x.bind f) = (pure? P x).bind fun a => pure? P (f a)
  | .pure a => rfl
  | .program k => by simp only [Sem.bind, pure?]; exact pure?_bind f (k P)
  | .mark m k => by simp only [Sem.bind, pure?]; exact pure?_bind f k
  | .load .. => rfl
  | .store .. => rfl
  | .new .. => rfl
  | .shape .. => rfl
  | .freeze .. => rfl
  | .frozen .. => rfl
  | .getObj .. => rfl
  | .setObj .. => rfl
  | .choose .. => rfl
  | .sys .. => rfl
  | .halt .. => rfl
theorem pure?_bind' {P : Program} {α β : Type} (f : α → Sem β) (x : Sem α) : pure? P (x >>= f) = (pure? P x).bind fun a => pure? P (f a) := pure?_bind f x
theorem pure?_pure {P : Program} {α : Type} (a : α) : pure? P (Pure.pure a : Sem α) = some a := rfl
theorem pure?_und {P : Program} {t : Nat} {d : TypeDesc} (h : P.underlying t = some d) : pure? P (underlying t) = some d := by
  unfold underlying
  rw [pure?_bind']
  show (some P).bind _ = _
  simp only [Option.bind_some, h, pure?_pure]
section
variable {P : Program} {X : Spec} {sz : Nat} {q : Bool} {d : Option Nat} {ty : Nat} {pos : String} {af : Array Edge} {g : Option (Nat × Bool)} {e : Env} {H : Hyp} {K : V → Hyp → Prop}
theorem op_move {x : Operand} {v : V} (hx : evE e x = some v) (k : K v H) : OpW P X q ⟨d, .move x, ty, pos, af, g⟩ e H K :=
  fun fr s h1 h2 => ⟨0, v, s, H, by simp only [opRun, evO h1 hx]; rfl, h2, k, fun _ _ => rfl⟩
theorem op_assign {x : Operand} {v : V} (hx : evE e x = some v) (k : K v H) : OpW P X q ⟨d, .assign x, ty, pos, af, g⟩ e H K :=
  fun fr s h1 h2 => ⟨0, v, s, H, by simp only [opRun, evO h1 hx]; rfl, h2, k, fun _ _ => rfl⟩
theorem op_pick {c a b : Operand} {p : Bool} {va vb : V} (hc : evE e c = some (vB p)) (ha : evE e a = some va) (hb : evE e b = some vb) (k : K (if p then va else vb) H) : OpW P X q ⟨d, .pick c a b, ty, pos, af, g⟩ e H K :=
  fun fr s h1 h2 => ⟨0, _, s, H, by simp only [opRun, evC h1 hc]; cases p <;> simp [evO h1 ha, evO h1 hb], h2, k, fun _ _ => rfl⟩
theorem op_extract {x : Operand} {vs : List V1} {ix : Nat} {v : V1} (hx : evE e x = some (.tup vs)) (hv : vs[ix]? = some v) (k : K (.one v) H) : OpW P X q ⟨d, .extract x ix, ty, pos, af, g⟩ e H K :=
  fun fr s h1 h2 => ⟨0, _, s, H, by simp only [opRun, evO h1 hx, hv]; rfl, h2, k, fun _ _ => rfl⟩
/-! ### What asks nothing of memory -/
theorem scalar_of {fr : Fr} (h : Has fr e) {x : Operand} {c : V} {v : Value} (hx : evE e x = some c) (hc : c.conc nowhere = some v) : scalarOf fr x = some v := by
  unfold scalarOf; rw [evO h hx]; exact hc
theorem op_bin {op : BinOp} {t ty' : Nat} {x y : Operand} {a b : Cell} {va vb v : Value} {r : V} (hx : evE e x = some (.one (.c a))) (hy : evE e y = some (.one (.c b))) (ha : a.conc nowhere = some va) (hb : b.conc nowhere = some vb) (hn : nilEq a b = none)
    (hg : pure? P (eqGuard op t x y va vb) = some ()) (hv : pure? P (binOp op t va vb) = some v) (hr : ofV v = some r) (k : K r H) : OpW P X q ⟨d, .binOp op t x y ty', ty, pos, af, g⟩ e H K := by
  intro fr s h1 h2
  refine ⟨0, r, s, H, ?_, h2, k, fun _ _ => rfl⟩
  have sa := scalar_of h1 hx (v := va) ha
  have sb := scalar_of h1 hy (v := vb) hb
  simp only [opRun, evC h1 hx, evC h1 hy, hn]
  unfold pureOp
  rw [if_pos (by simp [Op.operands, sa, sb])]
  have : pure? P (execOp (fun x => (scalarOf fr x).getD undef) ⟨d, .binOp op t x y ty', ty, pos, af, g⟩) = some (.value v) := by
    simp only [execOp, sa, sb, Option.getD_some, pure?_bind', hg, hv, Option.bind_some, pure?_pure]
  rw [this]; simp only [hr]; rfl
theorem eqGuard_plain {op : BinOp} {t : Nat} {x y : Operand} {a b : Cell} {va vb : Value} (ha : a.conc nowhere = some va) (hb : b.conc nowhere = some vb) : pure? P (eqGuard op t x y va vb) = some () := by
  have h1 : ∀ {c : Cell} {v : Value}, c.conc nowhere = some v → (∀ l, v ≠ .agg l) ∧ v ≠ .nilIface := by
    intro c v h
    cases c with
    | sl b o l cp => cases cp <;> cases h
    | fn f cs =>
      simp only [Cell.conc, Option.map_eq_some_iff] at h
      obtain ⟨l, _, rfl⟩ := h
      exact ⟨(fun l e => by cases e), (fun e => by cases e)⟩
    | _ => first | (cases h; exact ⟨(fun l e => by cases e), (fun e => by cases e)⟩) | cases h
  obtain ⟨a1, a2⟩ := h1 ha
  obtain ⟨b1, b2⟩ := h1 hb
  unfold eqGuard
  cases op <;> first | rfl | (cases va <;> cases vb <;> first | rfl | exact absurd rfl a2 | exact absurd rfl (a1 _))
/-- Whole numbers. -/
theorem op_int {op : BinOp} {t ty' : Nat} {x y : Operand} {k : IntKind} {a b : Int} {v : Value} {r : V} (hx : evE e x = some (.one (.c (.int k a)))) (hy : evE e y = some (.one (.c (.int k b))))
    (hv : pure? P (binOp op t (.int k a) (.int k b)) = some v) (hr : ofV v = some r) (h : K r H) : OpW P X q ⟨d, .binOp op t x y ty', ty, pos, af, g⟩ e H K :=
  op_bin hx hy rfl rfl rfl (eqGuard_plain (a := .int k a) (b := .int k b) rfl rfl) hv hr h
section
variable {t ty' : Nat} {x y : Operand} {k : IntKind} {a b : Int} (hx : evE e x = some (.one (.c (.int k a)))) (hy : evE e y = some (.one (.c (.int k b))))
include hx hy
theorem op_lt (h : K (vB (decide (a < b))) H) : OpW P X q ⟨d, .binOp .lss t x y ty', ty, pos, af, g⟩ e H K := op_int hx hy (v := .bool (decide (a < b))) (by simp [binOp, Op.intCmp]; rfl) rfl h
theorem op_le (h : K (vB (decide (a ≤ b))) H) : OpW P X q ⟨d, .binOp .leq t x y ty', ty, pos, af, g⟩ e H K := op_int hx hy (v := .bool (decide (a ≤ b))) (by simp [binOp, Op.intCmp]; rfl) rfl h
theorem op_gt (h : K (vB (decide (a > b))) H) : OpW P X q ⟨d, .binOp .gtr t x y ty', ty, pos, af, g⟩ e H K := op_int hx hy (v := .bool (decide (a > b))) (by simp [binOp, Op.intCmp]; rfl) rfl h
theorem op_ge (h : K (vB (decide (a ≥ b))) H) : OpW P X q ⟨d, .binOp .geq t x y ty', ty, pos, af, g⟩ e H K := op_int hx hy (v := .bool (decide (a ≥ b))) (by simp [binOp, Op.intCmp]; rfl) rfl h
theorem op_eq (h : K (vB (decide (a = b))) H) : OpW P X q ⟨d, .binOp .eql t x y ty', ty, pos, af, g⟩ e H K := op_int hx hy (v := .bool (decide (a = b))) (by simp [binOp, Op.intCmp]; rfl) rfl h
theorem op_ne (h : K (vB (decide (a ≠ b))) H) : OpW P X q ⟨d, .binOp .neq t x y ty', ty, pos, af, g⟩ e H K := op_int hx hy (v := .bool (decide (a ≠ b))) (by
  have : (a != b) = decide (a ≠ b) := by by_cases h : a = b <;> simp [h]
  simp only [binOp, Op.intCmp, this]; simp; rfl) rfl h
theorem op_add {c : Int} (hw : k.wrap (a + b) = c) (h : K (.one (.c (.int k c))) H) : OpW P X q ⟨d, .binOp .add t x y ty', ty, pos, af, g⟩ e H K := op_int hx hy (v := .int k c) (by subst hw; simp [binOp, Op.intArith]; rfl) rfl h
theorem op_sub {c : Int} (hw : k.wrap (a - b) = c) (h : K (.one (.c (.int k c))) H) : OpW P X q ⟨d, .binOp .sub t x y ty', ty, pos, af, g⟩ e H K := op_int hx hy (v := .int k c) (by subst hw; simp [binOp, Op.intArith]; rfl) rfl h
end
theorem wrap_i64 {a : Int} (h1 : -9223372036854775808 ≤ a) (h2 : a ≤ 9223372036854775807) : IntKind.wrap .i64 a = a := by
  simp only [IntKind.wrap, IntKind.bits, IntKind.signed]; simp only [Bool.true_and]; split <;> simp at * <;> omega
theorem op_addi {t ty' : Nat} {x y : Operand} {a b : Int} (hx : evE e x = some (vI a)) (hy : evE e y = some (vI b)) (h1 : -9223372036854775808 ≤ a + b) (h2 : a + b ≤ 9223372036854775807) (h : K (vI (a + b)) H) : OpW P X q ⟨d, .binOp .add t x y ty', ty, pos, af, g⟩ e H K := op_add hx hy (wrap_i64 h1 h2) h
theorem op_subi {t ty' : Nat} {x y : Operand} {a b : Int} (hx : evE e x = some (vI a)) (hy : evE e y = some (vI b)) (h1 : -9223372036854775808 ≤ a - b) (h2 : a - b ≤ 9223372036854775807) (h : K (vI (a - b)) H) : OpW P X q ⟨d, .binOp .sub t x y ty', ty, pos, af, g⟩ e H K := op_sub hx hy (wrap_i64 h1 h2) h
/-- Is it nil? -/
theorem op_nilEq {t ty' : Nat} {x y : Operand} {a b : Cell} {r : Bool} (hx : evE e x = some (.one (.c a))) (hy : evE e y = some (.one (.c b))) (hn : nilEq a b = some r) (hk : nilKind P t a b = true) (h : K (vB r) H) : OpW P X q ⟨d, .binOp .eql t x y ty', ty, pos, af, g⟩ e H K :=
  fun fr s h1 h2 => ⟨0, _, s, H, by simp only [opRun, evC h1 hx, evC h1 hy, hn, hk, if_true], h2, h, fun _ _ => rfl⟩
/-- One operand that is a number, a text. -/
theorem op_un {op : UnOp} {t : Nat} {x : Operand} {c : V} {u v : Value} {r : V} (hx : evE e x = some c) (hc : c.conc nowhere = some u) (hv : pure? P (Op.unary op u) = some v) (hr : ofV v = some r) (k : K r H) : OpW P X q ⟨d, .unOp op t x, ty, pos, af, g⟩ e H K := by
  intro fr s h1 h2
  refine ⟨0, r, s, H, ?_, h2, k, fun _ _ => rfl⟩
  have sa := scalar_of h1 hx hc
  simp only [opRun]
  unfold pureOp
  rw [if_pos (by simp [Op.operands, sa])]
  have : pure? P (execOp (fun x => (scalarOf fr x).getD undef) ⟨d, .unOp op t x, ty, pos, af, g⟩) = some (.value v) := by
    simp only [execOp, sa, Option.getD_some, pure?_bind', hv, Option.bind_some, pure?_pure]
  rw [this]; simp only [hr]; rfl
theorem op_not {t : Nat} {x : Operand} {b : Bool} (hx : evE e x = some (vB b)) (k : K (vB (!b)) H) : OpW P X q ⟨d, .unOp .not t x, ty, pos, af, g⟩ e H K := op_un hx rfl (v := .bool (!b)) rfl rfl k
/-! ### Memory -/
theorem op_alloc {t : Nat} {cs : List Cell} (hz : zeroT P t = some cs) (k : ∀ b, K (ptrV b 0) ((b, .row true t 1 cs) :: H)) : OpW P X q ⟨d, .alloc t, ty, pos, af, g⟩ e H K :=
  fun fr s h1 h2 => ⟨0, _, _, _, by simp only [opRun, xAlloc, hz]; rfl, h2.newRow cs t 1, k s.next, fun _ hm => by cases hm⟩
theorem op_box {t : Nat} {x : Operand} {v : V1} (hx : evE e x = some (.one v)) (k : ∀ b, K (ptrV b 0) ((b, .row true t 1 v.cells) :: H)) : OpW P X q ⟨d, .box t x, ty, pos, af, g⟩ e H K :=
  fun fr s h1 h2 => ⟨0, _, _, _, by simp only [opRun, ev1 h1 hx]; rfl, h2.newRow v.cells t 1, k s.next, fun _ hm => by cases hm⟩
/-- From a place on, these cells can be read. -/
def El (H : Hyp) (b o : Nat) (cs : List Cell) : Prop := ∃ own ty esz cells, (b, Fact.row own ty esz cells) ∈ H ∧ o + cs.length ≤ cells.length ∧ (cells.drop o).take cs.length = cs
theorem El.row {H : Hyp} {b : Nat} {own : Bool} {ty esz : Nat} {cells : List Cell} (h : (b, Fact.row own ty esz cells) ∈ H) : El H b 0 cells := ⟨own, ty, esz, cells, h, by simp, by simp⟩
theorem El.part {H : Hyp} {b o : Nat} {cs : List Cell} (h : El H b o cs) {j n : Nat} (hj : j + n ≤ cs.length) : El H b (o + j) ((cs.drop j).take n) := by
  obtain ⟨own, ty, esz, cells, h1, h2, h3⟩ := h
  have hl : ((cs.drop j).take n).length = n := by rw [List.length_take, List.length_drop]; omega
  refine ⟨own, ty, esz, cells, h1, by rw [hl]; omega, ?_⟩
  rw [hl]
  conv => rhs; rw [← h3, List.drop_take, List.take_take, List.drop_drop, Nat.min_eq_left (by omega)]
theorem El.sub {H H' : Hyp} {b o : Nat} {cs : List Cell} (h : El H b o cs) (hs : ∀ x ∈ H, x ∈ H') : El H' b o cs := by
  obtain ⟨own, ty, esz, cells, h1, h2⟩ := h
  exact ⟨own, ty, esz, cells, hs _ h1, h2⟩
theorem El.read {s : St} {b o : Nat} {cs : List Cell} (hs : Hp s H) (h : El H b o cs) : s.read b o cs.length = some cs := by
  obtain ⟨own, ty, esz, cells, h1, h2, h3⟩ := h
  rw [hs.read h1 h2, h3]
theorem op_load1 {t : Nat} {x : Operand} {b o : Nat} {c : Cell} (ht : aggT P t = some false) (hx : evE e x = some (ptrV b o)) (hc : El H b o [c]) (k : K (.one (.c c)) H) : OpW P X q ⟨d, .load t x, ty, pos, af, g⟩ e H K := by
  intro fr s h1 h2
  refine ⟨0, _, s, H, ?_, h2, k, fun _ _ => rfl⟩
  have := hc.read h2
  simp only [opRun, evC h1 hx, xLoad, ht]
  rw [show (1 : Nat) = [c].length from rfl, this]
theorem op_loadA {t : Nat} {x : Operand} {b o n : Nat} {cs : List Cell} (ht : aggT P t = some true) (hn : sizeT P t = some n) (hx : evE e x = some (ptrV b o)) (hl : cs.length = n) (hc : El H b o cs) (k : K (.one (.agg cs)) H) : OpW P X q ⟨d, .load t x, ty, pos, af, g⟩ e H K := by
  intro fr s h1 h2
  refine ⟨0, _, s, H, ?_, h2, k, fun _ _ => rfl⟩
  have := hc.read h2
  simp only [opRun, evC h1 hx, xLoad, ht, hn]
  rw [← hl, this]; rfl
theorem op_store {t n : Nat} {a x : Operand} {b o : Nat} {v : V1} {ty1 esz : Nat} {cells cells' : List Cell} {H' : Hyp} (hn : sizeT P t = some n) (ha : evE e a = some (ptrV b o)) (hx : evE e x = some (.one v)) (hv : v.cells.length = n) (hp : Pick b (.row true ty1 esz cells) H H') (hl : o + v.cells.length ≤ cells.length) (hc : splice cells o v.cells = cells')
    (k : K undefV ((b, .row true ty1 esz cells') :: H')) : OpW P X q ⟨d, .store t a x, ty, pos, af, g⟩ e H K := by
  intro fr s h1 h2
  obtain ⟨s', w1, w2, w3⟩ := h2.write hp hl
  subst hc
  subst hv
  refine ⟨0, _, s', _, ?_, w2, k, fun _ hm => by cases hm⟩
  simp only [opRun, evC h1 ha, ev1 h1 hx, xStore, hn, if_true, w1]; rfl
def faT (P : Program) (t f : Nat) : Option Nat := match P.underlying t with
  | some (.struct fields) => match fields[f]? with
    | some fd => match sizeT P fd.type with
      | some (_ + 1) => some fd.offset
      | _ => none
    | none => none
  | _ => none
theorem op_fieldAddr {t f : Nat} {x : Operand} {b o j : Nat} (hf : faT P t f = some j) (hx : evE e x = some (ptrV b o)) (k : K (ptrV b (o + j)) H) : OpW P X q ⟨d, .fieldAddr t x f, ty, pos, af, g⟩ e H K := by
  intro fr s h1 h2
  refine ⟨0, _, s, H, ?_, h2, k, fun _ _ => rfl⟩
  unfold faT at hf
  simp only [opRun, evC h1 hx, xFieldAddr]
  cases hu : P.underlying t with
  | none => rw [hu] at hf; cases hf
  | some td =>
    rw [hu] at hf
    cases td with
    | struct fields =>
      simp only at hf ⊢
      cases hfd : fields[f]? with
      | none => rw [hfd] at hf; cases hf
      | some fd =>
        rw [hfd] at hf
        simp only at hf ⊢
        cases hs : sizeT P fd.type with
        | none => rw [hs] at hf; cases hf
        | some n =>
          rw [hs] at hf
          cases n with
          | zero => cases hf
          | succ n => cases hf; rfl
    | _ => cases hf
def buildT (P : Program) (t : Nat) (ps : List (Nat × V1)) : Option (List Cell) := match P.underlying t, zeroT P t with
  | some (.struct fields), some z => match placesT P fields.toList with
    | some pl => fillA (fun i => pl[i]?) z ps
    | none => none
  | some (.array _ e), some z => match sizeT P e with
    | some n => fillA (fun i => some (i * n, n)) z ps
    | none => none
  | _, _ => none
theorem op_build {t : Nat} {parts : Array (Nat × Operand)} {ps : List (Nat × V1)} {cs : List Cell} (hp : partsE e parts.toList = some ps) (hb : buildT P t ps = some cs) (k : K (.one (.agg cs)) H) : OpW P X q ⟨d, .build t parts, ty, pos, af, g⟩ e H K := by
  intro fr s h1 h2
  refine ⟨0, _, s, H, ?_, h2, k, fun _ _ => rfl⟩
  unfold buildT at hb
  simp only [opRun, evParts h1 hp, Option.bind_some, xBuild]
  cases hu : P.underlying t with
  | none => rw [hu] at hb; cases hb
  | some td =>
    cases hz : zeroT P t with
    | none => rw [hu, hz] at hb; cases td <;> cases hb
    | some z =>
      rw [hu, hz] at hb
      cases td with
      | struct fields =>
        simp only at hb ⊢
        cases hpl : placesT P fields.toList with
        | none => rw [hpl] at hb; cases hb
        | some pl => rw [hpl] at hb; simp only at hb ⊢; rw [hb]; rfl
      | array m e0 =>
        simp only at hb ⊢
        cases hs : sizeT P e0 with
        | none => rw [hs] at hb; cases hb
        | some n => rw [hs] at hb; simp only at hb ⊢; rw [hb]; rfl
      | _ => cases hb
def buildSliceT (P : Program) (t : Nat) (len : Nat) (ps : List (Nat × V1)) : Option (Nat × Nat × List Cell) := match elemT P t with
  | some e => match sizeT P e, zeroT P e with
    | some n, some z =>
      if len * n ≤ 16777216 ∧ z.length = n ∧ 0 < n then
        match seqParts n 0 ps with
        | some cs => if ps.length = len then some (e, n, cs) else none
        | none => (fillA (fun i => some (i * n, n)) (repeatC z len) ps).map fun cs => (e, n, cs)
      else none
    | _, _ => none
  | none => none
theorem op_buildSlice {t len : Nat} {parts : Array (Nat × Operand)} {ps : List (Nat × V1)} {te n : Nat} {cs : List Cell} (hp : partsE e parts.toList = some ps) (hb : buildSliceT P t len ps = some (te, n, cs)) (k : ∀ b, K (.one (.c (.sl b 0 len (.lim 0)))) ((b, .row true te n cs) :: H)) : OpW P X q ⟨d, .buildSlice t len parts, ty, pos, af, g⟩ e H K := by
  intro fr s h1 h2
  refine ⟨0, .one (.c (.sl s.next 0 len (.lim 0))), s.new cs te n, _, ?_, h2.newRow cs te n, k s.next, fun _ hm => by cases hm⟩
  unfold buildSliceT at hb
  simp only [opRun, evParts h1 hp, Option.bind_some, xBuildSlice]
  split at hb
  · rename_i te' h3
    split at hb
    · rename_i n' z h4 h5
      split at hb
      · rename_i h6
        simp only [h3, h4, h5]
        rw [if_pos h6]
        split at hb
        · rename_i cs' h7
          split at hb
          · rename_i h8
            cases hb
            simp only [h7]; rw [if_pos h8]
          · cases hb
        · rename_i h7
          simp only [h7]
          obtain ⟨cs', h8, h9⟩ := Option.map_eq_some_iff.1 hb
          cases h9
          rw [h8]; rfl
      · cases hb
    · cases hb
  · cases hb
theorem op_makeFunc {f : Nat} {cs : Array Operand} {ps : List (Nat × Nat)} (hc : capsE e cs.toList = some ps) (k : K (.one (.c (.fn f ps))) H) : OpW P X q ⟨d, .makeFunc (.func f) ⟨[]⟩ cs, ty, pos, af, g⟩ e H K :=
  fun fr s h1 h2 => ⟨0, _, s, H, by simp only [opRun, evCaps h1 hc]; rfl, h2, k, fun _ _ => rfl⟩
theorem op_len {t te n : Nat} {x : Operand} {c : Cell} {ats : List TypeId} (hu : P.underlying t = some (.slice te)) (hx : evE e x = some (.one (.c c))) (hl : lenA c = some n) (hns : ∀ s, c ≠ .str s) (k : K (vI (n : Nat)) H) : OpW P X q ⟨d, .call ⟨.builtin .len, ⟨[x]⟩, ⟨t :: ats⟩⟩, ty, pos, af, g⟩ e H K := by
  intro fr s h1 h2
  refine ⟨0, _, s, H, ?_, h2, k, fun _ _ => rfl⟩
  simp only [opRun, ev1 h1 hx, Option.bind_some, xLen, hu]
  cases c <;> simp only [lenA] at hl <;> first | (cases hl; rfl) | (cases hl; done) | exact absurd rfl (hns _)
/-- Is it an empty slice that is not nil? -/
def emptyC : Cell → Bool
  | .sle _ _ => true
  | .slh _ _ _ _ => true
  | _ => false
/-- A slice that can be read: its elements, one behind the other. -/
structure Sl (H : Hyp) (te n : Nat) (c : Cell) (len : Nat) (cells : List Cell) : Prop where
  size : cells.length = len * n
  at_ : (c = .nils ∧ len = 0) ∨ (emptyC c = true ∧ len = 0) ∨ ∃ b off cap, c = .sl b off len cap ∧ ((∃ own row, (b, Fact.row own te n row) ∈ H ∧ off + len * n ≤ row.length ∧ (row.drop off).take (len * n) = cells ∧ (∀ d, cap = .lim d → off = d * n) ∧ ∀ m, cap = .fix m → len ≤ m) ∨ (len = 0 ∧ off = 0 ∧ cap = .lim 0 ∧ (b, Fact.hole te n) ∈ H))
theorem Sl.sub {H H' : Hyp} {te n len : Nat} {c : Cell} {cells : List Cell} (h : Sl H te n c len cells) (hs : ∀ x ∈ H, x ∈ H') : Sl H' te n c len cells := by
  obtain ⟨h1, h2⟩ := h
  refine ⟨h1, ?_⟩
  rcases h2 with h2 | h2 | ⟨b, off, cap, h2, ⟨own, row, h3, h4⟩ | ⟨h3, h4, h5, h6⟩⟩
  · exact .inl h2
  · exact .inr (.inl h2)
  · exact .inr (.inr ⟨b, off, cap, h2, Or.inl ⟨own, row, hs _ h3, h4⟩⟩)
  · exact .inr (.inr ⟨b, off, cap, h2, Or.inr ⟨h3, h4, h5, hs _ h6⟩⟩)
theorem Sl.cons {H : Hyp} {x : Nat × Fact} {te n len : Nat} {c : Cell} {cells : List Cell} (h : Sl H te n c len cells) : Sl (x :: H) te n c len cells := h.sub fun y hy => List.mem_cons_of_mem _ hy
theorem Sl.app {H N : Hyp} {te n len : Nat} {c : Cell} {cells : List Cell} (h : Sl H te n c len cells) : Sl (N ++ H) te n c len cells := h.sub fun y hy => List.mem_append_right _ hy
theorem Sl.len {H : Hyp} {te n len : Nat} {c : Cell} {cells : List Cell} (h : Sl H te n c len cells) : lenA c = some len := by
  rcases h.at_ with ⟨rfl, rfl⟩ | ⟨he, rfl⟩ | ⟨b, off, cap, rfl, _⟩
  · rfl
  · cases c <;> first | rfl | cases he
  · rfl
theorem Sl.ns {H : Hyp} {te n len : Nat} {c : Cell} {cells : List Cell} (h : Sl H te n c len cells) : ∀ s, c ≠ .str s := by
  rcases h.at_ with ⟨rfl, rfl⟩ | ⟨he, rfl⟩ | ⟨b, off, cap, rfl, _⟩
  · exact fun s e => by cases e
  · exact fun s e => by subst e; cases he
  · exact fun s e => by cases e
theorem Sl.nil {H : Hyp} {te n : Nat} : Sl H te n .nils 0 [] := ⟨by simp, .inl ⟨rfl, rfl⟩⟩
theorem Sl.of_row {H : Hyp} {te n b len : Nat} {own : Bool} {cells : List Cell} (h : (b, Fact.row own te n cells) ∈ H) (hl : cells.length = len * n) : Sl H te n (.sl b 0 len (.lim 0)) len cells :=
  ⟨hl, .inr <| .inr ⟨b, 0, .lim 0, rfl, .inl ⟨own, cells, h, by omega, by rw [List.drop_zero, ← hl, List.take_length], fun d e => by cases e; simp, fun m e => by cases e⟩⟩⟩
theorem Sl.el {H : Hyp} {te n len : Nat} {c : Cell} {cells : List Cell} (h : Sl H te n c len cells) {i : Nat} (hi : i < len) : ∃ b off cap, c = .sl b off len cap ∧ El H b (off + i * n) ((cells.drop (i * n)).take n) := by
  rcases h.at_ with ⟨_, h0⟩ | ⟨_, h0⟩ | ⟨b, off, cap, rfl, ⟨own, row, h1, h2, h3, _⟩ | ⟨h0, _⟩⟩
  · omega
  · omega
  · refine ⟨b, off, cap, rfl, ?_⟩
    have hin : (i + 1) * n ≤ len * n := Nat.mul_le_mul_right _ (by omega)
    rw [Nat.succ_mul] at hin
    have hcl : cells.length = len * n := h.size
    have hl : ((cells.drop (i * n)).take n).length = n := by rw [List.length_take, List.length_drop]; omega
    refine ⟨own, te, n, row, h1, by rw [hl]; omega, ?_⟩
    rw [hl, ← h3, List.drop_take, List.take_take, List.drop_drop, Nat.min_eq_left (by omega)]
  · omega
theorem Sl.elems {s : St} {H : Hyp} {te n len : Nat} {c : Cell} {cells : List Cell} (hs : Hp s H) (h : Sl H te n c len cells) (k : Nat) (hk : k ≤ len) : elemsA s n (some k) c = some (cells.take (k * n)) := by
  rcases h.at_ with ⟨rfl, rfl⟩ | ⟨he, rfl⟩ | ⟨b, off, cap, rfl, ⟨own, row, h1, h2, h3, _⟩ | ⟨rfl, _⟩⟩
  · have : cells = [] := List.length_eq_zero_iff.1 (by rw [h.size]; simp)
    subst this; simp [elemsA]
  · have : cells = [] := List.length_eq_zero_iff.1 (by rw [h.size]; simp)
    subst this
    cases c <;> first | (simp [elemsA]; done) | cases he
  · have hin : k * n ≤ len * n := Nat.mul_le_mul_right _ hk
    simp only [elemsA, Option.getD_some]
    rw [hs.read h1 (by omega), ← h3, List.take_take, Nat.min_eq_left hin]
  · have : k = 0 := by omega
    subst this
    simp [elemsA, read_zero]
theorem op_indexSl {t te n : Nat} {x y : Operand} {c : Cell} {len : Nat} {cells : List Cell} {k0 : IntKind} {i : Int} {el : List Cell} (hu : P.underlying t = some (.slice te)) (hn : sizeT P te = some n) (hx : evE e x = some (.one (.c c))) (hy : evE e y = some (.one (.c (.int k0 i)))) (h : Sl H te n c len cells) (h1 : 0 ≤ i) (h2 : i < len) (hel : (cells.drop (i.toNat * n)).take n = el)
    (k : ∀ b o, El H b o el → K (ptrV b o) H) : OpW P X q ⟨d, .indexAddr t x y, ty, pos, af, g⟩ e H K := by
  intro fr s q1 q2
  obtain ⟨b, off, cap, hc, hE⟩ := h.el (i := i.toNat) (by omega)
  subst hc; subst hel
  refine ⟨0, _, s, H, ?_, q2, k b _ hE, fun _ _ => rfl⟩
  simp only [opRun, evC q1 hx, evC q1 hy, xIndexAddr, hu, hn]
  rw [if_pos ⟨h1, by omega⟩]
/-- A slice of its own: nil, or a whole row. -/
inductive Own (te n : Nat) : Cell → List Cell → Hyp → Prop
  | nil : Own te n .nils [] []
  | row (b len : Nat) (cells : List Cell) (hl : cells.length = len * n) : Own te n (.sl b 0 len (.lim 0)) cells [(b, .row true te n cells)]
theorem Own.sl {te n : Nat} {c : Cell} {cells : List Cell} {N H : Hyp} (h : Own te n c cells N) (hn : 0 < n) {len : Nat} (hl : cells.length = len * n) (hs : ∀ x ∈ N, x ∈ H) : Sl H te n c len cells := by
  cases h with
  | nil =>
    have : len = 0 := by
      have h0 : len * n = 0 := by simpa using hl.symm
      rcases Nat.mul_eq_zero.1 h0 with h | h <;> omega
    subst this; exact Sl.nil
  | row b len' cells h2 =>
    have : len' = len := Nat.eq_of_mul_eq_mul_right hn (by omega)
    subst this
    exact Sl.of_row (own := true) (hs _ (by simp)) hl
/-- One list of blocks behind another: what is picked. -/
inductive PickL : Hyp → Hyp → Hyp → Prop
  | nil (H : Hyp) : PickL [] H H
  | cons {b : Nat} {f : Fact} {N H H1 H2 : Hyp} (h : Pick b f H H1) (t : PickL N H1 H2) : PickL ((b, f) :: N) H H2
theorem PickL.front : ∀ (N H : Hyp), PickL N (N ++ H) H
  | [], H => .nil H
  | (b, f) :: N, H => .cons (.head b f _) (PickL.front N H)
theorem op_append {t te n : Nat} {t1 : Nat} {ats : List TypeId} {x y : Operand} {c c' : Cell} {len len' : Nat} {cells cells' : List Cell} {N H1 : Hyp} {B : Nat} {z : List Cell} {te' : Nat} (he : elemT P t = some te) (hi : ∃ i, P.info? te = some i ∧ i.size = n ∧ i.bytes = B) (hz : zeroT P te = some z) (hc : z.length = n ∧ 0 < n ∧ 0 < B) (hu : P.underlying t1 = some (.slice te'))
    (hx : evE e x = some (.one (.c c))) (hy : evE e y = some (.one (.c c'))) (hO : Own te n c cells N) (hcl : cells.length = len * n) (hp : PickL N H H1) (h : Sl H te n c' len' cells') (hB : (len + len') * B ≤ 140737488355328)
    (k : ∀ c'' N', Own te n c'' (cells ++ cells') N' → K (.one (.c c'')) (N' ++ H1)) : OpW P X q ⟨d, .call ⟨.builtin .append, ⟨[x, y]⟩, ⟨t :: t1 :: ats⟩⟩, ty, pos, af, g⟩ e H K := by
  intro fr s q1 q2
  obtain ⟨i, hi, hn, hb⟩ := hi
  subst hn
  subst hb
  have hel := h.elems q2 len' (Nat.le_refl _)
  rw [List.take_of_length_le (by rw [h.size]; exact Nat.le_refl _)] at hel
  have hl' := h.len
  have hns := h.ns
  have hlx : lenA c = some len := by
    cases hO with
    | nil =>
      have : len = 0 := by
        have h0 : len * i.size = 0 := by simpa using hcl.symm
        rcases Nat.mul_eq_zero.1 h0 with h | h <;> omega
      subst this; rfl
    | row b l2 _ h2 =>
      have : l2 = len := Nat.eq_of_mul_eq_mul_right hc.2.1 (by omega)
      subst this; rfl
  have key : ∃ c'' s' N', appendA s te i.size len' cells' c = some (.one (.c c''), s') ∧ Own te i.size c'' (cells ++ cells') N' ∧ Hp s' (N' ++ H1) := by
    cases hO with
    | nil =>
      have h0 : len = 0 := by simpa [lenA] using hlx.symm
      subst h0
      cases hp
      by_cases e0 : len' = 0
      · subst e0
        have : cells' = [] := List.length_eq_zero_iff.1 (by rw [h.size]; simp)
        subst this
        exact ⟨.nils, s, [], by simp [appendA], .nil, q2⟩
      · refine ⟨_, _, _, by simp only [appendA]; rw [if_neg e0], .row s.next len' cells' h.size, ?_⟩
        simpa using q2.newRow cells' te i.size
    | row b l2 _ h2 =>
      have hll : l2 = len := by simpa [lenA] using hlx
      subst hll
      cases hp with
      | cons hp1 hp2 =>
      cases hp2
      obtain ⟨fam, ver, g1, g2, g3, g4⟩ := q2.grow hp1 0 cells'
      by_cases e0 : len' = 0
      · subst e0
        have : cells' = [] := List.length_eq_zero_iff.1 (by rw [h.size]; simp)
        subst this
        rw [List.append_nil]
        refine ⟨.sl b 0 l2 (.lim 0), s, _, ?_, .row b l2 cells h2, q2.perm hp1.perm⟩
        simp only [appendA, g1]
        rw [if_pos ⟨by simp, trivial, trivial, by omega⟩, if_pos trivial]
      · refine ⟨.sl s.next 0 (l2 + len') (.lim 0), _, _, ?_, .row s.next (l2 + len') (cells ++ cells') (by rw [List.length_append, h2, h.size, Nat.add_mul]), g4⟩
        simp only [appendA, g1]
        have hpos : 0 < len' * i.size := Nat.mul_pos (by omega) hc.2.1
        rw [if_pos ⟨by simp, trivial, trivial, by omega⟩, if_neg e0, if_neg (by rw [Nat.add_mul]; omega), if_pos ⟨by omega, g2, g3⟩]
  obtain ⟨c'', s', N', a1, a2, a3⟩ := key
  refine ⟨0, _, s', _, ?_, a3, k c'' N' a2, fun _ hm => by cases hm⟩
  simp only [opRun, evC q1 hx, evC q1 hy, xAppend, he, hi, hz, List.head?_cons, Option.bind_some, hu]
  rw [if_pos hc]
  simp only [hlx, hl', hel]
  rw [if_pos ⟨hB, h.size⟩]
  exact a1
end
end Go.Proofs.Ytdhnjkagmbfoaaa.AM
/- A logic over the abstract machine: regions that draw their order. -/
set_option linter.unusedSimpArgs false
set_option linter.unusedVariables false
namespace Go.Proofs.Ytdhnjkagmbfoaaa.AM
open Go Go.RowKit
section
variable {P : Program} {X : Spec} {sz : Nat}
/-- What asks nothing of memory. -/
def blind (P : Program) : Op → Bool
  | .move _ | .assign _ | .pick .. | .nilCheck _ | .fieldAddr .. | .field .. | .build .. | .indexAddr .. | .extract .. | .binOp .. | .unOp .. | .index .. => true
  | .makeFunc .. => true
  | .slice t _ _ _ _ => match P.underlying t with | some .string => true | _ => false
  | .convert src _ _ => match P.underlying src with | some (.slice _) => false | _ => true
  | .call { callee := .builtin .len, argTypes, .. } => match argTypes.toList with
    | t :: _ => match P.underlying t with | some (.map _ _) => false | _ => true
    | _ => false
  | .call { callee := .builtin .min, .. } | .call { callee := .builtin .max, .. } => true
  | _ => false
theorem pureOp_any {fr : Fr} {s s1 : St} {o : Oper} {v : V} (h : pureOp P fr s o = some (v, s1)) (s' : St) : pureOp P fr s' o = some (v, s') := by
  unfold pureOp at h ⊢
  split at h
  · rename_i ha
    rw [if_pos ha]
    split at h
    · rename_i u hu
      try simp only [hu]
      simp only [Option.map_eq_some_iff, Prod.mk.injEq] at h ⊢
      obtain ⟨a, h1, h2, _⟩ := h
      exact ⟨a, h1, h2, trivial⟩
    · cases h
  · cases h
theorem map_any {α : Type} {x : Option α} {s s1 s' : St} {v : α} (h : x.map (·, s) = some (v, s1)) : x.map (·, s') = some (v, s') := by
  simp only [Option.map_eq_some_iff, Prod.mk.injEq] at h ⊢
  obtain ⟨a, h1, h2, _⟩ := h
  exact ⟨a, h1, h2, trivial⟩
theorem blind_any {cf : CallF} {fr : Fr} {s s1 : St} {o : Oper} {v : V} (hb : blind P o.op = true) (h : opRun P X cf fr s o = some (v, s1)) (s' : St) : opRun P X cf fr s' o = some (v, s') := by
  obtain ⟨dst, op, type, pos, after, guard⟩ := o
  cases op with
  | move x => exact map_any h
  | assign x => exact map_any h
  | pick c a b =>
    simp only [opRun] at h ⊢
    split at h
    · rename_i t ht; try simp only [ht]
      exact map_any h
    · cases h
  | nilCheck x =>
    simp only [opRun] at h ⊢
    split at h
    · rename_i b off hx; try simp only [hx]
      cases h; rfl
    · cases h
  | fieldAddr t x f =>
    simp only [opRun] at h ⊢
    split at h
    · rename_i b off hx
      try simp only [hx]
      unfold xFieldAddr at h ⊢
      repeat' split at h
      all_goals first | (cases h; done) | (cases h; simp [*])
    · cases h
  | field t x f =>
    simp only [opRun] at h ⊢
    split at h
    · rename_i cs hx
      try simp only [hx]
      unfold xField at h ⊢
      repeat' split at h
      all_goals first | (cases h; done) | exact map_any h
    · cases h
  | build t parts =>
    simp only [opRun] at h ⊢
    cases hp : evalParts fr parts.toList with
    | none => rw [hp] at h; cases h
    | some ps =>
      rw [hp] at h
      simp only [Option.bind_some] at h ⊢
      unfold xBuild at h ⊢
      repeat' split at h
      all_goals first
        | (cases h; done)
        | (simp only [Option.map_eq_some_iff, Prod.mk.injEq] at h ⊢; obtain ⟨a, h1, h2, _⟩ := h; exact ⟨a, h1, h2, trivial⟩)
  | indexAddr t x i =>
    simp only [opRun] at h ⊢
    split at h
    · rename_i c k i hx hi
      try simp only [hx, hi]
      unfold xIndexAddr at h ⊢
      repeat' split at h
      all_goals first | (cases h; done) | (cases h; simp [*])
    · cases h
  | extract x i =>
    simp only [opRun] at h ⊢
    split at h
    · rename_i vs hx
      try simp only [hx]
      simp only [Option.map_eq_some_iff, Prod.mk.injEq] at h ⊢
      obtain ⟨a, h1, h2, _⟩ := h
      exact ⟨a, h1, h2, trivial⟩
    · cases h
  | binOp op t x y ty =>
    simp only [opRun] at h ⊢
    split at h
    · rename_i a b ha hb
      try simp only [ha, hb]
      split at h
      · rename_i r hr
        try simp only [hr]
        split at h
        · rename_i hk
          rw [if_pos hk]
          cases op <;> first | (cases h; rfl) | (cases h; done)
        · cases h
      · rename_i hr
        try simp only [hr]
        exact pureOp_any h s'
    · rename_i hne
      exact pureOp_any h s'
  | unOp op t x => exact pureOp_any h s'
  | index t x i => exact pureOp_any h s'
  | makeFunc fn first captured =>
    cases fn with
    | func f =>
      obtain ⟨first⟩ := first
      cases first with
      | nil =>
        simp only [opRun] at h ⊢
        simp only [Option.map_eq_some_iff, Prod.mk.injEq] at h ⊢
        obtain ⟨a, h1, h2, _⟩ := h
        exact ⟨a, h1, h2, trivial⟩
      | cons a l => simp [opRun] at h
    | _ => simp [opRun] at h
  | slice t x lo hi mx =>
    have hu : P.underlying t = some .string := by
      simp only [blind] at hb
      split at hb
      · assumption
      · cases hb
    have hno : ∀ (s : St) c l h m, xSlice P s t c l h m = none := by
      intro s c l h m
      have he : elemT P t = none := by unfold elemT; rw [hu]
      unfold xSlice
      cases c <;> simp [he, hu]
    simp only [opRun] at h ⊢
    split at h
    · rename_i b hx; try simp only [hx]
      exact pureOp_any h s'
    · rename_i c hne hx
      simp only [hno] at h
      repeat' split at h
      all_goals (cases h)
    · cases h
  | convert src dst x =>
    have hno : ∀ (s : St) c, xBytesToString P s src dst c = none := by
      intro s c
      unfold xBytesToString
      simp only [blind] at hb
      split
      · rename_i e h1 h2; rw [h1] at hb; cases hb
      · rfl
    simp only [opRun, hno] at h ⊢
    split at h
    · cases h
    · cases h
    · rename_i h1 h2
      exact pureOp_any h s'
  | call cl =>
    obtain ⟨callee, args, argTypes⟩ := cl
    cases callee with
    | builtin b =>
      cases b with
      | len =>
        obtain ⟨args⟩ := args
        obtain ⟨ats⟩ := argTypes
        cases args with
        | nil => simp [opRun] at h
        | cons x l =>
          cases l with
          | cons y l => simp [opRun] at h
          | nil =>
            cases ats with
            | nil => simp [opRun] at h
            | cons t ts =>
              simp only [blind] at hb
              simp only [opRun] at h ⊢
              cases hx : eval1 fr x with
              | none => rw [hx] at h; cases h
              | some c =>
                rw [hx] at h
                simp only [Option.bind_some] at h ⊢
                unfold xLen at h ⊢
                split at h
                all_goals first
                  | (cases h; done)
                  | (cases h; rfl)
                  | (rename_i h1; rw [h1] at hb; cases hb; done)
                  | (split at h <;> first | (cases h; done) | (cases h; rfl))
      | min => exact pureOp_any h s'
      | max => exact pureOp_any h s'
      | _ => cases hb
    | _ => cases hb
  | _ => cases hb
def memOK (P : Program) (ops : Array Oper) : Bool :=
  let b := Region.before ops
  (List.range ops.size).all fun i => ((ops[i]?).all fun o => isMover o.op || blind P o.op) ||
    (List.range ops.size).all fun j => !moverAt ops j || bitB b j i ||
      (decide (j < i) && bitB b i j && (List.range ops.size).all fun k => !(decide (j < k) && decide (k < i) && moverAt ops k)) ||
      (List.range ops.size).any fun k => decide (j < k) && moverAt ops k && bitB b i k
theorem sameAt_self {cf : CallF} {ops : Array Oper} {o : Oper} {t : Tr} (h : opRun P X cf (restr (o.looksAt ops) t.fr) t.s o = some (t.v, t.s)) : sameAt P X cf ops o t t.s = true := by
  unfold sameAt; rw [h]; simp
theorem sameAt_blind {cf : CallF} {ops : Array Oper} {o : Oper} {t : Tr} (hb : blind P o.op = true) (h : opRun P X cf (restr (o.looksAt ops) t.fr) t.s o = some (t.v, t.s)) (s : St) : sameAt P X cf ops o t s = true := by
  unfold sameAt; rw [blind_any hb h s]; simp
theorem dynOK_of {cf : CallF} {ops : Array Oper} {trs : List Tr} {fr fr' : Fr} {s s' : St} (hS : Static ops) (T : TraceOK P X cf ops ops.toList trs fr s fr' s') (hM : memOK P ops = true) : dynOK P X cf ops trs s = true := by
  unfold dynOK
  simp only [List.all_eq_true, List.mem_range]
  intro i hi
  have hti : i < trs.length := by rw [T.len, Array.length_toList]; exact hi
  have ho : ops[i]? = some ops[i] := Array.getElem?_eq_getElem hi
  have ht : trs[i]? = some trs[i] := List.getElem?_eq_getElem hti
  simp only [ho, ht]
  generalize hoe : ops[i] = o at ho ⊢
  generalize hte : trs[i] = t at ht ⊢
  cases hm : isMover o.op with
  | true => rfl
  | false =>
    cases hw : t.want with
    | false => rfl
    | true =>
      simp only [Bool.not_true, Bool.or_self, Bool.false_or, Bool.and_eq_true]
      have hol : ops.toList[i]? = some o := by rw [Array.getElem?_toList]; exact ho
      obtain ⟨_, h1, _, h3⟩ := T.step i o t hol ht
      have hrun := h1 hw
      rw [h3 hm] at hrun
      cases hb : blind P o.op with
      | true =>
        refine ⟨by rw [sameAt_blind hb hrun s]; simp, ?_⟩
        simp only [List.all_eq_true, List.mem_range]
        intro j hj
        have htj : j < trs.length := by rw [T.len, Array.length_toList]; exact hj
        simp only [Array.getElem?_eq_getElem hj, List.getElem?_eq_getElem htj]
        rw [sameAt_blind hb hrun]; simp
      | false =>
        unfold memOK at hM
        simp only [List.all_eq_true, List.mem_range] at hM
        have hMi := hM i hi
        simp only [ho, Option.all_some, hm, hb, Bool.or_self, Bool.false_or, List.all_eq_true, List.mem_range] at hMi
        have hat := ((TraceOK.at T i (by omega)).1 t ht).2
        have hnb : ∀ j, j < i → bitB (Region.before ops) j i = false := by
          intro j hj
          cases hbit : bitB (Region.before ops) j i with
          | false => rfl
          | true =>
            exfalso
            have : ∀ m, m < ops.size → ∀ k, k < ops.size → bitB (Region.before ops) m k = true → k < m := by
              intro m
              induction m using Nat.strongRecOn with
              | _ m ih =>
                intro hm k hk hbk
                have hom : ops[m]? = some ops[m] := Array.getElem?_eq_getElem hm
                obtain ⟨e, he, hbe, hor⟩ := hS.bef m _ k hom hk hbk
                have hlt := hS.edge m _ hom e he hbe
                rcases hor with rfl | hor
                · exact hlt
                · have := ih e.on hlt (by omega) k hk hor; omega
            have := this j (by omega) i hi hbit
            omega
        rcases stateOf_last (ops := ops) (trs := trs) (s0 := s) (L := fun _ => true) i with ⟨h4, h5⟩ | ⟨j, h4, _, h6, h7, h8⟩
        · refine ⟨?_, ?_⟩
          · rw [← h4, ← hat, sameAt_self hrun]; simp
          · simp only [List.all_eq_true, List.mem_range]
            intro j hj
            have htj : j < trs.length := by rw [T.len, Array.length_toList]; exact hj
            have hoj : ops[j]? = some ops[j] := Array.getElem?_eq_getElem hj
            simp only [hoj, List.getElem?_eq_getElem htj]
            have h9 := hMi j hj
            have hmj : moverAt ops j = isMover (ops[j]).op := by unfold moverAt; rw [hoj]; rfl
            cases hmv : isMover (ops[j]).op with
            | false => rfl
            | true =>
              rw [hmj, hmv] at h9
              have hij : ¬ j < i := fun q => by have := h5 j q (by rw [hmj]; exact hmv); cases this
              simp only [Bool.not_true, Bool.false_or, Bool.or_eq_true, Bool.and_eq_true, decide_eq_true_eq, List.any_eq_true, List.mem_range] at h9 ⊢
              rcases h9 with (h9 | h9) | ⟨k, hk, h9⟩
              · exact .inl (.inl h9)
              · exact absurd h9.1.1 hij
              · refine .inl (.inr ⟨k, hk, ⟨h9.1.1, ?_⟩, h9.2⟩)
                have := h9.1.2
                unfold moverAt at this; exact this
        · have hsj : (trs[j]?.getD default).s' = t.s := by rw [hat]; exact h7.symm
          have hjs : j < ops.size := by omega
          have h9 := hMi j hjs
          rw [h6] at h9
          have hbj := hnb j h4
          have hord : bitB (Region.before ops) i j = true := by
            simp only [Bool.not_true, Bool.false_or, hbj, Bool.or_eq_true, Bool.and_eq_true, decide_eq_true_eq, List.any_eq_true, List.mem_range] at h9
            rcases h9 with h9 | ⟨k, hk, h9⟩
            · exact h9.1.2
            · exfalso
              have hki : k < i := by
                rcases Nat.lt_or_ge k i with q | q
                · exact q
                · exfalso
                  have : ∀ m, m < ops.size → ∀ k, k < ops.size → bitB (Region.before ops) m k = true → k < m := by
                    intro m
                    induction m using Nat.strongRecOn with
                    | _ m ih =>
                      intro hm k hk hbk
                      have hom : ops[m]? = some ops[m] := Array.getElem?_eq_getElem hm
                      obtain ⟨e, he, hbe, hor⟩ := hS.bef m _ k hom hk hbk
                      have hlt := hS.edge m _ hom e he hbe
                      rcases hor with rfl | hor
                      · exact hlt
                      · have := ih e.on hlt (by omega) k hk hor; omega
                  have := this i hi k hk h9.2
                  omega
              have := h8 k h9.1.1 hki h9.1.2
              cases this
          refine ⟨?_, ?_⟩
          · rw [Bool.or_eq_true]
            refine .inl (List.any_eq_true.2 ⟨j, List.mem_range.2 hjs, ?_⟩)
            rw [Bool.and_eq_true]
            exact ⟨by unfold moverAt at h6; exact h6, hord⟩
          · simp only [List.all_eq_true, List.mem_range]
            intro k hk
            have htk : k < trs.length := by rw [T.len, Array.length_toList]; exact hk
            have hok : ops[k]? = some ops[k] := Array.getElem?_eq_getElem hk
            simp only [hok, List.getElem?_eq_getElem htk]
            have hmk : moverAt ops k = isMover (ops[k]).op := by unfold moverAt; rw [hok]; rfl
            cases hmv : isMover (ops[k]).op with
            | false => rfl
            | true =>
              by_cases hkj : k = j
              · subst hkj
                have : trs[k].s' = t.s := by rw [← hsj, List.getElem?_eq_getElem htk]; rfl
                rw [this, sameAt_self hrun]; simp
              · have h10 := hMi k hk
                rw [hmk, hmv] at h10
                simp only [Bool.not_true, Bool.false_or, Bool.or_eq_true, Bool.and_eq_true, decide_eq_true_eq, List.any_eq_true, List.mem_range] at h10 ⊢
                rcases h10 with (h10 | h10) | ⟨m, hm2, h10⟩
                · exact .inl (.inl h10)
                · have hkj2 : k < j := by
                    rcases Nat.lt_or_ge j k with q | q
                    · have := h8 k q h10.1.1 (by rw [hmk]; exact hmv); cases this
                    · omega
                  exact .inl (.inr ⟨j, hjs, ⟨hkj2, by unfold moverAt at h6; exact h6⟩, hord⟩)
                · refine .inl (.inr ⟨m, hm2, ⟨h10.1.1, ?_⟩, h10.2⟩)
                  have := h10.1.2
                  unfold moverAt at this; exact this
theorem w_draw {id : Nat} {ops : Array Oper} {e : Env} {H : Hyp} {Q : Post} (hS : staticOK ops = true) (hM : memOK P ops = true) (h : WOps P X sz ops true ops.toList e H (fun e H => Q .normal e H)) : W P X sz (.region id ops true) e H Q := by
  intro fr s h1 h2 h3
  obtain ⟨n, fr', s', e', H', ⟨trs, a⟩, b⟩ := h fr s h1 h2 h3
  refine ⟨n + 1, .normal, fr', s', e', H', ?_, b⟩
  show ((if true = true then drawRun P X (callA P X n) ops fr s else opsRun P X (callA P X n) ops ops.toList fr s).map fun q => (Ex.normal, q.1, q.2)) = _
  rw [if_pos rfl]
  unfold drawRun
  rw [if_pos hS, a]
  simp only
  rw [if_pos (dynOK_of (static_of hS) (trace_ok a) hM)]; rfl
end
end Go.Proofs.Ytdhnjkagmbfoaaa.AM
/- A logic over the abstract machine: slicing, maps, ranges over texts, cuts. -/
set_option linter.unusedSimpArgs false
set_option linter.unusedVariables false
namespace Go.Proofs.Ytdhnjkagmbfoaaa.AM
open Go Go.RowKit
section
variable {P : Program} {X : Spec} {sz : Nat} {q : Bool} {d : Option Nat} {ty : Nat} {pos : String} {af : Array Edge} {g : Option (Nat × Bool)} {e : Env} {H : Hyp} {K : V → Hyp → Prop}
theorem loop_normal {Inv : Nat → Env → Hyp → Prop} {k k' : Nat} {Q : Post} {e' : Env} {H' : Hyp} (hk : k' < k) (h : Inv k' e' H') (h1 : ESub e e') (h2 : Sel H H') : inLoop Inv k Q .normal e H := ⟨k', hk, e', H', h1, h2, h⟩
theorem loop_exit {Inv : Nat → Env → Hyp → Prop} {k i : Nat} {Q : Post} (h : Q (.exit i) e H) : inLoop Inv k Q (.exit i) e H := h
theorem loop_ret {Inv : Nat → Env → Hyp → Prop} {k : Nat} {Q : Post} (h : Q .ret e H) : inLoop Inv k Q .ret e H := h
theorem ret_ret {rs : List ResultVar} {K : V → Hyp → Prop} {H' : Hyp} {vs : List V1} (h : resE e rs = some vs) (hs : Sel H H') (hk : K (retV vs) H') : retPost P rs K .ret e H := ret_tmps h hs hk
/-! ### Slicing -/
def bndE (e : Env) : Option Operand → Nat → Option Int
  | none, d => some d
  | some x, _ => match evE e x with
    | some (.one (.c (.int _ i))) => some i
    | _ => none
theorem bnd_of {fr : Fr} (hf : Has fr e) {x : Option Operand} {dflt : Nat} {i : Int} (h : bndE e x dflt = some i) (h0 : 0 ≤ i) : boundA fr x dflt = some i.toNat := by
  cases x with
  | none => simp only [bndE, Option.some.injEq] at h; subst h; rfl
  | some x =>
    simp only [bndE] at h
    split at h
    · rename_i k j hx
      cases h
      simp only [boundA, evC hf hx]; rw [if_pos h0]
    · cases h
theorem slice_lim {P : Program} {te n : Nat} {t : Nat} {s : St} (he : elemT P t = some te) (hn : sizeT P te = some n) {b off len lo hi dd : Nat} {cells : List Cell} {ty0 fam ver : Nat} (hg : s.get b = some (.blk cells ty0 n fam ver)) (hc : off = dd * n ∧ n = n ∧ 0 < n ∧ off + len * n ≤ cells.length) (hb : lo ≤ hi ∧ hi ≤ len) (hlo : lo < len ∨ lo = 0) :
    xSlice P s t (.sl b off len (.lim dd)) lo hi none = some (.one (.c (.sl b (off + lo * n) (hi - lo) (.lim (dd + lo)))), s) := by
  simp only [xSlice, he, hn, hg]
  rw [if_pos hb, if_pos ⟨hc.1, trivial, hc.2.2⟩, if_pos hlo]
/-- The part of a slice. -/
def sliceC (n : Nat) : Cell → Nat → Nat → Cell
  | .sl b off _ (.fix c), lo, hi => .sl b (if c = lo then off else off + lo * n) (hi - lo) (.fix (c - lo))
  | .sl b off len (.lim d), lo, hi => if lo < len ∨ lo = 0 then .sl b (off + lo * n) (hi - lo) (.lim (d + lo)) else .slh b off (off + lo * n) (d + lo)
  | c, _, _ => c
theorem Sl.slice {H1 : Hyp} {te n : Nat} {c : Cell} {len : Nat} {cells : List Cell} {lo hi : Nat} (hS : Sl H1 te n c len cells) (h1 : lo ≤ hi) (h2 : hi ≤ len) : Sl H1 te n (sliceC n c lo hi) (hi - lo) ((cells.drop (lo * n)).take ((hi - lo) * n)) := by
  have hcl := hS.size
  have hsz : ((cells.drop (lo * n)).take ((hi - lo) * n)).length = (hi - lo) * n := by
    rw [List.length_take, List.length_drop, hcl]
    have e1 : (hi - lo) * n + lo * n = hi * n := by rw [← Nat.add_mul]; congr 1; omega
    have e2 : hi * n ≤ len * n := Nat.mul_le_mul_right _ h2
    omega
  refine ⟨hsz, ?_⟩
  have hat := hS.at_
  rcases hat with ⟨rfl, rfl⟩ | ⟨hec, rfl⟩ | ⟨b, off, cap, rfl, ⟨own, row, m1, m2, m3, m4, m5⟩ | ⟨rfl, rfl, rfl, m1⟩⟩
  · exact .inl ⟨rfl, by omega⟩
  · refine .inr (.inl ⟨?_, by omega⟩)
    cases c <;> first | (cases hec; done) | rfl
  · have hin : ∀ a, a ≤ len → off + a * n ≤ off + len * n := fun a ha => Nat.add_le_add_left (Nat.mul_le_mul_right _ ha) _
    have hrd : (row.drop (off + lo * n)).take ((hi - lo) * n) = (cells.drop (lo * n)).take ((hi - lo) * n) := by
      rw [← m3, List.drop_take, List.take_take, List.drop_drop]
      congr 1
      rw [← Nat.sub_mul]
      have : (hi - lo) * n ≤ (len - lo) * n := Nat.mul_le_mul_right _ (by omega)
      omega
    have hend : off + lo * n + (hi - lo) * n ≤ row.length := by
      have e1 : lo * n + (hi - lo) * n = hi * n := by rw [← Nat.add_mul]; congr 1; omega
      have := hin hi h2
      omega
    cases cap with
    | fix cp =>
      have hcap := m5 cp rfl
      refine .inr (.inr ⟨b, _, _, rfl, .inl ⟨own, row, m1, ?_, ?_, (fun d e => by cases e), (fun m e => by cases e; omega)⟩⟩)
      · split
        · have : hi - lo = 0 := by omega
          rw [this]; omega
        · exact hend
      · split
        · have : hi - lo = 0 := by omega
          rw [this]; simp
        · exact hrd
    | lim dd =>
      have hoff := m4 dd rfl
      by_cases hlo' : lo < len ∨ lo = 0
      · refine .inr (.inr ⟨b, off + lo * n, .lim (dd + lo), by simp only [sliceC]; rw [if_pos hlo'], .inl ⟨own, row, m1, hend, hrd, (fun d e => ?_), (fun m e => by cases e)⟩⟩)
        cases e; rw [Nat.add_mul, hoff]
      · refine .inr (.inl ⟨by simp only [sliceC]; rw [if_neg hlo']; rfl, by omega⟩)
  · have e1 : lo = 0 := by omega
    have e2 : hi = 0 := by omega
    subst e1; subst e2
    refine .inr (.inr ⟨b, 0, .lim 0, ?_, .inr ⟨rfl, rfl, rfl, m1⟩⟩)
    simp [sliceC]
theorem xSlice_at {s : St} {H H1 : Hyp} {t te n : Nat} {c : Cell} {len : Nat} {cells : List Cell} {lo hi : Nat} (he : elemT P t = some te) (hn : sizeT P te = some n) (hn0 : 0 < n) (q2 : Hp s H) (hS : Sl H1 te n c len cells) (hsub : ∀ y ∈ H1, y ∈ H) (h1 : lo ≤ hi) (h2 : hi ≤ len) : xSlice P s t c lo hi none = some (.one (.c (sliceC n c lo hi)), s) := by
  have hat := hS.at_
  rcases hat with ⟨rfl, rfl⟩ | ⟨hec, rfl⟩ | ⟨b, off, cap, rfl, ⟨own, row, m1, m2, m3, m4, m5⟩ | ⟨rfl, rfl, rfl, m1⟩⟩
  · have e1 : lo = 0 := by omega
    have e2 : hi = 0 := by omega
    subst e1; subst e2
    simp [xSlice, sliceC, he, hn]
  · have e1 : lo = 0 := by omega
    have e2 : hi = 0 := by omega
    subst e1; subst e2
    cases c <;> first | (cases hec; done) | simp [xSlice, sliceC, he, hn]
  · cases cap with
    | fix cp =>
      have hcap := m5 cp rfl
      simp only [xSlice, he, hn, sliceC]
      rw [if_pos ⟨by omega, by omega⟩, if_pos (by omega)]
    | lim dd =>
      have hoff := m4 dd rfl
      obtain ⟨fam, ver, g1, g2, g3, g4⟩ := q2.fact _ (hsub _ m1)
      have g1' : s.get b = some (.blk row te n fam ver) := g1
      simp only [xSlice, he, hn, g1', sliceC]
      rw [if_pos ⟨by omega, by omega⟩, if_pos ⟨hoff, trivial, hn0, m2⟩]
      split <;> rfl
  · have e1 : lo = 0 := by omega
    have e2 : hi = 0 := by omega
    subst e1; subst e2
    obtain ⟨fam, g1⟩ := q2.fact _ (hsub _ m1)
    have g1' : s.get b = some (.blk [] te n fam 0) := g1
    rw [slice_lim he hn g1' ⟨by omega, rfl, hn0, by simp⟩ ⟨by omega, by omega⟩ (.inr rfl)]
    simp [sliceC]
theorem op_sliceD {H1 : Hyp} {t te n : Nat} {x : Operand} {lo hi : Option Operand} {c : Cell} {len : Nat} {cells : List Cell} {l h : Int} (he : elemT P t = some te) (hn : sizeT P te = some n) (hn0 : 0 < n) (hx : evE e x = some (.one (.c c))) (hS : Sl H1 te n c len cells) (hsub : ∀ y ∈ H1, y ∈ H) (hlo : bndE e lo 0 = some l) (hhi : bndE e hi len = some h) (h0 : 0 ≤ l) (h1 : l ≤ h) (h2 : h ≤ len)
    (k : K (.one (.c (sliceC n c l.toNat h.toNat))) H) : OpW P X q ⟨d, .slice t x lo hi none, ty, pos, af, g⟩ e H K := by
  intro fr s q1 q2
  have b1 := bnd_of q1 hlo h0
  have b2 := bnd_of q1 hhi (by omega)
  have hlen := hS.len
  have hns := hS.ns
  refine ⟨0, _, s, _, ?_, q2, k, fun _ _ => rfl⟩
  have hx' := xSlice_at (P := P) (t := t) (s := s) he hn hn0 q2 hS hsub (lo := l.toNat) (hi := h.toNat) (by omega) (by omega)
  simp only [opRun, evC q1 hx, hlen]
  have hb2 : boundA fr hi len = some h.toNat := b2
  cases c with
  | str s0 => exact absurd rfl (hns s0)
  | _ => simp only [b1, hb2]; exact hx'
/-- What an update leaves, and a deletion. -/
def putA (es : List (V1 × V1 × Nat)) (clock : Nat) (key v : V1) : Option (Nat × V1) → Fact
  | some p => .map (es.modify p.1 fun x => (key, v, x.2.2)) clock
  | none => .map (es ++ [(key, v, clock)]) (clock + 1)
/-! ### Shorter ways -/
theorem El.cons {x : Nat × Fact} {b o : Nat} {cs : List Cell} (h : El H b o cs) : El (x :: H) b o cs := h.sub fun y hy => List.mem_cons_of_mem _ hy
theorem El.app {N : Hyp} {b o : Nat} {cs : List Cell} (h : El H b o cs) : El (N ++ H) b o cs := h.sub fun y hy => List.mem_append_right _ hy
theorem Pick.app {b : Nat} {f : Fact} {H' : Hyp} : ∀ (N : Hyp), Pick b f H H' → Pick b f (N ++ H) (N ++ H')
  | [], h => h
  | x :: N, h => .tail x (Pick.app N h)
theorem PickL.skip {N H1 : Hyp} (x : Nat × Fact) (h : PickL N H H1) : PickL N (x :: H) (x :: H1) := by
  induction h with
  | nil H => exact .nil _
  | cons h t ih => exact .cons (.tail x h) ih
theorem PickL.skipL {N H1 : Hyp} : ∀ (M : Hyp), PickL N H H1 → PickL N (M ++ H) (M ++ H1)
  | [], h => h
  | x :: M, h => PickL.skip x (PickL.skipL M h)
theorem Sel.pickL {N H1 H2 : Hyp} (h : PickL N H H1) (q : Sel H1 H2) : Sel H (N ++ H2) := by
  induction h with
  | nil H => exact q
  | cons h t ih => exact .pick h (ih q)
theorem Sel.assocR {A B C : Hyp} (h : Sel H (A ++ (B ++ C))) : Sel H ((A ++ B) ++ C) := by rw [List.append_assoc]; exact h
theorem Sel.assocL {A B C H' : Hyp} (h : Sel (A ++ (B ++ C)) H') : Sel ((A ++ B) ++ C) H' := by rw [List.append_assoc]; exact h
theorem Sel.dropL : ∀ (N : Hyp) {H H' : Hyp}, Sel H H' → Sel (N ++ H) H'
  | [], _, _, q => q
  | x :: N, _, _, q => .drop x (Sel.dropL N q)
theorem op_loadF {t : Nat} {x : Operand} {b o j : Nat} {cs : List Cell} {c : Cell} (ht : aggT P t = some false) (hx : evE e x = some (ptrV b (o + j))) (hE : El H b o cs) (hc : cs[j]? = some c) (k : K (.one (.c c)) H) : OpW P X q ⟨d, .load t x, ty, pos, af, g⟩ e H K := by
  refine op_load1 ht hx ?_ k
  have hj := (List.getElem?_eq_some_iff.1 hc).1
  have := hE.part (j := j) (n := 1) (by omega)
  have e1 : (cs.drop j).take 1 = [c] := by
    rw [List.take_one, List.head?_drop, hc]; rfl
  rw [e1] at this; exact this
theorem flatMap_len {α : Type} {enc : α → List Cell} {n : Nat} (henc : ∀ x, (enc x).length = n) : ∀ (xs : List α), (xs.flatMap enc).length = xs.length * n
  | [] => by simp
  | x :: xs => by rw [List.flatMap_cons, List.length_append, flatMap_len henc xs, henc, List.length_cons, Nat.add_mul]; omega
theorem flatMap_at {α : Type} {enc : α → List Cell} {n : Nat} (henc : ∀ x, (enc x).length = n) : ∀ {xs : List α} {j : Nat} {x : α}, xs[j]? = some x → ((xs.flatMap enc).drop (j * n)).take n = enc x
  | [], j, x, h => by simp at h
  | y :: xs, 0, x, h => by
    simp at h; subst h
    rw [Nat.zero_mul, List.drop_zero, List.flatMap_cons, ← henc y, List.take_left]
  | y :: xs, j + 1, x, h => by
    simp at h
    rw [List.flatMap_cons, Nat.add_mul, Nat.one_mul, Nat.add_comm, ← List.drop_drop]
    have : (enc y ++ xs.flatMap enc).drop n = xs.flatMap enc := by rw [← henc y, List.drop_left]
    rw [this]; exact flatMap_at henc h
theorem op_indexT {α : Type} {xs : List α} {enc : α → List Cell} {t te n : Nat} {x y : Operand} {c : Cell} {k0 : IntKind} {i : Int} {j : Nat} (hu : P.underlying t = some (.slice te)) (hn : sizeT P te = some n) (hx : evE e x = some (.one (.c c))) (hy : evE e y = some (.one (.c (.int k0 i)))) (h : Sl H te n c xs.length (xs.flatMap enc)) (henc : ∀ x, (enc x).length = n) (hi : i = (j : Int)) (hj : j < xs.length)
    (k : ∀ b o z, xs[j]? = some z → El H b o (enc z) → K (ptrV b o) H) : OpW P X q ⟨d, .indexAddr t x y, ty, pos, af, g⟩ e H K := by
  subst hi
  have hg : xs[j]? = some xs[j] := List.getElem?_eq_getElem hj
  exact op_indexSl hu hn hx hy h (by omega) (by omega) (flatMap_at henc (by simp)) fun b o hE => k b o _ hg hE
def LenC (c : Cell) (n : Nat) : Prop := lenA c = some n ∧ ∀ s, c ≠ .str s
theorem Sl.lenC {te n len : Nat} {c : Cell} {cells : List Cell} (h : Sl H te n c len cells) : LenC c len := ⟨h.len, h.ns⟩
theorem op_lenC {t te n : Nat} {x : Operand} {c : Cell} {ats : List TypeId} (hu : P.underlying t = some (.slice te)) (hx : evE e x = some (.one (.c c))) (hl : LenC c n) (k : K (vI (n : Nat)) H) : OpW P X q ⟨d, .call ⟨.builtin .len, ⟨[x]⟩, ⟨t :: ats⟩⟩, ty, pos, af, g⟩ e H K := op_len hu hx hl.1 hl.2 k
/-- More elements. -/
theorem op_appendT {α : Type} {xs ys : List α} {enc : α → List Cell} {t te n : Nat} {t1 : Nat} {ats : List TypeId} {x y : Operand} {c c' : Cell} {N H1 : Hyp} {B : Nat} {z : List Cell} {te' : Nat} (he : elemT P t = some te) (hi : ∃ i, P.info? te = some i ∧ i.size = n ∧ i.bytes = B) (hz : zeroT P te = some z) (hc : z.length = n ∧ 0 < n ∧ 0 < B) (hu : P.underlying t1 = some (.slice te'))
    (hx : evE e x = some (.one (.c c))) (hy : evE e y = some (.one (.c c'))) (hO : Own te n c (xs.flatMap enc) N) (henc : ∀ x, (enc x).length = n) (hp : PickL N H H1) (h : Sl H te n c' ys.length (ys.flatMap enc)) (hB : (xs.length + ys.length) * B ≤ 16777216)
    (k : ∀ c'' N', Own te n c'' ((xs ++ ys).flatMap enc) N' → K (.one (.c c'')) (N' ++ H1)) : OpW P X q ⟨d, .call ⟨.builtin .append, ⟨[x, y]⟩, ⟨t :: t1 :: ats⟩⟩, ty, pos, af, g⟩ e H K :=
  op_append he hi hz hc hu hx hy hO (flatMap_len henc xs) hp h (Nat.le_trans hB (by decide)) fun c'' N' hO' => k c'' N' (by rw [List.flatMap_append]; exact hO')
theorem neq_of {t : Nat} {x y : Value} {r : Bool} (hb : binOp .neq t x y = (do pure (.bool (!(← Op.equal t x y))))) (h : ∀ n, pure? P (Op.equalIn (n + 4) t x y) = some r) : pure? P (binOp .neq t x y) = some (.bool (!r)) := by
  have h' : pure? P (Op.equal t x y) = some r := h 9996
  rw [hb, pure?_bind', h']; rfl
end
end Go.Proofs.Ytdhnjkagmbfoaaa.AM
