/- The abstract machine's operations: each does what the model's does. -/
import Derived.Test.YtlmmeihgjpgooaaAMS10
import Derived.Orders
set_option linter.unusedSimpArgs false
set_option linter.unusedVariables false
namespace Go.Proofs.Ytlmmeihgjpgooaa.AM
open Go Go.RowKit Go.MapKept
section
variable {P : Program} {w0 w : World} {μ : Map} {s : St}

def concVs (μ : Map) : List V → Option (List Value)
  | [] => some []
  | v :: vs => match v.conc μ, concVs μ vs with
    | some x, some xs => some (x :: xs)
    | _, _ => none
theorem concVs_cons {v : V} {vs : List V} {l : List Value} : concVs μ (v :: vs) = some l ↔ ∃ x xs, v.conc μ = some x ∧ concVs μ vs = some xs ∧ l = x :: xs := by
  simp only [concVs]
  cases v.conc μ <;> cases concVs μ vs <;> simp [eq_comm]
theorem concVs_append : ∀ {a b : List V} {va vb : List Value}, concVs μ a = some va → concVs μ b = some vb → concVs μ (a ++ b) = some (va ++ vb)
  | [], b, va, vb, h1, h2 => by simp [concVs] at h1; subst h1; simpa using h2
  | e :: es, b, va, vb, h1, h2 => by
    obtain ⟨k, r, q1, q2, rfl⟩ := concVs_cons.1 h1
    exact concVs_cons.2 ⟨k, _, q1, concVs_append q2 h2, rfl⟩
/-- A function that runs elsewhere does what the model's does. -/
def CallOK (P : Program) (callF : CallF) : Prop :=
  ∀ f args s v s', callF f args s = some (v, s') → (∃ fn, P.funcs[f]? = some fn ∧ fn.body.isSome = true) ∧
    ∀ w0 μ w vals, Rel w0 μ s w → concVs μ args = some vals → Calls P f vals.toArray w fun e w' => ∃ μ' v', Sub μ μ' ∧ v.conc μ' = some v' ∧ e = .returned v' ∧ Rel w0 μ' s' w'
/-- What is told of functions holds. -/
def SpecOK (P : Program) (X : Spec) : Prop :=
  ∀ f vals r, X f vals = some r → (∃ fn, P.funcs[f]? = some fn ∧ fn.body.isSome = true) ∧ ∀ w, Calls P f vals.toArray w fun e w' => e = .returned r ∧ Below w.heap.size w w'
def PlainNames (P : Program) : Prop := ∀ (f : Nat) (fn : Func), P.funcs[f]? = some fn → fn.body.isSome = true → (fn.name == "runtime.NumGoroutine") = false

theorem pureOp_sim (h : Rel w0 μ s w) {fr : List V} {a : Act} (hf : FrRel μ fr a.tmps) {o : Oper} (hsel : ∀ cs b, o.op ≠ .select cs b) {v : V} {s' : St} (hx : pureOp P fr s o = some (v, s')) : OpRes P w0 μ v s' ((execOp a.eval o).run P w) := by
  unfold pureOp at hx
  split at hx
  · rename_i hall
    split at hx
    · rename_i u hu
      simp only [Option.map_eq_some_iff, Prod.mk.injEq] at hx
      obtain ⟨r, hr, rfl, rfl⟩ := hx
      have heq : execOp (fun x => (scalarOf fr x).getD undef) o = execOp a.eval o := by
        refine execOp_congr o hsel fun x hxm => ?_
        rw [List.all_eq_true] at hall
        have := hall x (by simpa using hxm)
        obtain ⟨y, hy⟩ := Option.isSome_iff_exists.1 this
        rw [hy, Option.getD_some]
        unfold scalarOf at hy
        obtain ⟨c, hc, hcy⟩ := Option.bind_eq_some_iff.1 hy
        have h1 := evalO_conc hf hc
        have h2 := V.conc_mono (sub_nowhere μ) hcy
        rw [h1] at h2
        exact (Option.some.inj h2).symm
      rw [heq] at hu
      exact .inl ⟨μ, u, w, Sub.refl _, ofV_conc hr, h, .inl (pure?_run hu w)⟩
    · cases hx
  · cases hx
theorem argsOf_conc {fr : List V} {a : Act} (hf : FrRel μ fr a.tmps) : ∀ {l : List Operand} {vs}, argsOf fr l = some vs → concVs μ vs = some (l.map a.eval)
  | [], vs, e => by simp [argsOf] at e; subst e; rfl
  | x :: l, vs, e => by
    simp only [argsOf] at e
    cases h1 : evalO fr x with
    | none => simp [h1] at e
    | some v =>
      cases h2 : argsOf fr l with
      | none => simp [h1, h2] at e
      | some qs => simp only [h1, h2, Option.some.injEq] at e; subst e; exact concVs_cons.2 ⟨_, _, evalO_conc hf h1, argsOf_conc hf h2, rfl⟩
theorem scalars_conc : ∀ {vs : List V} {l : List Value}, scalars vs = some l → ∀ μ, concVs μ vs = some l
  | [], l, e, μ => by simp [scalars] at e; subst e; rfl
  | v :: vs, l, e, μ => by
    simp only [scalars] at e
    cases h1 : v.conc nowhere with
    | none => simp [h1] at e
    | some x =>
      cases h2 : scalars vs with
      | none => simp [h1, h2] at e
      | some qs => simp only [h1, h2, Option.some.injEq] at e; subst e; exact concVs_cons.2 ⟨_, _, V.conc_mono (sub_nowhere μ) h1, scalars_conc h2 μ, rfl⟩
theorem caps_conc : ∀ {ps : List (Nat × Nat)} {l : List Value}, concPtrs μ ps = some l → concVs μ (ps.map fun p => ptrV p.1 p.2) = some l
  | [], l, e => by simp [concPtrs] at e; subst e; rfl
  | p :: ps, l, e => by
    simp only [concPtrs] at e
    cases h1 : μ p.1 with
    | none => simp [h1] at e
    | some x =>
      cases h2 : concPtrs μ ps with
      | none => simp [h1, h2] at e
      | some qs => simp only [h1, h2, Option.some.injEq] at e; subst e; exact concVs_cons.2 ⟨_, _, by simp [ptrV, V.conc, V1.conc, Cell.conc, h1], caps_conc h2, rfl⟩
theorem capPtrs_conc {fr : List V} {a : Act} (hf : FrRel μ fr a.tmps) : ∀ {l : List Operand} {ps}, capPtrs (l.map (evalC fr)) = some ps → concPtrs μ ps = some (l.map a.eval)
  | [], ps, e => by simp [capPtrs] at e; subst e; rfl
  | x :: l, ps, e => by
    simp only [List.map_cons] at e
    cases hq : evalC fr x with
    | none => simp [hq, capPtrs] at e
    | some c =>
      rw [hq] at e
      cases c <;> simp only [capPtrs, Option.map_eq_some_iff, reduceCtorEq] at e
      rename_i b off
      obtain ⟨ps', h1, rfl⟩ := e
      obtain ⟨L, hL, hv⟩ := conc_ptr (evalC_conc hf hq)
      simp only [concPtrs, hL, capPtrs_conc hf h1, List.map_cons, hv]
theorem callFunc_run (hN : PlainNames P) {f : Nat} {fn : Func} (hf : P.funcs[f]? = some fn) (hb : fn.body.isSome = true) (args : Array Value) (w : World) : (callFunc f args).run P w = .ok (.enter f args) w := by
  have h1 : ¬ fn.name = "runtime.NumGoroutine" := by simpa using hN f fn hf hb
  have h2 : ¬ fn.body = none := by intro h; rw [h] at hb; cases hb
  simp [callFunc, hf, h1, h2]
theorem opRun_sim {X : Spec} {callF : CallF} (hC : CallOK P callF) (hX : SpecOK P X) (hN : PlainNames P) (h : Rel w0 μ s w) {fr : List V} {a : Act} (hf : FrRel μ fr a.tmps) {o : Oper} {v : V} {s' : St} (hx : opRun P X callF fr s o = some (v, s')) :
    OpRes P w0 μ v s' ((execOp a.eval o).run P w) := by
  unfold opRun at hx
  split at hx
  · -- move
    rename_i x hop
    simp only [Option.map_eq_some_iff, Prod.mk.injEq] at hx
    obtain ⟨u, hu, rfl, rfl⟩ := hx
    exact .inl ⟨μ, _, w, Sub.refl _, evalO_conc hf hu, h, .inl (by simp [execOp, hop])⟩
  · rename_i x hop
    simp only [Option.map_eq_some_iff, Prod.mk.injEq] at hx
    obtain ⟨u, hu, rfl, rfl⟩ := hx
    exact .inl ⟨μ, _, w, Sub.refl _, evalO_conc hf hu, h, .inl (by simp [execOp, hop])⟩
  · -- pick
    rename_i c x y hop
    split at hx
    · rename_i t hc
      simp only [Option.map_eq_some_iff, Prod.mk.injEq] at hx
      obtain ⟨u, hu, rfl, rfl⟩ := hx
      have hcc := evalC_conc hf hc
      simp only [Cell.conc, Option.some.injEq] at hcc
      refine .inl ⟨μ, _, w, Sub.refl _, evalO_conc hf hu, h, .inl ?_⟩
      cases t <;> simp [execOp, hop, ← hcc, asBool]
    · cases hx
  · -- alloc
    rename_i t hop
    simp only [execOp, hop]
    exact (xAlloc_sim h hx).op
  · -- box
    rename_i t x hop
    obtain ⟨u, hu, hx⟩ := Option.bind_eq_some_iff.1 hx
    simp only [execOp, hop]
    exact (xBox_sim h (eval1_conc hf hu) hx).op
  · -- load
    rename_i t x hop
    split at hx
    · rename_i b off hb
      simp only [execOp, hop]
      exact (xLoad_sim h (evalC_conc hf hb) hx).op
    · cases hx
  · -- store
    rename_i t x y hop
    split at hx
    · rename_i b off u hb hu
      simp only [execOp, hop]
      obtain ⟨rfl, w', q1, q2⟩ := xStore_sim h (evalC_conc hf hb) (eval1_conc hf hu) hx
      exact .inl ⟨μ, undef, w', Sub.refl _, rfl, q1, .inr ⟨by simp [q2], rfl⟩⟩
    · cases hx
  · -- nilCheck
    rename_i x hop
    split at hx
    · rename_i b off hb
      cases hx
      have := evalC_conc hf hb
      obtain ⟨l, hl, hv⟩ := conc_ptr this
      exact .inl ⟨μ, _, w, Sub.refl _, this, h, .inl (by simp [execOp, hop, hv])⟩
    · cases hx
  · -- fieldAddr
    rename_i t x f hop
    split at hx
    · rename_i b off hb
      simp only [execOp, hop]
      exact (xFieldAddr_sim h (evalC_conc hf hb) hx).op
    · cases hx
  · -- field
    rename_i t x f hop
    split at hx
    · rename_i cs hb
      simp only [execOp, hop]
      exact (xField_sim h (eval1_conc hf hb) hx).op
    · cases hx
  · -- build
    rename_i t parts hop
    obtain ⟨ps, hps, hx⟩ := Option.bind_eq_some_iff.1 hx
    simp only [execOp, hop]
    exact (xBuild_sim h (by simpa using evalParts_conc hf hps) hx).op
  · -- buildSlice
    rename_i t len parts hop
    obtain ⟨ps, hps, hx⟩ := Option.bind_eq_some_iff.1 hx
    simp only [execOp, hop]
    exact (xBuildSlice_sim h (by simpa using evalParts_conc hf hps) hx).op
  · -- makeSlice
    rename_i t len cap hop
    split at hx
    · rename_i l c hl hc
      have h1 := evalC_conc hf hl
      have h2 := evalC_conc hf hc
      simp only [Cell.conc, Option.some.injEq] at h1 h2
      simp only [execOp, hop, ← h1, ← h2]
      exact (xMakeSlice_sim h hx).op
    · cases hx
  · -- indexAddr
    rename_i t x ix hop
    split at hx
    · rename_i c k i hc hi
      have h2 := evalC_conc hf hi
      simp only [Cell.conc, Option.some.injEq] at h2
      simp only [execOp, hop, ← h2]
      exact (xIndexAddr_sim h (evalC_conc hf hc) hx).op
    · cases hx
  · -- slice
    rename_i t x lo hi mx hop
    split at hx
    · exact pureOp_sim h hf (by intro cs b; rw [hop]; simp) hx
    · rename_i c hns hc
      have hcc := evalC_conc hf hc
      split at hx
      · rename_i len hlen
        split at hx
        · rename_i l hh hl hh'
          have b1 := boundA_is hf hl
          have b2 : ∀ n, (lenA c = some n ∨ (∃ b off e, c = .ptr b off ∧ P.underlying t = some (.array n e))) → BoundIs (hi.map a.eval) n hh := by
            intro n hn
            rcases hn with hn | ⟨b, off, e, rfl, _⟩
            · rw [hlen] at hn; cases hn; exact boundA_is hf hh'
            · simp [lenA] at hlen
          have hstr : ∀ b, c ≠ .str b := by intro b e; subst e; exact hns b rfl
          simp only [execOp, hop]
          split at hx
          · exact (xSlice_sim h hcc b1 b2 (.inl ⟨rfl, rfl⟩) hx hstr).op
          · rename_i m
            split at hx
            · rename_i hio mv hm
              refine (xSlice_sim h hcc b1 b2 (.inr ?_) hx hstr).op
              have b3 := boundA_is hf hm
              rcases b3 with ⟨q, _⟩ | ⟨k', q⟩
              · cases q
              · have b4 := boundA_is hf hh'
                rcases b4 with ⟨q4, _⟩ | ⟨k4, q4⟩
                · simp at q4
                · exact ⟨k4, k', mv, q4, q, rfl⟩
            · cases hx
        · cases hx
      · rename_i hlen
        split at hx
        · rename_i b off n e hu
          split at hx
          · rename_i l hh hl hh'
            have b1 := boundA_is hf hl
            have b2 : ∀ m, (lenA (.ptr b off) = some m ∨ (∃ b' off' e', Cell.ptr b off = .ptr b' off' ∧ P.underlying t = some (.array m e'))) → BoundIs (hi.map a.eval) m hh := by
              intro m hm
              rcases hm with hm | ⟨b', off', e', _, hu'⟩
              · simp [lenA] at hm
              · rw [hu] at hu'; cases hu'; exact boundA_is hf hh'
            simp only [execOp, hop]
            exact (xSlice_sim h hcc b1 b2 (.inl ⟨rfl, rfl⟩) hx (by intro b e; cases e)).op
          · cases hx
        · cases hx
    · cases hx
  · -- makeFunc
    rename_i f captured hop
    simp only [Option.map_eq_some_iff, Prod.mk.injEq] at hx
    obtain ⟨l, hl, rfl, rfl⟩ := hx
    have := capPtrs_conc hf hl
    refine .inl ⟨μ, .func (.func f) #[] (captured.map a.eval), w, Sub.refl _, ?_, h, .inl (by simp [execOp, hop, Instr.makeFunc])⟩
    simp only [V.conc, V1.conc, Cell.conc, this, Option.map_some]
    congr 2
    apply Array.ext'; simp
  · -- makeMap
    rename_i t hop
    simp only [Option.map_eq_some_iff, Prod.mk.injEq] at hx
    obtain ⟨d, hd, rfl, rfl⟩ := hx
    refine .inl ⟨_, .map (some w.heap.size), _, sub_upd ⟨w.heap.size, 0, 0⟩ h.fresh, by simp [V.conc, V1.conc, Cell.conc, upd_self], h.pushed (.map [] 0) ⟨w.heap.size, 0, 0⟩ (below_alloc' w (.map #[] 0)) (Nat.le_refl _) ⟨h.size, #[], heap_push_new w _, rfl⟩, .inl ?_⟩
    simp [execOp, hop, Instr.makeMap]
  · -- lookup
    rename_i t x ix ok hop
    split at hx
    · rename_i c k hc hk
      simp only [execOp, hop]
      exact (xLookup_sim h (evalC_conc hf hc) (eval1_conc hf hk) hx).op
    · cases hx
  · -- mapUpdate
    rename_i t m k u hop
    split at hx
    · rename_i b k' u' hb hk hu
      simp only [execOp, hop]
      obtain ⟨rfl, w', q1, q2⟩ := xMapUpdate_sim h (evalC_conc hf hb) (eval1_conc hf hk) (eval1_conc hf hu) hx
      exact .inl ⟨μ, undef, w', Sub.refl _, rfl, q1, .inr ⟨by simp [q2], rfl⟩⟩
    · cases hx
  · -- range
    rename_i t x hop
    obtain ⟨c, hc, hx⟩ := Option.bind_eq_some_iff.1 hx
    simp only [execOp, hop]
    exact (xRange_sim h (evalC_conc hf hc) hx).op
  · -- next
    rename_i it hop
    split at hx
    · rename_i b off hb
      simp only [execOp, hop]
      exact (xNext_sim h (evalC_conc hf hb) hx).op
    · cases hx
  · -- extract
    rename_i x ix hop
    split at hx
    · rename_i vs hvs
      simp only [Option.map_eq_some_iff, Prod.mk.injEq] at hx
      obtain ⟨u, hu, rfl, rfl⟩ := hx
      have := evalO_conc hf hvs
      simp only [V.conc, Option.map_eq_some_iff] at this
      obtain ⟨l, hl, hv⟩ := this
      obtain ⟨y, q1, q2⟩ := conc1s_get hl hu
      exact .inl ⟨μ, y, w, Sub.refl _, q2, h, .inl (by simp [execOp, hop, Instr.extract, ← hv, q1])⟩
    · cases hx
  · -- convert
    rename_i src dst x hop
    split at hx
    · rename_i hc
      simp only [execOp, hop]
      exact (xBytesToString_sim h (evalC_conc hf hc) hx).op
    · rename_i b off len cap hc
      simp only [execOp, hop]
      exact (xBytesToString_sim h (evalC_conc hf hc) hx).op
    · exact pureOp_sim h hf (by intro cs b; rw [hop]; simp) hx
  · -- binOp
    rename_i op t x y ty hop
    split at hx
    · rename_i ca cb ha hb
      split at hx
      · rename_i r hr
        split at hx
        · rename_i hk
          have q := nil_eq_sim (P := P) (t := t) (evalC_conc hf ha) (evalC_conc hf hb) hr hk x y w
          split at hx
          · cases hx
            have z := VRes.op (P := P) (w := w) (x := (do eqGuard .eql t x y (a.eval x) (a.eval y); binOp .eql t (a.eval x) (a.eval y))) (show VRes w0 μ (.one (.c (.bool r))) s _ from ⟨μ, .bool r, w, Sub.refl _, rfl, h, q.1⟩)
            simpa [execOp, hop] using z
          · cases hx
            have z := VRes.op (P := P) (w := w) (x := (do eqGuard .neq t x y (a.eval x) (a.eval y); binOp .neq t (a.eval x) (a.eval y))) (show VRes w0 μ (.one (.c (.bool !r))) s _ from ⟨μ, .bool !r, w, Sub.refl _, rfl, h, q.2⟩)
            simpa [execOp, hop] using z
          · cases hx
        · cases hx
      · exact pureOp_sim h hf (by intro cs b; rw [hop]; simp) hx
    · exact pureOp_sim h hf (by intro cs b; rw [hop]; simp) hx
  · -- builtins
    rename_i b args argTypes hop
    split at hx
    · rename_i x t ts hargs hats
      obtain ⟨u, hu, hx⟩ := Option.bind_eq_some_iff.1 hx
      have ha : args = #[x] := by apply Array.ext'; simpa using hargs
      have q := (xLen_sim (ty := o.type) h hats (eval1_conc hf hu) hx).op (P := P)
      simpa [execOp, hop, resolve, invoke, builtin, ha] using q
    · rename_i x t ts hargs hats
      obtain ⟨u, hu, hx⟩ := Option.bind_eq_some_iff.1 hx
      have ha : args = #[x] := by apply Array.ext'; simpa using hargs
      have q := (xCap_sim (ty := o.type) h hats (evalC_conc hf hu) hx).op (P := P)
      simpa [execOp, hop, resolve, invoke, builtin, ha] using q
    · rename_i x t ts hargs hats
      obtain ⟨u, hu, hx⟩ := Option.bind_eq_some_iff.1 hx
      have ha : args = #[x] := by apply Array.ext'; simpa using hargs
      have q := (xClear_sim (ty := o.type) h hats (evalC_conc hf hu) hx).op (P := P)
      simpa [execOp, hop, resolve, invoke, builtin, ha] using q
    · rename_i x y t0 ts hargs hats
      split at hx
      · rename_i cx cy hcx hcy
        have ha : args = #[x, y] := by apply Array.ext'; simpa using hargs
        have q := (xAppend_sim (ty := o.type) h hats (evalC_conc hf hcx) (evalC_conc hf hcy) hx).op (P := P)
        simpa [execOp, hop, resolve, invoke, builtin, ha] using q
      · cases hx
    · rename_i x y t0 ts hargs hats
      split at hx
      · rename_i cx cy hcx hcy
        have ha : args = #[x, y] := by apply Array.ext'; simpa using hargs
        have q := (xCopy_sim (ty := o.type) h hats (evalC_conc hf hcx) (evalC_conc hf hcy) hx).op (P := P)
        simpa [execOp, hop, resolve, invoke, builtin, ha] using q
      · cases hx
    · rename_i m k t ts hargs hats
      split at hx
      · rename_i bb kk hb hk
        have ha : args = #[m, k] := by apply Array.ext'; simpa using hargs
        have q := (xDelete_sim (ty := o.type) h hats (evalC_conc hf hb) (eval1_conc hf hk) hx).op (P := P)
        simpa [execOp, hop, resolve, invoke, builtin, ha] using q
      · cases hx
    · exact pureOp_sim h hf (by intro cs b; rw [hop]; simp) hx
    · exact pureOp_sim h hf (by intro cs b; rw [hop]; simp) hx
    · cases hx
  · -- a function
    rename_i g args argTypes hop
    split at hx
    · rename_i f caps vs hg hvs
      have hgc := evalC_conc hf hg
      simp only [Cell.conc, Option.map_eq_some_iff] at hgc
      obtain ⟨cl, hcl, hgv⟩ := hgc
      have hargs := concVs_append (argsOf_conc hf hvs) (caps_conc hcl)
      have henter : ∀ fn, P.funcs[f]? = some fn → fn.body.isSome = true → (execOp a.eval o).run P w = .ok (.enter f ((args.toList.map a.eval) ++ cl).toArray) w := by
        intro fn h1 h2
        have := callFunc_run hN h1 h2 (((args.toList.map a.eval) ++ cl).toArray) w
        have e1 : args.map a.eval ++ cl.toArray = ((args.toList.map a.eval) ++ cl).toArray := by apply Array.ext'; simp
        simp [execOp, hop, resolve, ← hgv, Deferred.ofValue, invoke, e1, this]
      unfold xCallFn at hx
      split at hx
      · rename_i r hr
        simp only [Option.map_eq_some_iff, Prod.mk.injEq] at hx
        obtain ⟨u, hu, rfl, rfl⟩ := hx
        obtain ⟨vals, hv1, hv2⟩ := Option.bind_eq_some_iff.1 hr
        obtain ⟨⟨fn, h1, h2⟩, hcalls⟩ := hX _ _ _ hv2
        have := scalars_conc hv1 μ
        rw [hargs] at this
        cases this
        refine .inr ⟨f, _, w, henter fn h1 h2, (hcalls w).mono fun e w' q => ?_⟩
        obtain ⟨rfl, hb⟩ := q
        exact ⟨μ, r, Sub.refl _, ofV_conc hu, rfl, h.world hb h.size⟩
      · obtain ⟨⟨fn, h1, h2⟩, hcalls⟩ := hC _ _ _ _ _ hx
        exact .inr ⟨f, _, w, henter fn h1 h2, hcalls w0 μ w _ h hargs⟩
    · cases hx
  · rename_i hop; exact pureOp_sim h hf (by intro cs b; rw [hop]; simp) hx
  · rename_i hop; exact pureOp_sim h hf (by intro cs b; rw [hop]; simp) hx
  · cases hx
end
end Go.Proofs.Ytlmmeihgjpgooaa.AM
