/- The abstract machine's regions that draw their order, the theorem; code, loops, calls. -/
import Derived.Test.YtlmmeihgjpgooaaAMS14
set_option linter.unusedSimpArgs false
set_option linter.unusedVariables false
namespace Go.Proofs.Ytlmmeihgjpgooaa.AM
open Go Go.RowKit Go.MapKept
section
variable {P : Program} {w0 : World} {ops : Array Oper}

/-! ### The static part -/
structure Static (ops : Array Oper) : Prop where
  edge : ∀ (i : Nat) (o : Oper), ops[i]? = some o → ∀ e ∈ o.after.toList, Region.binds .any e = true → e.on < i
  bef : ∀ (i : Nat) (o : Oper) (j : Nat), ops[i]? = some o → j < ops.size → bitB (Region.before ops) i j = true → ∃ e ∈ o.after.toList, Region.binds .any e = true ∧ (j = e.on ∨ bitB (Region.before ops) e.on j = true)
  vars : ∀ (i : Nat) (o : Oper) (j : Nat) (u : Oper) (d : Nat), ops[i]? = some o → ops[j]? = some u → j ≠ i → u.dst = some d → (o.dst = some d ∨ d ∈ o.looksAt ops) → (if j < i then bitB (Region.before ops) i j else bitB (Region.before ops) j i) = true
  movers : ∀ (i : Nat) (o : Oper) (j : Nat) (u : Oper), ops[i]? = some o → ops[j]? = some u → isMover o.op = true → isMover u.op = true → j < i → bitB (Region.before ops) i j = true
theorem static_of (h : staticOK ops = true) : Static ops := by
  unfold staticOK at h
  simp only [List.all_eq_true, List.mem_range] at h
  have hi : ∀ (i : Nat) (o : Oper), ops[i]? = some o → i < ops.size := fun i o ho => (Array.getElem?_eq_some_iff.1 ho).1
  refine ⟨fun i o ho e he hb => ?_, fun i o j ho hj hb => ?_, fun i o j u d ho hu hne hd hn => ?_, fun i o j u ho hu h1 h2 hlt => ?_⟩
  · have := h i (hi i o ho)
    rw [ho] at this
    simp only [Bool.and_eq_true, List.all_eq_true] at this
    have := this.1.1 e he
    simpa [hb] using this
  · have := h i (hi i o ho)
    rw [ho] at this
    simp only [Bool.and_eq_true, List.all_eq_true, List.mem_range] at this
    have := this.1.2 j hj
    rw [hb] at this
    simp only [Bool.not_true, Bool.false_or, List.any_eq_true, Bool.and_eq_true, Bool.or_eq_true, beq_iff_eq] at this
    exact this
  · have := h i (hi i o ho)
    rw [ho] at this
    simp only [Bool.and_eq_true, List.all_eq_true, List.mem_range] at this
    have := this.2 j (hi j u hu)
    rw [hu] at this
    have hnm : (o.dst == some d || (o.looksAt ops).contains d) = true := by
      rcases hn with hn | hn
      · simp [hn]
      · simp [hn]
    simp only [hd, hnm, Bool.not_true, Bool.false_or, Bool.and_eq_true, Bool.or_eq_true, beq_iff_eq] at this
    exact this.1.resolve_left hne
  · have := h i (hi i o ho)
    rw [ho] at this
    simp only [Bool.and_eq_true, List.all_eq_true, List.mem_range] at this
    have := this.2 j (hi j u hu)
    rw [hu] at this
    simp only [Bool.and_eq_true] at this
    have := this.2
    simpa [h1, h2, hlt] using this
theorem stateOf_below {trs : List Tr} {s0 : St} {L : Nat → Bool} {i : Nat} : ∀ k, i ≤ k → (∀ j, i ≤ j → j < k → L j = false) → stateOf ops trs s0 L k = stateOf ops trs s0 L i
  | 0, h, _ => by have : i = 0 := by omega
                  subst this; rfl
  | k + 1, h, hL => by
    by_cases e : i = k + 1
    · subst e; rfl
    · simp only [stateOf]
      rw [if_neg (by rw [hL k (by omega) (by omega)]; simp)]
      exact stateOf_below k (by omega) fun j h1 h2 => hL j h1 (by omega)
theorem wantedA_congr {fr fr' : List V} {o : Oper} (h : ∀ d, d ∈ o.looksAt ops → fr.getD d undefV = fr'.getD d undefV) : wantedA ops fr o = wantedA ops fr' o := by
  unfold wantedA
  cases hg : o.guard with
  | none => rfl
  | some jw =>
    obtain ⟨j, want⟩ := jw
    simp only
    cases hd : (ops[j]?).bind (·.dst) with
    | none => rfl
    | some t =>
      simp only
      rw [h t (by simp only [Oper.looksAt, hg, hd, List.mem_append]; exact .inr (by simp))]
def DC (ops : Array Oper) (L : Nat → Bool) : Prop := ∀ i j, i < ops.size → L i = true → j < ops.size → bitB (Region.before ops) i j = true → L j = true
def cnt (L : Nat → Bool) : Nat → Nat
  | 0 => 0
  | k + 1 => cnt L k + if L k then 0 else 1
theorem cnt_zero {L : Nat → Bool} : ∀ n, cnt L n = 0 → ∀ j, j < n → L j = true
  | 0, _, j, hj => by omega
  | n + 1, h, j, hj => by
    simp only [cnt] at h
    by_cases e : j = n
    · subst e; cases hl : L j with
      | true => rfl
      | false => simp [hl] at h
    · exact cnt_zero n (by omega) j (by omega)
theorem cnt_same {L L' : Nat → Bool} : ∀ n, (∀ j, j < n → L j = L' j) → cnt L n = cnt L' n
  | 0, _ => rfl
  | n + 1, h => by simp only [cnt]; rw [cnt_same n fun j hj => h j (by omega), h n (by omega)]
theorem cnt_add {L : Nat → Bool} {i : Nat} (hL : L i = false) : ∀ n, i < n → cnt (fun j => L j || j == i) n + 1 = cnt L n
  | 0, h => by omega
  | n + 1, h => by
    simp only [cnt]
    by_cases e : n = i
    · subst e
      have := cnt_same (L := fun j => L j || j == n) (L' := L) n fun j hj => by
        have hjn : (j == n) = false := by simp; omega
        simp [hjn]
      simp only [this, hL, beq_self_eq_true, Bool.or_true, if_true, Bool.false_eq_true, if_false]
    · have hni : (n == i) = false := by simp; exact e
      have := cnt_add hL n (by omega)
      simp only [hni, Bool.or_false]
      omega
theorem cnt_none : ∀ n, cnt (fun _ => false) n = n
  | 0 => rfl
  | n + 1 => by simp [cnt, cnt_none n]

/-! ### Variables that an operation does not look at -/
def restrV (ts : List Nat) (tmps : Array Value) : Array Value := tmps.mapIdx fun t v => if ts.contains t then v else undef
theorem restr_get (ts : List Nat) (fr : List V) (t : Nat) : (restr ts fr).getD t undefV = if ts.contains t then fr.getD t undefV else undefV := by
  simp only [restr, List.getD_eq_getElem?_getD, List.getElem?_map, List.getElem?_zipIdx]
  cases fr[t]? with
  | none => simp
  | some v => simp only [Option.map_some, Nat.zero_add, Option.getD_some]
theorem restr_length (ts : List Nat) (fr : List V) : (restr ts fr).length = fr.length := by simp [restr]
theorem getD_ext {a b : List V} (hl : a.length = b.length) (h : ∀ t, a.getD t undefV = b.getD t undefV) : a = b := by
  apply List.ext_getElem hl
  intro i h1 h2
  have := h i
  simpa [List.getD_eq_getElem?_getD, h1, h2] using this
theorem restrV_get (ts : List Nat) (tmps : Array Value) (t : Nat) : (restrV ts tmps).getD t undef = if ts.contains t then tmps.getD t undef else undef := by
  simp only [restrV, Array.getD_eq_getD_getElem?, Array.getElem?_mapIdx]
  cases tmps[t]? with
  | none => simp
  | some v => simp
theorem FrRel.restr {μ : Map} {fr : List V} {tmps : Array Value} (h : FrRel μ fr tmps) (ts : List Nat) : FrRel μ (restr ts fr) (restrV ts tmps) := by
  refine ⟨by rw [restr_length]; simp [restrV, h.1], fun t => ?_⟩
  rw [restr_get, restrV_get]
  split
  · exact h.2 t
  · rfl
theorem restr_op {X : Spec} {callF : CallF} (hC : CallOK P callF) (hX : SpecOK P X) (hN : PlainNames P) {μ : Map} {s : St} {w : World} (h : Rel w0 μ s w) {fr : List V} {a : Act} (hf : FrRel μ fr a.tmps) {o : Oper} {v : V} {s' : St}
    (hx : opRun P X callF (restr (o.looksAt ops) fr) s o = some (v, s')) : OpRes P w0 μ v s' ((execOp a.eval o).run P w) := by
  have hs : ∀ cs b, o.op ≠ .select cs b := by intro cs b e; simp [opRun, e] at hx
  have := opRun_sim (a := { tmps := restrV (o.looksAt ops) a.tmps, defers := a.defers }) hC hX hN h (hf.restr _) hx
  rwa [execOp_congr (ρ' := a.eval) o hs] at this
  intro x hxm
  cases x with
  | tmp t =>
    have hm : (o.looksAt ops).contains t = true := by
      simp only [List.contains_eq_mem, decide_eq_true_eq, Oper.looksAt, List.mem_append, List.mem_filterMap]
      exact .inl ⟨.tmp t, by simpa using hxm, rfl⟩
    show (restrV _ a.tmps).getD t undef = a.tmps.getD t undef
    rw [restrV_get, if_pos hm]
  | const c => rfl
  | global g => rfl
  | func f => rfl
theorem FrRel.congr {μ : Map} {fr fr' : List V} {tmps : Array Value} (h : FrRel μ fr tmps) (hl : fr'.length = fr.length) (hg : ∀ t, fr'.getD t undefV = fr.getD t undefV) : FrRel μ fr' tmps := ⟨by rw [hl, h.1], fun t => by rw [hg]; exact h.2 t⟩

/-! ### The theorem -/
theorem draw_any {X : Spec} {callF : CallF} (hC : CallOK P callF) (hX : SpecOK P X) (hN : PlainNames P) {Q : Exit → Act → World → Prop} {fr fr' : List V} {s s' : St} {trs : List Tr} {μ : Map}
    (hS : Static ops) (T : TraceOK P X callF ops ops.toList trs fr s fr' s') (hD : dynOK P X callF ops trs s = true) (hQ : ∀ a' w', At w0 μ fr' s' a' w' → Q .normal a' w') :
    ∀ (fuel : Nat) (listed : Array Bool) (a : Act) (w : World), listed.size = ops.size → DC ops (fun j => listed.getD j false) → cnt (fun j => listed.getD j false) ops.size = fuel →
      At w0 μ (frameOf ops trs fr (fun j => listed.getD j false) ops.size) (stateOf ops trs s (fun j => listed.getD j false) ops.size) a w → wpAny P .any ops Q fuel listed a w := by
  -- all listed: the text's order's end
  have hend : ∀ (listed : Array Bool) (a : Act) (w : World), (∀ j, j < ops.size → listed.getD j false = true) → At w0 μ (frameOf ops trs fr (fun j => listed.getD j false) ops.size) (stateOf ops trs s (fun j => listed.getD j false) ops.size) a w → Q .normal a w := by
    intro listed a w hall hat
    have := (TraceOK.at T ops.size (Nat.le_refl _)).2 rfl
    rw [frameOf_pre (L' := fun _ => true) ops.size (fun j hj => hall j hj), stateOf_agree (L' := fun _ => true) ops.size (fun j hj _ => hall j hj), ← this.1, ← this.2] at hat
    exact hQ a w hat
  have hready : ∀ (listed : Array Bool), listed.size = ops.size → Region.ready .any ops listed = [] → ∀ j, j < ops.size → listed.getD j false = true := by
    intro listed hsz hnil j
    induction j using Nat.strongRecOn with
    | _ j ih =>
      intro hj
      cases hl : listed.getD j false with
      | true => rfl
      | false =>
        exfalso
        have hget : ops[j]? = some ops[j] := Array.getElem?_eq_getElem hj
        have : j ∈ Region.ready .any ops listed := by
          simp only [Region.ready, List.mem_filter, List.mem_range, hj, true_and, Bool.and_eq_true, Bool.not_eq_true', hget, Option.map_some, Option.getD_some]
          refine ⟨?_, ?_⟩
          · simp only [Array.getD_eq_getD_getElem?, Array.getElem?_eq_getElem (show j < listed.size by omega), Option.getD_some] at hl ⊢
            exact hl
          · rw [Array.all_eq_true]
            intro k hk
            have he : (ops[j].after[k]) ∈ ops[j].after.toList := by simp
            cases hb : Region.binds .any ops[j].after[k] with
            | false => simp
            | true =>
              have hlt := hS.edge j _ hget _ he hb
              have := ih _ hlt (by omega)
              simp [this]
        rw [hnil] at this
        cases this
  intro fuel
  induction fuel with
  | zero =>
    intro listed a w hsz hdc hcnt hat
    have hall := cnt_zero ops.size hcnt
    refine ⟨?_, hend listed a w hall hat⟩
    simp only [Region.ready, List.filter_eq_nil_iff, List.mem_range]
    intro j hj
    have := hall j hj
    simp only [Array.getD_eq_getD_getElem?, Array.getElem?_eq_getElem (show j < listed.size by omega), Option.getD_some] at this ⊢
    simp [this]
  | succ fuel ih =>
    intro listed a w hsz hdc hcnt hat
    refine ⟨fun hnil => hend listed a w (hready listed hsz hnil) hat, fun i hi => ?_⟩
    simp only [Region.ready, List.mem_filter, List.mem_range, Bool.and_eq_true, Bool.not_eq_true'] at hi
    obtain ⟨hin, hil, hie⟩ := hi
    have hget : ops[i]? = some ops[i] := Array.getElem?_eq_getElem hin
    generalize ho : ops[i] = o at hget
    rw [hget, Option.map_some, Option.getD_some, Array.all_eq_true] at hie
    generalize hLd : (fun j => listed.getD j false) = L at hdc hcnt hat
    have hLj : ∀ j, listed.getD j false = L j := fun j => by rw [← hLd]
    have hLi : L i = false := by
      rw [← hLj]
      simp only [Array.getD_eq_getD_getElem?, Array.getElem?_eq_getElem (show i < listed.size by omega), Option.getD_some] at hil ⊢
      exact hil
    -- what must stand ahead of i is listed
    have hpre : ∀ j, j < ops.size → bitB (Region.before ops) i j = true → L j = true := by
      intro j hj hb
      obtain ⟨e, he, hbe, hje⟩ := hS.bef i o j hget hj hb
      have hel : L e.on = true := by
        obtain ⟨k, hk, rfl⟩ := List.getElem_of_mem he
        have := hie k (by simpa using hk)
        rw [← hLj]
        simp only [Array.getElem_toList] at hbe ⊢
        simpa [hbe] using this
      rcases hje with rfl | hje
      · exact hel
      · have hlt := hS.edge i o hget e he hbe
        exact hdc e.on j (by omega) hel hj hje
    have hpost : ∀ j, j < ops.size → bitB (Region.before ops) j i = true → L j = false := by
      intro j hj hb
      cases hl : L j with
      | false => rfl
      | true => rw [hdc j i hj hl hin hb] at hLi; cases hLi
    have hlen : i < trs.length := by rw [T.len, Array.length_toList]; exact hin
    obtain ⟨t, ht⟩ : ∃ t, trs[i]? = some t := ⟨_, List.getElem?_eq_getElem hlen⟩
    have hol : ops.toList[i]? = some o := by rw [Array.getElem?_toList]; exact hget
    obtain ⟨tw, t1, t2, t3⟩ := T.step i o t hol ht
    obtain ⟨tf, ts⟩ := (TraceOK.at T i (by omega)).1 t ht
    have hdst : dstOf ops i = o.dst := by simp [dstOf, hget]
    have hval : valOf trs i = t.v := by simp [valOf, ht]
    have hmov : moverAt ops i = isMover o.op := by simp [moverAt, hget]
    have hfi : t.fr = frameOf ops trs fr (fun j => decide (j < i)) ops.size := by
      rw [tf, frameOf_below (i := i) ops.size (by omega) (fun j h1 h2 => by simp; omega)]
      exact frameOf_pre i fun j hj => by simp [hj]
    have hsi : t.s = stateOf ops trs s (fun j => decide (j < i)) ops.size := by
      rw [ts, stateOf_below (i := i) ops.size (by omega) (fun j h1 h2 => by simp; omega)]
      exact stateOf_agree i fun j hj _ => by simp [hj]
    -- the frame where i looks
    have hlook : ∀ d, (o.dst = some d ∨ d ∈ o.looksAt ops) → (frameOf ops trs fr L ops.size).getD d undefV = t.fr.getD d undefV := by
      intro d hd
      rw [hfi]
      refine frameOf_agree ops.size fun j hj hdj => ?_
      by_cases e : j = i
      · subst e; rw [hLi]; simp
      · have hju : ops[j]? = some ops[j] := Array.getElem?_eq_getElem hj
        have hud : (ops[j]).dst = some d := by simpa [dstOf, hju] using hdj
        have := hS.vars i o j _ d hget hju e hud hd
        by_cases hlt : j < i
        · rw [if_pos hlt] at this
          rw [hpre j hj this]; simp [hlt]
        · rw [if_neg hlt] at this
          rw [hpost j hj this]; simp [hlt]
    have hrestr : restr (o.looksAt ops) (frameOf ops trs fr L ops.size) = restr (o.looksAt ops) t.fr := by
      refine getD_ext (by rw [restr_length, restr_length, frameOf_length, hfi, frameOf_length]) fun d => ?_
      rw [restr_get, restr_get]
      split
      · rename_i hc
        exact hlook d (.inr (by simpa using hc))
      · rfl
    have hwant : wantedA ops (frameOf ops trs fr L ops.size) o = t.want := by
      rw [tw]; exact wantedA_congr fun d hd => hlook d (.inr hd)
    -- the state
    have hnewq : isMover o.op = false → stateOf ops trs s (fun j => L j || j == i) ops.size = stateOf ops trs s L ops.size := by
      intro hq
      refine stateOf_agree ops.size fun j hj hm => ?_
      have : j ≠ i := by intro e; subst e; rw [hmov, hq] at hm; cases hm
      simp [this]
    have hcur : isMover o.op = true → stateOf ops trs s L ops.size = t.s := by
      intro hm
      rw [hsi]
      refine stateOf_agree ops.size fun j hj hmj => ?_
      have hju : ops[j]? = some ops[j] := Array.getElem?_eq_getElem hj
      have hmu : isMover (ops[j]).op = true := by simpa [moverAt, hju] using hmj
      by_cases e : j = i
      · subst e; rw [hLi]; simp
      · by_cases hlt : j < i
        · rw [hpre j hj (hS.movers i o j _ hget hju hm hmu hlt)]; simp [hlt]
        · rw [hpost j hj (hS.movers j _ i o hju hget hmu hm (by omega))]; simp [hlt]
    have hnewm : isMover o.op = true → stateOf ops trs s (fun j => L j || j == i) ops.size = t.s' := by
      intro hm
      have := stateOf_top (ops := ops) (trs := trs) (s0 := s) (L := fun j => L j || j == i) hin (by rw [hmov]; exact hm) (by simp) fun j h1 h2 hmj => by
        have hju : ops[j]? = some ops[j] := Array.getElem?_eq_getElem h2
        have hmu : isMover (ops[j]).op = true := by simpa [moverAt, hju] using hmj
        have hji : (j == i) = false := by simp; omega
        rw [hpost j h2 (hS.movers j _ i o hju hget hmu hm h1), hji]; rfl
      rw [this, ht]; rfl
    have hrun : t.want = true → opRun P X callF (restr (o.looksAt ops) t.fr) (stateOf ops trs s L ops.size) o = some (t.v, stateOf ops trs s (fun j => L j || j == i) ops.size) := by
      intro hw
      cases hm : isMover o.op with
      | true => rw [hcur hm, hnewm hm]; exact t1 hw
      | false =>
        rw [hnewq hm]
        have hsame : ∀ σ, sameAt P X callF ops o t σ = true → opRun P X callF (restr (o.looksAt ops) t.fr) σ o = some (t.v, σ) := by
          intro σ hs
          unfold sameAt at hs
          split at hs
          · rename_i v s1 hop
            simp only [Bool.and_eq_true, decide_eq_true_eq, beq_iff_eq] at hs
            have := quiet_state hm hop hs.2
            rw [hop, hs.1, this]
          · cases hs
        refine hsame _ ?_
        unfold dynOK at hD
        simp only [List.all_eq_true, List.mem_range] at hD
        have hDi := hD i hin
        rw [hget, ht] at hDi
        simp only [hm, hw, Bool.not_true, Bool.or_self, Bool.false_or, Bool.and_eq_true, Bool.or_eq_true, List.any_eq_true, List.mem_range, List.all_eq_true, decide_eq_true_eq] at hDi
        rcases stateOf_last (ops := ops) (trs := trs) (s0 := s) (L := L) ops.size with ⟨q1, q2⟩ | ⟨j, q1, q2, q3, q4, q5⟩
        · rw [q1]
          rcases hDi.1 with ⟨j, hj, hmj, hb⟩ | hs
          · have := q2 j hj hmj
            rw [hpre j hj hb] at this; cases this
          · exact hs
        · rw [q4]
          have := hDi.2 j q1
          have hju : ops[j]? = some ops[j] := Array.getElem?_eq_getElem q1
          have hmu : isMover (ops[j]).op = true := by simpa [moverAt, hju] using q3
          have hjt : j < trs.length := by rw [T.len, Array.length_toList]; exact q1
          obtain ⟨tj, htj⟩ : ∃ t, trs[j]? = some t := ⟨_, List.getElem?_eq_getElem hjt⟩
          rw [hju, htj] at this
          simp only [hmu, Bool.not_true, Bool.false_or, Bool.or_eq_true, List.any_eq_true, List.mem_range, Bool.and_eq_true, decide_eq_true_eq] at this
          rw [htj]
          rcases this with (hb | ⟨k, hk, ⟨hjk, hmk⟩, hb⟩) | hs
          · rw [hpost j q1 hb] at q2; cases q2
          · have := q5 k hjk hk hmk
            rw [hpre k hk hb] at this; cases this
          · exact hs
    have hskip : t.want = false → t.v = undefV ∧ stateOf ops trs s (fun j => L j || j == i) ops.size = stateOf ops trs s L ops.size := by
      intro hw
      obtain ⟨u1, u2⟩ := t2 hw
      refine ⟨u1, ?_⟩
      cases hm : isMover o.op with
      | true => rw [hnewm hm, hcur hm, u2]
      | false => exact hnewq hm
    -- what comes next
    have hLn : (fun j => (listed.setIfInBounds i true).getD j false) = fun j => L j || j == i := by
      funext j
      rw [← hLj]
      simp only [Array.getD_eq_getD_getElem?, Array.getElem?_setIfInBounds, hsz]
      by_cases e : i = j
      · subst e; simp [hin]
      · have : (j == i) = false := by simp; omega
        simp [e, this]
    have hdc' : DC ops (fun j => L j || j == i) := by
      intro i' j' h1 h2 h3 h4
      simp only [Bool.or_eq_true, beq_iff_eq] at h2 ⊢
      rcases h2 with h2 | rfl
      · exact .inl (hdc i' j' h1 h2 h3 h4)
      · exact .inl (hpre j' h3 h4)
    have hnext : ∀ (a' : Act) (w' : World) (μ' : Map) (v' : Value), Sub μ μ' → FrRel μ' (frameOf ops trs fr L ops.size) a.tmps → a.defers = [] → t.v.conc μ' = some v' → Rel w0 μ' (stateOf ops trs s (fun j => L j || j == i) ops.size) w' →
        wpAny P .any ops Q fuel (listed.setIfInBounds i true) (a.put o.dst v') w' := by
      intro _ w' μ' v' h1 h2 h3 h4 h5
      refine ih (listed.setIfInBounds i true) _ _ (by simp [hsz]) (by rw [hLn]; exact hdc') (by rw [hLn]; have := cnt_add hLi ops.size hin; omega) ?_
      rw [hLn]
      refine ⟨μ', h1, (h2.putA h4 o.dst).congr ?_ ?_, by rw [put_defers]; exact h3, h5⟩
      · rw [putV_length, frameOf_length, frameOf_length]
      · intro d
        have := frameOf_add (ops := ops) (trs := trs) (fr0 := fr) hin hLi (fun j h1 h2 h3 d hd hdj => by
          have hju : ops[j]? = some ops[j] := Array.getElem?_eq_getElem h2
          have hud : (ops[j]).dst = some d := by simpa [dstOf, hju] using hdj
          rw [hdst] at hd
          have hv := hS.vars i o j _ d hget hju (by omega) hud (.inl hd)
          rw [if_neg (by omega)] at hv
          rw [hpost j h2 hv] at h3; cases h3) d
        rw [this, hdst, hval]
    obtain ⟨μ', m1, m2, m3, m4⟩ := hat
    unfold wpOp
    rw [hget]
    simp only
    rw [wantedA_eq m2, hwant]
    cases hw : t.want with
    | true =>
      rw [if_pos rfl]
      left
      have hop := hrun hw
      rw [← hrestr] at hop
      exact wp_of_res (restr_op hC hX hN m4 m2 hop) fun μ'' v' w' r1 r2 r3 => hnext a w' μ'' v' (m1.trans r1) (m2.mono r1) m3 r2 r3
    | false =>
      rw [if_neg (by simp)]
      obtain ⟨u1, u2⟩ := hskip hw
      exact hnext a w μ' undef m1 m2 m3 (by rw [u1]; rfl) (by rw [u2]; exact m4)
end
end Go.Proofs.Ytlmmeihgjpgooaa.AM
