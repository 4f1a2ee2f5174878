/- The abstract machine's code and calls: what it answers, the model answers, in whatever world. -/
import Derived.Test.YtlmmeihgjpgooaaAMS15
set_option linter.unusedSimpArgs false
set_option linter.unusedVariables false
namespace Go.Proofs.Ytlmmeihgjpgooaa.AM
open Go Go.RowKit Go.MapKept
section
variable {P : Program} {w0 : World}
theorem At.trans {μ μ' : Map} {fr : List V} {s : St} {a : Act} {w : World} (h : Sub μ μ') (q : At w0 μ' fr s a w) : At w0 μ fr s a w := by
  obtain ⟨μ'', h1, h2⟩ := q
  exact ⟨μ'', h.trans h1, h2⟩
theorem Rel.drewW {μ : Map} {s : St} {w : World} (h : Rel w0 μ s w) : Rel w0 μ s { w with drawn := w.drawn + 1 } := h.drew
theorem drawRun_sim {X : Spec} {callF : CallF} (hm : P.follows .mixedOrders = true) (hC : CallOK P callF) (hX : SpecOK P X) (hN : PlainNames P) {ops : Array Oper} {Q : Exit → Act → World → Prop} {μ : Map} {w : World} {fr fr' : List V} {s s' : St} {a : Act} {id : Nat}
    (h : Rel w0 μ s w) (hf : FrRel μ fr a.tmps) (hd : a.defers = []) (hx : drawRun P X callF ops fr s = some (fr', s')) (hQ : ∀ a' w', At w0 μ fr' s' a' w' → Q .normal a' w') : (Code.region id ops true).wp P Q a w := by
  unfold drawRun at hx
  split at hx
  · rename_i hst
    split at hx
    · rename_i trs fr1 s1 htr
      split at hx
      · rename_i hdy
        cases hx
        refine wp_region_any hm ?_
        have hL : (fun j => (Array.replicate ops.size false).getD j false) = fun _ => false := by
          funext j
          simp only [Array.getD_eq_getD_getElem?, Array.getElem?_replicate]
          split <;> rfl
        refine draw_any hC hX hN (static_of hst) (trace_ok htr) hdy hQ ops.size _ a _ (by simp) ?_ ?_ ?_
        · intro i j _ h1
          have h2 := congrFun hL i
          simp only at h1 h2; rw [h1] at h2; cases h2
        · rw [hL]; exact cnt_none _
        · rw [hL]
          refine ⟨μ, Sub.refl _, ?_, hd, ?_⟩
          · rw [frameOf_below (i := 0) ops.size (by omega) (fun _ _ _ => rfl)]; exact hf
          · rw [stateOf_below (i := 0) ops.size (by omega) (fun _ _ _ => rfl)]; exact h.drewW
      · cases hx
    · cases hx
  · cases hx
/-- A function by its body. -/
theorem callOK_of {X : Spec} (n : Nat) (hA : ∀ (c : Code) (μ : Map) (w0 w : World) (fr fr' : List V) (s s' : St) (a : Act) (ex : Ex) (Q : Exit → Act → World → Prop), Rel w0 μ s w → FrRel μ fr a.tmps → a.defers = [] → go P X n c fr s = some (ex, fr', s') →
      (∀ a' w', At w0 μ fr' s' a' w' → Q ex.to a' w') → c.wp P Q a w) (callF : CallF)
    (hcall : ∀ f args s, callF f args s = callA P X n f args s) : CallOK P callF := by
  intro f args s v s' hx
  rw [hcall] at hx
  unfold callA at hx
  split at hx
  · rename_i fn hfn
    split at hx
    · rename_i body hb
      refine ⟨⟨fn, hfn, by rw [hb]; rfl⟩, fun w0 μ w vals h hv => ?_⟩
      have hlen : ∀ {args : List V} {vals : List Value}, concVs μ args = some vals → vals.length = args.length := by
        intro args
        induction args with
        | nil => intro vals h; simp [concVs] at h; subst h; rfl
        | cons v vs ih => intro vals h; obtain ⟨x, xs, h1, h2, rfl⟩ := concVs_cons.1 h; simp [ih h2]
      have hres : ∀ ex fr1 s1, (ex = Ex.normal ∨ ex = Ex.ret) → go P X n body (args ++ List.replicate (fn.ntmps - args.length) undefV) s = some (ex, fr1, s1) → (resultsA P s1 fr1 fn.results.toList).map (fun vs => (retV vs, s1)) = some (v, s') →
          Calls P f vals.toArray w fun e w' => ∃ μ' v', Sub μ μ' ∧ v.conc μ' = some v' ∧ e = .returned v' ∧ Rel w0 μ' s' w' := by
        intro ex fr1 s1 hex hgo hr
        simp only [Option.map_eq_some_iff, Prod.mk.injEq] at hr
        obtain ⟨vs, hr, rfl, rfl⟩ := hr
        refine calls_of_wp hfn hb ?_
        refine hA body μ w0 w _ fr1 s s1 _ ex _ h (frame_start hv fn.ntmps) rfl hgo fun a' w' q => ?_
        obtain ⟨μ', q1, q2, q3, q4⟩ := q
        obtain ⟨v', r1, r2⟩ := results_sim (P := P) (fn := fn) q4 q2 hr
        rcases hex with rfl | rfl
        · exact ⟨q3, v', r2, μ', v', q1, r1, rfl, q4⟩
        · exact ⟨q3, v', r2, μ', v', q1, r1, rfl, q4⟩
      split at hx
      · rename_i fr1 s1 hgo; exact hres _ _ _ (.inl rfl) hgo hx
      · rename_i fr1 s1 hgo; exact hres _ _ _ (.inr rfl) hgo hx
      · cases hx
    · cases hx
  · cases hx
theorem go_sim {X : Spec} (hm : P.follows .mixedOrders = true) (hX : SpecOK P X) (hN : PlainNames P) : ∀ (n : Nat),
    (∀ (c : Code) (μ : Map) (w0 w : World) (fr fr' : List V) (s s' : St) (a : Act) (ex : Ex) (Q : Exit → Act → World → Prop), Rel w0 μ s w → FrRel μ fr a.tmps → a.defers = [] → go P X n c fr s = some (ex, fr', s') →
      (∀ a' w', At w0 μ fr' s' a' w' → Q ex.to a' w') → c.wp P Q a w) ∧
    (∀ (c : Code) (μ : Map) (w0 w : World) (fr fr' : List V) (s s' : St) (a : Act) (ex : Ex) (Q : Exit → Act → World → Prop), Rel w0 μ s w → FrRel μ fr a.tmps → a.defers = [] → go P X n (.loop c) fr s = some (ex, fr', s') →
      (∀ a' w', At w0 μ fr' s' a' w' → Q ex.to a' w') → Code.rounds P c Q n a w)
  | 0 => ⟨fun c μ w0 w fr fr' s s' a ex Q h hf hd hx => by simp [go] at hx, fun c μ w0 w fr fr' s s' a ex Q h hf hd hx => by simp [go] at hx⟩
  | n + 1 => by
    obtain ⟨hA, hB⟩ := go_sim hm hX hN n
    have hB' : ∀ (c : Code) (μ : Map) (w0 w : World) (fr fr' : List V) (s s' : St) (a : Act) (ex : Ex) (Q : Exit → Act → World → Prop), Rel w0 μ s w → FrRel μ fr a.tmps → a.defers = [] → go P X (n + 1) (.loop c) fr s = some (ex, fr', s') →
        (∀ a' w', At w0 μ fr' s' a' w' → Q ex.to a' w') → Code.rounds P c Q (n + 1) a w := by
      intro c μ w0 w fr fr' s s' a ex Q h hf hd hx hQ
      simp only [go] at hx
      rw [rounds_succ]
      split at hx
      · rename_i fr1 s1 h1
        refine hA c μ w0 w fr fr1 s s1 a .normal _ h hf hd h1 fun a1 w1 q => ?_
        obtain ⟨μ', q1, q2, q3, q4⟩ := q
        exact hB c μ' w0 w1 fr1 fr' s1 s' a1 ex Q q4 q2 q3 hx fun a' w' q => hQ a' w' (At.trans q1 q)
      · rename_i hne
        refine hA c μ w0 w fr fr' s s' a ex _ h hf hd hx fun a1 w1 q => ?_
        cases ex with
        | normal => exact absurd hx (hne _ _)
        | exit id => exact hQ a1 w1 q
        | ret => exact hQ a1 w1 q
    refine ⟨fun c μ w0 w fr fr' s s' a ex Q h hf hd hx hQ => ?_, hB'⟩
    cases c with
    | skip =>
      simp only [go, Option.some.injEq, Prod.mk.injEq] at hx
      obtain ⟨rfl, rfl, rfl⟩ := hx
      exact wp_skip (hQ a w ⟨μ, Sub.refl _, hf, hd, h⟩)
    | ret =>
      simp only [go, Option.some.injEq, Prod.mk.injEq] at hx
      obtain ⟨rfl, rfl, rfl⟩ := hx
      exact wp_ret (hQ a w ⟨μ, Sub.refl _, hf, hd, h⟩)
    | exit id =>
      simp only [go, Option.some.injEq, Prod.mk.injEq] at hx
      obtain ⟨rfl, rfl, rfl⟩ := hx
      exact wp_exit (hQ a w ⟨μ, Sub.refl _, hf, hd, h⟩)
    | seq x y =>
      simp only [go] at hx
      refine wp_seq ?_
      split at hx
      · rename_i fr1 s1 h1
        refine hA x μ w0 w fr fr1 s s1 a .normal _ h hf hd h1 fun a1 w1 q => ?_
        obtain ⟨μ', q1, q2, q3, q4⟩ := q
        exact hA y μ' w0 w1 fr1 fr' s1 s' a1 ex Q q4 q2 q3 hx fun a' w' q => hQ a' w' (At.trans q1 q)
      · rename_i hne
        refine hA x μ w0 w fr fr' s s' a ex _ h hf hd hx fun a1 w1 q => ?_
        cases ex with
        | normal => exact absurd hx (hne _ _)
        | exit id => exact hQ a1 w1 q
        | ret => exact hQ a1 w1 q
    | cond c x y =>
      simp only [go] at hx
      split at hx
      · rename_i hc
        have := evalC_conc hf hc
        simp only [Cell.conc, Option.some.injEq] at this
        exact wp_cond_true this.symm (hA x μ w0 w fr fr' s s' a ex Q h hf hd hx hQ)
      · rename_i hc
        have := evalC_conc hf hc
        simp only [Cell.conc, Option.some.injEq] at this
        exact wp_cond_false this.symm (hA y μ w0 w fr fr' s s' a ex Q h hf hd hx hQ)
      · cases hx
    | block id c =>
      simp only [go] at hx
      refine wp_block ?_
      split at hx
      · rename_i i fr1 s1 h1
        refine hA c μ w0 w fr fr1 s s1 a (.exit i) _ h hf hd h1 fun a1 w1 q => ?_
        simp only [Ex.to, Exit.inBlock]
        split at hx
        · rename_i e
          cases hx
          rw [if_pos e]; exact hQ a1 w1 q
        · rename_i e
          cases hx
          rw [if_neg e]; exact hQ a1 w1 q
      · rename_i hne
        refine hA c μ w0 w fr fr' s s' a ex _ h hf hd hx fun a1 w1 q => ?_
        cases ex with
        | normal => exact hQ a1 w1 q
        | exit id => exact absurd hx (hne _ _ _)
        | ret => exact hQ a1 w1 q
    | loop c => exact wp_loop_rounds (n + 1) (hB' c μ w0 w fr fr' s s' a ex Q h hf hd hx hQ)
    | region id ops draw =>
      simp only [go, Option.map_eq_some_iff, Prod.mk.injEq] at hx
      obtain ⟨⟨fr1, s1⟩, hx, rfl, rfl, rfl⟩ := hx
      have hC : ∀ callF : CallF, (∀ f args s, callF f args s = callA P X n f args s) → CallOK P callF := fun callF hc => callOK_of n hA callF hc
      cases draw with
      | true => exact drawRun_sim hm (hC _ fun f args s => rfl) hX hN h hf hd hx hQ
      | false => exact wp_region_list (opsRun_sim (hC _ fun f args s => rfl) hX hN ops ops.toList h hf hd hx hQ)
    | _ => simp [go] at hx
/-- WHAT THE ABSTRACT MACHINE ANSWERS, THE MODEL ANSWERS. -/
theorem call_sim {X : Spec} (hm : P.follows .mixedOrders = true) (hX : SpecOK P X) (hN : PlainNames P) {n f : Nat} {args : List V} {s s' : St} {v : V} (hx : callA P X n f args s = some (v, s')) {μ : Map} {w : World} {vals : List Value} (h : Rel w0 μ s w) (hv : concVs μ args = some vals) :
    Calls P f vals.toArray w fun e w' => ∃ μ' v', Sub μ μ' ∧ v.conc μ' = some v' ∧ e = .returned v' ∧ Rel w0 μ' s' w' :=
  (callOK_of n (go_sim hm hX hN n).1 (callA P X n) (fun _ _ _ => rfl) _ _ _ _ _ hx).2 w0 μ w vals h hv
theorem rel_start (w : World) : Rel w nowhere St.empty w := ⟨⟨rfl, rfl⟩, Below.refl _ _, fun b l h => (by cases h), fun b1 b2 l1 l2 _ h => (by cases h)⟩
def isTrue : Option (V × St) → Bool
  | some (.one (.c (.bool true)), _) => true
  | _ => false
/-- A function of nothing that the abstract machine finds true. -/
theorem true_of {X : Spec} (hm : P.follows .mixedOrders = true) (hX : SpecOK P X) (hN : PlainNames P) {n f : Nat} (h : isTrue (callA P X n f [] St.empty) = true) (w : World) :
    Calls P f #[] w fun e w' => e = .returned (.bool true) ∧ Below w.heap.size w w' := by
  unfold isTrue at h
  split at h
  · rename_i s' hx
    refine (call_sim hm hX hN hx (rel_start w) (vals := []) rfl).mono fun e w' q => ?_
    obtain ⟨μ', v', _, q2, rfl, q4⟩ := q
    simp only [V.conc, V1.conc, Cell.conc, Option.some.injEq] at q2
    subst q2
    exact ⟨rfl, q4.below⟩
  · cases h
def noSpec : Spec := fun _ _ => none
theorem noSpec_ok : SpecOK P noSpec := fun f vals r h => by cases h
def plainNamesB (P : Program) : Bool := P.funcs.all fun fn => !(fn.name == "runtime.NumGoroutine")
theorem plainNames_of (h : plainNamesB P = true) : PlainNames P := by
  intro f fn hf _
  unfold plainNamesB at h
  rw [Array.all_eq_true] at h
  obtain ⟨hlt, rfl⟩ := Array.getElem?_eq_some_iff.1 hf
  simpa using h f hlt
end
#print axioms true_of
end Go.Proofs.Ytlmmeihgjpgooaa.AM
