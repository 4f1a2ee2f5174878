/- The abstract machine's regions in the text's order, code, and calls. -/
import Derived.Test.YtlmmeihgjpgooaaAMS11
import Derived.LoopN
import Derived.Defers
set_option linter.unusedSimpArgs false
set_option linter.unusedVariables false
namespace Go.Proofs.Ytlmmeihgjpgooaa.AM
open Go Go.RowKit Go.MapKept
section
variable {P : Program} {w0 w : World} {μ : Map} {s : St}

theorem conc_bool {v : V} {b : Bool} (h : v.conc μ = some (.bool b)) : v = .one (.c (.bool b)) := by
  cases v with
  | tup vs => simp [V.conc] at h
  | one x =>
    cases x with
    | agg cs => simp [V.conc, V1.conc] at h
    | c y =>
      cases y <;> try (simp_all [V.conc, V1.conc, Cell.conc]; done)
      rename_i bb off len cap
      cases cap <;> simp [V.conc, V1.conc, Cell.conc] at h
theorem wantedA_eq {fr : List V} {tmps : Array Value} (hf : FrRel μ fr tmps) (ops : Array Oper) (o : Oper) : Region.wanted o (yielded ops tmps) = wantedA ops fr o := by
  unfold Region.wanted wantedA
  cases hg : o.guard with
  | none => rfl
  | some jw =>
    obtain ⟨j, want⟩ := jw
    simp only
    cases hd : (ops[j]?).bind (·.dst) with
    | none => simp [yielded, hd]
    | some t =>
      have ht := hf.2 t
      simp only [yielded, hd, Option.bind_some]
      generalize fr.getD t undefV = v at *
      have hx : (tmps[t]?).getD undef = tmps.getD t undef := by simp [Array.getD_eq_getD_getElem?]
      rw [← hx] at ht
      have rhs : (∀ b, v ≠ .one (.c (.bool b))) → boolIs want v = false := by
        intro hv
        unfold boolIs
        split
        · rename_i b; exact absurd rfl (hv _)
        · rfl
      cases hq : tmps[t]? with
      | none =>
        rw [hq] at ht
        simp only [Option.getD_none] at ht
        rw [rhs (by intro b e; subst e; simp [V.conc, V1.conc, Cell.conc, undef] at ht)]
        rfl
      | some x =>
        rw [hq] at ht
        simp only [Option.getD_some] at ht
        cases x with
        | bool b => rw [conc_bool ht]; cases b <;> cases want <;> rfl
        | _ =>
          rw [rhs (by intro b e; subst e; simp [V.conc, V1.conc, Cell.conc] at ht)]
          rfl
theorem FrRel.putA {fr : List V} {a : Act} (h : FrRel μ fr a.tmps) {v : V} {v' : Value} (hv : v.conc μ = some v') (d : Option Nat) : FrRel μ (putV fr d v) (a.put d v').tmps := by
  cases d with
  | none => exact h
  | some d => exact h.put hv d
theorem put_defers (a : Act) (d : Option Nat) (v : Value) : (a.put d v).defers = a.defers := by cases d <;> rfl
theorem wp_of_res {o : Oper} {a : Act} {v : V} {s' : St} (h : OpRes P w0 μ v s' ((execOp a.eval o).run P w)) {K : Act → World → Prop} {Q : Exit → Act → World → Prop}
    (hK : ∀ μ' v' w', Sub μ μ' → v.conc μ' = some v' → Rel w0 μ' s' w' → K (a.put o.dst v') w') : o.wp P a w K Q := by
  unfold Oper.wp
  rcases h with ⟨μ', v', w', h1, h2, h3, h4 | ⟨h4, rfl⟩⟩ | ⟨f, args, w1, h1, h2⟩
  · rw [h4]; exact hK μ' v' w' h1 h2 h3
  · rw [h4]; exact hK μ' _ w' h1 h2 h3
  · rw [h1]
    refine h2.mono fun e w' q => ?_
    obtain ⟨μ', v', q1, q2, rfl, q4⟩ := q
    exact hK μ' v' w' q1 q2 q4
/-- Where a run is to come. -/
def At (w0 : World) (μ : Map) (fr : List V) (s : St) (a : Act) (w : World) : Prop := ∃ μ', Sub μ μ' ∧ FrRel μ' fr a.tmps ∧ a.defers = [] ∧ Rel w0 μ' s w
theorem opsRun_sim {X : Spec} {callF : CallF} (hC : CallOK P callF) (hX : SpecOK P X) (hN : PlainNames P) (ops : Array Oper) {Q : Exit → Act → World → Prop} : ∀ (l : List Oper) {μ : Map} {w : World} {fr fr' : List V} {s s' : St} {a : Act}, Rel w0 μ s w → FrRel μ fr a.tmps → a.defers = [] →
    opsRun P X callF ops l fr s = some (fr', s') → (∀ a' w', At w0 μ fr' s' a' w' → Q .normal a' w') → wpList P ops Q l a w
  | [], μ, w, fr, fr', s, s', a, h, hf, hd, hx, hQ => by
    simp only [opsRun, Option.some.injEq, Prod.mk.injEq] at hx
    obtain ⟨rfl, rfl⟩ := hx
    exact hQ a w ⟨μ, Sub.refl _, hf, hd, h⟩
  | o :: rest, μ, w, fr, fr', s, s', a, h, hf, hd, hx, hQ => by
    simp only [opsRun] at hx
    unfold wpList
    rw [wantedA_eq hf]
    split at hx
    · rename_i hw
      rw [if_pos hw]
      split at hx
      · rename_i v s1 hop
        left
        refine wp_of_res (opRun_sim hC hX hN h hf hop) fun μ' v' w' q1 q2 q3 => ?_
        refine opsRun_sim hC hX hN ops rest q3 ((hf.mono q1).putA q2 o.dst) (by rw [put_defers]; exact hd) hx fun a' w'' q => hQ a' w'' ?_
        obtain ⟨μ'', r1, r2, r3, r4⟩ := q
        exact ⟨μ'', q1.trans r1, r2, r3, r4⟩
      · cases hx
    · rename_i hw
      rw [if_neg hw]
      exact opsRun_sim hC hX hN ops rest h (hf.putA rfl o.dst) (by rw [put_defers]; exact hd) hx hQ
def Ex.to : Ex → Exit
  | .normal => .normal
  | .exit id => .exit id
  | .ret => .ret
theorem mapM_results {fr : List V} {a : Act} (h : Rel w0 μ s w) (hf : FrRel μ fr a.tmps) (G : ResultVar → Sem Value) (hG1 : ∀ t, G (.tmp t) = pure (a.tmps.getD t undef)) (hG2 : ∀ b t, G (.cell b t) = (do loadVar t (← asAddr (a.tmps.getD b undef)))) :
    ∀ {l : List ResultVar} {vs}, resultsA P s fr l = some vs → ∃ xs, conc1s μ vs = some xs ∧ (l.mapM G).run P w = .ok xs w
  | [], vs, e => by simp [resultsA] at e; subst e; exact ⟨[], rfl, rfl⟩
  | .tmp t :: l, vs, e => by
    simp only [resultsA] at e
    split at e
    · rename_i v vs' h1 h2
      cases e
      obtain ⟨xs, q1, q2⟩ := mapM_results h hf G hG1 hG2 h2
      have ht := hf.2 t
      rw [h1] at ht
      refine ⟨a.tmps.getD t undef :: xs, conc1s_cons.2 ⟨_, _, ht, q1, rfl⟩, ?_⟩
      simp only [List.mapM_cons, hG1, Sem.run_bind, Sem.run_pure, Result.andThen_ok, q2]
    · cases e
  | .cell b t :: l, vs, e => by
    simp only [resultsA] at e
    split at e
    · rename_i bb off vs' h1 h2
      split at e
      · rename_i v s2 h3
        cases e
        obtain ⟨xs, q1, q2⟩ := mapM_results h hf G hG1 hG2 h2
        have ht := hf.2 b
        rw [h1] at ht
        obtain ⟨L, hL, hv⟩ := conc_ptr (show (Cell.ptr bb off).conc μ = some _ from ht)
        obtain ⟨rfl, v', r1, r2⟩ := loadVar_sim h hL h3
        have has : ∀ A w, (asAddr (.pointer (some A))).run P w = .ok A w := fun _ _ => rfl
        refine ⟨v' :: xs, conc1s_cons.2 ⟨_, _, r1, q1, rfl⟩, ?_⟩
        simp only [List.mapM_cons, hG2, hv, has, Sem.run_bind, Sem.run_pure, Result.andThen_ok, r2, q2]
      · cases e
    · cases e
theorem results_sim {fn : Func} {fr : List V} {a : Act} (h : Rel w0 μ s w) (hf : FrRel μ fr a.tmps) {vs : List V1} (hr : resultsA P s fr fn.results.toList = some vs) : ∃ v', (retV vs).conc μ = some v' ∧ (results fn a.tmps).run P w = .ok v' w := by
  have hm : ∃ xs, conc1s μ vs = some xs ∧ (results fn a.tmps).run P w = .ok (if h : xs.toArray.size = 1 then xs.toArray[0] else .tuple xs.toArray) w := by
    have key : ∀ G : ResultVar → Sem Value, (∀ t, G (.tmp t) = pure (a.tmps.getD t undef)) → (∀ b t, G (.cell b t) = (do loadVar t (← asAddr (a.tmps.getD b undef)))) →
        ∃ xs, conc1s μ vs = some xs ∧ (do let vs ← fn.results.mapM G; pure (if h : vs.size = 1 then vs[0] else .tuple vs) : Sem Value).run P w = .ok (if h : xs.toArray.size = 1 then xs.toArray[0] else .tuple xs.toArray) w := by
      intro G g1 g2
      obtain ⟨xs, q1, q2⟩ := mapM_results (P := P) h hf G g1 g2 hr
      refine ⟨xs, q1, ?_⟩
      rw [Array.mapM_eq_mapM_toList]
      simp only [Sem.run_bind, Sem.run_map, q2, Result.andThen_ok, Sem.run_pure]
    unfold results
    refine key _ ?_ ?_
    · intro t; rfl
    · intro b t; rfl
  obtain ⟨xs, q1, hm⟩ := hm
  refine ⟨_, ?_, hm⟩
  match vs, xs, q1 with
  | [], xs, q1 => simp [conc1s] at q1; subst q1; rfl
  | [v], xs, q1 =>
    obtain ⟨x, r, r1, r2, rfl⟩ := conc1s_cons.1 q1
    simp [conc1s] at r2; subst r2
    exact r1
  | v :: u :: vs, xs, q1 =>
    have q1' := q1
    obtain ⟨x, r, r1, r2, rfl⟩ := conc1s_cons.1 q1
    obtain ⟨y, r', r3, r4, rfl⟩ := conc1s_cons.1 r2
    simp [retV, V.conc, q1']
theorem frame_start {args : List V} {vals : List Value} (h : concVs μ args = some vals) (n : Nat) : FrRel μ (args ++ List.replicate (n - args.length) undefV) (vals.toArray ++ Array.replicate (n - vals.toArray.size) undef) := by
  have hlen : ∀ {args : List V} {vals : List Value}, concVs μ args = some vals → vals.length = args.length := by
    intro args
    induction args with
    | nil => intro vals h; simp [concVs] at h; subst h; rfl
    | cons v vs ih => intro vals h; obtain ⟨x, xs, h1, h2, rfl⟩ := concVs_cons.1 h; simp [ih h2]
  have hget : ∀ {args : List V} {vals : List Value}, concVs μ args = some vals → ∀ t, t < args.length → ((args[t]?).getD undefV).conc μ = some ((vals[t]?).getD undef) := by
    intro args
    induction args with
    | nil => intro vals h t ht; simp at ht
    | cons v vs ih =>
      intro vals h t ht
      obtain ⟨x, xs, h1, h2, rfl⟩ := concVs_cons.1 h
      cases t with
      | zero => simpa using h1
      | succ t => simpa using ih h2 t (by simpa using ht)
  have hl := hlen h
  refine ⟨by simp [hl], fun t => ?_⟩
  simp only [List.getD_eq_getElem?_getD, Array.getD_eq_getD_getElem?]
  by_cases ht : t < args.length
  · rw [List.getElem?_append_left ht, Array.getElem?_append_left (by simp [hl]; exact ht)]
    simpa using hget h t ht
  · rw [List.getElem?_append_right (by omega), Array.getElem?_append_right (by simp [hl]; omega)]
    simp only [List.getElem?_replicate, Array.getElem?_replicate, List.size_toArray, hl]
    split <;> rfl
end
end Go.Proofs.Ytlmmeihgjpgooaa.AM
