/- The abstract machine's operations: each does what the model's does. -/
import Derived.Test.YtlmmeihgjpgooaaAMS2
import Derived.Laws.MakeOwn
set_option linter.unusedSimpArgs false
set_option linter.unusedVariables false
namespace Go.Proofs.Ytlmmeihgjpgooaa.AM
open Go Go.RowKit

/-- What an operation's run is to be. -/
def OpRes (P : Program) (w0 : World) (μ : Map) (v : V) (s' : St) (r : Result Next) : Prop :=
  (∃ μ' v' w', Sub μ μ' ∧ v.conc μ' = some v' ∧ Rel w0 μ' s' w' ∧ (r = .ok (.value v') w' ∨ (r = .ok .skip w' ∧ v' = undef))) ∨
  (∃ f args' w1, r = .ok (.enter f args') w1 ∧ Calls P f args' w1 fun e w' => ∃ μ' v', Sub μ μ' ∧ v.conc μ' = some v' ∧ e = .returned v' ∧ Rel w0 μ' s' w')
/-- .. of an instruction that gives a value. -/
def VRes (w0 : World) (μ : Map) (v : V) (s' : St) (r : Result Value) : Prop :=
  ∃ μ' v' w', Sub μ μ' ∧ v.conc μ' = some v' ∧ Rel w0 μ' s' w' ∧ r = .ok v' w'
theorem VRes.op {P : Program} {w0 : World} {μ : Map} {v : V} {s' : St} {w : World} {x : Sem Value} (h : VRes w0 μ v s' (x.run P w)) : OpRes P w0 μ v s' ((do let y ← x; pure (Next.value y) : Sem Next).run P w) := by
  obtain ⟨μ', v', w', h1, h2, h3, h4⟩ := h
  refine .inl ⟨μ', v', w', h1, h2, h3, .inl ?_⟩
  simp [Sem.run_bind, h4]

def FrRel (μ : Map) (fr : List V) (tmps : Array Value) : Prop := fr.length = tmps.size ∧ ∀ t, (fr.getD t undefV).conc μ = some (tmps.getD t undef)
theorem FrRel.mono {μ μ' : Map} {fr : List V} {tmps : Array Value} (h : FrRel μ fr tmps) (hs : Sub μ μ') : FrRel μ' fr tmps := ⟨h.1, fun t => V.conc_mono hs (h.2 t)⟩
theorem FrRel.put {μ : Map} {fr : List V} {tmps : Array Value} (h : FrRel μ fr tmps) {v : V} {v' : Value} (hv : v.conc μ = some v') (d : Nat) : FrRel μ (fr.set d v) (tmps.setIfInBounds d v') := by
  refine ⟨by simp [h.1], fun t => ?_⟩
  have ht := h.2 t
  simp only [List.getD_eq_getElem?_getD, Array.getD_eq_getD_getElem?, List.getElem?_set, Array.getElem?_setIfInBounds, h.1] at ht ⊢
  by_cases e : d = t
  · subst e
    by_cases hd : d < tmps.size
    · simp [hd, hv]
    · simp [hd]; rfl
  · simp [e, ht]
theorem evalO_conc {μ : Map} {fr : List V} {a : Act} (h : FrRel μ fr a.tmps) {x : Operand} {v : V} (e : evalO fr x = some v) : v.conc μ = some (a.eval x) := by
  cases x with
  | tmp t => simp only [evalO, Option.some.injEq] at e; subst e; exact h.2 t
  | const u => exact ofV_conc e
  | func f => simp only [evalO, Option.some.injEq] at e; subst e; rfl
  | global g => cases e
theorem evalC_conc {μ : Map} {fr : List V} {a : Act} (h : FrRel μ fr a.tmps) {x : Operand} {c : Cell} (e : evalC fr x = some c) : c.conc μ = some (a.eval x) := by
  unfold evalC at e
  split at e
  · cases e; rename_i h1; exact evalO_conc h h1
  · cases e
theorem eval1_conc {μ : Map} {fr : List V} {a : Act} (h : FrRel μ fr a.tmps) {x : Operand} {c : V1} (e : eval1 fr x = some c) : c.conc μ = some (a.eval x) := by
  unfold eval1 at e
  split at e
  · cases e; rename_i h1; exact evalO_conc h h1
  · cases e

section
variable {P : Program} {w0 w : World} {μ : Map} {s : St}
theorem run_sizeOf' {t : TypeId} {n : Nat} (h : sizeT P t = some n) (w : World) : (sizeOf t).run P w = .ok n w := by
  simp only [sizeT, Option.map_eq_some_iff] at h; obtain ⟨i, hi, rfl⟩ := h
  simp [sizeOf, typeInfo, hi]
theorem run_isAgg' {t : TypeId} {b : Bool} (h : aggT P t = some b) (w : World) : (isAgg t).run P w = .ok b w := by
  simp only [aggT, Option.map_eq_some_iff] at h; obtain ⟨d, hd, rfl⟩ := h
  simp only [isAgg, Sem.run_bind, run_underlying hd, Result.andThen_ok]
  cases d <;> rfl
theorem zeroT_run {t : TypeId} {cs : List Cell} (h : zeroT P t = some cs) : ∃ z : Value, (∀ w, (zeroValue t).run P w = .ok z w) ∧ (∀ μ, concs μ cs = some z.cells.toList) := by
  simp only [zeroT] at h
  cases hi : P.info? t with
  | none => simp [hi] at h
  | some i =>
    cases hz : i.zero with
    | none => simp [hi, hz] at h
    | some z =>
      simp only [hi, hz, Option.bind_some] at h
      exact ⟨z, fun w => by simp [zeroValue, typeInfo, hi, hz], fun μ => ofCells_conc h⟩
theorem heap_new (w : World) (o : Obj) : True := trivial
theorem heap_push_new (w : World) (o : Go.Obj) : (w.alloc o).heap[w.heap.size]? = some o := heap_alloc_new w o
theorem below_alloc' (w : World) (o : Go.Obj) : Below w.heap.size w (w.alloc o) := (Below.refl _ _).alloc (Nat.le_refl _) o
theorem newVar_sim (h : Rel w0 μ s w) {cs : List Cell} {v : Value} (hv : concs μ cs = some v.cells.toList) (t : TypeId) : ∃ μ', Sub μ μ' ∧ (ptrV s.next 0).conc μ' = some (.pointer (some ⟨w.heap.size, 0, none⟩)) ∧ Rel w0 μ' (s.new cs t 1) (w.alloc (.cells v.cells t)) := by
  have hl := concs_length hv
  rw [Array.length_toList] at hl
  refine ⟨_, sub_upd ⟨w.heap.size, 0, cs.length⟩ h.fresh, ?_, h.newBlk hv t 1 cs.length v.cells (below_alloc' w _) (heap_push_new w _) (fun j u hj => by simpa using hj) (by omega) (by omega)⟩
  simp [ptrV, V.conc, V1.conc, Cell.conc, upd_self]
theorem xAlloc_sim (h : Rel w0 μ s w) {t : TypeId} {v : V} {s' : St} (hx : xAlloc P s t = some (v, s')) : VRes w0 μ v s' ((Instr.alloc t true (.tuple #[])).run P w) := by
  simp only [xAlloc, Option.map_eq_some_iff, Prod.mk.injEq] at hx
  obtain ⟨cs, hz, rfl, rfl⟩ := hx
  obtain ⟨z, hz1, hz2⟩ := zeroT_run hz
  obtain ⟨μ', q1, q2, q3⟩ := newVar_sim h (hz2 μ) t
  exact ⟨μ', _, _, q1, q2, q3, by simp [Instr.alloc, hz1, newVar, newRow]⟩
theorem xBox_sim (h : Rel w0 μ s w) {t : TypeId} {x : V1} {x' : Value} (hx' : x.conc μ = some x') {v : V} {s' : St} (hx : xBox s t x = some (v, s')) : VRes w0 μ v s' ((Instr.box t x').run P w) := by
  simp only [xBox, Option.some.injEq, Prod.mk.injEq] at hx
  obtain ⟨rfl, rfl⟩ := hx
  obtain ⟨μ', q1, q2, q3⟩ := newVar_sim h (V1.conc_cells hx') t
  exact ⟨μ', _, _, q1, q2, q3, by simp [Instr.box, newVar, newRow]⟩
theorem conc_ptr {b off : Nat} {x : Value} (h : (Cell.ptr b off).conc μ = some x) : ∃ l, μ b = some l ∧ x = .pointer (some ⟨l.blk, l.sh + off, none⟩) := by
  simp only [Cell.conc, Option.map_eq_some_iff] at h; obtain ⟨l, hl, rfl⟩ := h; exact ⟨l, hl, rfl⟩
theorem concs_single {c : Cell} {vs : List Value} (h : concs μ [c] = some vs) : ∃ v, vs = [v] ∧ c.conc μ = some v := by
  obtain ⟨v, ws, h1, h2, rfl⟩ := concs_cons.1 h
  simp [concs] at h2; subst h2; exact ⟨v, rfl, h1⟩
theorem loadVar_sim (h : Rel w0 μ s w) {t : TypeId} {b off : Nat} {l : Loc} (hl : μ b = some l) {v : V} {s' : St} (hx : xLoad P s t b off = some (v, s')) :
    s' = s ∧ ∃ v', v.conc μ = some v' ∧ (loadVar t ⟨l.blk, l.sh + off, none⟩).run P w = .ok v' w := by
  unfold xLoad at hx
  split at hx
  · rename_i n ha hn
    simp only [Option.map_eq_some_iff, Prod.mk.injEq] at hx
    obtain ⟨cs, hr, rfl, rfl⟩ := hx
    obtain ⟨vs, q1, q2, q3⟩ := h.read hr hl
    refine ⟨rfl, .agg vs.toArray, by simp [V.conc, V1.conc, q1], ?_⟩
    have := run_loadCells_list (P := P) w _ vs q3
    rw [q2] at this
    simp [loadVar, run_isAgg' ha, run_sizeOf' hn, this]
  · rename_i ha
    split at hx
    · rename_i c hr
      cases hx
      obtain ⟨vs, q1, q2, q3⟩ := h.read hr hl
      obtain ⟨v', rfl, hv'⟩ := concs_single q1
      have := q3 0 v' rfl
      rw [Addr.add_zero'] at this
      exact ⟨rfl, v', hv', by simp [loadVar, run_isAgg' ha, this]⟩
    · cases hx
  · cases hx
theorem xLoad_sim (h : Rel w0 μ s w) {t : TypeId} {b off : Nat} {x : Value} (hp : (Cell.ptr b off).conc μ = some x) {v : V} {s' : St} (hx : xLoad P s t b off = some (v, s')) : VRes w0 μ v s' ((Instr.loadAt t x).run P w) := by
  obtain ⟨l, hl, rfl⟩ := conc_ptr hp
  obtain ⟨rfl, v', h1, h2⟩ := loadVar_sim h hl hx
  exact ⟨μ, v', w, Sub.refl _, h1, h, by simp [Instr.loadAt, Instr.sureAddr, h2]⟩
theorem storeCells_sim (h : Rel w0 μ s w) {b off : Nat} {l : Loc} (hl : μ b = some l) {new : List Cell} {vs : List Value} (hv : concs μ new = some vs) {s' : St} (hx : s.write b off new = some s') :
    ∃ w', (storeCells ⟨l.blk, l.sh + off, none⟩ vs).run P w = .ok () w' ∧ Rel w0 μ s' w' := by
  rcases h.write hx hl hv with ⟨rfl, rfl⟩ | ⟨cs, ty, q1, q2, q3⟩
  · simp [concs] at hv; subst hv
    exact ⟨w, by simp [storeCells], h⟩
  · refine ⟨_, ?_, q3⟩
    have := run_storeCells_at P l.blk (l.sh + off) ty vs 0 cs w q1 (by simpa using q2) (concs_one hv)
    simpa [wrote] using this
theorem xStore_sim (h : Rel w0 μ s w) {t : TypeId} {b off : Nat} {x y : Value} (hp : (Cell.ptr b off).conc μ = some x) {u : V1} (hu : u.conc μ = some y) {v : V} {s' : St} (hx : xStore P s t b off u = some (v, s')) :
    v = undefV ∧ ∃ w', Rel w0 μ s' w' ∧ (Instr.storeAt t x y).run P w = .ok () w' := by
  obtain ⟨l, hl, rfl⟩ := conc_ptr hp
  unfold xStore at hx
  split at hx
  · rename_i hs
    simp only [Option.map_eq_some_iff, Prod.mk.injEq] at hx
    obtain ⟨s1, hw, rfl, rfl⟩ := hx
    have hc := V1.conc_cells hu
    have hlen := concs_length hc
    rw [Array.length_toList] at hlen
    obtain ⟨w', r1, r2⟩ := storeCells_sim (P := P) h hl hc hw
    refine ⟨rfl, w', r2, ?_⟩
    simp [Instr.storeAt, Instr.sureAddr, storeVar, run_sizeOf' hs, hlen, r1]
  · cases hx
theorem xFieldAddr_sim (h : Rel w0 μ s w) {t : TypeId} {b off f : Nat} {x : Value} (hp : (Cell.ptr b off).conc μ = some x) {v : V} {s' : St} (hx : xFieldAddr P s t b off f = some (v, s')) : VRes w0 μ v s' ((Instr.fieldAt t x f).run P w) := by
  obtain ⟨l, hl, rfl⟩ := conc_ptr hp
  unfold xFieldAddr at hx
  split at hx
  · rename_i fields hu
    split at hx
    · rename_i fd hf
      split at hx
      · rename_i n hn
        cases hx
        refine ⟨μ, .pointer (some ⟨l.blk, l.sh + (off + fd.offset), none⟩), w, Sub.refl _, by simp [ptrV, V.conc, V1.conc, Cell.conc, hl], h, ?_⟩
        simp [Instr.fieldAt, run_underlying hu, hf, Instr.sureAddr, fieldPlace, run_sizeOf' hn, Addr.add_lit, Nat.add_assoc]
      · cases hx
    · cases hx
  · cases hx
theorem part_sim {t : TypeId} {cs : List Cell} {vs : List Value} (hv : concs μ cs = some vs) {off : Nat} {v : V} (hx : partV P t cs off = some v) (w : World) : ∃ v', v.conc μ = some v' ∧ (part t vs.toArray off).run P w = .ok v' w := by
  unfold partV at hx
  split at hx
  · rename_i n ha hn
    cases hx
    refine ⟨_, by simp only [V.conc, V1.conc, concs_drop off (concs_take (off + n) hv)]; rfl, ?_⟩
    simp only [part, Sem.run_bind, run_isAgg' ha, Result.andThen_ok, if_true, run_sizeOf' hn, Sem.run_pure]
    congr 2
    apply Array.ext'
    simp [List.extract_eq_take_drop, List.take_drop]
  · rename_i ha
    simp only [Option.map_eq_some_iff] at hx
    obtain ⟨c, hc, rfl⟩ := hx
    obtain ⟨u, h1, h2⟩ := concs_get hv hc
    refine ⟨u, h1, ?_⟩
    simp [part, run_isAgg' ha, h2]
  · cases hx
theorem conc_agg {cs : List Cell} {x : Value} (h : (V1.agg cs).conc μ = some x) : ∃ vs, concs μ cs = some vs ∧ x = .agg vs.toArray := by
  simp only [V1.conc, Option.map_eq_some_iff] at h; obtain ⟨l, hl, rfl⟩ := h; exact ⟨l, hl, rfl⟩
theorem xField_sim (h : Rel w0 μ s w) {t : TypeId} {cs : List Cell} {f : Nat} {x : Value} (hp : (V1.agg cs).conc μ = some x) {v : V} {s' : St} (hx : xField P s t cs f = some (v, s')) : VRes w0 μ v s' ((Instr.field t x f).run P w) := by
  obtain ⟨vs, hvs, rfl⟩ := conc_agg hp
  unfold xField at hx
  split at hx
  · rename_i fields hu
    split at hx
    · rename_i fd hf
      simp only [Option.map_eq_some_iff, Prod.mk.injEq] at hx
      obtain ⟨v1, hp1, rfl, rfl⟩ := hx
      obtain ⟨v', h1, h2⟩ := part_sim hvs hp1 w
      exact ⟨μ, v', w, Sub.refl _, h1, h, by simp [Instr.field, run_underlying hu, hf, asAgg, h2]⟩
    · cases hx
  · cases hx
end
end Go.Proofs.Ytlmmeihgjpgooaa.AM
