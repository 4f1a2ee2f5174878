/- The abstract machine's relation to the model's world, and its memory's laws. -/
import Derived.Test.YtlmmeihgjpgooaaAM
import Derived.Laws.AppendOwn
import Derived.Laws.Slices
import Derived.RowKit3
set_option linter.unusedSimpArgs false
set_option linter.unusedVariables false
namespace Go.Proofs.Ytlmmeihgjpgooaa.AM
open Go Go.RowKit

/-! ### Memory -/
def St.wf (s : St) : Prop := s.heap.length = s.next ∧ s.fams.length = s.next
theorem St.wf_push {s : St} (h : s.wf) (o : Obj) : (s.push o).wf := ⟨by simp [St.push, h.1], by simp [St.push, h.2]⟩
theorem St.wf_setObj {s : St} (h : s.wf) (b : Nat) (o : Obj) : (s.setObj b o).wf := ⟨by simp [St.setObj, h.1], by simp [St.setObj, h.2]⟩
theorem St.wf_setFam {s : St} (h : s.wf) (b : Nat) (x : Nat × Nat) : (s.setFam b x).wf := ⟨by simp [St.setFam, h.1], by simp [St.setFam, h.2]⟩
theorem St.get_lt {s : St} {b : Nat} {o : Obj} (h : s.get b = some o) : b < s.next := by
  unfold St.get at h
  by_cases hb : b < s.next
  · exact hb
  · rw [if_neg hb] at h; cases h
theorem St.get_push {s : St} (h : s.wf) (o : Obj) (b : Nat) : (s.push o).get b = if b = s.next then some o else s.get b := by
  unfold St.get St.push
  by_cases e : b = s.next
  · subst e; simp
  · simp only [if_neg e]
    by_cases hb : b < s.next
    · rw [if_pos hb, if_pos (by omega), show s.next + 1 - 1 - b = (s.next - 1 - b) + 1 by omega]; rfl
    · rw [if_neg hb, if_neg (by omega)]
theorem St.fam_push {s : St} (h : s.wf) (o : Obj) (b : Nat) (hb : b ≤ s.next) : (s.push o).fam b = if b = s.next then (1, 0) else s.fam b := by
  unfold St.fam St.push
  by_cases e : b = s.next
  · subst e; simp
  · simp only [if_neg e]
    rw [show s.next + 1 - 1 - b = (s.next - 1 - b) + 1 by omega]; rfl
theorem St.get_setObj {s : St} (h : s.wf) (b : Nat) (o : Obj) (hb : b < s.next) (b' : Nat) : (s.setObj b o).get b' = if b' = b then some o else s.get b' := by
  unfold St.get St.setObj
  by_cases e : b' = b
  · subst e; simp only [hb, if_true]; rw [List.getElem?_set_self (by rw [h.1]; omega)]
  · simp only [if_neg e]
    by_cases hb' : b' < s.next
    · rw [if_pos hb', if_pos hb', List.getElem?_set_ne (by omega)]
    · rw [if_neg hb', if_neg hb']
theorem St.fam_setObj (s : St) (b : Nat) (o : Obj) (b' : Nat) : (s.setObj b o).fam b' = s.fam b' := rfl
theorem St.get_setFam (s : St) (b : Nat) (x : Nat × Nat) (b' : Nat) : (s.setFam b x).get b' = s.get b' := rfl
theorem St.fam_setFam {s : St} (h : s.wf) (b : Nat) (x : Nat × Nat) (hb : b < s.next) (b' : Nat) (hb' : b' < s.next) : (s.setFam b x).fam b' = if b' = b then x else s.fam b' := by
  unfold St.fam St.setFam
  by_cases e : b' = b
  · subst e; simp [hb, h.2]; rw [List.getElem?_set_self (by rw [h.2]; omega)]; rfl
  · simp only [if_neg e]; rw [List.getElem?_set_ne (by omega)]

/-! ### Where values lie -/
def Sub (μ μ' : Map) : Prop := ∀ b l, μ b = some l → μ' b = some l
theorem Sub.refl (μ : Map) : Sub μ μ := fun _ _ h => h
theorem Sub.trans {a b c : Map} (h : Sub a b) (h' : Sub b c) : Sub a c := fun x l hx => h' x l (h x l hx)
theorem concPtrs_mono {μ μ' : Map} (h : Sub μ μ') : ∀ {l : List (Nat × Nat)} {vs}, concPtrs μ l = some vs → concPtrs μ' l = some vs
  | [], vs, e => by simpa [concPtrs] using e
  | p :: ps, vs, e => by
    simp only [concPtrs] at e ⊢
    cases h1 : μ p.1 with
    | none => simp [h1] at e
    | some l =>
      cases h2 : concPtrs μ ps with
      | none => simp [h1, h2] at e
      | some ws => simp only [h1, h2] at e; rw [h _ _ h1, concPtrs_mono h h2]; exact e
theorem Cell.conc_mono {μ μ' : Map} (h : Sub μ μ') {c : Cell} {v : Value} (e : c.conc μ = some v) : c.conc μ' = some v := by
  cases c <;> try exact e
  case ptr b off => simp only [Cell.conc, Option.map_eq_some_iff] at e ⊢; obtain ⟨l, hl, e⟩ := e; exact ⟨l, h _ _ hl, e⟩
  case sl b off len cap => cases cap <;> (simp only [Cell.conc, Option.map_eq_some_iff] at e ⊢; obtain ⟨l, hl, e⟩ := e; exact ⟨l, h _ _ hl, e⟩)
  case map b => simp only [Cell.conc, Option.map_eq_some_iff] at e ⊢; obtain ⟨l, hl, e⟩ := e; exact ⟨l, h _ _ hl, e⟩
  case fn f caps => simp only [Cell.conc, Option.map_eq_some_iff] at e ⊢; obtain ⟨l, hl, e⟩ := e; exact ⟨l, concPtrs_mono h hl, e⟩
theorem concs_cons {μ : Map} {c : Cell} {cs : List Cell} {vs : List Value} : concs μ (c :: cs) = some vs ↔ ∃ v ws, c.conc μ = some v ∧ concs μ cs = some ws ∧ vs = v :: ws := by
  simp only [concs]
  cases c.conc μ <;> cases concs μ cs <;> simp [eq_comm]
theorem concs_mono {μ μ' : Map} (h : Sub μ μ') : ∀ {l : List Cell} {vs}, concs μ l = some vs → concs μ' l = some vs
  | [], vs, e => by simpa [concs] using e
  | p :: ps, vs, e => by
    obtain ⟨v, ws, h1, h2, rfl⟩ := concs_cons.1 e
    exact concs_cons.2 ⟨v, ws, Cell.conc_mono h h1, concs_mono h h2, rfl⟩
theorem V1.conc_mono {μ μ' : Map} (h : Sub μ μ') {c : V1} {v : Value} (e : c.conc μ = some v) : c.conc μ' = some v := by
  cases c with
  | c x => exact Cell.conc_mono h e
  | agg cs => simp only [V1.conc, Option.map_eq_some_iff] at e ⊢; obtain ⟨l, hl, e⟩ := e; exact ⟨l, concs_mono h hl, e⟩
theorem conc1s_cons {μ : Map} {c : V1} {cs : List V1} {vs : List Value} : conc1s μ (c :: cs) = some vs ↔ ∃ v ws, c.conc μ = some v ∧ conc1s μ cs = some ws ∧ vs = v :: ws := by
  simp only [conc1s]
  cases c.conc μ <;> cases conc1s μ cs <;> simp [eq_comm]
theorem conc1s_mono {μ μ' : Map} (h : Sub μ μ') : ∀ {l : List V1} {vs}, conc1s μ l = some vs → conc1s μ' l = some vs
  | [], vs, e => by simpa [conc1s] using e
  | p :: ps, vs, e => by
    obtain ⟨v, ws, h1, h2, rfl⟩ := conc1s_cons.1 e
    exact conc1s_cons.2 ⟨v, ws, V1.conc_mono h h1, conc1s_mono h h2, rfl⟩
theorem V.conc_mono {μ μ' : Map} (h : Sub μ μ') {c : V} {v : Value} (e : c.conc μ = some v) : c.conc μ' = some v := by
  cases c with
  | one x => exact V1.conc_mono h e
  | tup cs => simp only [V.conc, Option.map_eq_some_iff] at e ⊢; obtain ⟨l, hl, e⟩ := e; exact ⟨l, conc1s_mono h hl, e⟩
theorem sub_nowhere (μ : Map) : Sub nowhere μ := fun _ _ h => by cases h

theorem concs_length {μ : Map} : ∀ {l : List Cell} {vs}, concs μ l = some vs → vs.length = l.length
  | [], vs, e => by simp [concs] at e; simp [← e]
  | p :: ps, vs, e => by
    obtain ⟨v, ws, h1, h2, rfl⟩ := concs_cons.1 e
    simp [concs_length h2]
theorem concs_get {μ : Map} : ∀ {l : List Cell} {vs}, concs μ l = some vs → ∀ {i : Nat} {c : Cell}, l[i]? = some c → ∃ v, c.conc μ = some v ∧ vs[i]? = some v
  | [], vs, e, i, c, h => by simp at h
  | p :: ps, vs, e, i, c, h => by
    obtain ⟨v, ws, h1, h2, rfl⟩ := concs_cons.1 e
    cases i with
    | zero => simp at h; subst h; exact ⟨v, h1, rfl⟩
    | succ i => simp at h; obtain ⟨u, hu, hw⟩ := concs_get h2 h; exact ⟨u, hu, by simpa using hw⟩
theorem concs_get' {μ : Map} {l : List Cell} {vs : List Value} (e : concs μ l = some vs) {i : Nat} {v : Value} (h : vs[i]? = some v) : ∃ c, l[i]? = some c ∧ c.conc μ = some v := by
  have hl := concs_length e
  have hi := (List.getElem?_eq_some_iff.1 h).1
  obtain ⟨u, hu, hw⟩ := concs_get e (List.getElem?_eq_getElem (show i < l.length by omega))
  rw [h] at hw
  exact ⟨_, List.getElem?_eq_getElem (by omega), by rw [hu, hw]⟩
theorem concs_of {μ : Map} : ∀ (l : List Cell), (∀ (i : Nat) (c : Cell), l[i]? = some c → ∃ v, c.conc μ = some v) → ∃ vs, concs μ l = some vs
  | [], _ => ⟨[], rfl⟩
  | p :: ps, h => by
    obtain ⟨v, hv⟩ := h 0 p rfl
    obtain ⟨vs, hvs⟩ := concs_of ps (fun i c hc => h (i + 1) c (by simpa using hc))
    exact ⟨v :: vs, concs_cons.2 ⟨v, vs, hv, hvs, rfl⟩⟩
theorem concs_append {μ : Map} : ∀ {a b : List Cell} {va vb : List Value}, concs μ a = some va → concs μ b = some vb → concs μ (a ++ b) = some (va ++ vb)
  | [], b, va, vb, ha, hb => by simp [concs] at ha; subst ha; simpa using hb
  | c :: cs, b, va, vb, ha, hb => by
    obtain ⟨v, ws, h1, h2, rfl⟩ := concs_cons.1 ha
    exact concs_cons.2 ⟨v, ws ++ vb, h1, concs_append h2 hb, rfl⟩
theorem concs_take {μ : Map} : ∀ {a : List Cell} {va : List Value} (n : Nat), concs μ a = some va → concs μ (a.take n) = some (va.take n)
  | [], va, n, ha => by simp [concs] at ha; subst ha; simp [concs]
  | c :: cs, va, 0, ha => by simp [concs]
  | c :: cs, va, n + 1, ha => by
    obtain ⟨v, ws, h1, h2, rfl⟩ := concs_cons.1 ha
    exact concs_cons.2 ⟨v, _, h1, concs_take n h2, rfl⟩
theorem concs_drop {μ : Map} : ∀ {a : List Cell} {va : List Value} (n : Nat), concs μ a = some va → concs μ (a.drop n) = some (va.drop n)
  | [], va, n, ha => by simp [concs] at ha; subst ha; simp [concs]
  | c :: cs, va, 0, ha => by simpa using ha
  | c :: cs, va, n + 1, ha => by
    obtain ⟨v, ws, h1, h2, rfl⟩ := concs_cons.1 ha
    exact concs_drop n h2
theorem Cell.conc_one {μ : Map} {c : Cell} {v : Value} (h : c.conc μ = some v) : v.oneCell' = true ∧ v.cells = #[v] := by
  cases c <;> (try (simp only [Cell.conc, Option.some.injEq] at h; subst h; exact ⟨rfl, rfl⟩))
  case sl b off len cap => cases cap <;> (simp only [Cell.conc, Option.map_eq_some_iff] at h; obtain ⟨l, hl, rfl⟩ := h; exact ⟨rfl, rfl⟩)
  all_goals (simp only [Cell.conc, Option.map_eq_some_iff] at h; obtain ⟨l, hl, rfl⟩ := h; exact ⟨rfl, rfl⟩)
theorem concs_one {μ : Map} {l : List Cell} {vs : List Value} (h : concs μ l = some vs) : ∀ v ∈ vs, v.oneCell' = true := by
  intro v hv
  obtain ⟨i, hi, rfl⟩ := List.getElem_of_mem hv
  obtain ⟨c, _, hc⟩ := concs_get' h (List.getElem?_eq_getElem hi)
  exact (Cell.conc_one hc).1
theorem V1.conc_cells {μ : Map} {v : V1} {x : Value} (h : v.conc μ = some x) : concs μ v.cells = some x.cells.toList := by
  cases v with
  | c y => rw [(Cell.conc_one h).2]; exact concs_cons.2 ⟨x, [], h, rfl, rfl⟩
  | agg cs => simp only [V1.conc, Option.map_eq_some_iff] at h; obtain ⟨l, hl, rfl⟩ := h; simpa [V1.cells, Value.cells] using hl

/-! ### Values without addresses -/
theorem ofCell_conc {v : Value} {c : Cell} (h : ofCell v = some c) (μ : Map) : c.conc μ = some v := by
  unfold ofCell at h
  split at h <;> (try (cases h)) <;> rfl
theorem ofCells_conc {μ : Map} : ∀ {vs : List Value} {cs}, ofCells vs = some cs → concs μ cs = some vs
  | [], cs, h => by simp [ofCells] at h; subst h; rfl
  | v :: vs, cs, h => by
    simp only [ofCells] at h
    cases h1 : ofCell v with
    | none => simp [h1] at h
    | some c =>
      cases h2 : ofCells vs with
      | none => simp [h1, h2] at h
      | some ds => simp [h1, h2] at h; subst h; exact concs_cons.2 ⟨v, vs, ofCell_conc h1 μ, ofCells_conc h2, rfl⟩
theorem ofV1_conc {μ : Map} {v : Value} {c : V1} (h : ofV1 v = some c) : c.conc μ = some v := by
  unfold ofV1 at h
  split at h
  · simp only [Option.map_eq_some_iff] at h; obtain ⟨l, hl, rfl⟩ := h
    simp [V1.conc, ofCells_conc hl]
  · simp only [Option.map_eq_some_iff] at h; obtain ⟨l, hl, rfl⟩ := h
    exact ofCell_conc hl μ
theorem ofV1s_conc {μ : Map} : ∀ {vs : List Value} {cs}, ofV1s vs = some cs → conc1s μ cs = some vs
  | [], cs, h => by simp [ofV1s] at h; subst h; rfl
  | v :: vs, cs, h => by
    simp only [ofV1s] at h
    cases h1 : ofV1 v with
    | none => simp [h1] at h
    | some c =>
      cases h2 : ofV1s vs with
      | none => simp [h1, h2] at h
      | some ds => simp [h1, h2] at h; subst h; exact conc1s_cons.2 ⟨v, vs, ofV1_conc h1, ofV1s_conc h2, rfl⟩
theorem ofV_conc {μ : Map} {v : Value} {c : V} (h : ofV v = some c) : c.conc μ = some v := by
  unfold ofV at h
  split at h
  · simp only [Option.map_eq_some_iff] at h; obtain ⟨l, hl, rfl⟩ := h
    simp [V.conc, ofV1s_conc hl]
  · simp only [Option.map_eq_some_iff] at h; obtain ⟨l, hl, rfl⟩ := h
    exact ofV1_conc hl
theorem pure?_run {α : Type} {P : Program} : ∀ {s : Sem α} {a : α}, pure? P s = some a → ∀ w, s.run P w = .ok a w
  | .pure a, b, h, w => by simp [pure?] at h; subst h; rfl
  | .program k, b, h, w => by simp only [pure?] at h; simp only [Sem.run]; exact pure?_run h w
  | .mark m k, b, h, w => by simp only [pure?] at h; simp only [Sem.run]; exact pure?_run h w
  | .load .., b, h, w => by simp [pure?] at h
  | .store .., b, h, w => by simp [pure?] at h
  | .new .., b, h, w => by simp [pure?] at h
  | .shape .., b, h, w => by simp [pure?] at h
  | .freeze .., b, h, w => by simp [pure?] at h
  | .frozen .., b, h, w => by simp [pure?] at h
  | .getObj .., b, h, w => by simp [pure?] at h
  | .setObj .., b, h, w => by simp [pure?] at h
  | .choose .., b, h, w => by simp [pure?] at h
  | .sys .., b, h, w => by simp [pure?] at h
  | .halt .., b, h, w => by simp [pure?] at h
end Go.Proofs.Ytlmmeihgjpgooaa.AM
