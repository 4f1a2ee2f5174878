/- The abstract machine: what it answers, the model answers, in whatever world. -/
import Derived.Test.YtdhnjkagmbfoaaaAM
import Derived.Laws.AppendOwn
import Derived.Laws.Slices
import Derived.RowKit3
import Derived.Laws.CopyRow
import Derived.Laws.MakeOwn
import Derived.IntWalk
import Derived.MapKept
import Derived.Lib.OthersKept
import Derived.Orders
import Derived.LoopN
import Derived.Defers
/- The abstract machine's relation to the model's world, and its memory's laws. -/
set_option linter.unusedSimpArgs false
set_option linter.unusedVariables false
namespace Go.Proofs.Ytdhnjkagmbfoaaa.AM
open Go Go.RowKit
/-! ### Memory -/
def St.wf (s : St) : Prop := s.heap.length = s.next ∧ s.fams.length = s.next
theorem St.wf_push {s : St} (h : s.wf) (o : Obj) : (s.push o).wf := ⟨by simp [St.push, h.1], by simp [St.push, h.2]⟩
theorem St.wf_setObj {s : St} (h : s.wf) (b : Nat) (o : Obj) : (s.setObj b o).wf := ⟨by simp [St.setObj, h.1], by simp [St.setObj, h.2]⟩
theorem St.wf_setFam {s : St} (h : s.wf) (b : Nat) (x : Nat × Nat) : (s.setFam b x).wf := ⟨by simp [St.setFam, h.1], by simp [St.setFam, h.2]⟩
theorem St.get_lt {s : St} {b : Nat} {o : Obj} (h : s.get b = some o) : b < s.next := by
  unfold St.get at h
  by_cases hb : b < s.next
  · exact hb
  · rw [if_neg hb] at h; cases h
theorem St.get_push {s : St} (h : s.wf) (o : Obj) (b : Nat) : (s.push o).get b = if b = s.next then some o else s.get b := by
  unfold St.get St.push
  by_cases e : b = s.next
  · subst e; simp
  · simp only [if_neg e]
    by_cases hb : b < s.next
    · rw [if_pos hb, if_pos (by omega), show s.next + 1 - 1 - b = (s.next - 1 - b) + 1 by omega]; rfl
    · rw [if_neg hb, if_neg (by omega)]
theorem St.fam_push {s : St} (h : s.wf) (o : Obj) (b : Nat) (hb : b ≤ s.next) : (s.push o).fam b = if b = s.next then (1, 0) else s.fam b := by
  unfold St.fam St.push
  by_cases e : b = s.next
  · subst e; simp
  · simp only [if_neg e]
    rw [show s.next + 1 - 1 - b = (s.next - 1 - b) + 1 by omega]; rfl
theorem St.get_setObj {s : St} (h : s.wf) (b : Nat) (o : Obj) (hb : b < s.next) (b' : Nat) : (s.setObj b o).get b' = if b' = b then some o else s.get b' := by
  unfold St.get St.setObj
  by_cases e : b' = b
  · subst e; simp only [hb, if_true]; rw [List.getElem?_set_self (by rw [h.1]; omega)]
  · simp only [if_neg e]
    by_cases hb' : b' < s.next
    · rw [if_pos hb', if_pos hb', List.getElem?_set_ne (by omega)]
    · rw [if_neg hb', if_neg hb']
theorem St.get_setFam (s : St) (b : Nat) (x : Nat × Nat) (b' : Nat) : (s.setFam b x).get b' = s.get b' := rfl
theorem St.fam_setFam {s : St} (h : s.wf) (b : Nat) (x : Nat × Nat) (hb : b < s.next) (b' : Nat) (hb' : b' < s.next) : (s.setFam b x).fam b' = if b' = b then x else s.fam b' := by
  unfold St.fam St.setFam
  by_cases e : b' = b
  · subst e; simp [hb, h.2]; rw [List.getElem?_set_self (by rw [h.2]; omega)]; rfl
  · simp only [if_neg e]; rw [List.getElem?_set_ne (by omega)]
/-! ### Where values lie -/
def Sub (μ μ' : Map) : Prop := (∀ b l, μ b = some l → μ' b = some l) ∧ μ.n ≤ μ'.n ∧ ∀ b, b < μ.n → μ' b = μ b
theorem Sub.refl (μ : Map) : Sub μ μ := ⟨fun _ _ h => h, Nat.le_refl _, fun _ _ => rfl⟩
theorem Sub.trans {a b c : Map} (h : Sub a b) (h' : Sub b c) : Sub a c := ⟨fun x l hx => h'.1 x l (h.1 x l hx), Nat.le_trans h.2.1 h'.2.1, fun b hb => (h'.2.2 b (Nat.lt_of_lt_of_le hb h.2.1)).trans (h.2.2 b hb)⟩
theorem concPtrs_mono {μ μ' : Map} (h : Sub μ μ') : ∀ {l : List (Nat × Nat)} {vs}, concPtrs μ l = some vs → concPtrs μ' l = some vs
  | [], vs, e => by simpa [concPtrs] using e
  | p :: ps, vs, e => by
    simp only [concPtrs] at e ⊢
    cases h1 : μ p.1 with
    | none => simp [h1] at e
    | some l =>
      cases h2 : concPtrs μ ps with
      | none => simp [h1, h2] at e
      | some ws => simp only [h1, h2] at e; rw [h.1 _ _ h1, concPtrs_mono h h2]; exact e
theorem Cell.conc_mono {μ μ' : Map} (h : Sub μ μ') {c : Cell} {v : Value} (e : c.conc μ = some v) : c.conc μ' = some v := by
  cases c <;> try exact e
  case ptr b off => simp only [Cell.conc, Option.map_eq_some_iff] at e ⊢; obtain ⟨l, hl, e⟩ := e; exact ⟨l, h.1 _ _ hl, e⟩
  case sl b off len cap => cases cap <;> (simp only [Cell.conc, Option.map_eq_some_iff] at e ⊢; obtain ⟨l, hl, e⟩ := e; exact ⟨l, h.1 _ _ hl, e⟩)
  case slh b o0 o d => simp only [Cell.conc, Option.map_eq_some_iff] at e ⊢; obtain ⟨l, hl, e⟩ := e; exact ⟨l, h.1 _ _ hl, e⟩
  case map b => simp only [Cell.conc, Option.map_eq_some_iff] at e ⊢; obtain ⟨l, hl, e⟩ := e; exact ⟨l, h.1 _ _ hl, e⟩
  case fn f caps => simp only [Cell.conc, Option.map_eq_some_iff] at e ⊢; obtain ⟨l, hl, e⟩ := e; exact ⟨l, concPtrs_mono h hl, e⟩
theorem concs_cons {μ : Map} {c : Cell} {cs : List Cell} {vs : List Value} : concs μ (c :: cs) = some vs ↔ ∃ v ws, c.conc μ = some v ∧ concs μ cs = some ws ∧ vs = v :: ws := by
  simp only [concs]
  cases c.conc μ <;> cases concs μ cs <;> simp [eq_comm]
theorem concs_mono {μ μ' : Map} (h : Sub μ μ') : ∀ {l : List Cell} {vs}, concs μ l = some vs → concs μ' l = some vs
  | [], vs, e => by simpa [concs] using e
  | p :: ps, vs, e => by
    obtain ⟨v, ws, h1, h2, rfl⟩ := concs_cons.1 e
    exact concs_cons.2 ⟨v, ws, Cell.conc_mono h h1, concs_mono h h2, rfl⟩
theorem V1.conc_mono {μ μ' : Map} (h : Sub μ μ') {c : V1} {v : Value} (e : c.conc μ = some v) : c.conc μ' = some v := by
  cases c with
  | c x => exact Cell.conc_mono h e
  | agg cs => simp only [V1.conc, Option.map_eq_some_iff] at e ⊢; obtain ⟨l, hl, e⟩ := e; exact ⟨l, concs_mono h hl, e⟩
theorem conc1s_cons {μ : Map} {c : V1} {cs : List V1} {vs : List Value} : conc1s μ (c :: cs) = some vs ↔ ∃ v ws, c.conc μ = some v ∧ conc1s μ cs = some ws ∧ vs = v :: ws := by
  simp only [conc1s]
  cases c.conc μ <;> cases conc1s μ cs <;> simp [eq_comm]
theorem conc1s_mono {μ μ' : Map} (h : Sub μ μ') : ∀ {l : List V1} {vs}, conc1s μ l = some vs → conc1s μ' l = some vs
  | [], vs, e => by simpa [conc1s] using e
  | p :: ps, vs, e => by
    obtain ⟨v, ws, h1, h2, rfl⟩ := conc1s_cons.1 e
    exact conc1s_cons.2 ⟨v, ws, V1.conc_mono h h1, conc1s_mono h h2, rfl⟩
theorem V.conc_mono {μ μ' : Map} (h : Sub μ μ') {c : V} {v : Value} (e : c.conc μ = some v) : c.conc μ' = some v := by
  cases c with
  | one x => exact V1.conc_mono h e
  | tup cs => simp only [V.conc, Option.map_eq_some_iff] at e ⊢; obtain ⟨l, hl, e⟩ := e; exact ⟨l, conc1s_mono h hl, e⟩
theorem sub_nowhere (μ : Map) : Sub nowhere μ := ⟨(fun _ _ h => by cases h), Nat.zero_le _, fun b hb => absurd hb (Nat.not_lt_zero _)⟩
theorem concs_length {μ : Map} : ∀ {l : List Cell} {vs}, concs μ l = some vs → vs.length = l.length
  | [], vs, e => by simp [concs] at e; simp [← e]
  | p :: ps, vs, e => by
    obtain ⟨v, ws, h1, h2, rfl⟩ := concs_cons.1 e
    simp [concs_length h2]
theorem concs_get {μ : Map} : ∀ {l : List Cell} {vs}, concs μ l = some vs → ∀ {i : Nat} {c : Cell}, l[i]? = some c → ∃ v, c.conc μ = some v ∧ vs[i]? = some v
  | [], vs, e, i, c, h => by simp at h
  | p :: ps, vs, e, i, c, h => by
    obtain ⟨v, ws, h1, h2, rfl⟩ := concs_cons.1 e
    cases i with
    | zero => simp at h; subst h; exact ⟨v, h1, rfl⟩
    | succ i => simp at h; obtain ⟨u, hu, hw⟩ := concs_get h2 h; exact ⟨u, hu, by simpa using hw⟩
theorem concs_get' {μ : Map} {l : List Cell} {vs : List Value} (e : concs μ l = some vs) {i : Nat} {v : Value} (h : vs[i]? = some v) : ∃ c, l[i]? = some c ∧ c.conc μ = some v := by
  have hl := concs_length e
  have hi := (List.getElem?_eq_some_iff.1 h).1
  obtain ⟨u, hu, hw⟩ := concs_get e (List.getElem?_eq_getElem (show i < l.length by omega))
  rw [h] at hw
  exact ⟨_, List.getElem?_eq_getElem (by omega), by rw [hu, hw]⟩
theorem concs_of {μ : Map} : ∀ (l : List Cell), (∀ (i : Nat) (c : Cell), l[i]? = some c → ∃ v, c.conc μ = some v) → ∃ vs, concs μ l = some vs
  | [], _ => ⟨[], rfl⟩
  | p :: ps, h => by
    obtain ⟨v, hv⟩ := h 0 p rfl
    obtain ⟨vs, hvs⟩ := concs_of ps (fun i c hc => h (i + 1) c (by simpa using hc))
    exact ⟨v :: vs, concs_cons.2 ⟨v, vs, hv, hvs, rfl⟩⟩
theorem concs_append {μ : Map} : ∀ {a b : List Cell} {va vb : List Value}, concs μ a = some va → concs μ b = some vb → concs μ (a ++ b) = some (va ++ vb)
  | [], b, va, vb, ha, hb => by simp [concs] at ha; subst ha; simpa using hb
  | c :: cs, b, va, vb, ha, hb => by
    obtain ⟨v, ws, h1, h2, rfl⟩ := concs_cons.1 ha
    exact concs_cons.2 ⟨v, ws ++ vb, h1, concs_append h2 hb, rfl⟩
theorem concs_take {μ : Map} : ∀ {a : List Cell} {va : List Value} (n : Nat), concs μ a = some va → concs μ (a.take n) = some (va.take n)
  | [], va, n, ha => by simp [concs] at ha; subst ha; simp [concs]
  | c :: cs, va, 0, ha => by simp [concs]
  | c :: cs, va, n + 1, ha => by
    obtain ⟨v, ws, h1, h2, rfl⟩ := concs_cons.1 ha
    exact concs_cons.2 ⟨v, _, h1, concs_take n h2, rfl⟩
theorem concs_drop {μ : Map} : ∀ {a : List Cell} {va : List Value} (n : Nat), concs μ a = some va → concs μ (a.drop n) = some (va.drop n)
  | [], va, n, ha => by simp [concs] at ha; subst ha; simp [concs]
  | c :: cs, va, 0, ha => by simpa using ha
  | c :: cs, va, n + 1, ha => by
    obtain ⟨v, ws, h1, h2, rfl⟩ := concs_cons.1 ha
    exact concs_drop n h2
theorem Cell.conc_one {μ : Map} {c : Cell} {v : Value} (h : c.conc μ = some v) : v.oneCell' = true ∧ v.cells = #[v] := by
  cases c <;> (try (simp only [Cell.conc, Option.some.injEq] at h; subst h; exact ⟨rfl, rfl⟩))
  case sl b off len cap => cases cap <;> (simp only [Cell.conc, Option.map_eq_some_iff] at h; obtain ⟨l, hl, rfl⟩ := h; exact ⟨rfl, rfl⟩)
  all_goals (simp only [Cell.conc, Option.map_eq_some_iff] at h; obtain ⟨l, hl, rfl⟩ := h; exact ⟨rfl, rfl⟩)
theorem concs_one {μ : Map} {l : List Cell} {vs : List Value} (h : concs μ l = some vs) : ∀ v ∈ vs, v.oneCell' = true := by
  intro v hv
  obtain ⟨i, hi, rfl⟩ := List.getElem_of_mem hv
  obtain ⟨c, _, hc⟩ := concs_get' h (List.getElem?_eq_getElem hi)
  exact (Cell.conc_one hc).1
theorem V1.conc_cells {μ : Map} {v : V1} {x : Value} (h : v.conc μ = some x) : concs μ v.cells = some x.cells.toList := by
  cases v with
  | c y => rw [(Cell.conc_one h).2]; exact concs_cons.2 ⟨x, [], h, rfl, rfl⟩
  | agg cs => simp only [V1.conc, Option.map_eq_some_iff] at h; obtain ⟨l, hl, rfl⟩ := h; simpa [V1.cells, Value.cells] using hl
/-! ### Values without addresses -/
theorem ofCell_conc {v : Value} {c : Cell} (h : ofCell v = some c) (μ : Map) : c.conc μ = some v := by
  unfold ofCell at h
  split at h <;> (try (cases h)) <;> rfl
theorem ofCells_conc {μ : Map} : ∀ {vs : List Value} {cs}, ofCells vs = some cs → concs μ cs = some vs
  | [], cs, h => by simp [ofCells] at h; subst h; rfl
  | v :: vs, cs, h => by
    simp only [ofCells] at h
    cases h1 : ofCell v with
    | none => simp [h1] at h
    | some c =>
      cases h2 : ofCells vs with
      | none => simp [h1, h2] at h
      | some ds => simp [h1, h2] at h; subst h; exact concs_cons.2 ⟨v, vs, ofCell_conc h1 μ, ofCells_conc h2, rfl⟩
theorem ofV1_conc {μ : Map} {v : Value} {c : V1} (h : ofV1 v = some c) : c.conc μ = some v := by
  unfold ofV1 at h
  split at h
  · simp only [Option.map_eq_some_iff] at h; obtain ⟨l, hl, rfl⟩ := h
    simp [V1.conc, ofCells_conc hl]
  · simp only [Option.map_eq_some_iff] at h; obtain ⟨l, hl, rfl⟩ := h
    exact ofCell_conc hl μ
theorem ofV1s_conc {μ : Map} : ∀ {vs : List Value} {cs}, ofV1s vs = some cs → conc1s μ cs = some vs
  | [], cs, h => by simp [ofV1s] at h; subst h; rfl
  | v :: vs, cs, h => by
    simp only [ofV1s] at h
    cases h1 : ofV1 v with
    | none => simp [h1] at h
    | some c =>
      cases h2 : ofV1s vs with
      | none => simp [h1, h2] at h
      | some ds => simp [h1, h2] at h; subst h; exact conc1s_cons.2 ⟨v, vs, ofV1_conc h1, ofV1s_conc h2, rfl⟩
theorem ofV_conc {μ : Map} {v : Value} {c : V} (h : ofV v = some c) : c.conc μ = some v := by
  unfold ofV at h
  split at h
  · simp only [Option.map_eq_some_iff] at h; obtain ⟨l, hl, rfl⟩ := h
    simp [V.conc, ofV1s_conc hl]
  · simp only [Option.map_eq_some_iff] at h; obtain ⟨l, hl, rfl⟩ := h
    exact ofV1_conc hl
theorem pure?_run {α : Type} {P : Program} : ∀ {s : Sem α} {a : α}, pure? P s = some a → ∀ w, s.run P w = .ok a w
  | .pure a, b, h, w => by simp [pure?] at h; subst h; rfl
  | .program k, b, h, w => by simp only [pure?] at h; simp only [Sem.run]; exact pure?_run h w
  | .mark m k, b, h, w => by simp only [pure?] at h; simp only [Sem.run]; exact pure?_run h w
  | .load .., b, h, w => by simp [pure?] at h
  | .store .., b, h, w => by simp [pure?] at h
  | .new .., b, h, w => by simp [pure?] at h
  | .shape .., b, h, w => by simp [pure?] at h
  | .freeze .., b, h, w => by simp [pure?] at h
  | .frozen .., b, h, w => by simp [pure?] at h
  | .getObj .., b, h, w => by simp [pure?] at h
  | .setObj .., b, h, w => by simp [pure?] at h
  | .choose .., b, h, w => by simp [pure?] at h
  | .sys .., b, h, w => by simp [pure?] at h
  | .halt .., b, h, w => by simp [pure?] at h
end Go.Proofs.Ytdhnjkagmbfoaaa.AM
/- The abstract machine's relation to the model's world: what reading, writing and making leave of it. -/
set_option linter.unusedSimpArgs false
set_option linter.unusedVariables false
namespace Go.Proofs.Ytdhnjkagmbfoaaa.AM
open Go Go.RowKit
def concE (μ : Map) : List (V1 × V1 × Nat) → Option (List MapEntry)
  | [] => some []
  | e :: es => match e.1.conc μ, e.2.1.conc μ, concE μ es with
    | some k, some v, some l => some ({ key := k, val := v, born := e.2.2 } :: l)
    | _, _, _ => none
theorem concE_cons {μ : Map} {e : V1 × V1 × Nat} {es : List (V1 × V1 × Nat)} {l : List MapEntry} : concE μ (e :: es) = some l ↔ ∃ k v r, e.1.conc μ = some k ∧ e.2.1.conc μ = some v ∧ concE μ es = some r ∧ l = { key := k, val := v, born := e.2.2 } :: r := by
  simp only [concE]
  cases e.1.conc μ <;> cases e.2.1.conc μ <;> cases concE μ es <;> simp [eq_comm]
theorem concE_mono {μ μ' : Map} (h : Sub μ μ') : ∀ {l : List (V1 × V1 × Nat)} {vs}, concE μ l = some vs → concE μ' l = some vs
  | [], vs, e => by simpa [concE] using e
  | p :: ps, vs, e => by
    obtain ⟨k, v, r, h1, h2, h3, rfl⟩ := concE_cons.1 e
    exact concE_cons.2 ⟨k, v, r, V1.conc_mono h h1, V1.conc_mono h h2, concE_mono h h3, rfl⟩
structure BlkRel (w0 : World) (μ : Map) (s : St) (w : World) (l : Loc) (cells : List Cell) (ty esz fam ver : Nat) : Prop where
  hfam : fam < s.next
  hver : ver ≤ (s.fam fam).1
  lt : l.blk < w.heap.size
  hcap : cells.length ≤ l.cap * esz
  own : ver = (s.fam fam).1 → w0.heap.size ≤ l.blk ∧ ∃ cs, w.heap[l.blk]? = some (.cells cs ty (0, 0)) ∧ l.sh + l.cap * esz ≤ cs.size
  read : (s.fam fam).2 ≤ ver → ∀ (i : Nat) (c : Cell), cells[i]? = some c → ∃ v, c.conc μ = some v ∧ w.cell? ⟨l.blk, l.sh + i, none⟩ = some v
def ObjRel (w0 : World) (μ : Map) (s : St) (w : World) (l : Loc) : Obj → Prop
  | .blk cells ty esz fam ver => BlkRel w0 μ s w l cells ty esz fam ver
  | .map es clock => w0.heap.size ≤ l.blk ∧ ∃ es' : Array MapEntry, w.heap[l.blk]? = some (.map es' clock) ∧ concE μ es = some es'.toList
  | .iter t pos => (w0.heap.size ≤ l.blk ∧ l.sh = 0) ∧ w.heap[l.blk]? = some (.stringIter t pos)
def SameFam (s : St) (l1 l2 : Loc) (b1 b2 : Nat) : Prop :=
  ∃ c1 t1 e1 f v1 c2 t2 e2 v2, s.get b1 = some (.blk c1 t1 e1 f v1) ∧ s.get b2 = some (.blk c2 t2 e2 f v2) ∧ ¬ (v1 = (s.fam f).1 ∧ v2 = (s.fam f).1) ∧
    (v2 = (s.fam f).1 → l1.sh + c1.length ≤ l2.sh + c2.length) ∧ (v1 = (s.fam f).1 → l2.sh + c2.length ≤ l1.sh + c1.length)
structure Rel (w0 : World) (μ : Map) (s : St) (w : World) : Prop where
  wf : s.wf
  below : Below w0.heap.size w0 w
  obj : ∀ b l, μ b = some l → ∃ o, s.get b = some o ∧ ObjRel w0 μ s w l o
  apart : ∀ b1 b2 l1 l2, b1 ≠ b2 → μ b1 = some l1 → μ b2 = some l2 → l1.blk = l2.blk → SameFam s l1 l2 b1 b2
  hor : μ.n ≤ s.next
theorem Rel.dom {w0 w : World} {μ : Map} {s : St} (h : Rel w0 μ s w) {b : Nat} {l : Loc} (hb : μ b = some l) : b < s.next := by
  obtain ⟨o, ho, _⟩ := h.obj b l hb; exact St.get_lt ho
theorem Rel.fresh {w0 w : World} {μ : Map} {s : St} (h : Rel w0 μ s w) : μ.n ≤ s.next ∧ μ s.next = none := by
  refine ⟨h.hor, ?_⟩
  cases e : μ s.next with
  | none => rfl
  | some l => have := h.dom e; omega
theorem ObjRel.lt {w0 w : World} {μ : Map} {s : St} {l : Loc} {o : Obj} (h : ObjRel w0 μ s w l o) : l.blk < w.heap.size := by
  cases o with
  | blk => exact BlkRel.lt h
  | map es c => obtain ⟨_, es', h, _⟩ := h; exact (Array.getElem?_eq_some_iff.1 h).1
  | iter t p => exact (Array.getElem?_eq_some_iff.1 h.2).1
def upd (μ : Map) (b : Nat) (l : Loc) : Map := ⟨fun x => if x = b then some l else μ x, b + 1⟩
theorem upd_self (μ : Map) (b : Nat) (l : Loc) : upd μ b l b = some l := by simp [upd]
theorem sub_upd {μ : Map} {b : Nat} (l : Loc) (h : μ.n ≤ b ∧ μ b = none) : Sub μ (upd μ b l) := by
  refine ⟨fun x l' hx => ?_, by show μ.n ≤ b + 1; omega, fun x hx => ?_⟩
  · unfold upd
    by_cases e : x = b
    · subst e; rw [h.2] at hx; cases hx
    · simp only [if_neg e]; exact hx
  · unfold upd
    simp only
    rw [if_neg (by omega)]
theorem ObjRel.keep {w0 w w' : World} {μ μ' : Map} {s s' : St} {l : Loc} {o : Obj} (h : ObjRel w0 μ s w l o) (hμ : Sub μ μ') (hf : ∀ r, r < s.next → s'.fam r = s.fam r) (hn : s.next ≤ s'.next)
    (hw : w'.heap[l.blk]? = w.heap[l.blk]?) : ObjRel w0 μ' s' w' l o := by
  have hlt : l.blk < w'.heap.size := by
    have h1 := h.lt
    rw [Array.getElem?_eq_getElem h1] at hw
    exact (Array.getElem?_eq_some_iff.1 hw).1
  cases o with
  | blk cells ty esz fam ver =>
    have hb : BlkRel w0 μ s w l cells ty esz fam ver := h
    refine ⟨Nat.lt_of_lt_of_le hb.hfam hn, by rw [hf _ hb.hfam]; exact hb.hver, hlt, hb.hcap, ?_, ?_⟩
    · rw [hf _ hb.hfam, hw]; exact hb.own
    · rw [hf _ hb.hfam]
      intro hv i c hc
      obtain ⟨v, h1, h2⟩ := hb.read hv i c hc
      exact ⟨v, Cell.conc_mono hμ h1, by rw [World.cell?_of_block (w := w) (a := ⟨l.blk, l.sh + i, none⟩) hw]; exact h2⟩
  | map es c => obtain ⟨h0, es', h1, h2⟩ := h; exact ⟨h0, es', by rw [hw]; exact h1, concE_mono hμ h2⟩
  | iter t p => exact ⟨h.1, by rw [hw]; exact h.2⟩
theorem Rel.world {w0 w w' : World} {μ : Map} {s : St} (h : Rel w0 μ s w) (hb : Below w.heap.size w w') (h0 : w0.heap.size ≤ w.heap.size) : Rel w0 μ s w' :=
  ⟨h.wf, h.below.trans (hb.mono h0), fun b l hl => by
    obtain ⟨o, ho, hr⟩ := h.obj b l hl
    exact ⟨o, ho, hr.keep (Sub.refl _) (fun _ _ => rfl) (Nat.le_refl _) (hb.block _ hr.lt)⟩, h.apart, h.hor⟩
theorem Rel.size {w0 w : World} {μ : Map} {s : St} (h : Rel w0 μ s w) : w0.heap.size ≤ w.heap.size := h.below.size
theorem Rel.drew {w0 w : World} {μ : Map} {s : St} (h : Rel w0 μ s w) : Rel w0 μ s w.drew := h.world (Below.refl _ _).drew h.size
/-- Reading. -/
theorem Rel.read {w0 w : World} {μ : Map} {s : St} (h : Rel w0 μ s w) {b off n : Nat} {cs : List Cell} {l : Loc} (hr : s.read b off n = some cs) (hl : μ b = some l) :
    ∃ vs, concs μ cs = some vs ∧ vs.length = n ∧ ∀ (j : Nat) (v : Value), vs[j]? = some v → w.cell? ((⟨l.blk, l.sh + off, none⟩ : Addr).add j) = some v := by
  unfold St.read at hr
  by_cases hn : n = 0
  · subst hn; simp at hr; subst hr; exact ⟨[], rfl, rfl, fun j v hj => by simp at hj⟩
  · rw [if_neg hn] at hr
    obtain ⟨o, ho, hO⟩ := h.obj b l hl
    rw [ho] at hr
    cases o with
    | map => cases hr
    | iter => cases hr
    | blk cells ty esz fam ver =>
      simp only at hr
      split at hr
      · rename_i hc
        cases hr
        have hB : BlkRel w0 μ s w l cells ty esz fam ver := hO
        have hrd := hB.read hc.1
        have hget : ∀ (i : Nat) (c : Cell), ((cells.drop off).take n)[i]? = some c → i < n ∧ cells[off + i]? = some c := by
          intro i c hi
          rw [List.getElem?_take] at hi
          by_cases hin : i < n
          · rw [if_pos hin, List.getElem?_drop] at hi; exact ⟨hin, hi⟩
          · rw [if_neg hin] at hi; cases hi
        obtain ⟨vs, hvs⟩ := concs_of (μ := μ) ((cells.drop off).take n) (fun i c hi => by
          obtain ⟨v, h1, _⟩ := hrd _ _ (hget i c hi).2; exact ⟨v, h1⟩)
        have hlen := concs_length hvs
        refine ⟨vs, hvs, by rw [hlen, List.length_take, List.length_drop]; omega, fun j v hj => ?_⟩
        obtain ⟨c, hc1, hc2⟩ := concs_get' hvs hj
        obtain ⟨hjn, hcell⟩ := hget j c hc1
        obtain ⟨u, hu1, hu2⟩ := hrd _ _ hcell
        rw [hc2] at hu1; cases hu1
        rw [Addr.add_lit, Nat.add_assoc]; exact hu2
      · cases hr
/-- A new block. -/
theorem Rel.pushed {w0 w w' : World} {μ : Map} {s : St} (h : Rel w0 μ s w) (o : Obj) (l : Loc) (hb : Below w.heap.size w w') (hl : w.heap.size ≤ l.blk)
    (ho : ObjRel w0 (upd μ s.next l) (s.push o) w' l o) : Rel w0 (upd μ s.next l) (s.push o) w' := by
  have hsub := sub_upd l h.fresh
  refine ⟨St.wf_push h.wf o, h.below.trans (hb.mono h.size), ?_, ?_, Nat.le_refl _⟩
  · intro b l' hb'
    by_cases e : b = s.next
    · subst e; rw [upd_self] at hb'; cases hb'
      exact ⟨o, by rw [St.get_push h.wf, if_pos rfl], ho⟩
    · simp only [upd, if_neg e] at hb'
      obtain ⟨o', ho', hr⟩ := h.obj b l' hb'
      refine ⟨o', by rw [St.get_push h.wf, if_neg e]; exact ho', hr.keep hsub (fun r hr => ?_) (by simp [St.push]) (hb.block _ hr.lt)⟩
      rw [St.fam_push h.wf _ _ (by omega), if_neg (by omega)]
  · intro b1 b2 l1 l2 hne h1 h2 he
    by_cases e1 : b1 = s.next
    · subst e1; rw [upd_self] at h1; cases h1
      simp only [upd, if_neg (Ne.symm hne)] at h2
      obtain ⟨o', ho', hr⟩ := h.obj b2 l2 h2
      have := hr.lt; omega
    · by_cases e2 : b2 = s.next
      · subst e2; rw [upd_self] at h2; cases h2
        simp only [upd, if_neg hne] at h1
        obtain ⟨o', ho', hr⟩ := h.obj b1 l1 h1
        have := hr.lt; omega
      · simp only [upd, if_neg e1] at h1
        simp only [upd, if_neg e2] at h2
        obtain ⟨c1, t1, g1, f, v1, c2, t2, g2, v2, q1, q2, q3⟩ := h.apart b1 b2 l1 l2 hne h1 h2 he
        refine ⟨c1, t1, g1, f, v1, c2, t2, g2, v2, by rw [St.get_push h.wf, if_neg e1]; exact q1, by rw [St.get_push h.wf, if_neg e2]; exact q2, ?_⟩
        obtain ⟨o', ho', hr⟩ := h.obj b1 l1 h1
        rw [q1] at ho'; cases ho'
        have hf := BlkRel.hfam hr
        rw [St.fam_push h.wf _ _ (by omega), if_neg (by omega)]; exact q3
theorem Rel.newBlk {w0 w w' : World} {μ : Map} {s : St} (h : Rel w0 μ s w) {cells : List Cell} {vs : List Value} (hv : concs μ cells = some vs) (ty esz cap : Nat) (cs : Array Value)
    (hb : Below w.heap.size w w') (hc : w'.heap[w.heap.size]? = some (.cells cs ty (0, 0))) (hcs : ∀ (j : Nat) (v : Value), vs[j]? = some v → cs[j]? = some v) (h1 : cells.length ≤ cap * esz) (h2 : cap * esz ≤ cs.size) :
    Rel w0 (upd μ s.next ⟨w.heap.size, 0, cap⟩) (s.new cells ty esz) w' := by
  have hsub := sub_upd ⟨w.heap.size, 0, cap⟩ h.fresh
  refine h.pushed _ _ hb (Nat.le_refl _) ?_
  have hfam : (s.push (.blk cells ty esz s.next 1)).fam s.next = (1, 0) := by rw [St.fam_push h.wf _ _ (Nat.le_refl _), if_pos rfl]
  refine ⟨by simp [St.push], by rw [hfam]; exact Nat.le_refl _, (Array.getElem?_eq_some_iff.1 hc).1, h1, fun _ => ⟨h.size, cs, hc, by simpa using h2⟩, fun _ i c hi => ?_⟩
  obtain ⟨v, q1, q2⟩ := concs_get hv hi
  refine ⟨v, Cell.conc_mono hsub q1, ?_⟩
  rw [Nat.zero_add]
  simp only [World.cell?, hc, Option.isSome_none, Bool.false_eq_true, if_false]
  exact hcs i v q2
theorem splice_length {cells : List Cell} {off : Nat} {new : List Cell} (h : off + new.length ≤ cells.length) : (splice cells off new).length = cells.length := by
  unfold splice; simp only [List.length_append, List.length_take, List.length_drop]; omega
theorem splice_get {cells : List Cell} {off : Nat} {new : List Cell} (h : off + new.length ≤ cells.length) (i : Nat) : (splice cells off new)[i]? = if off ≤ i ∧ i < off + new.length then new[i - off]? else cells[i]? := by
  unfold splice
  by_cases h1 : i < off
  · rw [if_neg (by omega), List.append_assoc, List.getElem?_append_left (by rw [List.length_take]; omega), List.getElem?_take, if_pos h1]
  · by_cases h2 : i < off + new.length
    · rw [if_pos (by omega), List.append_assoc, List.getElem?_append_right (by rw [List.length_take]; omega), List.length_take, List.getElem?_append_left (by omega)]
      congr 1; omega
    · rw [if_neg (by omega), List.getElem?_append_right (by simp; omega), List.getElem?_drop]
      simp only [List.length_append, List.length_take]
      congr 1; omega
theorem spliceV_get (cs : List Value) (o : Nat) (vs : List Value) (h : o + vs.length ≤ cs.length) (i : Nat) : (cs.take o ++ vs ++ cs.drop (o + vs.length))[i]? = if o ≤ i ∧ i < o + vs.length then vs[i - o]? else cs[i]? := by
  by_cases h1 : i < o
  · rw [if_neg (by omega), List.append_assoc, List.getElem?_append_left (by rw [List.length_take]; omega), List.getElem?_take, if_pos h1]
  · by_cases h2 : i < o + vs.length
    · rw [if_pos (by omega), List.append_assoc, List.getElem?_append_right (by rw [List.length_take]; omega), List.length_take, List.getElem?_append_left (by omega)]
      congr 1; omega
    · rw [if_neg (by omega), List.getElem?_append_right (by simp; omega), List.getElem?_drop]
      simp only [List.length_append, List.length_take]
      congr 1; omega
/-- The concrete row behind a write. -/
def wrote (w : World) (g : Nat) (cs : Array Value) (o : Nat) (vs : List Value) : World := w.setRow g (cs.toList.take o ++ vs ++ cs.toList.drop (o + vs.length)).toArray
theorem below_setRow {B : Nat} {w0 w : World} (h : Below B w0 w) (g : Nat) (cs : Array Value) (hg : B ≤ g) : Below B w0 (w.setRow g cs) :=
  h.trans ⟨rfl, rfl, rfl, by simp [World.setRow], fun k hk => setRow_other w g k cs (by omega)⟩
/-- Writing. -/
theorem Rel.write {w0 w : World} {μ : Map} {s s' : St} (h : Rel w0 μ s w) {b off : Nat} {new : List Cell} {vs : List Value} {l : Loc} (hw : s.write b off new = some s') (hl : μ b = some l) (hv : concs μ new = some vs) :
    (new = [] ∧ s' = s) ∨ ∃ cs ty, w.heap[l.blk]? = some (.cells cs ty (0, 0)) ∧ l.sh + off + vs.length ≤ cs.size ∧ Rel w0 μ s' (wrote w l.blk cs (l.sh + off) vs) := by
  unfold St.write at hw
  by_cases hn : new = []
  · rw [if_pos hn] at hw; cases hw; exact .inl ⟨hn, rfl⟩
  · rw [if_neg hn] at hw
    right
    obtain ⟨o, ho, hO⟩ := h.obj b l hl
    rw [ho] at hw
    cases o with
    | map => cases hw
    | iter => cases hw
    | blk cells ty esz fam ver =>
      simp only at hw
      split at hw
      · rename_i hc
        cases hw
        have hB : BlkRel w0 μ s w l cells ty esz fam ver := hO
        obtain ⟨h0, cs, hcs, hsz⟩ := hB.own hc.1.1.symm
        have hcap := hB.hcap
        have hlen := concs_length hv
        have hfit : l.sh + off + vs.length ≤ cs.size := by omega
        have hbs : b < s.next := St.get_lt ho
        have hfs := hB.hfam
        have hwf1 := St.wf_setObj h.wf b (.blk (splice cells off new) ty esz fam ver)
        have hgetn : ∀ b', ((s.setObj b (.blk (splice cells off new) ty esz fam ver)).setFam fam (ver, ver)).get b' = if b' = b then some (.blk (splice cells off new) ty esz fam ver) else s.get b' := by
          intro b'; rw [St.get_setFam, St.get_setObj h.wf _ _ hbs]
        have hfamn : ∀ r, r < s.next → ((s.setObj b (.blk (splice cells off new) ty esz fam ver)).setFam fam (ver, ver)).fam r = if r = fam then (ver, ver) else s.fam r := by
          intro r hr
          rw [St.fam_setFam hwf1 _ _ (by exact hfs) _ (by exact hr)]
          rfl
        have hrow := setRow_heap w l.blk cs (cs.toList.take (l.sh + off) ++ vs ++ cs.toList.drop (l.sh + off + vs.length)).toArray ty (0, 0) hcs
        have hrs : (cs.toList.take (l.sh + off) ++ vs ++ cs.toList.drop (l.sh + off + vs.length)).toArray.size = cs.size := by
          simp only [List.size_toArray, List.length_append, List.length_take, List.length_drop, Array.length_toList]; omega
        refine ⟨cs, ty, hcs, hfit, St.wf_setFam hwf1 _ _, below_setRow h.below _ _ h0, ?_, ?_, h.hor⟩
        · intro b' l' hl'
          by_cases e : b' = b
          · subst e
            rw [hl] at hl'; cases hl'
            refine ⟨_, by rw [hgetn, if_pos rfl], ?_⟩
            refine ⟨hfs, by rw [hfamn _ hfs, if_pos rfl]; exact Nat.le_refl _, (Array.getElem?_eq_some_iff.1 hrow).1, by rw [splice_length hc.2]; exact hcap, fun _ => ⟨h0, _, hrow, by rw [hrs]; exact hsz⟩, fun _ i c hi => ?_⟩
            rw [splice_get hc.2] at hi
            have hcell : (wrote w l.blk cs (l.sh + off) vs).cell? ⟨l.blk, l.sh + i, none⟩ = (cs.toList.take (l.sh + off) ++ vs ++ cs.toList.drop (l.sh + off + vs.length))[l.sh + i]? := by
              simp only [World.cell?, wrote, hrow, Option.isSome_none, Bool.false_eq_true, if_false, List.getElem?_toArray]
            rw [hcell, spliceV_get _ _ _ (by rw [Array.length_toList]; exact hfit)]
            by_cases hin : off ≤ i ∧ i < off + new.length
            · rw [if_pos hin] at hi
              obtain ⟨v, q1, q2⟩ := concs_get hv hi
              exact ⟨v, q1, by rw [if_pos (by omega), show l.sh + i - (l.sh + off) = i - off by omega]; exact q2⟩
            · rw [if_neg hin] at hi
              have hlive : (s.fam fam).2 ≤ ver := hc.1.2
              obtain ⟨v, q1, q2⟩ := hB.read hlive i c hi
              refine ⟨v, q1, ?_⟩
              rw [if_neg (by omega)]
              simp only [World.cell?, hcs, Option.isSome_none, Bool.false_eq_true, if_false] at q2
              simpa using q2
          · obtain ⟨o', ho', hr⟩ := h.obj b' l' hl'
            refine ⟨o', by rw [hgetn, if_neg e]; exact ho', ?_⟩
            by_cases hblk : l'.blk = l.blk
            · obtain ⟨c1, t1, g1, f, v1, c2, t2, g2, v2, q1, q2, q3⟩ := h.apart b' b l' l e hl' hl hblk
              rw [ho] at q2; cases q2
              rw [ho'] at q1; cases q1
              have hr' : BlkRel w0 μ s w l' c1 t1 g1 fam v1 := hr
              have hv1 : v1 < ver := by
                have := hr'.hver
                have := hc.1.1
                have : v1 ≠ ver := fun e => q3.1 ⟨by omega, by omega⟩
                omega
              refine ⟨hfs, by rw [hfamn _ hfs, if_pos rfl]; omega, by have := (Array.getElem?_eq_some_iff.1 hrow).1; rw [hblk]; exact this, hr'.hcap, ?_, ?_⟩
              · rw [hfamn _ hfs, if_pos rfl]; intro e; simp only at e; omega
              · rw [hfamn _ hfs, if_pos rfl]; intro e; simp only at e; omega
            · have hother : (wrote w l.blk cs (l.sh + off) vs).heap[l'.blk]? = w.heap[l'.blk]? := setRow_other w _ _ _ hblk
              cases o' with
              | map es c => obtain ⟨q0, es', q1, q2⟩ := hr; exact ⟨q0, es', by rw [hother]; exact q1, q2⟩
              | iter t p => exact ⟨hr.1, by rw [hother]; exact hr.2⟩
              | blk c1 t1 g1 f1 v1 =>
                have hr' : BlkRel w0 μ s w l' c1 t1 g1 f1 v1 := hr
                have hsz' : l'.blk < (wrote w l.blk cs (l.sh + off) vs).heap.size := by simpa [wrote, World.setRow] using hr'.lt
                refine ⟨hr'.hfam, ?_, hsz', hr'.hcap, ?_, ?_⟩
                · rw [hfamn _ hr'.hfam]
                  split
                  · rename_i e2; subst e2; have := hr'.hver; have := hc.1.1; simp only; omega
                  · exact hr'.hver
                · rw [hfamn _ hr'.hfam, hother]
                  split
                  · rename_i e2; subst e2; intro e3; exact hr'.own (by rw [hc.1.1]; exact e3)
                  · exact hr'.own
                · rw [hfamn _ hr'.hfam]
                  intro hle i c hi
                  have hle' : (s.fam f1).2 ≤ v1 := by
                    split at hle
                    · rename_i e2; subst e2
                      simp only at hle
                      have := hc.1.2
                      omega
                    · exact hle
                  obtain ⟨v, q1, q2⟩ := hr'.read hle' i c hi
                  exact ⟨v, q1, by rw [World.cell?_of_block (w := w) (a := ⟨l'.blk, l'.sh + i, none⟩) hother]; exact q2⟩
        · intro b1 b2 l1 l2 hne h1 h2 he
          obtain ⟨c1, t1, g1, f, v1, c2, t2, g2, v2, q1, q2, q3⟩ := h.apart b1 b2 l1 l2 hne h1 h2 he
          have hff : f < s.next := by
            obtain ⟨o', ho', hr⟩ := h.obj b1 l1 h1
            rw [q1] at ho'; cases ho'
            exact BlkRel.hfam hr
          have hkeep : (((s.setObj b (.blk (splice cells off new) ty esz fam ver)).setFam fam (ver, ver)).fam f).1 = (s.fam f).1 := by
            rw [hfamn _ hff]; split
            · rename_i e; subst e; exact hc.1.1.symm
            · rfl
          by_cases e1 : b1 = b
          · subst e1
            rw [ho] at q1; cases q1
            exact ⟨_, _, _, _, _, _, _, _, _, by rw [hgetn, if_pos rfl], by rw [hgetn, if_neg (Ne.symm hne)]; exact q2, by rw [hkeep, splice_length hc.2]; exact q3⟩
          · by_cases e2 : b2 = b
            · subst e2
              rw [ho] at q2; cases q2
              exact ⟨_, _, _, _, _, _, _, _, _, by rw [hgetn, if_neg e1]; exact q1, by rw [hgetn, if_pos rfl], by rw [hkeep, splice_length hc.2]; exact q3⟩
            · exact ⟨_, _, _, _, _, _, _, _, _, by rw [hgetn, if_neg e1]; exact q1, by rw [hgetn, if_neg e2]; exact q2, by rw [hkeep]; exact q3⟩
      · cases hw
end Go.Proofs.Ytdhnjkagmbfoaaa.AM
/- The abstract machine's operations: each does what the model's does. -/
set_option linter.unusedSimpArgs false
set_option linter.unusedVariables false
namespace Go.Proofs.Ytdhnjkagmbfoaaa.AM
open Go Go.RowKit
/-- What an operation's run is to be. -/
def OpRes (P : Program) (w0 : World) (μ : Map) (v : V) (s' : St) (r : Result Next) : Prop :=
  (∃ μ' v' w', Sub μ μ' ∧ v.conc μ' = some v' ∧ Rel w0 μ' s' w' ∧ (r = .ok (.value v') w' ∨ (r = .ok .skip w' ∧ v' = undef))) ∨
  (∃ f args' w1, r = .ok (.enter f args') w1 ∧ Calls P f args' w1 fun e w' => ∃ μ' v', Sub μ μ' ∧ v.conc μ' = some v' ∧ e = .returned v' ∧ Rel w0 μ' s' w')
/-- .. of an instruction that gives a value. -/
def VRes (w0 : World) (μ : Map) (v : V) (s' : St) (r : Result Value) : Prop :=
  ∃ μ' v' w', Sub μ μ' ∧ v.conc μ' = some v' ∧ Rel w0 μ' s' w' ∧ r = .ok v' w'
theorem VRes.op {P : Program} {w0 : World} {μ : Map} {v : V} {s' : St} {w : World} {x : Sem Value} (h : VRes w0 μ v s' (x.run P w)) : OpRes P w0 μ v s' ((do let y ← x; pure (Next.value y) : Sem Next).run P w) := by
  obtain ⟨μ', v', w', h1, h2, h3, h4⟩ := h
  refine .inl ⟨μ', v', w', h1, h2, h3, .inl ?_⟩
  simp [Sem.run_bind, h4]
theorem Tree.get_set : ∀ (k : Nat) (t : Tree) (n : Nat) (v : V) (m : Nat), n < k → (Tree.set k t n v).get m = if m = n then v else t.get m
  | 0, _, _, _, _, h => absurd h (by omega)
  | k + 1, t, n, v, m, h => by
    have i1 := fun t => Tree.get_set k t (n / 2) v (m / 2)
    have i2 := fun t => Tree.get_set k t (n / 2 - 1) v (m / 2 - 1)
    cases t with
    | leaf =>
      simp only [Tree.set]
      by_cases h0 : n = 0
      · rw [if_pos h0]
        by_cases m0 : m = 0
        · simp [Tree.get, h0, m0]
        · have : m ≠ n := by omega
          simp [Tree.get, m0, this]
      · rw [if_neg h0]
        by_cases h1 : n % 2 = 1
        · rw [if_pos h1]
          by_cases m0 : m = 0
          · have : m ≠ n := by omega
            simp [Tree.get, m0]; omega
          · by_cases m1 : m % 2 = 1
            · simp only [Tree.get, m0, if_false, m1, if_true]
              rw [i1 _ (by omega)]
              by_cases e : m = n
              · rw [if_pos e, if_pos (by omega)]
              · rw [if_neg e, if_neg (by omega)]; rfl
            · have : m ≠ n := by omega
              simp [Tree.get, m0, m1, this]
        · rw [if_neg h1]
          by_cases m0 : m = 0
          · simp [Tree.get, m0]; omega
          · by_cases m1 : m % 2 = 1
            · have : m ≠ n := by omega
              simp [Tree.get, m0, m1, this]
            · simp only [Tree.get, m0, if_false, m1]
              rw [i2 _ (by omega)]
              by_cases e : m = n
              · rw [if_pos e, if_pos (by omega)]
              · rw [if_neg e, if_neg (by omega)]; rfl
    | node l x r =>
      simp only [Tree.set]
      by_cases h0 : n = 0
      · rw [if_pos h0]
        by_cases m0 : m = 0
        · simp [Tree.get, h0, m0]
        · have : m ≠ n := by omega
          simp [Tree.get, m0, this]
      · rw [if_neg h0]
        by_cases h1 : n % 2 = 1
        · rw [if_pos h1]
          by_cases m0 : m = 0
          · simp [Tree.get, m0]; omega
          · by_cases m1 : m % 2 = 1
            · simp only [Tree.get, m0, if_false, m1, if_true]
              rw [i1 _ (by omega)]
              by_cases e : m = n
              · rw [if_pos e, if_pos (by omega)]
              · rw [if_neg e, if_neg (by omega)]
            · have : m ≠ n := by omega
              simp [Tree.get, m0, m1, this]
        · rw [if_neg h1]
          by_cases m0 : m = 0
          · simp [Tree.get, m0]; omega
          · by_cases m1 : m % 2 = 1
            · have : m ≠ n := by omega
              simp [Tree.get, m0, m1, this]
            · simp only [Tree.get, m0, if_false, m1]
              rw [i2 _ (by omega)]
              by_cases e : m = n
              · rw [if_pos e, if_pos (by omega)]
              · rw [if_neg e, if_neg (by omega)]
theorem Fr.put_size (f : Fr) (d : Nat) (v : V) : (f.put d v).size = f.size := by unfold Fr.put; split <;> rfl
theorem Fr.put_get (f : Fr) (d : Nat) (v : V) (t : Nat) : (f.put d v).get t = if d = t ∧ d < f.size then v else f.get t := by
  unfold Fr.put
  by_cases hd : d < f.size
  · rw [if_pos hd]
    unfold Fr.get
    by_cases ht : t < f.size
    · simp only [ht, if_true]
      rw [Tree.get_set _ _ _ _ _ (by omega)]
      by_cases e : t = d
      · rw [if_pos e, if_pos ⟨e.symm, hd⟩]
      · rw [if_neg e, if_neg (fun q => e q.1.symm)]
    · have : ¬ (d = t ∧ d < f.size) := fun q => ht (by omega)
      simp [ht, this]
  · rw [if_neg hd, if_neg (fun q => hd q.2)]
theorem Fr.get_out (f : Fr) (t : Nat) (h : ¬ t < f.size) : f.get t = undefV := by unfold Fr.get; rw [if_neg h]
theorem Fr.fill_size : ∀ (vs : List V) (k : Nat) (f : Fr), (Fr.fill k vs f).size = f.size
  | [], _, _ => rfl
  | v :: vs, k, f => by simp only [Fr.fill]; rw [Fr.fill_size vs, Fr.put_size]
theorem Fr.fill_get : ∀ (vs : List V) (k : Nat) (f : Fr) (t : Nat), k + vs.length ≤ f.size → (Fr.fill k vs f).get t = if k ≤ t ∧ t < k + vs.length then (vs[t - k]?).getD undefV else f.get t
  | [], k, f, t, _ => by simp only [Fr.fill, List.length_nil]; rw [if_neg (by omega)]
  | v :: vs, k, f, t, h => by
    simp only [Fr.fill, List.length_cons] at h ⊢
    rw [Fr.fill_get vs (k + 1) (f.put k v) t (by rw [Fr.put_size]; omega), Fr.put_get]
    by_cases h1 : k + 1 ≤ t ∧ t < k + 1 + vs.length
    · rw [if_pos h1, if_pos ⟨by omega, by omega⟩]
      obtain ⟨m, rfl⟩ : ∃ m, t = k + 1 + m := ⟨t - (k + 1), by omega⟩
      rw [show k + 1 + m - (k + 1) = m by omega, show k + 1 + m - k = m + 1 by omega, List.getElem?_cons_succ]
    · rw [if_neg h1]
      by_cases e : k = t
      · rw [if_pos ⟨e, by omega⟩, if_pos ⟨by omega, by omega⟩, e, Nat.sub_self]; rfl
      · rw [if_neg (fun q => e q.1), if_neg (by omega)]
theorem Fr.of_get (args : List V) (n t : Nat) : (Fr.of args n).get t = (args[t]?).getD undefV := by
  unfold Fr.of
  rw [Fr.fill_get _ _ _ _ (by simp only; omega)]
  by_cases h : t < args.length
  · rw [if_pos ⟨by omega, by omega⟩, Nat.sub_zero]
  · rw [if_neg (by omega), List.getElem?_eq_none (by omega)]
    unfold Fr.get
    split <;> rfl
theorem Fr.of_size (args : List V) (n : Nat) : (Fr.of args n).size = args.length + (n - args.length) := by unfold Fr.of; rw [Fr.fill_size]
def FrRel (μ : Map) (fr : Fr) (tmps : Array Value) : Prop := fr.size = tmps.size ∧ ∀ t, (fr.get t).conc μ = some (tmps.getD t undef)
theorem FrRel.mono {μ μ' : Map} {fr : Fr} {tmps : Array Value} (h : FrRel μ fr tmps) (hs : Sub μ μ') : FrRel μ' fr tmps := ⟨h.1, fun t => V.conc_mono hs (h.2 t)⟩
theorem FrRel.put {μ : Map} {fr : Fr} {tmps : Array Value} (h : FrRel μ fr tmps) {v : V} {v' : Value} (hv : v.conc μ = some v') (d : Nat) : FrRel μ (fr.put d v) (tmps.setIfInBounds d v') := by
  refine ⟨by rw [Fr.put_size]; simp [h.1], fun t => ?_⟩
  have ht := h.2 t
  rw [Fr.put_get]
  simp only [Array.getD_eq_getD_getElem?, Array.getElem?_setIfInBounds, h.1] at ht ⊢
  by_cases e : d = t
  · subst e
    by_cases hd : d < tmps.size
    · simp [hd, hv]
    · have hg := Fr.get_out fr d (by rw [h.1]; exact hd)
      rw [hg] at ht ⊢
      simp [hd]; rfl
  · simp [e, ht]
theorem evalO_conc {μ : Map} {fr : Fr} {a : Act} (h : FrRel μ fr a.tmps) {x : Operand} {v : V} (e : evalO fr x = some v) : v.conc μ = some (a.eval x) := by
  cases x with
  | tmp t => simp only [evalO, Option.some.injEq] at e; subst e; exact h.2 t
  | const u => exact ofV_conc e
  | func f => simp only [evalO, Option.some.injEq] at e; subst e; rfl
  | global g => cases e
theorem evalC_conc {μ : Map} {fr : Fr} {a : Act} (h : FrRel μ fr a.tmps) {x : Operand} {c : Cell} (e : evalC fr x = some c) : c.conc μ = some (a.eval x) := by
  unfold evalC at e
  split at e
  · cases e; rename_i h1; exact evalO_conc h h1
  · cases e
theorem eval1_conc {μ : Map} {fr : Fr} {a : Act} (h : FrRel μ fr a.tmps) {x : Operand} {c : V1} (e : eval1 fr x = some c) : c.conc μ = some (a.eval x) := by
  unfold eval1 at e
  split at e
  · cases e; rename_i h1; exact evalO_conc h h1
  · cases e
section
variable {P : Program} {w0 w : World} {μ : Map} {s : St}
theorem run_sizeOf' {t : TypeId} {n : Nat} (h : sizeT P t = some n) (w : World) : (sizeOf t).run P w = .ok n w := by
  simp only [sizeT, Option.map_eq_some_iff] at h; obtain ⟨i, hi, rfl⟩ := h
  simp [sizeOf, typeInfo, hi]
theorem run_isAgg' {t : TypeId} {b : Bool} (h : aggT P t = some b) (w : World) : (isAgg t).run P w = .ok b w := by
  simp only [aggT, Option.map_eq_some_iff] at h; obtain ⟨d, hd, rfl⟩ := h
  simp only [isAgg, Sem.run_bind, run_underlying hd, Result.andThen_ok]
  cases d <;> rfl
theorem zeroT_run {t : TypeId} {cs : List Cell} (h : zeroT P t = some cs) : ∃ z : Value, (∀ w, (zeroValue t).run P w = .ok z w) ∧ (∀ μ, concs μ cs = some z.cells.toList) := by
  simp only [zeroT] at h
  cases hi : P.info? t with
  | none => simp [hi] at h
  | some i =>
    cases hz : i.zero with
    | none => simp [hi, hz] at h
    | some z =>
      simp only [hi, hz, Option.bind_some] at h
      exact ⟨z, fun w => by simp [zeroValue, typeInfo, hi, hz], fun μ => ofCells_conc h⟩
theorem heap_push_new (w : World) (o : Go.Obj) : (w.alloc o).heap[w.heap.size]? = some o := heap_alloc_new w o
theorem below_alloc' (w : World) (o : Go.Obj) : Below w.heap.size w (w.alloc o) := (Below.refl _ _).alloc (Nat.le_refl _) o
theorem newVar_sim (h : Rel w0 μ s w) {cs : List Cell} {v : Value} (hv : concs μ cs = some v.cells.toList) (t : TypeId) : ∃ μ', Sub μ μ' ∧ (ptrV s.next 0).conc μ' = some (.pointer (some ⟨w.heap.size, 0, none⟩)) ∧ Rel w0 μ' (s.new cs t 1) (w.alloc (.cells v.cells t)) := by
  have hl := concs_length hv
  rw [Array.length_toList] at hl
  refine ⟨_, sub_upd ⟨w.heap.size, 0, cs.length⟩ h.fresh, ?_, h.newBlk hv t 1 cs.length v.cells (below_alloc' w _) (heap_push_new w _) (fun j u hj => by simpa using hj) (by omega) (by omega)⟩
  simp [ptrV, V.conc, V1.conc, Cell.conc, upd_self]
theorem xAlloc_sim (h : Rel w0 μ s w) {t : TypeId} {v : V} {s' : St} (hx : xAlloc P s t = some (v, s')) : VRes w0 μ v s' ((Instr.alloc t true (.tuple #[])).run P w) := by
  simp only [xAlloc, Option.map_eq_some_iff, Prod.mk.injEq] at hx
  obtain ⟨cs, hz, rfl, rfl⟩ := hx
  obtain ⟨z, hz1, hz2⟩ := zeroT_run hz
  obtain ⟨μ', q1, q2, q3⟩ := newVar_sim h (hz2 μ) t
  exact ⟨μ', _, _, q1, q2, q3, by simp [Instr.alloc, hz1, newVar, newRow]⟩
theorem xBox_sim (h : Rel w0 μ s w) {t : TypeId} {x : V1} {x' : Value} (hx' : x.conc μ = some x') {v : V} {s' : St} (hx : xBox s t x = some (v, s')) : VRes w0 μ v s' ((Instr.box t x').run P w) := by
  simp only [xBox, Option.some.injEq, Prod.mk.injEq] at hx
  obtain ⟨rfl, rfl⟩ := hx
  obtain ⟨μ', q1, q2, q3⟩ := newVar_sim h (V1.conc_cells hx') t
  exact ⟨μ', _, _, q1, q2, q3, by simp [Instr.box, newVar, newRow]⟩
theorem conc_ptr {b off : Nat} {x : Value} (h : (Cell.ptr b off).conc μ = some x) : ∃ l, μ b = some l ∧ x = .pointer (some ⟨l.blk, l.sh + off, none⟩) := by
  simp only [Cell.conc, Option.map_eq_some_iff] at h; obtain ⟨l, hl, rfl⟩ := h; exact ⟨l, hl, rfl⟩
theorem concs_single {c : Cell} {vs : List Value} (h : concs μ [c] = some vs) : ∃ v, vs = [v] ∧ c.conc μ = some v := by
  obtain ⟨v, ws, h1, h2, rfl⟩ := concs_cons.1 h
  simp [concs] at h2; subst h2; exact ⟨v, rfl, h1⟩
theorem loadVar_sim (h : Rel w0 μ s w) {t : TypeId} {b off : Nat} {l : Loc} (hl : μ b = some l) {v : V} {s' : St} (hx : xLoad P s t b off = some (v, s')) :
    s' = s ∧ ∃ v', v.conc μ = some v' ∧ (loadVar t ⟨l.blk, l.sh + off, none⟩).run P w = .ok v' w := by
  unfold xLoad at hx
  split at hx
  · rename_i n ha hn
    simp only [Option.map_eq_some_iff, Prod.mk.injEq] at hx
    obtain ⟨cs, hr, rfl, rfl⟩ := hx
    obtain ⟨vs, q1, q2, q3⟩ := h.read hr hl
    refine ⟨rfl, .agg vs.toArray, by simp [V.conc, V1.conc, q1], ?_⟩
    have := run_loadCells_list (P := P) w _ vs q3
    rw [q2] at this
    simp [loadVar, run_isAgg' ha, run_sizeOf' hn, this]
  · rename_i ha
    split at hx
    · rename_i c hr
      cases hx
      obtain ⟨vs, q1, q2, q3⟩ := h.read hr hl
      obtain ⟨v', rfl, hv'⟩ := concs_single q1
      have := q3 0 v' rfl
      rw [Addr.add_zero'] at this
      exact ⟨rfl, v', hv', by simp [loadVar, run_isAgg' ha, this]⟩
    · cases hx
  · cases hx
theorem xLoad_sim (h : Rel w0 μ s w) {t : TypeId} {b off : Nat} {x : Value} (hp : (Cell.ptr b off).conc μ = some x) {v : V} {s' : St} (hx : xLoad P s t b off = some (v, s')) : VRes w0 μ v s' ((Instr.loadAt t x).run P w) := by
  obtain ⟨l, hl, rfl⟩ := conc_ptr hp
  obtain ⟨rfl, v', h1, h2⟩ := loadVar_sim h hl hx
  exact ⟨μ, v', w, Sub.refl _, h1, h, by simp [Instr.loadAt, Instr.sureAddr, h2]⟩
theorem storeCells_sim (h : Rel w0 μ s w) {b off : Nat} {l : Loc} (hl : μ b = some l) {new : List Cell} {vs : List Value} (hv : concs μ new = some vs) {s' : St} (hx : s.write b off new = some s') :
    ∃ w', (storeCells ⟨l.blk, l.sh + off, none⟩ vs).run P w = .ok () w' ∧ Rel w0 μ s' w' := by
  rcases h.write hx hl hv with ⟨rfl, rfl⟩ | ⟨cs, ty, q1, q2, q3⟩
  · simp [concs] at hv; subst hv
    exact ⟨w, by simp [storeCells], h⟩
  · refine ⟨_, ?_, q3⟩
    have := run_storeCells_at P l.blk (l.sh + off) ty vs 0 cs w q1 (by simpa using q2) (concs_one hv)
    simpa [wrote] using this
theorem xStore_sim (h : Rel w0 μ s w) {t : TypeId} {b off : Nat} {x y : Value} (hp : (Cell.ptr b off).conc μ = some x) {u : V1} (hu : u.conc μ = some y) {v : V} {s' : St} (hx : xStore P s t b off u = some (v, s')) :
    v = undefV ∧ ∃ w', Rel w0 μ s' w' ∧ (Instr.storeAt t x y).run P w = .ok () w' := by
  obtain ⟨l, hl, rfl⟩ := conc_ptr hp
  unfold xStore at hx
  split at hx
  · rename_i hs
    simp only [Option.map_eq_some_iff, Prod.mk.injEq] at hx
    obtain ⟨s1, hw, rfl, rfl⟩ := hx
    have hc := V1.conc_cells hu
    have hlen := concs_length hc
    rw [Array.length_toList] at hlen
    obtain ⟨w', r1, r2⟩ := storeCells_sim (P := P) h hl hc hw
    refine ⟨rfl, w', r2, ?_⟩
    simp [Instr.storeAt, Instr.sureAddr, storeVar, run_sizeOf' hs, hlen, r1]
  · cases hx
theorem xFieldAddr_sim (h : Rel w0 μ s w) {t : TypeId} {b off f : Nat} {x : Value} (hp : (Cell.ptr b off).conc μ = some x) {v : V} {s' : St} (hx : xFieldAddr P s t b off f = some (v, s')) : VRes w0 μ v s' ((Instr.fieldAt t x f).run P w) := by
  obtain ⟨l, hl, rfl⟩ := conc_ptr hp
  unfold xFieldAddr at hx
  split at hx
  · rename_i fields hu
    split at hx
    · rename_i fd hf
      split at hx
      · rename_i n hn
        cases hx
        refine ⟨μ, .pointer (some ⟨l.blk, l.sh + (off + fd.offset), none⟩), w, Sub.refl _, by simp [ptrV, V.conc, V1.conc, Cell.conc, hl], h, ?_⟩
        simp [Instr.fieldAt, run_underlying hu, hf, Instr.sureAddr, fieldPlace, run_sizeOf' hn, Addr.add_lit, Nat.add_assoc]
      · cases hx
    · cases hx
  · cases hx
theorem part_sim {t : TypeId} {cs : List Cell} {vs : List Value} (hv : concs μ cs = some vs) {off : Nat} {v : V} (hx : partV P t cs off = some v) (w : World) : ∃ v', v.conc μ = some v' ∧ (part t vs.toArray off).run P w = .ok v' w := by
  unfold partV at hx
  split at hx
  · rename_i n ha hn
    cases hx
    refine ⟨_, by simp only [V.conc, V1.conc, concs_drop off (concs_take (off + n) hv)]; rfl, ?_⟩
    simp only [part, Sem.run_bind, run_isAgg' ha, Result.andThen_ok, if_true, run_sizeOf' hn, Sem.run_pure]
    congr 2
    apply Array.ext'
    simp [List.extract_eq_take_drop, List.take_drop]
  · rename_i ha
    simp only [Option.map_eq_some_iff] at hx
    obtain ⟨c, hc, rfl⟩ := hx
    obtain ⟨u, h1, h2⟩ := concs_get hv hc
    refine ⟨u, h1, ?_⟩
    simp [part, run_isAgg' ha, h2]
  · cases hx
theorem conc_agg {cs : List Cell} {x : Value} (h : (V1.agg cs).conc μ = some x) : ∃ vs, concs μ cs = some vs ∧ x = .agg vs.toArray := by
  simp only [V1.conc, Option.map_eq_some_iff] at h; obtain ⟨l, hl, rfl⟩ := h; exact ⟨l, hl, rfl⟩
theorem xField_sim (h : Rel w0 μ s w) {t : TypeId} {cs : List Cell} {f : Nat} {x : Value} (hp : (V1.agg cs).conc μ = some x) {v : V} {s' : St} (hx : xField P s t cs f = some (v, s')) : VRes w0 μ v s' ((Instr.field t x f).run P w) := by
  obtain ⟨vs, hvs, rfl⟩ := conc_agg hp
  unfold xField at hx
  split at hx
  · rename_i fields hu
    split at hx
    · rename_i fd hf
      simp only [Option.map_eq_some_iff, Prod.mk.injEq] at hx
      obtain ⟨v1, hp1, rfl, rfl⟩ := hx
      obtain ⟨v', h1, h2⟩ := part_sim hvs hp1 w
      exact ⟨μ, v', w, Sub.refl _, h1, h, by simp [Instr.field, run_underlying hu, hf, asAgg, h2]⟩
    · cases hx
  · cases hx
end
end Go.Proofs.Ytdhnjkagmbfoaaa.AM
/- The abstract machine's operations, more: parts, rows, places. -/
set_option linter.unusedSimpArgs false
set_option linter.unusedVariables false
namespace Go.Proofs.Ytdhnjkagmbfoaaa.AM
open Go Go.RowKit
section
variable {P : Program} {w0 w : World} {μ : Map} {s : St}
theorem foldl_set (off : Nat) : ∀ (l : List Value) (k : Nat) (cs : Array Value), off + k + l.length ≤ cs.size →
    (l.zipIdx k).foldl (fun cs p => cs.setIfInBounds (off + p.2) p.1) cs = (cs.toList.take (off + k) ++ l ++ cs.toList.drop (off + k + l.length)).toArray
  | [], k, cs, h => by apply Array.ext'; simp
  | v :: l, k, cs, h => by
    simp only [List.length_cons] at h
    have ih := foldl_set off l (k + 1) (cs.setIfInBounds (off + k) v) (by simp; omega)
    simp only [List.zipIdx_cons, List.foldl_cons]
    rw [ih]
    congr 1
    apply List.ext_getElem?
    intro i
    rw [spliceV_get _ _ _ (by simp; omega), spliceV_get _ _ _ (by simp; omega)]
    simp only [Array.toList_setIfInBounds, List.getElem?_set, Array.length_toList, List.length_cons]
    by_cases h1 : off + (k + 1) ≤ i ∧ i < off + (k + 1) + l.length
    · rw [if_pos h1, if_pos (by omega), show i - (off + k) = (i - (off + (k + 1))) + 1 by omega]; rfl
    · rw [if_neg h1]
      by_cases h2 : i = off + k
      · subst h2; rw [if_pos rfl, if_pos (by omega), if_pos (by omega)]; simp
      · rw [if_neg (by omega), if_neg (by omega)]
def concParts (μ : Map) : List (Nat × V1) → Option (List (Nat × Value))
  | [] => some []
  | p :: ps => match p.2.conc μ, concParts μ ps with
    | some v, some l => some ((p.1, v) :: l)
    | _, _ => none
theorem concParts_cons {μ : Map} {p : Nat × V1} {ps : List (Nat × V1)} {l : List (Nat × Value)} : concParts μ (p :: ps) = some l ↔ ∃ v r, p.2.conc μ = some v ∧ concParts μ ps = some r ∧ l = (p.1, v) :: r := by
  simp only [concParts]
  cases p.2.conc μ <;> cases concParts μ ps <;> simp [eq_comm]
theorem evalParts_conc {fr : Fr} {a : Act} (h : FrRel μ fr a.tmps) : ∀ {l : List (Nat × Operand)} {ps}, evalParts fr l = some ps → concParts μ ps = some (l.map fun p => (p.1, a.eval p.2))
  | [], ps, e => by simp [evalParts] at e; subst e; rfl
  | (i, x) :: l, ps, e => by
    simp only [evalParts] at e
    cases h1 : eval1 fr x with
    | none => simp [h1] at e
    | some v =>
      cases h2 : evalParts fr l with
      | none => simp [h1, h2] at e
      | some qs => simp only [h1, h2, Option.some.injEq] at e; subst e; exact concParts_cons.2 ⟨_, _, eval1_conc h h1, evalParts_conc h h2, rfl⟩
theorem concs_splice {cells new : List Cell} {vs nv : List Value} (h : concs μ cells = some vs) (hn : concs μ new = some nv) (off : Nat) : concs μ (splice cells off new) = some (vs.take off ++ nv ++ vs.drop (off + nv.length)) := by
  unfold splice
  rw [← concs_length hn]
  exact concs_append (concs_append (concs_take _ h) hn) (concs_drop _ h)
theorem fill_sim (place place' : Nat → Option (Nat × Nat)) (hp : ∀ i, place' i = place i) : ∀ {ps : List (Nat × V1)} {pv : List (Nat × Value)} {cells cells' : List Cell} {vs : List Value}, concParts μ ps = some pv → concs μ cells = some vs → fillA place cells ps = some cells' →
    ∃ vs', concs μ cells' = some vs' ∧ Instr.fill place' vs.toArray pv = some vs'.toArray
  | [], pv, cells, cells', vs, h1, h2, h3 => by
    simp [concParts] at h1; subst h1
    simp [fillA] at h3; subst h3
    exact ⟨vs, h2, rfl⟩
  | (i, v) :: ps, pv, cells, cells', vs, h1, h2, h3 => by
    obtain ⟨x, r, q1, q2, rfl⟩ := concParts_cons.1 h1
    simp only at q1
    simp only [fillA] at h3
    cases hpl : place i with
    | none => simp [hpl] at h3
    | some z =>
      obtain ⟨off, size⟩ := z
      simp only [hpl] at h3
      split at h3
      · rename_i hc
        have hx := V1.conc_cells q1
        have hxl := concs_length hx
        have hvl := concs_length h2
        rw [Array.length_toList] at hxl
        obtain ⟨vs', r1, r2⟩ := fill_sim place place' hp q2 (concs_splice h2 hx off) h3
        refine ⟨vs', r1, ?_⟩
        simp only [Instr.fill, hp, hpl]
        rw [if_neg (by simp only [ne_eq, Bool.or_eq_true, decide_eq_true_eq, List.size_toArray]; omega)]
        rw [← r2]
        congr 1
        rw [← Array.foldl_toList, Array.toList_zipIdx, foldl_set off x.cells.toList 0 vs.toArray (by simp; omega)]
        simp
      · cases h3
theorem placesT_get : ∀ {fs : List Field} {pl : List (Nat × Nat)}, placesT P fs = some pl → ∀ w, (fs.mapM (fun f => Prod.mk f.offset <$> sizeOf f.type : Field → Sem (Nat × Nat))).run P w = .ok pl w
  | [], pl, h, w => by simp [placesT] at h; subst h; rfl
  | f :: fs, pl, h, w => by
    simp only [placesT] at h
    cases h1 : sizeT P f.type with
    | none => simp [h1] at h
    | some n =>
      cases h2 : placesT P fs with
      | none => simp [h1, h2] at h
      | some l =>
        simp only [h1, h2, Option.some.injEq] at h; subst h
        simp [List.mapM_cons, run_sizeOf' h1, placesT_get h2 w]
theorem xBuild_sim (h : Rel w0 μ s w) {t : TypeId} {ps : List (Nat × V1)} {pv : Array (Nat × Value)} (hp : concParts μ ps = some pv.toList) {v : V} {s' : St} (hx : xBuild P s t ps = some (v, s')) : VRes w0 μ v s' ((Instr.build t pv).run P w) := by
  unfold xBuild at hx
  split at hx
  · rename_i fields z hu hz
    split at hx
    · rename_i pl hpl
      simp only [Option.map_eq_some_iff, Prod.mk.injEq] at hx
      obtain ⟨cs, hf, rfl, rfl⟩ := hx
      obtain ⟨zv, hz1, hz2⟩ := zeroT_run hz
      obtain ⟨vs', r1, r2⟩ := fill_sim (fun i => pl[i]?) (fun i => pl[i]?) (fun i => rfl) hp (hz2 μ) hf
      refine ⟨μ, .agg vs'.toArray, w, Sub.refl _, by simp [V.conc, V1.conc, r1], h, ?_⟩
      have hm : (fields.mapM (fun f => Prod.mk f.offset <$> sizeOf f.type : Field → Sem (Nat × Nat))).run P w = .ok pl.toArray w := by
        rw [Array.mapM_eq_mapM_toList]; simp [placesT_get hpl w]
      try simp only [Array.toArray_toList] at r2
      simp [Instr.build, hz1, run_underlying hu, hm, r2]
    · cases hx
  · rename_i n e z hu hz
    split at hx
    · rename_i m hm
      simp only [Option.map_eq_some_iff, Prod.mk.injEq] at hx
      obtain ⟨cs, hf, rfl, rfl⟩ := hx
      obtain ⟨zv, hz1, hz2⟩ := zeroT_run hz
      obtain ⟨vs', r1, r2⟩ := fill_sim (fun i => some (i * m, m)) (fun i => some (i * m, m)) (fun i => rfl) hp (hz2 μ) hf
      refine ⟨μ, .agg vs'.toArray, w, Sub.refl _, by simp [V.conc, V1.conc, r1], h, ?_⟩
      try simp only [Array.toArray_toList] at r2
      simp [Instr.build, hz1, run_underlying hu, run_sizeOf' hm, r2]
    · cases hx
  · cases hx
theorem repeatC_length (z : List Cell) : ∀ n, (repeatC z n).length = n * z.length
  | 0 => by simp [repeatC]
  | n + 1 => by simp [repeatC, repeatC_length z n, Nat.succ_mul, Nat.add_comm]
theorem repeatC_conc {z : List Cell} {zv : Array Value} (h : concs μ z = some zv.toList) (hz : 0 < zv.size) : ∀ n, concs μ (repeatC z n) = some ((List.range (n * zv.size)).map fun i => zv[i % zv.size]!)
  | 0 => by simp [repeatC, concs]
  | n + 1 => by
    have ih := repeatC_conc h hz n
    have := concs_append h ih
    rw [repeatC, this, Nat.succ_mul, Nat.add_comm (n * zv.size), List.range_add, List.map_append, List.map_map]
    congr 2
    · apply List.ext_getElem
      · simp
      · intro i h1 h2
        simp at h1
        simp [Nat.mod_eq_of_lt h1, h1]
    · apply List.map_congr_left
      intro i _
      simp
theorem elemT_spec {t e : TypeId} (h : elemT P t = some e) : P.underlying t = some (.slice e) := by
  unfold elemT at h; split at h
  · cases h; rename_i q; exact q
  · cases h
theorem newRow_sim (h : Rel w0 μ s w) {cs : List Cell} {vs : List Value} (hv : concs μ cs = some vs) (e n len cap : Nat) (hc : cs.length = cap * n) :
    ∃ μ', Sub μ μ' ∧ (V.one (.c (.sl s.next 0 len (.lim 0)))).conc μ' = some (.slice (some ⟨w.heap.size, 0, none⟩) len cap) ∧ Rel w0 μ' (s.new cs e n) (w.alloc (.cells vs.toArray e)) := by
  have hl := concs_length hv
  refine ⟨_, sub_upd ⟨w.heap.size, 0, cap⟩ h.fresh, ?_, h.newBlk hv e n cap vs.toArray (below_alloc' w _) (heap_push_new w _) (fun j u hj => by simpa using hj) (by omega) (by simp; omega)⟩
  simp [V.conc, V1.conc, Cell.conc, upd_self]
theorem seq_fill (n : Nat) (hn : 0 < n) : ∀ {ps : List (Nat × V1)} {cs : List Cell} (pre rest : List Cell) (k : Nat), seqParts n k ps = some cs → pre.length = k * n → rest.length = ps.length * n → fillA (fun i => some (i * n, n)) (pre ++ rest) ps = some (pre ++ cs)
  | [], cs, pre, rest, k, h, hp, hr => by
    simp [seqParts] at h; subst h
    have : rest = [] := List.eq_nil_of_length_eq_zero (by simpa using hr)
    subst this; simp [fillA]
  | (i, v) :: ps, cs, pre, rest, k, h, hp, hr => by
    simp only [seqParts] at h
    split at h
    · rename_i hc
      obtain ⟨rfl, hv⟩ := hc
      split at h
      · rename_i cs' h'
        cases h
        simp only [List.length_cons, Nat.succ_mul] at hr
        have hsp : splice (pre ++ rest) (i * n) v.cells = (pre ++ v.cells) ++ rest.drop n := by
          unfold splice
          rw [← hp, List.take_left, List.drop_append, hv]
          have : pre.length + n - pre.length = n := by omega
          rw [List.drop_of_length_le (by omega), this]; simp
        simp only [fillA]
        rw [if_pos ⟨hv, by simp only [List.length_append]; omega⟩, hsp, seq_fill n hn (pre ++ v.cells) (rest.drop n) (i + 1) h' (by rw [List.length_append, hp, hv, Nat.succ_mul]) (by rw [List.length_drop]; omega)]
        simp
      · cases h
    · cases h
theorem xBuildSlice_sim (h : Rel w0 μ s w) {t : TypeId} {len : Nat} {ps : List (Nat × V1)} {pv : Array (Nat × Value)} (hp : concParts μ ps = some pv.toList) {v : V} {s' : St} (hx : xBuildSlice P s t len ps = some (v, s')) : VRes w0 μ v s' ((Instr.buildSlice t len pv).run P w) := by
  unfold xBuildSlice at hx
  split at hx
  · rename_i e he
    split at hx
    · rename_i n z hn hz
      split at hx
      · rename_i hc
        replace hx : ∃ cs, fillA (fun i => some (i * n, n)) (repeatC z len) ps = some cs ∧ v = .one (.c (.sl s.next 0 len (.lim 0))) ∧ s' = s.new cs e n := by
          split at hx
          · rename_i cs hq
            split at hx
            · rename_i hl
              cases hx
              refine ⟨cs, ?_, rfl, rfl⟩
              have := seq_fill n hc.2.2 [] (repeatC z len) 0 hq (by simp) (by rw [repeatC_length, hl, hc.2.1])
              simpa using this
            · cases hx
          · simp only [Option.map_eq_some_iff, Prod.mk.injEq] at hx
            obtain ⟨cs, h1, h2, h3⟩ := hx
            exact ⟨cs, h1, h2.symm, h3.symm⟩
        obtain ⟨cs, hf, rfl, rfl⟩ := hx
        obtain ⟨zv, hz1, hz2⟩ := zeroT_run hz
        have hzl := concs_length (hz2 μ)
        rw [Array.length_toList] at hzl
        have hrep := repeatC_conc (hz2 μ) (by omega) len
        obtain ⟨vs', r1, r2⟩ := fill_sim (fun i => some (i * n, n)) (fun i => some (i * n, n)) (fun i => rfl) hp hrep hf
        have hcl : cs.length = len * n := by
          have : ∀ {ps : List (Nat × V1)} {cells cells' : List Cell}, fillA (fun i => some (i * n, n)) cells ps = some cells' → cells'.length = cells.length := by
            intro ps
            induction ps with
            | nil => intro a b q; simp [fillA] at q; rw [q]
            | cons p ps ih =>
              intro a b q
              simp only [fillA] at q
              split at q
              · rename_i hq; rw [ih q, splice_length (by omega)]
              · cases q
          rw [this hf, repeatC_length, hc.2.1]
        obtain ⟨μ', q1, q2, q3⟩ := newRow_sim h r1 e n len len hcl
        refine ⟨μ', _, _, q1, q2, q3, ?_⟩
        try simp only [Array.toArray_toList] at r2
        have hbig : ¬ (16777216 < len * n) := by omega
        have hsz : zv.cells.size = n := by omega
        rw [hsz] at r2
        by_cases h0 : len * n = 0
        · have hl0 : len = 0 := by rcases Nat.mul_eq_zero.1 h0 with q | q <;> omega
          subst hl0
          simp only [Nat.zero_mul, List.range_zero, List.map_nil] at r2
          simp [Instr.buildSlice, run_underlying (elemT_spec he), run_sizeOf' hn, newRow, Array.range_zero', r2]
        · have hr : (Array.range (len * n)).map (fun i => zv.cells[i % n]!) = ((List.range (len * n)).map fun i => zv.cells[i % n]!).toArray := by
            apply Array.ext'; simp
          simp [Instr.buildSlice, run_underlying (elemT_spec he), run_sizeOf' hn, hbig, h0, hz1, newRow, hsz, hr, r2]
      · cases hx
    · cases hx
  · cases hx
theorem xMakeSlice_sim (h : Rel w0 μ s w) {t : TypeId} {len cap : Int} {v : V} {s' : St} (hx : xMakeSlice P s t len cap = some (v, s')) : VRes w0 μ v s' ((Instr.makeSlice t (.int .i64 len) (.int .i64 cap)).run P w) := by
  unfold xMakeSlice at hx
  split at hx
  · rename_i e he
    split at hx
    · rename_i i z hi hz
      split at hx
      · rename_i hc
        cases hx
        obtain ⟨h0, h1, h2, h3, h4, h5⟩ := hc
        obtain ⟨zv, hz1, hz2⟩ := zeroT_run hz
        have hzl := concs_length (hz2 μ)
        rw [Array.length_toList] at hzl
        have hrep := repeatC_conc (hz2 μ) (by omega) cap.toNat
        obtain ⟨μ', q1, q2, q3⟩ := newRow_sim h hrep e i.size len.toNat cap.toNat (by rw [repeatC_length, h4])
        refine ⟨μ', _, _, q1, q2, q3, ?_⟩
        have hwl : IntKind.i64.wrap len = len := IntWalk.i64_in _ (by omega)
        have hwc : IntKind.i64.wrap cap = cap := IntWalk.i64_in _ (by omega)
        have hbytes : (i.bytes : Int) * cap ≤ 281474976710656 := by
          omega
        have hb' : ¬ (281474976710656 < (i.bytes : Int) * cap) := by omega
        have c0 : ¬ cap < 0 := by omega
        have l0 : ¬ len < 0 := by omega
        have lc : ¬ cap < len := by omega
        have hsz : zv.cells.size = i.size := by omega
        have hs' : sizeT P e = some i.size := by simp [sizeT, hi]
        rw [hsz]
        by_cases hz0 : cap.toNat * i.size = 0
        · have : cap.toNat = 0 := by rcases Nat.mul_eq_zero.1 hz0 with q | q <;> omega
          simp [Instr.makeSlice, run_underlying (elemT_spec he), asInt, asIntOf, typeInfo, hi, hwl, hwc, c0, hb', l0, lc, run_sizeOf' hs', this, newRow, Array.range_zero']
        · have hr : (Array.range (cap.toNat * i.size)).map (fun j => zv.cells[j % i.size]!) = ((List.range (cap.toNat * i.size)).map fun j => zv.cells[j % i.size]!).toArray := by
            apply Array.ext'; simp
          simp [Instr.makeSlice, run_underlying (elemT_spec he), asInt, asIntOf, typeInfo, hi, hwl, hwc, c0, hb', l0, lc, run_sizeOf' hs', hz0, hz1, newRow, hsz, hr]
      · cases hx
    · cases hx
  · cases hx
def capAt (l : Loc) : Cap → Nat
  | .fix n => n
  | .lim d => l.cap - d
theorem conc_sl {b off len : Nat} {cap : Cap} {x : Value} (h : (Cell.sl b off len cap).conc μ = some x) : ∃ l, μ b = some l ∧ x = .slice (some ⟨l.blk, l.sh + off, none⟩) len (capAt l cap) := by
  cases cap <;> (simp only [Cell.conc, Option.map_eq_some_iff] at h; obtain ⟨l, hl, rfl⟩ := h; exact ⟨l, hl, rfl⟩)
theorem xIndexAddr_sim (h : Rel w0 μ s w) {t : TypeId} {c : Cell} {x : Value} (hc : c.conc μ = some x) {k : IntKind} {i : Int} {v : V} {s' : St} (hx : xIndexAddr P s t c i = some (v, s')) : VRes w0 μ v s' ((Instr.indexAt t x (.int k i)).run P w) := by
  unfold xIndexAddr at hx
  split at hx
  · rename_i len e b off hu
    split at hx
    · rename_i n hn
      split at hx
      · rename_i hi
        cases hx
        obtain ⟨l, hl, rfl⟩ := conc_ptr hc
        refine ⟨μ, .pointer (some ⟨l.blk, l.sh + (off + i.toNat * n), none⟩), w, Sub.refl _, by simp [ptrV, V.conc, V1.conc, Cell.conc, hl], h, ?_⟩
        simp [Instr.indexAt, asIntOf, run_underlying hu, Instr.sureAddr, hi, run_sizeOf' hn, Addr.add_lit, Nat.add_assoc]
      · cases hx
    · cases hx
  · rename_i e b off len cap hu
    split at hx
    · rename_i n hn
      split at hx
      · rename_i hi
        cases hx
        obtain ⟨l, hl, rfl⟩ := conc_sl hc
        refine ⟨μ, .pointer (some ⟨l.blk, l.sh + (off + i.toNat * n), none⟩), w, Sub.refl _, by simp [ptrV, V.conc, V1.conc, Cell.conc, hl], h, ?_⟩
        simp [Instr.indexAt, asIntOf, run_underlying hu, hi, run_sizeOf' hn, Addr.add_lit, Nat.add_assoc]
      · cases hx
    · cases hx
  · cases hx
end
end Go.Proofs.Ytdhnjkagmbfoaaa.AM
/- The abstract machine's operations, more: slices that grow in place, or are cut. -/
set_option linter.unusedSimpArgs false
set_option linter.unusedVariables false
namespace Go.Proofs.Ytdhnjkagmbfoaaa.AM
open Go Go.RowKit
section
variable {P : Program} {w0 w : World} {μ : Map} {s : St}
theorem famlt (h : Rel w0 μ s w) {b : Nat} {l : Loc} (hl : μ b = some l) {cells : List Cell} {ty esz fam ver : Nat} (ho : s.get b = some (.blk cells ty esz fam ver)) : BlkRel w0 μ s w l cells ty esz fam ver := by
  obtain ⟨o, ho', hr⟩ := h.obj b l hl
  rw [ho] at ho'; cases ho'; exact hr
/-- A row grows in its own room: a new version. -/
theorem Rel.grow (h : Rel w0 μ s w) {b : Nat} {L : Loc} (hl : μ b = some L) {cells : List Cell} {ty esz fam ver : Nat} (ho : s.get b = some (.blk cells ty esz fam ver)) (hver : (s.fam fam).1 = ver) (hlive : (s.fam fam).2 ≤ ver)
    {new : List Cell} {vs : List Value} (hv : concs μ new = some vs) (off cap : Nat) (hoff : off ≤ cells.length) (h1 : (cells.drop off ++ new).length ≤ cap * esz) (h2 : off + cap * esz ≤ L.cap * esz) :
    ∃ cs, w.heap[L.blk]? = some (.cells cs ty (0, 0)) ∧ L.sh + cells.length + vs.length ≤ cs.size ∧
      Rel w0 (upd μ s.next ⟨L.blk, L.sh + off, cap⟩) ((s.push (.blk (cells.drop off ++ new) ty esz fam (ver + 1))).setFam fam (ver + 1, (s.fam fam).2)) (wrote w L.blk cs (L.sh + cells.length) vs) := by
  have hB := famlt h hl ho
  obtain ⟨h0, cs, hcs, hsz⟩ := hB.own hver.symm
  have hlen := concs_length hv
  have hnl : (cells.drop off ++ new).length = cells.length - off + new.length := by rw [List.length_append, List.length_drop]
  have hfit : L.sh + cells.length + vs.length ≤ cs.size := by omega
  have hsub := sub_upd ⟨L.blk, L.sh + off, cap⟩ h.fresh
  have hfs := hB.hfam
  have hwf1 := St.wf_push h.wf (.blk (cells.drop off ++ new) ty esz fam (ver + 1))
  have hbs : b < s.next := St.get_lt ho
  refine ⟨cs, hcs, hfit, ?_⟩
  have hgetn : ∀ b', ((s.push (.blk (cells.drop off ++ new) ty esz fam (ver + 1))).setFam fam (ver + 1, (s.fam fam).2)).get b' = if b' = s.next then some (.blk (cells.drop off ++ new) ty esz fam (ver + 1)) else s.get b' := by
    intro b'; rw [St.get_setFam, St.get_push h.wf]
  have hfamn : ∀ r, r < s.next → ((s.push (.blk (cells.drop off ++ new) ty esz fam (ver + 1))).setFam fam (ver + 1, (s.fam fam).2)).fam r = if r = fam then (ver + 1, (s.fam fam).2) else s.fam r := by
    intro r hr
    rw [St.fam_setFam hwf1 _ _ (by simp only [St.push]; omega) _ (by simp only [St.push]; omega), St.fam_push h.wf _ _ (by omega), if_neg (show ¬ r = s.next by omega)]
  have hrow := setRow_heap w L.blk cs (cs.toList.take (L.sh + cells.length) ++ vs ++ cs.toList.drop (L.sh + cells.length + vs.length)).toArray ty (0, 0) hcs
  have hrs : (cs.toList.take (L.sh + cells.length) ++ vs ++ cs.toList.drop (L.sh + cells.length + vs.length)).toArray.size = cs.size := by
    simp only [List.size_toArray, List.length_append, List.length_take, List.length_drop, Array.length_toList]; omega
  have hcell : ∀ i, (wrote w L.blk cs (L.sh + cells.length) vs).cell? ⟨L.blk, i, none⟩ = if L.sh + cells.length ≤ i ∧ i < L.sh + cells.length + vs.length then vs[i - (L.sh + cells.length)]? else cs[i]? := by
    intro i
    simp only [World.cell?, wrote, hrow, Option.isSome_none, Bool.false_eq_true, if_false, List.getElem?_toArray]
    rw [spliceV_get _ _ _ (by rw [Array.length_toList]; exact hfit)]
    simp
  have hold : ∀ i, w.cell? ⟨L.blk, i, none⟩ = cs[i]? := by
    intro i; simp only [World.cell?, hcs, Option.isSome_none, Bool.false_eq_true, if_false]
  have hother : ∀ k, k ≠ L.blk → (wrote w L.blk cs (L.sh + cells.length) vs).heap[k]? = w.heap[k]? := fun k hk => setRow_other w _ _ _ hk
  have hltn : L.blk < (wrote w L.blk cs (L.sh + cells.length) vs).heap.size := (Array.getElem?_eq_some_iff.1 hrow).1
  -- what shares the row ends ahead of it
  have hends : ∀ b' l' c1 t1 g1 f1 v1, μ b' = some l' → l'.blk = L.blk → s.get b' = some (.blk c1 t1 g1 f1 v1) → f1 = fam ∧ v1 ≤ ver ∧ l'.sh + c1.length ≤ L.sh + cells.length := by
    intro b' l' c1 t1 g1 f1 v1 hl' hblk ho'
    by_cases e : b' = b
    · subst e; rw [hl] at hl'; cases hl'; rw [ho] at ho'; cases ho'; exact ⟨rfl, Nat.le_refl _, Nat.le_refl _⟩
    · obtain ⟨d1, t1', g1', f, u1, d2, t2, g2, u2, q1, q2, q3, q4, q5⟩ := h.apart b' b l' L e hl' hl hblk
      rw [ho] at q2; cases q2
      rw [ho'] at q1; cases q1
      have := (famlt h hl' ho').hver
      exact ⟨rfl, by omega, q4 hver.symm⟩
  refine ⟨St.wf_setFam hwf1 _ _, below_setRow h.below _ _ h0, ?_, ?_, Nat.le_refl _⟩
  · intro b' l' hl'
    by_cases e : b' = s.next
    · subst e
      rw [upd_self] at hl'; cases hl'
      refine ⟨_, by rw [hgetn, if_pos rfl], ?_⟩
      refine ⟨by simp only [St.setFam, St.push]; omega, by rw [hfamn _ hfs, if_pos rfl]; exact Nat.le_refl _, hltn, h1, fun _ => ⟨h0, _, hrow, by rw [hrs]; show L.sh + off + cap * esz ≤ _; omega⟩, fun _ i c hi => ?_⟩
      simp only [hcell]
      by_cases hin : i < cells.length - off
      · rw [List.getElem?_append_left (by rw [List.length_drop]; exact hin), List.getElem?_drop] at hi
        obtain ⟨v, q1, q2⟩ := hB.read hlive _ c hi
        refine ⟨v, Cell.conc_mono hsub q1, ?_⟩
        rw [if_neg (by omega), ← hold, show L.sh + off + i = L.sh + (off + i) by omega]; exact q2
      · rw [List.getElem?_append_right (by rw [List.length_drop]; omega), List.length_drop] at hi
        obtain ⟨v, q1, q2⟩ := concs_get hv hi
        have := (List.getElem?_eq_some_iff.1 q2).1
        refine ⟨v, Cell.conc_mono hsub q1, ?_⟩
        rw [if_pos (by omega), show L.sh + off + i - (L.sh + cells.length) = i - (cells.length - off) by omega]; exact q2
    · simp only [upd, if_neg e] at hl'
      obtain ⟨o', ho', hr⟩ := h.obj b' l' hl'
      refine ⟨o', by rw [hgetn, if_neg e]; exact ho', ?_⟩
      cases o' with
      | map es c =>
        obtain ⟨q0, es', q1, q2⟩ := hr
        have hne : l'.blk ≠ L.blk := by intro e; rw [e, hcs] at q1; cases q1
        exact ⟨q0, es', by rw [hother _ hne]; exact q1, concE_mono hsub q2⟩
      | iter t p =>
        have hne : l'.blk ≠ L.blk := by intro e; have := hr.2; rw [e, hcs] at this; cases this
        exact ⟨hr.1, by rw [hother _ hne]; exact hr.2⟩
      | blk c1 t1 g1 f1 v1 =>
        have hr' : BlkRel w0 μ s w l' c1 t1 g1 f1 v1 := hr
        have hfl := hr'.hfam
        have hsz' : l'.blk < (wrote w L.blk cs (L.sh + cells.length) vs).heap.size := by simpa [wrote, World.setRow] using hr'.lt
        refine ⟨by simp only [St.setFam, St.push]; omega, ?_, hsz', hr'.hcap, ?_, ?_⟩
        · rw [hfamn _ hfl]; split
          · rename_i e2; subst e2; have := hr'.hver; simp only; omega
          · exact hr'.hver
        · rw [hfamn _ hfl]; split
          · rename_i e2; subst e2; intro e3; have := hr'.hver; simp only at e3; omega
          · rename_i e2
            intro e3
            obtain ⟨p0, cs', p1, p2⟩ := hr'.own e3
            by_cases hblk : l'.blk = L.blk
            · exact absurd (hends b' l' _ _ _ _ _ hl' hblk ho').1 e2
            · exact ⟨p0, cs', by rw [hother _ hblk]; exact p1, p2⟩
        · intro hle i c hi
          have hle' : (s.fam f1).2 ≤ v1 := by
            rw [hfamn _ hfl] at hle
            split at hle
            · rename_i e2; subst e2; exact hle
            · exact hle
          obtain ⟨v, q1, q2⟩ := hr'.read hle' i c hi
          refine ⟨v, Cell.conc_mono hsub q1, ?_⟩
          by_cases hblk : l'.blk = L.blk
          · obtain ⟨_, _, he⟩ := hends b' l' _ _ _ _ _ hl' hblk ho'
            have hil := (List.getElem?_eq_some_iff.1 hi).1
            rw [hblk, hcell, if_neg (by omega), ← hold, ← hblk]; exact q2
          · rw [World.cell?_of_block (w := w) (a := ⟨l'.blk, l'.sh + i, none⟩) (hother _ hblk)]; exact q2
  · intro b1 b2 l1 l2 hne h1' h2' he
    by_cases e1 : b1 = s.next
    · subst e1
      rw [upd_self] at h1'; cases h1'
      simp only [upd, if_neg (Ne.symm hne)] at h2'
      obtain ⟨o', ho', hr⟩ := h.obj b2 l2 h2'
      cases o' with
      | map es c => obtain ⟨q0, es', q1, q2⟩ := hr; simp only at he; rw [← he, hcs] at q1; cases q1
      | iter t p => have := hr.2; simp only at he; rw [← he, hcs] at this; cases this
      | blk c1 t1 g1 f1 v1 =>
        obtain ⟨rfl, hv1, hend⟩ := hends b2 l2 _ _ _ _ _ h2' he.symm ho'
        refine ⟨_, _, _, f1, ver + 1, c1, t1, g1, v1, by rw [hgetn, if_pos rfl], by rw [hgetn, if_neg (Ne.symm hne)]; exact ho', ?_⟩
        rw [hfamn _ hfs, if_pos rfl]
        refine ⟨by intro q; have := q.2; simp only at this; omega, by intro q; simp only at q; omega, fun _ => ?_⟩
        rw [hnl]; simp only; omega
    · by_cases e2 : b2 = s.next
      · subst e2
        rw [upd_self] at h2'; cases h2'
        simp only [upd, if_neg hne] at h1'
        obtain ⟨o', ho', hr⟩ := h.obj b1 l1 h1'
        cases o' with
        | map es c => obtain ⟨q0, es', q1, q2⟩ := hr; simp only at he; rw [he, hcs] at q1; cases q1
        | iter t p => have := hr.2; simp only at he; rw [he, hcs] at this; cases this
        | blk c1 t1 g1 f1 v1 =>
          obtain ⟨rfl, hv1, hend⟩ := hends b1 l1 _ _ _ _ _ h1' he ho'
          refine ⟨c1, t1, g1, f1, v1, _, _, _, ver + 1, by rw [hgetn, if_neg hne]; exact ho', by rw [hgetn, if_pos rfl], ?_⟩
          rw [hfamn _ hfs, if_pos rfl]
          refine ⟨by intro q; have := q.1; simp only at this; omega, fun _ => ?_, by intro q; simp only at q; omega⟩
          rw [hnl]; simp only; omega
      · simp only [upd, if_neg e1] at h1'
        simp only [upd, if_neg e2] at h2'
        obtain ⟨c1, t1, g1, f, v1, c2, t2, g2, v2, q1, q2, q3, q4, q5⟩ := h.apart b1 b2 l1 l2 hne h1' h2' he
        have hf1 := (famlt h h1' q1)
        have hf2 := (famlt h h2' q2)
        refine ⟨c1, t1, g1, f, v1, c2, t2, g2, v2, by rw [hgetn, if_neg e1]; exact q1, by rw [hgetn, if_neg e2]; exact q2, ?_⟩
        rw [hfamn _ hf1.hfam]
        split
        · rename_i e3; subst e3
          have := hf1.hver; have := hf2.hver
          exact ⟨by intro q; have := q.1; simp only at this; omega, by intro q; simp only at q; omega, by intro q; simp only at q; omega⟩
        · exact ⟨q3, q4, q5⟩
/-- An empty slice in a block that is there. -/
theorem Rel.empty (h : Rel w0 μ s w) {b : Nat} {L : Loc} (hl : μ b = some L) {cells : List Cell} {ty esz fam ver : Nat} (ho : s.get b = some (.blk cells ty esz fam ver)) (hpos : 0 < (s.fam fam).1) (l : Loc) (hblk : l.blk = L.blk) (hsh : l.sh ≤ L.sh + cells.length) :
    Rel w0 (upd μ s.next l) (s.push (.blk [] ty esz fam 0)) w := by
  have hB := famlt h hl ho
  have hsub := sub_upd l h.fresh
  have hfs := hB.hfam
  have hgetn : ∀ b', (s.push (.blk [] ty esz fam 0)).get b' = if b' = s.next then some (.blk [] ty esz fam 0) else s.get b' := fun b' => St.get_push h.wf _ _
  have hfamn : ∀ r, r < s.next → (s.push (.blk [] ty esz fam 0)).fam r = s.fam r := by
    intro r hr; rw [St.fam_push h.wf _ _ (by omega), if_neg (by omega)]
  have hends : ∀ b' l' c1 t1 g1 f1 v1, μ b' = some l' → l'.blk = L.blk → s.get b' = some (.blk c1 t1 g1 f1 v1) → f1 = fam ∧ (v1 = (s.fam fam).1 → l.sh ≤ l'.sh + c1.length) := by
    intro b' l' c1 t1 g1 f1 v1 hl' hb' ho'
    by_cases e : b' = b
    · subst e; rw [hl] at hl'; cases hl'; rw [ho] at ho'; cases ho'; exact ⟨rfl, fun _ => hsh⟩
    · obtain ⟨d1, t1', g1', f, u1, d2, t2, g2, u2, q1, q2, q3, q4, q5⟩ := h.apart b' b l' L e hl' hl hb'
      rw [ho] at q2; cases q2
      rw [ho'] at q1; cases q1
      exact ⟨rfl, fun q => by have := q5 q; omega⟩
  have isblk : ∀ b' l', μ b' = some l' → l'.blk = L.blk → ∃ c1 t1 g1 f1 v1, s.get b' = some (.blk c1 t1 g1 f1 v1) := by
    intro b' l' hl' hb'
    by_cases e : b' = b
    · subst e; exact ⟨_, _, _, _, _, ho⟩
    · obtain ⟨d1, t1', g1', f, u1, d2, t2, g2, u2, q1, _⟩ := h.apart b' b l' L e hl' hl hb'
      exact ⟨_, _, _, _, _, q1⟩
  refine ⟨St.wf_push h.wf _, h.below, ?_, ?_, Nat.le_refl _⟩
  · intro b' l' hl'
    by_cases e : b' = s.next
    · subst e
      rw [upd_self] at hl'; cases hl'
      refine ⟨_, by rw [hgetn, if_pos rfl], ?_⟩
      refine ⟨by simp only [St.push]; omega, Nat.zero_le _, by rw [hblk]; exact hB.lt, Nat.zero_le _, fun q => ?_, fun _ i c hi => by simp at hi⟩
      rw [hfamn _ hfs] at q; omega
    · simp only [upd, if_neg e] at hl'
      obtain ⟨o', ho', hr⟩ := h.obj b' l' hl'
      exact ⟨o', by rw [hgetn, if_neg e]; exact ho', hr.keep hsub hfamn (by simp [St.push]) rfl⟩
  · intro b1 b2 l1 l2 hne h1' h2' he
    by_cases e1 : b1 = s.next
    · subst e1
      rw [upd_self] at h1'; cases h1'
      simp only [upd, if_neg (Ne.symm hne)] at h2'
      obtain ⟨c1, t1, g1, f1, v1, ho'⟩ := isblk b2 l2 h2' (by omega)
      obtain ⟨rfl, q⟩ := hends b2 l2 _ _ _ _ _ h2' (by omega) ho'
      refine ⟨_, _, _, f1, 0, c1, t1, g1, v1, by rw [hgetn, if_pos rfl], by rw [hgetn, if_neg (Ne.symm hne)]; exact ho', ?_⟩
      rw [hfamn _ hfs]
      exact ⟨by intro q; have := q.1; omega, by simpa using q, by intro q; omega⟩
    · by_cases e2 : b2 = s.next
      · subst e2
        rw [upd_self] at h2'; cases h2'
        simp only [upd, if_neg hne] at h1'
        obtain ⟨c1, t1, g1, f1, v1, ho'⟩ := isblk b1 l1 h1' (by omega)
        obtain ⟨rfl, q⟩ := hends b1 l1 _ _ _ _ _ h1' (by omega) ho'
        refine ⟨c1, t1, g1, f1, v1, _, _, _, 0, by rw [hgetn, if_neg hne]; exact ho', by rw [hgetn, if_pos rfl], ?_⟩
        rw [hfamn _ hfs]
        exact ⟨by intro q; have := q.2; omega, by intro q; omega, by simpa using q⟩
      · simp only [upd, if_neg e1] at h1'
        simp only [upd, if_neg e2] at h2'
        obtain ⟨c1, t1, g1, f, v1, c2, t2, g2, v2, q1, q2, q3⟩ := h.apart b1 b2 l1 l2 hne h1' h2' he
        have hf1 := (famlt h h1' q1)
        exact ⟨c1, t1, g1, f, v1, c2, t2, g2, v2, by rw [hgetn, if_neg e1]; exact q1, by rw [hgetn, if_neg e2]; exact q2, by rw [hfamn _ hf1.hfam]; exact q3⟩
end
end Go.Proofs.Ytdhnjkagmbfoaaa.AM
/- The abstract machine's operations, more: cutting, appending, copying, texts. -/
set_option linter.unusedSimpArgs false
set_option linter.unusedVariables false
namespace Go.Proofs.Ytdhnjkagmbfoaaa.AM
open Go Go.RowKit
section
variable {P : Program} {w0 w : World} {μ : Map} {s : St}
def BoundIs (ov : Option Value) (d n : Nat) : Prop := (ov = none ∧ n = d) ∨ ∃ k, ov = some (.int k (n : Int))
theorem boundA_is {fr : Fr} {a : Act} (h : FrRel μ fr a.tmps) {x : Option Operand} {d n : Nat} (e : boundA fr x d = some n) : BoundIs (x.map a.eval) d n := by
  cases x with
  | none => simp only [boundA, Option.some.injEq] at e; exact .inl ⟨rfl, e.symm⟩
  | some o =>
    simp only [boundA] at e
    split at e
    · rename_i k i hc
      split at e
      · cases e
        have := evalC_conc h hc
        simp only [Cell.conc, Option.some.injEq] at this
        refine .inr ⟨k, ?_⟩
        simp only [Option.map_some, ← this]
        congr 2; omega
      · cases e
    · cases e
theorem bounds_run (isS : Bool) {lo hi : Option Value} {len cap l h : Nat} (hlo : BoundIs lo 0 l) (hhi : BoundIs hi len h) (h1 : l ≤ h) (h2 : h ≤ cap) (w : World) : (Instr.sliceBounds isS len cap lo hi none).run P w = .ok (l, h, cap) w := by
  rcases hlo with ⟨rfl, rfl⟩ | ⟨k, rfl⟩ <;> rcases hhi with ⟨rfl, rfl⟩ | ⟨k', rfl⟩ <;>
    simp [Instr.sliceBounds, Instr.sliceBound, asIntOf, h1, h2]
theorem bounds3_run (isS : Bool) {lo : Option Value} {len cap l h m : Nat} {k k' : IntKind} (hlo : BoundIs lo 0 l) (h1 : l ≤ h) (h2 : h ≤ m) (h3 : m ≤ cap) (w : World) : (Instr.sliceBounds isS len cap lo (some (.int k (h : Int))) (some (.int k' (m : Int)))).run P w = .ok (l, h, m) w := by
  rcases hlo with ⟨rfl, rfl⟩ | ⟨k, rfl⟩ <;> simp [Instr.sliceBounds, Instr.sliceBound, asIntOf, h1, h2, h3]
/-- The bound of a third index: there is none, or both high and it are told. -/
def MaxIs (hi : Option Value) (h : Nat) (mv : Option Value) (mx : Option Nat) : Prop :=
  (mv = none ∧ mx = none) ∨ ∃ (k k' : IntKind) (m : Nat), hi = some (.int k (h : Int)) ∧ mv = some (.int k' (m : Int)) ∧ mx = some m
theorem capKnown_le (h : Rel w0 μ s w) {b off len n : Nat} {cap : Cap} {l : Loc} (hl : μ b = some l) (hk : capKnown s b off len n cap = true) : len ≤ capAt l cap := by
  cases cap with
  | fix c => simpa [capKnown, capAt] using hk
  | lim d =>
    simp only [capKnown] at hk
    split at hk
    · rename_i cells ty esz fam ver ho
      simp only [Bool.and_eq_true, decide_eq_true_eq] at hk
      obtain ⟨⟨⟨h1, h2⟩, h3⟩, h4⟩ := hk
      have hB := famlt h hl ho
      have hc := hB.hcap
      subst h1; subst h2
      have : (d + len) * esz ≤ l.cap * esz := by rw [Nat.add_mul]; omega
      have := Nat.le_of_mul_le_mul_right this h3
      simp only [capAt]; omega
    · cases hk
theorem xSlice_sim (h : Rel w0 μ s w) {t : TypeId} {c : Cell} {x : Value} (hc : c.conc μ = some x) {lo hi mv : Option Value} {l hh : Nat} {mx : Option Nat} {v : V} {s' : St}
    (hlo : BoundIs lo 0 l) (hhi : ∀ len, (lenA c = some len ∨ (∃ b off e, c = .ptr b off ∧ P.underlying t = some (.array len e))) → BoundIs hi len hh) (hmx : MaxIs hi hh mv mx) (hx : xSlice P s t c l hh mx = some (v, s')) (hstr : ∀ b, c ≠ .str b) :
    VRes w0 μ v s' ((Instr.sliceAt t x lo hi mv).run P w) := by
  unfold xSlice at hx
  split at hx
  · -- nil
    split at hx
    · rename_i hz
      obtain ⟨rfl, rfl, hm⟩ := hz
      simp only [Option.map_eq_some_iff, Prod.mk.injEq] at hx
      obtain ⟨n, hen, rfl, rfl⟩ := hx
      obtain ⟨e, he, hn⟩ := Option.bind_eq_some_iff.1 hen
      simp only [Cell.conc, Option.some.injEq] at hc
      subst hc
      have hb := hhi 0 (.inl rfl)
      refine ⟨μ, .slice none 0 0, w, Sub.refl _, rfl, h, ?_⟩
      rcases hmx with ⟨rfl, rfl⟩ | ⟨k, k', m, rfl, rfl, rfl⟩
      · have := bounds_run (P := P) true hlo hb (Nat.le_refl _) (Nat.le_refl _) w
        simp only [Instr.sliceAt, Sem.run_bind, run_underlying (elemT_spec he), Result.andThen_ok, Instr.slice, this, run_sizeOf' hn, Sem.run_pure]
        rfl
      · simp at hm; subst hm
        have := bounds3_run (P := P) true (len := 0) (cap := 0) (k := k) (k' := k') hlo (Nat.le_refl _) (Nat.le_refl _) (Nat.le_refl _) w
        simp only [Instr.sliceAt, Sem.run_bind, run_underlying (elemT_spec he), Result.andThen_ok, Instr.slice, this, run_sizeOf' hn, Sem.run_pure]
        rfl
    · cases hx
  · -- an empty one
    rename_i a c
    split at hx
    · rename_i hz
      obtain ⟨rfl, rfl, rfl⟩ := hz
      simp only [Option.map_eq_some_iff, Prod.mk.injEq] at hx
      obtain ⟨n, hen, rfl, rfl⟩ := hx
      obtain ⟨e, he, hn⟩ := Option.bind_eq_some_iff.1 hen
      simp only [Cell.conc, Option.some.injEq] at hc
      subst hc
      have hb := hhi 0 (.inl rfl)
      refine ⟨μ, .slice (some a) 0 c, w, Sub.refl _, rfl, h, ?_⟩
      rcases hmx with ⟨rfl, _⟩ | ⟨k, k', m, _, _, q⟩
      · have := bounds_run (P := P) true hlo hb (Nat.le_refl _) (Nat.zero_le c) w
        simp only [Instr.sliceAt, Sem.run_bind, run_underlying (elemT_spec he), Result.andThen_ok, Instr.slice, this, run_sizeOf' hn, Sem.run_pure]
        simp [Addr.add]
      · cases q
    · cases hx
  · -- an empty one, at the end of one
    rename_i b o0 o d
    split at hx
    · rename_i hz
      obtain ⟨rfl, rfl, rfl⟩ := hz
      simp only [Option.map_eq_some_iff, Prod.mk.injEq] at hx
      obtain ⟨n, hen, rfl, rfl⟩ := hx
      obtain ⟨e, he, hn⟩ := Option.bind_eq_some_iff.1 hen
      have hc0 := hc
      simp only [Cell.conc, Option.map_eq_some_iff] at hc
      obtain ⟨L, hL, rfl⟩ := hc
      have hb := hhi 0 (.inl rfl)
      refine ⟨μ, _, w, Sub.refl _, hc0, h, ?_⟩
      rcases hmx with ⟨rfl, _⟩ | ⟨k, k', m, _, _, q⟩
      · have := bounds_run (P := P) true hlo hb (Nat.le_refl _) (Nat.zero_le (L.cap - d)) w
        simp only [Instr.sliceAt, Sem.run_bind, run_underlying (elemT_spec he), Result.andThen_ok, Instr.slice, this, run_sizeOf' hn, Sem.run_pure]
        simp [Addr.add]
      · cases q
    · cases hx
  · -- a slice
    rename_i b off len cap
    obtain ⟨L, hL, rfl⟩ := conc_sl hc
    have hb := hhi len (.inl rfl)
    split at hx
    · rename_i e he
      split at hx
      · rename_i n hn
        split at hx
        · rename_i hle
          split at hx
          · rename_i m
            split at hx
            · rename_i hm
              cases hx
              rcases hmx with ⟨_, q⟩ | ⟨k, k', m', rfl, rfl, q⟩
              · cases q
              · cases q
                have hcap := capKnown_le h hL hm.2.2
                have := bounds3_run (P := P) true (len := len) (cap := capAt L cap) (k := k) (k' := k') hlo hle.1 hm.1 (Nat.le_trans hm.2.1 hcap) w
                refine ⟨μ, .slice (some ⟨L.blk, L.sh + (if m = l then off else off + l * n), none⟩) (hh - l) (m - l), w, Sub.refl _, by simp [V.conc, V1.conc, Cell.conc, hL], h, ?_⟩
                simp only [Instr.sliceAt, Sem.run_bind, run_underlying (elemT_spec he), Result.andThen_ok, Instr.slice, this, run_sizeOf' hn, Sem.run_pure]
                congr 2
                split
                · rfl
                · simp [Addr.add_lit, Nat.add_assoc]
            · cases hx
          · have hmv : mv = none := by
              rcases hmx with ⟨q, _⟩ | ⟨k, k', m', _, _, q⟩
              · exact q
              · cases q
            subst hmv
            split at hx
            · rename_i c0
              split at hx
              · rename_i hcc
                cases hx
                have := bounds_run (P := P) true (cap := c0) hlo hb hle.1 hcc w
                refine ⟨μ, .slice (some ⟨L.blk, L.sh + (if c0 = l then off else off + l * n), none⟩) (hh - l) (c0 - l), w, Sub.refl _, by simp [V.conc, V1.conc, Cell.conc, hL], h, ?_⟩
                simp only [Instr.sliceAt, capAt, Sem.run_bind, run_underlying (elemT_spec he), Result.andThen_ok, Instr.slice, this, run_sizeOf' hn, Sem.run_pure]
                congr 2
                split
                · rfl
                · simp [Addr.add_lit, Nat.add_assoc]
              · cases hx
            · rename_i d
              split at hx
              · rename_i cells ty esz fam ver ho
                split at hx
                · rename_i hchk
                  have hcap : len ≤ L.cap - d := by
                    have := capKnown_le (w0 := w0) (w := w) (cap := .lim d) (off := off) (len := len) (n := n) h hL (by simp [capKnown, ho, hchk.1, hchk.2.1, hchk.2.2.1]; have := hchk.2.2.2; rw [← hchk.1]; exact this)
                    simpa [capAt] using this
                  have hbr := bounds_run (P := P) true (cap := L.cap - d) hlo hb hle.1 (by omega) w
                  split at hx
                  · rename_i hpos
                    cases hx
                    have hadr : (if L.cap - d = l then some (⟨L.blk, L.sh + off, none⟩ : Addr) else Option.map (fun y : Addr => y.add (l * n)) (some ⟨L.blk, L.sh + off, none⟩)) = some ⟨L.blk, L.sh + (off + l * n), none⟩ := by
                      split
                      · have : l = 0 := by omega
                        subst this; simp
                      · simp [Addr.add_lit, Nat.add_assoc]
                    refine ⟨μ, .slice (some ⟨L.blk, L.sh + (off + l * n), none⟩) (hh - l) (L.cap - (d + l)), w, Sub.refl _, by simp [V.conc, V1.conc, Cell.conc, hL], h, ?_⟩
                    simp only [Instr.sliceAt, capAt, Sem.run_bind, run_underlying (elemT_spec he), Result.andThen_ok, Instr.slice, hbr, run_sizeOf' hn, Sem.run_pure, hadr, Nat.sub_sub]
                  · rename_i hpos
                    cases hx
                    have hll : l = len := by omega
                    have hhl : hh = l := by omega
                    subst hll; subst hhl
                    refine ⟨μ, .slice (some ⟨L.blk, L.sh + (if L.cap - (d + hh) = 0 then off else off + hh * n), none⟩) 0 (L.cap - (d + hh)), w, Sub.refl _, by simp [V.conc, V1.conc, Cell.conc, hL], h, ?_⟩
                    by_cases hce : L.cap - d = hh
                    · have hz0 : L.cap - (d + hh) = 0 := by omega
                      rw [if_pos hz0, hz0]
                      rw [hce] at hbr
                      simp only [Instr.sliceAt, capAt, Sem.run_bind, run_underlying (elemT_spec he), Result.andThen_ok, Instr.slice, hbr, run_sizeOf' hn, Sem.run_pure, hce, if_true, Nat.sub_self]
                    · rw [if_neg (by omega : ¬ L.cap - (d + hh) = 0)]
                      simp only [Instr.sliceAt, capAt, Sem.run_bind, run_underlying (elemT_spec he), Result.andThen_ok, Instr.slice, hbr, run_sizeOf' hn, Sem.run_pure, hce, if_false, Nat.sub_self, Option.map_some, Addr.add_lit, Nat.add_assoc, Nat.sub_sub]
                · cases hx
              · cases hx
        · cases hx
      · cases hx
    · cases hx
  · -- an array behind a pointer
    rename_i b off
    obtain ⟨L, hL, rfl⟩ := conc_ptr hc
    split at hx
    · rename_i n e hu
      split at hx
      · rename_i m hm
        split at hx
        · rename_i hle
          cases hx
          obtain ⟨h1, h2, rfl⟩ := hle
          have hmv : mv = none := by
            rcases hmx with ⟨q, _⟩ | ⟨k, k', m', _, _, q⟩
            · exact q
            · cases q
          subst hmv
          have hb := hhi n (.inr ⟨b, off, e, rfl, hu⟩)
          have hbr := bounds_run (P := P) false (cap := n) hlo hb h1 h2 w
          refine ⟨μ, .slice (some ⟨L.blk, L.sh + (if n = l then off else off + l * m), none⟩) (hh - l) (n - l), w, Sub.refl _, by simp [V.conc, V1.conc, Cell.conc, hL], h, ?_⟩
          simp only [Instr.sliceAt, Sem.run_bind, run_underlying hu, Result.andThen_ok, Instr.sureAddr, Sem.run_pure, hbr, run_sizeOf' hm]
          congr 3
          split
          · rfl
          · simp [Addr.add_lit, Nat.add_assoc]
        · cases hx
      · cases hx
    · cases hx
  · cases hx
end
end Go.Proofs.Ytdhnjkagmbfoaaa.AM
/- The abstract machine's operations, more: appending, copying, texts. -/
set_option linter.unusedSimpArgs false
set_option linter.unusedVariables false
namespace Go.Proofs.Ytdhnjkagmbfoaaa.AM
open Go Go.RowKit
section
variable {P : Program} {w0 w : World} {μ : Map} {s : St}
/-- What is appended, in worlds with the cells of this one. -/
def AppArg (P : Program) (w : World) (ats : Array TypeId) (e : TypeId) (i : TypeInfo) (z y : Value) (n : Nat) (nv : Array Value) : Prop :=
  ∃ u du, ats[1]? = some u ∧ P.underlying u = some du ∧
    ((((∃ e', du = .slice e') ∨ du = .string) ∧ (Builtin.lenOf y).run P w = .ok n w ∧ (∀ w' : World, w'.heap = w.heap → (Builtin.firstCells i.size n y).run P w' = .ok nv w')) ∨
     ((∃ k, du = .int k) ∧ y = .int .i64 (n : Int) ∧ n ≤ 16777216 ∧ n * i.bytes ≤ 16777216 ∧ nv = Builtin.zeroCells z.cells n ∧ 0 < i.size))
theorem zeroCells_zero (z : Array Value) : Builtin.zeroCells z 0 = #[] := by simp [Builtin.zeroCells, Array.range_zero']
set_option maxRecDepth 20000 in
theorem append_room {ats : Array TypeId} {t0 e ty : TypeId} {i : TypeInfo} {z y : Value} {n : Nat} {nv : Array Value} (h0 : ats[0]? = some t0) (ht : P.underlying t0 = some (.slice e)) (hi : P.info? e = some i) (hz : i.zero = some z)
    (ha : AppArg P w ats e i z y n nv) (base : Option Addr) (l c : Nat) (hroom : l + n ≤ c) :
    (Builtin.append_ ats ty #[.slice base l c, y]).run P w = match base with
      | some a => ((storeCells (a.add (l * i.size)) nv.toList).run P w).andThen fun _ w => .ok (.slice base (l + n) c) w
      | none => .ok (.slice base (l + n) c) w := by
  obtain ⟨u, du, hu, hdu, ⟨hne, hlen, hf⟩ | ⟨⟨k, rfl⟩, rfl, hn1, hn2, rfl, hzs⟩⟩ := ha
  · have hf' := hf w rfl
    clear hf
    rcases hne with ⟨e', rfl⟩ | rfl
    · cases base
      · (simp only [Builtin.append_, h0, hu]; simp [run_underlying ht, run_underlying hdu, sizeOf, typeInfo, hi, hlen, hroom, hf']; done)
      · (simp only [Builtin.append_, h0, hu]; simp [run_underlying ht, run_underlying hdu, sizeOf, typeInfo, hi, hlen, hroom, hf']; done)
    · cases base
      · (simp only [Builtin.append_, h0, hu]; simp [run_underlying ht, run_underlying hdu, sizeOf, typeInfo, hi, hlen, hroom, hf']; done)
      · (simp only [Builtin.append_, h0, hu]; simp [run_underlying ht, run_underlying hdu, sizeOf, typeInfo, hi, hlen, hroom, hf']; done)
  · have hw : IntKind.i64.wrap ((n : Nat) : Int) = n := IntWalk.i64_in _ (by omega)
    have h2 : ¬ (281474976710656 < ((n : Nat) : Int) * (i.bytes : Int)) := by
      have h3 : ((n : Nat) : Int) * (i.bytes : Int) ≤ 16777216 := by rw [← Int.natCast_mul]; omega
      omega
    have h1 : ¬ ((n : Int) < 0) := by omega
    have hs0 : ¬ i.size = 0 := by omega
    have hw0 : IntKind.i64.wrap 0 = 0 := IntWalk.i64_in _ (by omega)
    by_cases hn0 : n = 0
    · subst hn0
      have hroom' : l ≤ c := by omega
      cases base <;> simp [Builtin.append_, hroom', h0, hu, run_underlying ht, run_underlying hdu, sizeOf, typeInfo, hi, asInt, asIntOf, hw0, hroom, zeroCells_zero]
    · have hns : ¬ n * i.size = 0 := by have := Nat.mul_pos (show 0 < n by omega) hzs; omega
      cases base <;> simp [Builtin.append_, h0, hu, run_underlying ht, run_underlying hdu, sizeOf, typeInfo, hi, asInt, asIntOf, hw, h1, h2, hroom, hns, zeroValue, hz]
set_option maxRecDepth 20000 in
theorem append_grow {ats : Array TypeId} {t0 e ty : TypeId} {i : TypeInfo} {z y : Value} {n : Nat} {nv : Array Value} (h0 : ats[0]? = some t0) (ht : P.underlying t0 = some (.slice e)) (hi : P.info? e = some i) (hz : i.zero = some z)
    (ha : AppArg P w ats e i z y n nv) (base : Option Addr) (l c : Nat) (hroom : c < l + n) (hfit : (l + n) * i.bytes ≤ 140737488355328) (hb : 0 < i.bytes)
    {ov : Array Value} (ho : ∀ w' : World, w'.heap = w.heap → (Builtin.firstCells i.size l (.slice base l c)).run P w' = .ok ov w') :
    (Builtin.append_ ats ty #[.slice base l c, y]).run P w =
      .ok (.slice (some ⟨w.heap.size, 0, none⟩) (l + n) (grownCap w (l + n) c e)) (w.drew.alloc (.cells (ov ++ nv ++ Builtin.zeroCells z.cells (grownCap w (l + n) c e - (l + n))) e)) := by
  have hsm : l + n ≤ 140737488355328 := Nat.le_trans (Nat.le_mul_of_pos_right _ hb) hfit
  have hnot : ¬ (l + n ≤ c) := by omega
  have h63 : ¬ (9223372036854775807 < ((l : Int) + (n : Int))) := by omega
  have h48 : ¬ (281474976710656 < Builtin.nextslicecap (l + n) c * i.bytes) := by have := growslice_fits (bytes := i.bytes) hroom (by omega); omega
  obtain ⟨u, du, hu, hdu, ⟨hne, hlen, hf⟩ | ⟨⟨k, rfl⟩, rfl, hn1, hn2, rfl, hzs⟩⟩ := ha
  · have hf' := hf w.drew rfl
    have ho' := ho w.drew rfl
    clear hf ho
    rcases hne with ⟨e', rfl⟩ | rfl
    · (simp only [Builtin.append_, h0, hu]; simp [run_underlying ht, run_underlying hdu, sizeOf, typeInfo, hi, hlen, hnot, h63, h48, Question.forced, hf', ho', zeroValue, hz, newRow, grownCap]; done)
    · (simp only [Builtin.append_, h0, hu]; simp [run_underlying ht, run_underlying hdu, sizeOf, typeInfo, hi, hlen, hnot, h63, h48, Question.forced, hf', ho', zeroValue, hz, newRow, grownCap]; done)
  · have hw : IntKind.i64.wrap ((n : Nat) : Int) = n := IntWalk.i64_in _ (by omega)
    have h2 : ¬ (281474976710656 < ((n : Nat) : Int) * (i.bytes : Int)) := by
      have h3 : ((n : Nat) : Int) * (i.bytes : Int) ≤ 16777216 := by rw [← Int.natCast_mul]; omega
      omega
    have h1 : ¬ ((n : Int) < 0) := by omega
    have hs0 : ¬ i.size = 0 := by omega
    have hw0 : IntKind.i64.wrap 0 = 0 := IntWalk.i64_in _ (by omega)
    by_cases hn0 : n = 0
    · subst hn0
      have hnot' : ¬ l ≤ c := by omega
      have hnot2 : c < l := by omega
      have h63' : ¬ (9223372036854775807 < (l : Int)) := by omega
      have h48' : ¬ (281474976710656 < Builtin.nextslicecap l c * i.bytes) := by simpa using h48
      simp [Builtin.append_, hnot', hnot2, h63', h48', h0, hu, run_underlying ht, run_underlying hdu, sizeOf, typeInfo, hi, asInt, asIntOf, hw0, hnot, h63, h48, Question.forced, ho w.drew rfl, zeroValue, hz, newRow, grownCap, zeroCells_zero]
    · have hns : ¬ n * i.size = 0 := by have := Nat.mul_pos (show 0 < n by omega) hzs; omega
      simp [Builtin.append_, h0, hu, run_underlying ht, run_underlying hdu, sizeOf, typeInfo, hi, asInt, asIntOf, hw, h1, h2, hnot, h63, h48, Question.forced, hns, ho w.drew rfl, zeroValue, hz, newRow, grownCap]
/-- The cells of a slice, or a text, as the model reads them. -/
theorem elems_sim (h : Rel w0 μ s w) {c : Cell} {y : Value} (hc : c.conc μ = some y) {size n : Nat} {k : Option Nat} (hn : lenA c = some n) (hk : k.getD n ≤ n) {cs : List Cell} (he : elemsA s size k c = some cs) :
    (Builtin.lenOf y).run P w = .ok n w ∧ ∃ vs, concs μ cs = some vs ∧ ∀ w' : World, w'.heap = w.heap → (Builtin.firstCells size (k.getD n) y).run P w' = .ok vs.toArray w' := by
  cases c with
  | nils =>
    simp only [lenA, Option.some.injEq] at hn; subst hn
    simp only [Cell.conc, Option.some.injEq] at hc; subst hc
    simp only [elemsA, Option.some.injEq] at he; subst he
    exact ⟨rfl, [], rfl, fun w' _ => rfl⟩
  | sle a c =>
    simp only [lenA, Option.some.injEq] at hn; subst hn
    simp only [Cell.conc, Option.some.injEq] at hc; subst hc
    simp only [elemsA, Option.some.injEq] at he; subst he
    refine ⟨rfl, [], rfl, fun w' _ => ?_⟩
    have hk0 : k.getD 0 = 0 := by omega
    have := run_loadCells_list (P := P) w' a [] (fun j v hj => by simp at hj)
    simpa [Builtin.firstCells, hk0] using this
  | slh b o0 o d =>
    simp only [lenA, Option.some.injEq] at hn; subst hn
    simp only [Cell.conc, Option.map_eq_some_iff] at hc
    obtain ⟨L, hL, rfl⟩ := hc
    simp only [elemsA, Option.some.injEq] at he; subst he
    refine ⟨rfl, [], rfl, fun w' _ => ?_⟩
    have hk0 : k.getD 0 = 0 := by omega
    have := run_loadCells_list (P := P) w' ⟨L.blk, L.sh + (if L.cap - d = 0 then o0 else o), none⟩ [] (fun j v hj => by simp at hj)
    simpa [Builtin.firstCells, hk0] using this
  | sl b off len cap =>
    simp only [lenA, Option.some.injEq] at hn; subst hn
    obtain ⟨l, hl, rfl⟩ := conc_sl hc
    simp only [elemsA] at he
    obtain ⟨vs, q1, q2, q3⟩ := h.read he hl
    refine ⟨rfl, vs, q1, fun w' hw => ?_⟩
    have := run_loadCells_list (P := P) w' ⟨l.blk, l.sh + off, none⟩ vs (fun j v hj => by
      have := q3 j v hj
      simpa [World.cell?, hw] using this)
    rw [q2] at this
    simp [Builtin.firstCells, this]
  | str t =>
    simp only [lenA, Option.some.injEq] at hn; subst hn
    simp only [Cell.conc, Option.some.injEq] at hc; subst hc
    simp only [elemsA, Option.some.injEq] at he; subst he
    refine ⟨rfl, ((t.extract 0 (k.getD t.size)).data.toList).map (fun b => Value.int .u8 b.toNat), ?_, fun w' _ => ?_⟩
    · generalize (t.extract 0 (k.getD t.size)).data.toList = l
      induction l with
      | nil => rfl
      | cons a l ih => exact concs_cons.2 ⟨_, _, rfl, ih, rfl⟩
    · simp only [Builtin.firstCells, Sem.run_pure]
      congr 1
      apply Array.ext'
      simp
  | _ => simp [lenA] at hn
end
end Go.Proofs.Ytdhnjkagmbfoaaa.AM
/- The abstract machine's operations, more: appending, copying, texts of bytes. -/
set_option linter.unusedSimpArgs false
set_option linter.unusedVariables false
namespace Go.Proofs.Ytdhnjkagmbfoaaa.AM
open Go Go.RowKit
section
variable {P : Program} {w0 w : World} {μ : Map} {s : St}
/-- A row grows by a new one. -/
theorem Rel.regrow {w' : World} (h : Rel w0 μ s w) {b : Nat} {L : Loc} (hl : μ b = some L) {cells : List Cell} {ty esz fam ver : Nat} (ho : s.get b = some (.blk cells ty esz fam ver)) (hver : (s.fam fam).1 = ver)
    {new : List Cell} {vs : List Value} (hv : concs μ new = some vs) (cap : Nat) (cs : Array Value) (hb : Below w.heap.size w w') (hc : w'.heap[w.heap.size]? = some (.cells cs ty (0, 0))) (hcs : ∀ (j : Nat) (v : Value), vs[j]? = some v → cs[j]? = some v)
    (h1 : new.length ≤ cap * esz) (h2 : cap * esz ≤ cs.size) :
    Rel w0 (upd μ s.next ⟨w.heap.size, 0, cap⟩) ((s.push (.blk new ty esz fam (ver + 1))).setFam fam (ver + 1, (s.fam fam).2)) w' := by
  have hB := famlt h hl ho
  have hsub := sub_upd ⟨w.heap.size, 0, cap⟩ h.fresh
  have hfs := hB.hfam
  have hwf1 := St.wf_push h.wf (.blk new ty esz fam (ver + 1))
  have hgetn : ∀ b', ((s.push (.blk new ty esz fam (ver + 1))).setFam fam (ver + 1, (s.fam fam).2)).get b' = if b' = s.next then some (.blk new ty esz fam (ver + 1)) else s.get b' := by
    intro b'; rw [St.get_setFam, St.get_push h.wf]
  have hfamn : ∀ r, r < s.next → ((s.push (.blk new ty esz fam (ver + 1))).setFam fam (ver + 1, (s.fam fam).2)).fam r = if r = fam then (ver + 1, (s.fam fam).2) else s.fam r := by
    intro r hr
    rw [St.fam_setFam hwf1 _ _ (by simp only [St.push]; omega) _ (by simp only [St.push]; omega), St.fam_push h.wf _ _ (by omega), if_neg (show ¬ r = s.next by omega)]
  refine ⟨St.wf_setFam hwf1 _ _, h.below.trans (hb.mono h.size), ?_, ?_, Nat.le_refl _⟩
  · intro b' l' hl'
    by_cases e : b' = s.next
    · subst e
      rw [upd_self] at hl'; cases hl'
      refine ⟨_, by rw [hgetn, if_pos rfl], ?_⟩
      refine ⟨by simp only [St.setFam, St.push]; omega, by rw [hfamn _ hfs, if_pos rfl]; exact Nat.le_refl _, (Array.getElem?_eq_some_iff.1 hc).1, h1, fun _ => ⟨h.size, cs, hc, by simpa using h2⟩, fun _ i c hi => ?_⟩
      obtain ⟨v, q1, q2⟩ := concs_get hv hi
      refine ⟨v, Cell.conc_mono hsub q1, ?_⟩
      rw [Nat.zero_add]
      simp only [World.cell?, hc, Option.isSome_none, Bool.false_eq_true, if_false]
      exact hcs i v q2
    · simp only [upd, if_neg e] at hl'
      obtain ⟨o', ho', hr⟩ := h.obj b' l' hl'
      refine ⟨o', by rw [hgetn, if_neg e]; exact ho', ?_⟩
      have hw := hb.block _ hr.lt
      cases o' with
      | map es c => obtain ⟨q0, es', q1, q2⟩ := hr; exact ⟨q0, es', by rw [hw]; exact q1, concE_mono hsub q2⟩
      | iter t p => exact ⟨hr.1, by rw [hw]; exact hr.2⟩
      | blk c1 t1 g1 f1 v1 =>
        have hr' : BlkRel w0 μ s w l' c1 t1 g1 f1 v1 := hr
        have hfl := hr'.hfam
        have hsz' : l'.blk < w'.heap.size := Nat.lt_of_lt_of_le hr'.lt hb.size
        refine ⟨by simp only [St.setFam, St.push]; omega, ?_, hsz', hr'.hcap, ?_, ?_⟩
        · rw [hfamn _ hfl]; split
          · rename_i e2; subst e2; have := hr'.hver; simp only; omega
          · exact hr'.hver
        · rw [hfamn _ hfl]; split
          · rename_i e2; subst e2; intro e3; have := hr'.hver; simp only at e3; omega
          · rw [hw]; exact hr'.own
        · intro hle i c hi
          have hle' : (s.fam f1).2 ≤ v1 := by
            rw [hfamn _ hfl] at hle
            split at hle
            · rename_i e2; subst e2; exact hle
            · exact hle
          obtain ⟨v, q1, q2⟩ := hr'.read hle' i c hi
          exact ⟨v, Cell.conc_mono hsub q1, by rw [World.cell?_of_block (w := w) (a := ⟨l'.blk, l'.sh + i, none⟩) hw]; exact q2⟩
  · intro b1 b2 l1 l2 hne h1' h2' he
    by_cases e1 : b1 = s.next
    · subst e1; rw [upd_self] at h1'; cases h1'
      simp only [upd, if_neg (Ne.symm hne)] at h2'
      obtain ⟨o', ho', hr⟩ := h.obj b2 l2 h2'
      have := hr.lt; simp only at he; omega
    · by_cases e2 : b2 = s.next
      · subst e2; rw [upd_self] at h2'; cases h2'
        simp only [upd, if_neg hne] at h1'
        obtain ⟨o', ho', hr⟩ := h.obj b1 l1 h1'
        have := hr.lt; simp only at he; omega
      · simp only [upd, if_neg e1] at h1'
        simp only [upd, if_neg e2] at h2'
        obtain ⟨c1, t1, g1, f, v1, c2, t2, g2, v2, q1, q2, q3, q4, q5⟩ := h.apart b1 b2 l1 l2 hne h1' h2' he
        have hf1 := (famlt h h1' q1)
        have hf2 := (famlt h h2' q2)
        refine ⟨c1, t1, g1, f, v1, c2, t2, g2, v2, by rw [hgetn, if_neg e1]; exact q1, by rw [hgetn, if_neg e2]; exact q2, ?_⟩
        rw [hfamn _ hf1.hfam]
        split
        · rename_i e3; subst e3
          have := hf1.hver; have := hf2.hver
          exact ⟨by intro q; have := q.1; simp only at this; omega, by intro q; simp only at q; omega, by intro q; simp only at q; omega⟩
        · exact ⟨q3, q4, q5⟩
theorem grown_row (ov nv : Array Value) (z : Value) (cap k size : Nat) (hz : z.cells.size = size) (hk : k ≤ cap) (hs : ov.size + nv.size = k * size) : (ov ++ nv ++ Builtin.zeroCells z.cells (cap - k)).size = cap * size := by
  rw [Array.size_append, Array.size_append, hs, size_zeroCells, hz, ← Nat.add_mul]
  congr 1; omega
theorem grown_get {a b : List Value} {c : Array Value} {j : Nat} {v : Value} (h : (a ++ b)[j]? = some v) : (a.toArray ++ b.toArray ++ c)[j]? = some v := by
  have hl := (List.getElem?_eq_some_iff.1 h).1
  rw [List.length_append] at hl
  rw [Array.getElem?_append_left (by simp; omega)]
  simpa using h
theorem appendA_sim (h : Rel w0 μ s w) {ats : Array TypeId} {t0 e ty : TypeId} {i : TypeInfo} {z y' : Value} {n : Nat} {nv : List Value} {new : List Cell} {c : Cell} {x' : Value}
    (h0 : ats[0]? = some t0) (ht : P.underlying t0 = some (.slice e)) (hi : P.info? e = some i) (hz : i.zero = some z) (hzs : z.cells.size = i.size) (hs0 : 0 < i.size) (hb0 : 0 < i.bytes)
    (ha : AppArg P w ats e i z y' n nv.toArray) (hnew : concs μ new = some nv) (hnl : new.length = n * i.size) (hx' : c.conc μ = some x') {l : Nat} (hl : lenA c = some l) (hbig : (l + n) * i.bytes ≤ 140737488355328)
    {v : V} {s' : St} (hx : appendA s e i.size n new c = some (v, s')) : VRes w0 μ v s' ((Builtin.append_ ats ty #[x', y']).run P w) := by
  have hnvl := concs_length hnew
  have hbd : ∀ o, Below w.heap.size w (w.drew.alloc o) := fun o => (Below.refl _ _).drew.alloc (Nat.le_refl _) o
  have hget : ∀ o, (w.drew.alloc o).heap[w.heap.size]? = some o := fun o => heap_alloc_new w.drew o
  unfold appendA at hx
  split at hx
  · -- nil
    simp only [lenA, Option.some.injEq] at hl; subst hl
    simp only [Cell.conc, Option.some.injEq] at hx'; subst hx'
    split at hx
    · rename_i hn; subst hn
      cases hx
      exact ⟨μ, .slice none 0 0, w, Sub.refl _, rfl, h, by rw [append_room h0 ht hi hz ha none 0 0 (by omega)]⟩
    · rename_i hn
      cases hx
      have hg := append_grow (ty := ty) h0 ht hi hz ha none 0 0 (by omega) hbig hb0 (ov := #[]) (fun w' _ => rfl)
      have hge := grownCap_ge w (0 + n) 0 e
      refine ⟨_, _, _, sub_upd ⟨w.heap.size, 0, grownCap w (0 + n) 0 e⟩ h.fresh, ?_, h.newBlk hnew e i.size (grownCap w (0 + n) 0 e) _ (hbd _) (hget _) (fun j u hj => ?_) ?_ ?_, hg⟩
      · simp [V.conc, V1.conc, Cell.conc, upd_self]
      · exact grown_get (a := []) (by simpa using hj)
      · rw [hnl]; exact Nat.mul_le_mul_right _ (by omega)
      · rw [grown_row #[] nv.toArray z _ (0 + n) i.size hzs hge (by simp; omega)]; exact Nat.le_refl _
  · -- an empty one
    rename_i a c
    simp only [lenA, Option.some.injEq] at hl; subst hl
    simp only [Cell.conc, Option.some.injEq] at hx'; subst hx'
    split at hx
    · rename_i hn; subst hn
      cases hx
      have hnv : nv = [] := List.length_eq_zero_iff.1 (by rw [hnvl, hnl]; simp)
      subst hnv
      exact ⟨μ, .slice (some a) 0 c, w, Sub.refl _, rfl, h, by rw [append_room h0 ht hi hz ha (some a) 0 c (by omega)]; rfl⟩
    · cases hx
  · -- an empty one, at the end of one
    rename_i b o0 o d
    simp only [lenA, Option.some.injEq] at hl; subst hl
    have hc0 := hx'
    simp only [Cell.conc, Option.map_eq_some_iff] at hx'
    obtain ⟨L, hL, rfl⟩ := hx'
    split at hx
    · rename_i hn; subst hn
      cases hx
      have hnv : nv = [] := List.length_eq_zero_iff.1 (by rw [hnvl, hnl]; simp)
      subst hnv
      exact ⟨μ, _, w, Sub.refl _, hc0, h, by rw [append_room h0 ht hi hz ha _ 0 _ (by omega)]; rfl⟩
    · cases hx
  · -- a known room
    rename_i b off len c0
    simp only [lenA, Option.some.injEq] at hl; subst hl
    obtain ⟨L, hL, rfl⟩ := conc_sl hx'
    split at hx
    · rename_i hroom
      simp only [Option.map_eq_some_iff, Prod.mk.injEq] at hx
      obtain ⟨s1, hw, rfl, rfl⟩ := hx
      obtain ⟨w', r1, r2⟩ := storeCells_sim (P := P) h hL hnew hw
      refine ⟨μ, .slice (some ⟨L.blk, L.sh + off, none⟩) (len + n) c0, w', Sub.refl _, by simp [V.conc, V1.conc, Cell.conc, hL], r2, ?_⟩
      simp only [capAt]
      rw [append_room h0 ht hi hz ha (some ⟨L.blk, L.sh + off, none⟩) len c0 hroom]
      simp only [Addr.add_lit]
      rw [show L.sh + off + len * i.size = L.sh + (off + len * i.size) by omega, r1]; rfl
    · rename_i hroom
      split at hx
      · rename_i old hr
        cases hx
        obtain ⟨ov, q1, q2, q3⟩ := h.read hr hL
        have hg := append_grow (ty := ty) h0 ht hi hz ha (some ⟨L.blk, L.sh + off, none⟩) len c0 (by omega) hbig hb0 (ov := ov.toArray) (fun w' hw => by
          have := run_loadCells_list (P := P) w' ⟨L.blk, L.sh + off, none⟩ ov (fun j v hj => by
            have := q3 j v hj
            simpa [World.cell?, hw] using this)
          rw [q2] at this
          simp [Builtin.firstCells, this])
        have hge := grownCap_ge w (len + n) c0 e
        refine ⟨_, _, _, sub_upd ⟨w.heap.size, 0, grownCap w (len + n) c0 e⟩ h.fresh, ?_, h.newBlk (concs_append q1 hnew) e i.size (grownCap w (len + n) c0 e) _ (hbd _) (hget _) (fun j u hj => grown_get hj) ?_ ?_, hg⟩
        · simp [V.conc, V1.conc, Cell.conc, upd_self]
        · rw [List.length_append, hnl, ← concs_length q1, q2, ← Nat.add_mul]; exact Nat.mul_le_mul_right _ (by omega)
        · rw [grown_row ov.toArray nv.toArray z _ (len + n) i.size hzs hge (by simp [q2, Nat.add_mul]; omega)]; exact Nat.le_refl _
      · cases hx
  · -- up to the block's end
    rename_i b off len d
    simp only [lenA, Option.some.injEq] at hl; subst hl
    obtain ⟨L, hL, rfl⟩ := conc_sl hx'
    simp only [capAt]
    split at hx
    · rename_i cells tyb esz fam ver ho
      split at hx
      · rename_i hc
        obtain ⟨hoff, rfl, rfl, hend⟩ := hc
        have hB := famlt h hL ho
        have hcap := hB.hcap
        have hcapn : ∀ m, off + m * i.size ≤ cells.length → m ≤ L.cap - d := by
          intro m hm
          have : (d + m) * i.size ≤ L.cap * i.size := by rw [Nat.add_mul]; omega
          have := Nat.le_of_mul_le_mul_right this hs0
          omega
        split at hx
        · rename_i hn; subst hn
          cases hx
          have hnn : nv = [] := List.eq_nil_of_length_eq_zero (by omega)
          subst hnn
          refine ⟨μ, .slice (some ⟨L.blk, L.sh + off, none⟩) len (L.cap - d), w, Sub.refl _, by simp [V.conc, V1.conc, Cell.conc, hL], h, ?_⟩
          rw [append_room h0 ht hi hz ha (some ⟨L.blk, L.sh + off, none⟩) len (L.cap - d) (by have := hcapn len hend; omega)]
          simp [storeCells]
        · rename_i hn
          split at hx
          · rename_i hfit
            simp only [Option.map_eq_some_iff, Prod.mk.injEq] at hx
            obtain ⟨s1, hw, rfl, rfl⟩ := hx
            obtain ⟨w', r1, r2⟩ := storeCells_sim (P := P) h hL hnew hw
            refine ⟨μ, .slice (some ⟨L.blk, L.sh + off, none⟩) (len + n) (L.cap - d), w', Sub.refl _, by simp [V.conc, V1.conc, Cell.conc, hL], r2, ?_⟩
            rw [append_room h0 ht hi hz ha (some ⟨L.blk, L.sh + off, none⟩) len (L.cap - d) (hcapn _ hfit)]
            simp only [Addr.add_lit]
            rw [show L.sh + off + len * i.size = L.sh + (off + len * i.size) by omega, r1]; rfl
          · split at hx
            · rename_i hfit hD
              cases hx
              have hdl : (cells.drop off).length = len * i.size := by rw [List.length_drop]; omega
              by_cases hroom : len + n ≤ L.cap - d
              · have hcm : (d + (L.cap - d)) * i.size = L.cap * i.size := by congr 1; omega
                rw [Nat.add_mul] at hcm
                obtain ⟨cs, hcs, hfit2, hR⟩ := h.grow hL ho hD.2.1 hD.2.2 hnew off (L.cap - d) (by omega) (by rw [List.length_append, hdl, hnl, ← Nat.add_mul]; exact Nat.mul_le_mul_right _ hroom) (by omega)
                refine ⟨_, .slice (some ⟨L.blk, L.sh + off, none⟩) (len + n) (L.cap - d), _, sub_upd ⟨L.blk, L.sh + off, L.cap - d⟩ h.fresh, by simp [V.conc, V1.conc, Cell.conc, upd_self], hR, ?_⟩
                rw [append_room h0 ht hi hz ha (some ⟨L.blk, L.sh + off, none⟩) len (L.cap - d) hroom]
                have hst := run_storeCells_at P L.blk (L.sh + cells.length) tyb nv 0 cs w hcs (by simpa using hfit2) (concs_one hnew)
                simp only [Nat.add_zero] at hst
                simp only [Addr.add_lit]
                rw [show L.sh + off + len * i.size = L.sh + cells.length by omega, hst]; rfl
              · have hrd : s.read b off (len * i.size) = some (cells.drop off) ∨ len * i.size = 0 := by
                  by_cases hz0 : len * i.size = 0
                  · exact .inr hz0
                  · left
                    simp only [St.read, hz0, if_false, ho]
                    rw [if_pos ⟨hD.2.2, by omega⟩, List.take_of_length_le (by omega)]
                obtain ⟨ov, q1, q2, q3⟩ : ∃ vs, concs μ (cells.drop off) = some vs ∧ vs.length = len * i.size ∧ ∀ (j : Nat) (v : Value), vs[j]? = some v → w.cell? ((⟨L.blk, L.sh + off, none⟩ : Addr).add j) = some v := by
                  rcases hrd with hrd | hz0
                  · exact h.read hrd hL
                  · have : cells.drop off = [] := List.eq_nil_of_length_eq_zero (by omega)
                    rw [this]; exact ⟨[], rfl, by simp [hz0], fun j v hj => by simp at hj⟩
                have hg := append_grow (ty := ty) h0 ht hi hz ha (some ⟨L.blk, L.sh + off, none⟩) len (L.cap - d) (by omega) hbig hb0 (ov := ov.toArray) (fun w' hw => by
                  have := run_loadCells_list (P := P) w' ⟨L.blk, L.sh + off, none⟩ ov (fun j v hj => by
                    have := q3 j v hj
                    simpa [World.cell?, hw] using this)
                  rw [q2] at this
                  simp [Builtin.firstCells, this])
                have hge := grownCap_ge w (len + n) (L.cap - d) tyb
                refine ⟨_, _, _, sub_upd ⟨w.heap.size, 0, grownCap w (len + n) (L.cap - d) tyb⟩ h.fresh, ?_, h.regrow hL ho hD.2.1 (concs_append q1 hnew) (grownCap w (len + n) (L.cap - d) tyb) _ (hbd _) (hget _) (fun j u hj => grown_get hj) ?_ ?_, hg⟩
                · simp [V.conc, V1.conc, Cell.conc, upd_self]
                · rw [List.length_append, hnl, hdl, ← Nat.add_mul]; exact Nat.mul_le_mul_right _ (by omega)
                · rw [grown_row ov.toArray nv.toArray z _ (len + n) i.size hzs hge (by simp [q2, Nat.add_mul]; omega)]; exact Nat.le_refl _
            · cases hx
      · cases hx
    · cases hx
  · cases hx
theorem zeroT_info {t : TypeId} {cs : List Cell} {i : TypeInfo} (h : zeroT P t = some cs) (hi : P.info? t = some i) : ∃ z, i.zero = some z ∧ ∀ μ, concs μ cs = some z.cells.toList := by
  simp only [zeroT, hi, Option.bind_some] at h
  cases hz : i.zero with
  | none => simp [hz] at h
  | some z => simp only [hz, Option.bind_some] at h; exact ⟨z, rfl, fun μ => ofCells_conc h⟩
theorem xAppend_sim (h : Rel w0 μ s w) {ats : Array TypeId} {t0 ty : TypeId} {ts : List TypeId} (hats : ats.toList = t0 :: ts) {x y : Cell} {x' y' : Value} (hx' : x.conc μ = some x') (hy' : y.conc μ = some y')
    {v : V} {s' : St} (hx : xAppend P s t0 ts.head? x y = some (v, s')) : VRes w0 μ v s' ((Builtin.append_ ats ty #[x', y']).run P w) := by
  have h0 : ats[0]? = some t0 := by rw [← Array.getElem?_toList, hats]; rfl
  have h1 : ats[1]? = ts.head? := by rw [← Array.getElem?_toList, hats]; cases ts <;> rfl
  unfold xAppend at hx
  split at hx
  · rename_i e he
    have ht := elemT_spec he
    split at hx
    · rename_i i z hi hz
      split at hx
      · rename_i hc
        obtain ⟨hzl, hs0, hb0⟩ := hc
        obtain ⟨zv, hz1, hz2⟩ := zeroT_info hz hi
        have hzs : zv.cells.size = i.size := by have := concs_length (hz2 μ); rw [Array.length_toList] at this; omega
        -- a slice's or a text's elements
        have hgen : ∀ (u : TypeId) (du : TypeDesc), ats[1]? = some u → P.underlying u = some du → ((∃ e', du = .slice e') ∨ du = .string) →
            (match lenA x, lenA y, elemsA s i.size (lenA y) y with
              | some l, some n, some new => if (l + n) * i.bytes ≤ 140737488355328 ∧ new.length = n * i.size then appendA s e i.size n new x else none
              | _, _, _ => none) = some (v, s') → VRes w0 μ v s' ((Builtin.append_ ats ty #[x', y']).run P w) := by
          intro u du hu hdu hk hx
          split at hx
          · rename_i l n new hl hn hnew
            split at hx
            · rename_i hq
              rw [hn] at hnew
              obtain ⟨r1, vs, r2, r3⟩ := elems_sim (P := P) h hy' (k := some n) hn (Nat.le_refl _) hnew
              exact appendA_sim h h0 ht hi hz1 hzs hs0 hb0 ⟨u, du, hu, hdu, .inl ⟨hk, r1, r3⟩⟩ r2 hq.2 hx' hl hq.1 hx
            · cases hx
          · cases hx
        split at hx
        · rename_i k m hu
          obtain ⟨u, hu1, hu2⟩ := Option.bind_eq_some_iff.1 hu
          split at hx
          · rename_i hm
            split at hx
            · rename_i l hl
              split at hx
              · rename_i hbig
                simp only [Cell.conc, Option.some.injEq] at hy'; subst hy'
                have hmn : ((m.toNat : Nat) : Int) = m := by omega
                have hnew : concs μ (repeatC z m.toNat) = some (Builtin.zeroCells zv.cells m.toNat).toList := by
                  rw [repeatC_conc (hz2 μ) (by omega)]; simp [Builtin.zeroCells]
                have hmb : m.toNat * i.bytes ≤ 16777216 := by rw [Nat.add_mul] at hbig; omega
                refine appendA_sim h h0 ht hi hz1 hzs hs0 hb0 (nv := (Builtin.zeroCells zv.cells m.toNat).toList) ⟨u, _, by rw [h1]; exact hu1, hu2, .inr ⟨⟨k, rfl⟩, by rw [hmn], by omega, hmb, by simp, hs0⟩⟩ hnew (by rw [repeatC_length]; congr 1) hx' hl (by omega) hx
              · cases hx
            · cases hx
          · cases hx
        · rename_i e' hu
          obtain ⟨u, hu1, hu2⟩ := Option.bind_eq_some_iff.1 hu
          exact hgen u _ (by rw [h1]; exact hu1) hu2 (.inl ⟨_, rfl⟩) hx
        · rename_i hu
          obtain ⟨u, hu1, hu2⟩ := Option.bind_eq_some_iff.1 hu
          exact hgen u _ (by rw [h1]; exact hu1) hu2 (.inr rfl) hx
        · cases hx
      · cases hx
    · cases hx
  · cases hx
end
end Go.Proofs.Ytdhnjkagmbfoaaa.AM
/- The abstract machine's operations, more: copying, texts, maps, iterators. -/
set_option linter.unusedSimpArgs false
set_option linter.unusedVariables false
namespace Go.Proofs.Ytdhnjkagmbfoaaa.AM
open Go Go.RowKit Go.MapKept
section
variable {P : Program} {w0 w : World} {μ : Map} {s : St}
theorem xCopy_sim (h : Rel w0 μ s w) {ats : Array TypeId} {t0 ty : TypeId} {ts : List TypeId} (hats : ats.toList = t0 :: ts) {x y : Cell} {x' y' : Value} (hx' : x.conc μ = some x') (hy' : y.conc μ = some y')
    {v : V} {s' : St} (hx : xCopy P s t0 x y = some (v, s')) : VRes w0 μ v s' ((Builtin.copy_ ats ty #[x', y']).run P w) := by
  have h0 : ats[0]? = some t0 := by rw [← Array.getElem?_toList, hats]; rfl
  unfold xCopy at hx
  split at hx
  · rename_i e he
    have ht := elemT_spec he
    split at hx
    · rename_i n hn
      split at hx
      · rename_i a b ha hb
        split at hx
        · rename_i cs hcs
          obtain ⟨r1, vs, r2, r3⟩ := elems_sim (P := P) h hy' (k := some (min b a)) hb (by simp; omega) hcs
          have r4 := r3 w rfl
          simp only [Option.getD_some] at r4
          split at hx
          · cases hx
            simp only [lenA, Option.some.injEq] at ha; subst ha
            simp only [Cell.conc, Option.some.injEq] at hx'; subst hx'
            refine ⟨μ, .int .i64 ((min b 0 : Nat) : Int), w, Sub.refl _, rfl, h, ?_⟩
            have e1 : b.min 0 = min b 0 := rfl
            simp [Builtin.copy_, h0, run_underlying ht, r1, run_sizeOf' hn, r4, goInt]
            simp at r4
            simp [r4]
          · rename_i bb off len cap
            split at hx
            · rename_i hlen
              simp only [Option.map_eq_some_iff, Prod.mk.injEq] at hx
              obtain ⟨s1, hw, rfl, rfl⟩ := hx
              simp only [lenA, Option.some.injEq] at ha; subst ha
              obtain ⟨L, hL, rfl⟩ := conc_sl hx'
              obtain ⟨w', q1, q2⟩ := storeCells_sim (P := P) h hL r2 hw
              refine ⟨μ, .int .i64 ((min b len : Nat) : Int), w', Sub.refl _, rfl, q2, ?_⟩
              have e1 : b.min len = min b len := rfl
              simp [Builtin.copy_, h0, run_underlying ht, r1, run_sizeOf' hn, e1, r4, q1, goInt]
            · cases hx
          · cases hx
        · cases hx
      · cases hx
    · cases hx
  · cases hx
theorem bytesOf_conc (f : Value → ByteArray → Sem (ForInStep ByteArray)) (hf : ∀ n r, f (.int .u8 n) r = pure (.yield (r.push (UInt8.ofNat n.toNat)))) : ∀ {cs : List Cell} {l : List UInt8} {vs : List Value}, bytesOfCells cs = some l → concs μ cs = some vs → ∀ (acc : ByteArray) (w : World),
    (forIn vs acc f).run P w = .ok (l.foldl (fun a b => a.push b) acc) w
  | [], l, vs, h1, h2, acc, w => by
    simp [bytesOfCells] at h1; subst h1
    simp [concs] at h2; subst h2
    rfl
  | c :: cs, l, vs, h1, h2, acc, w => by
    obtain ⟨v, ws, q1, q2, rfl⟩ := concs_cons.1 h2
    unfold bytesOfCells at h1
    split at h1
    · rename_i e; cases e
    · rename_i n l' e
      cases e
      simp only [Option.map_eq_some_iff] at h1
      obtain ⟨l2, h3, rfl⟩ := h1
      simp only [Cell.conc, Option.some.injEq] at q1; subst q1
      simp only [List.forIn_cons, hf, Sem.run_bind, Sem.run_pure, Result.andThen_ok, List.foldl_cons]
      exact bytesOf_conc f hf h3 q2 _ w
    · cases h1
theorem foldl_push : ∀ (l : List UInt8) (a : ByteArray), l.foldl (fun a b => a.push b) a = ⟨(a.data.toList ++ l).toArray⟩
  | [], a => by simp
  | b :: l, a => by
    simp only [List.foldl_cons]
    rw [foldl_push l (a.push b)]
    congr 1
    simp [ByteArray.push]
theorem xBytesToString_sim (h : Rel w0 μ s w) {src dst : TypeId} {x : Cell} {x' : Value} (hx' : x.conc μ = some x') {v : V} {s' : St} (hx : xBytesToString P s src dst x = some (v, s')) : VRes w0 μ v s' ((convert src dst x').run P w) := by
  unfold xBytesToString at hx
  split at hx
  · rename_i e hs hd
    split at hx
    · rename_i he
      split at hx
      · cases hx
        simp only [Cell.conc, Option.some.injEq] at hx'; subst hx'
        refine ⟨μ, .string .empty, w, Sub.refl _, rfl, h, ?_⟩
        simp [convert, run_underlying hs, run_underlying hd, run_underlying he, Conv.bytesToString]
      · rename_i b off len cap
        split at hx
        · rename_i cs hr
          simp only [Option.map_eq_some_iff, Prod.mk.injEq] at hx
          obtain ⟨l, hl, rfl, rfl⟩ := hx
          obtain ⟨L, hL, rfl⟩ := conc_sl hx'
          obtain ⟨vs, q1, q2, q3⟩ := h.read hr hL
          have q4 := run_loadCells_list (P := P) w _ vs q3
          rw [q2] at q4
          refine ⟨μ, .string ⟨l.toArray⟩, w, Sub.refl _, rfl, h, ?_⟩
          simp only [convert, Sem.run_bind, run_underlying hs, run_underlying hd, run_underlying he, Conv.bytesToString, Result.andThen_ok, q4, List.forIn_toArray]
          rw [bytesOf_conc (P := P) (μ := μ) _ (by intro n r; rfl) hl q1 .empty w, foldl_push]
          simp
        · cases hx
      · cases hx
    · cases hx
  · cases hx
/-- An object that is no row of cells turns. -/
theorem Rel.setO (h : Rel w0 μ s w) {b : Nat} {l : Loc} (hl : μ b = some l) {o o' : Obj} (ho : s.get b = some o) (hb : ∀ c t e f v, o ≠ .blk c t e f v) (h0 : w0.heap.size ≤ l.blk) (O' : Go.Obj)
    (hO : ObjRel w0 μ (s.setObj b o') { w with heap := w.heap.setIfInBounds l.blk O' } l o') : Rel w0 μ (s.setObj b o') { w with heap := w.heap.setIfInBounds l.blk O' } := by
  have hbs := St.get_lt ho
  have hgetn := fun b' => St.get_setObj h.wf b o' hbs b'
  have hne : ∀ b' l', b' ≠ b → μ b' = some l' → l'.blk ≠ l.blk := by
    intro b' l' e hl' he
    obtain ⟨_, _, _, _, _, _, _, _, _, _, q2, _⟩ := h.apart b' b l' l e hl' hl he
    rw [ho] at q2; cases q2
    exact hb _ _ _ _ _ rfl
  have hother : ∀ k, k ≠ l.blk → (w.heap.setIfInBounds l.blk O')[k]? = w.heap[k]? := fun k hk => by simp [Ne.symm hk]
  refine ⟨St.wf_setObj h.wf _ _, h.below.trans ⟨rfl, rfl, rfl, by simp, fun k hk => hother k (by omega)⟩, ?_, ?_, h.hor⟩
  · intro b' l' hl'
    by_cases e : b' = b
    · subst e; rw [hl] at hl'; cases hl'
      exact ⟨o', by rw [hgetn, if_pos rfl], hO⟩
    · obtain ⟨o1, ho1, hr⟩ := h.obj b' l' hl'
      exact ⟨o1, by rw [hgetn, if_neg e]; exact ho1, hr.keep (Sub.refl _) (fun r _ => rfl) (Nat.le_refl _) (hother _ (hne b' l' e hl'))⟩
  · intro b1 b2 l1 l2 hn h1 h2 he
    by_cases e1 : b1 = b
    · subst e1; rw [hl] at h1; cases h1
      exact absurd he.symm (hne b2 l2 (Ne.symm hn) h2)
    · by_cases e2 : b2 = b
      · subst e2; rw [hl] at h2; cases h2
        exact absurd he (hne b1 l1 e1 h1)
      · obtain ⟨c1, t1, g1, f, v1, c2, t2, g2, v2, q1, q2, q3⟩ := h.apart b1 b2 l1 l2 hn h1 h2 he
        exact ⟨c1, t1, g1, f, v1, c2, t2, g2, v2, by rw [hgetn, if_neg e1]; exact q1, by rw [hgetn, if_neg e2]; exact q2, q3⟩
theorem keyIs_isKey {d : TypeDesc} {k : V1} {k' : Value} (hk : keyIs d k = true) (hc : k.conc μ = some k') : IsKey d k' := by
  cases k with
  | agg cs => cases d <;> simp [keyIs] at hk
  | c x => cases d <;> cases x <;> simp_all [keyIs, V1.conc, Cell.conc, IsKey] <;> subst hc <;> simp_all [IsKey]
theorem sameKey_now {d : TypeDesc} {a b : V1} {a' b' : Value} (ha : a.conc μ = some a') (hb : b.conc μ = some b') {r : Bool} (h : sameKey d a b = some r) : Instr.sameNow d a' b' = some r := by
  unfold sameKey at h
  split at h <;> simp_all [V1.conc, Cell.conc]
  all_goals (subst ha; subst hb; simp_all [Instr.sameNow])
theorem find_sim {d : TypeDesc} {k : V1} {k' : Value} (hk : k.conc μ = some k') : ∀ {es : List (V1 × V1 × Nat)} {es' : List MapEntry} {i : Nat} {r : Option (Nat × V1)}, concE μ es = some es' → findA d k es i = some r →
    ∃ r', Instr.findNow d k' es' i = some r' ∧ (match r with | none => r' = none | some (j, v) => ∃ v', v.conc μ = some v' ∧ r' = some (j, v'))
  | [], es', i, r, he, hf => by
    simp [concE] at he; subst he
    simp [findA] at hf; subst hf
    exact ⟨none, rfl, rfl⟩
  | e :: es, es', i, r, he, hf => by
    obtain ⟨q, v, l, h1, h2, h3, rfl⟩ := concE_cons.1 he
    simp only [findA] at hf
    split at hf
    · rename_i hs
      cases hf
      exact ⟨some (i, v), by simp [Instr.findNow, sameKey_now hk h1 hs], v, h2, rfl⟩
    · rename_i hs
      obtain ⟨r', q1, q2⟩ := find_sim hk h3 hf
      exact ⟨r', by simp [Instr.findNow, sameKey_now hk h1 hs, q1], q2⟩
    · cases hf
theorem findA_lt {d : TypeDesc} {k : V1} : ∀ {es : List (V1 × V1 × Nat)} {i j : Nat} {v : V1}, findA d k es i = some (some (j, v)) → ∃ e, i ≤ j ∧ es[j - i]? = some e ∧ sameKey d k e.1 = some true
  | [], i, j, v, h => by simp [findA] at h
  | e :: es, i, j, v, h => by
    simp only [findA] at h
    split at h
    · rename_i hs; cases h; exact ⟨e, Nat.le_refl _, by simp, hs⟩
    · obtain ⟨e', h1, h2, h3⟩ := findA_lt h
      exact ⟨e', by omega, by rw [show j - i = (j - (i + 1)) + 1 by omega]; exact h2, h3⟩
    · cases h
theorem zeroV1_run {t : TypeId} {z : V1} (h : zeroV1 P t = some z) : ∃ z' : Value, (∀ w, (zeroValue t).run P w = .ok z' w) ∧ (∀ μ, z.conc μ = some z') := by
  simp only [zeroV1] at h
  cases hi : P.info? t with
  | none => simp [hi] at h
  | some i =>
    cases hz : i.zero with
    | none => simp [hi, hz] at h
    | some z' =>
      simp only [hi, hz, Option.bind_some] at h
      exact ⟨z', fun w => by simp [zeroValue, typeInfo, hi, hz], fun μ => ofV1_conc h⟩
theorem conc_map {b : Nat} {x : Value} (h : (Cell.map b).conc μ = some x) : ∃ l, μ b = some l ∧ x = .map (some l.blk) := by
  simp only [Cell.conc, Option.map_eq_some_iff] at h; obtain ⟨l, hl, rfl⟩ := h; exact ⟨l, hl, rfl⟩
theorem map_obj (h : Rel w0 μ s w) {b : Nat} {l : Loc} (hl : μ b = some l) {es : List (V1 × V1 × Nat)} {clock : Nat} (ho : s.get b = some (.map es clock)) : w0.heap.size ≤ l.blk ∧ ∃ es' : Array MapEntry, w.heap[l.blk]? = some (.map es' clock) ∧ concE μ es = some es'.toList := by
  obtain ⟨o, ho', hr⟩ := h.obj b l hl
  rw [ho] at ho'; cases ho'; exact hr
theorem lookup_some {t kt et : TypeId} {d : TypeDesc} {k' x' v' : Value} {es' : Array MapEntry} {ok : Bool} {j : Nat} (hu : P.underlying t = some (.map kt et)) (hd : P.underlying kt = some d) (hik : IsKey d k')
    (hx : (x' = .map none ∧ es' = #[]) ∨ ∃ r c, x' = .map (some r) ∧ w.heap[r]? = some (.map es' c)) (hf : Instr.findNow d k' es'.toList 0 = some (some (j, v'))) :
    (Instr.lookup t x' k' ok).run P w = .ok (if ok then .tuple #[v', .bool true] else v') w := by
  have hck : ∀ e, (Instr.checkKey e 10000 kt k').run P w = .ok () w := fun e => run_checkKey (P := P) (w := w) hd hik e 9999
  have hfk := run_findKey (P := P) (w := w) hd hf
  rcases hx with ⟨rfl, rfl⟩ | ⟨r, c, rfl, hr⟩
  · simp [Instr.findNow] at hf
  · simp [Instr.lookup, run_underlying hu, MapKept.run_getObj_map hr, hck, hfk]
theorem lookup_none {t kt et : TypeId} {d : TypeDesc} {k' x' z' : Value} {es' : Array MapEntry} {ok : Bool} (hu : P.underlying t = some (.map kt et)) (hd : P.underlying kt = some d) (hik : IsKey d k')
    (hx : (x' = .map none ∧ es' = #[]) ∨ ∃ r c, x' = .map (some r) ∧ w.heap[r]? = some (.map es' c)) (hf : Instr.findNow d k' es'.toList 0 = some none) (hz : (zeroValue et).run P w = .ok z' w) :
    (Instr.lookup t x' k' ok).run P w = .ok (if ok then .tuple #[z', .bool false] else z') w := by
  have hck : ∀ e, (Instr.checkKey e 10000 kt k').run P w = .ok () w := fun e => run_checkKey (P := P) (w := w) hd hik e 9999
  have hfk := run_findKey (P := P) (w := w) hd hf
  rcases hx with ⟨rfl, rfl⟩ | ⟨r, c, rfl, hr⟩
  · simp at hfk
    simp [Instr.lookup, run_underlying hu, hck, hfk, hz]
  · simp [Instr.lookup, run_underlying hu, MapKept.run_getObj_map hr, hck, hfk, hz]
theorem xLookup_sim (h : Rel w0 μ s w) {t : TypeId} {x : Cell} {x' : Value} (hx' : x.conc μ = some x') {k : V1} {k' : Value} (hk' : k.conc μ = some k') {ok : Bool} {v : V} {s' : St} (hx : xLookup P s t x k ok = some (v, s')) : VRes w0 μ v s' ((Instr.lookup t x' k' ok).run P w) := by
  unfold xLookup at hx
  split at hx
  · rename_i kt et hu
    split at hx
    · rename_i d hd
      split at hx
      · rename_i hki
        have hik := keyIs_isKey hki hk'
        split at hx
        · rename_i es hes
          have key : ∃ es' : Array MapEntry, concE μ es = some es'.toList ∧ ((x' = .map none ∧ es' = #[]) ∨ ∃ r c, x' = .map (some r) ∧ w.heap[r]? = some (.map es' c)) := by
            split at hes
            · cases hes
              simp only [Cell.conc, Option.some.injEq] at hx'; subst hx'
              exact ⟨#[], rfl, .inl ⟨rfl, rfl⟩⟩
            · rename_i b
              split at hes
              · rename_i es2 clock ho
                cases hes
                obtain ⟨l, hl, rfl⟩ := conc_map hx'
                obtain ⟨_, es', q1, q2⟩ := map_obj h hl ho
                exact ⟨es', q2, .inr ⟨_, _, rfl, q1⟩⟩
              · cases hes
            · cases hes
          obtain ⟨es', q1, q2⟩ := key
          split at hx
          · rename_i j v1 hf
            cases hx
            obtain ⟨r', p1, v', p2, rfl⟩ := find_sim hk' q1 hf
            refine ⟨μ, if ok then .tuple #[v', .bool true] else v', w, Sub.refl _, ?_, h, lookup_some hu hd hik q2 p1⟩
            cases ok
            · exact p2
            · simp only [if_true, V.conc, conc1s, p2]; rfl
          · rename_i hf
            split at hx
            · rename_i z hz
              cases hx
              obtain ⟨r', p1, rfl⟩ := find_sim hk' q1 hf
              obtain ⟨z', z1, z2⟩ := zeroV1_run hz
              refine ⟨μ, if ok then .tuple #[z', .bool false] else z', w, Sub.refl _, ?_, h, lookup_none hu hd hik q2 p1 (z1 w)⟩
              cases ok
              · exact z2 μ
              · simp only [if_true, V.conc, conc1s, z2]; rfl
            · cases hx
          · cases hx
        · cases hx
      · cases hx
    · cases hx
  · cases hx
end
end Go.Proofs.Ytdhnjkagmbfoaaa.AM
/- The abstract machine's operations, the last: maps, iterators, functions, pure ones; and each operation. -/
set_option linter.unusedSimpArgs false
set_option linter.unusedVariables false
namespace Go.Proofs.Ytdhnjkagmbfoaaa.AM
open Go Go.RowKit Go.MapKept
section
variable {P : Program} {w0 w : World} {μ : Map} {s : St}
theorem concE_length : ∀ {es : List (V1 × V1 × Nat)} {l : List MapEntry}, concE μ es = some l → l.length = es.length
  | [], l, h => by simp [concE] at h; subst h; rfl
  | e :: es, l, h => by
    obtain ⟨k, v, r, h1, h2, h3, rfl⟩ := concE_cons.1 h
    simp [concE_length h3]
theorem concE_append : ∀ {a b : List (V1 × V1 × Nat)} {va vb : List MapEntry}, concE μ a = some va → concE μ b = some vb → concE μ (a ++ b) = some (va ++ vb)
  | [], b, va, vb, h1, h2 => by simp [concE] at h1; subst h1; simpa using h2
  | e :: es, b, va, vb, h1, h2 => by
    obtain ⟨k, v, r, q1, q2, q3, rfl⟩ := concE_cons.1 h1
    exact concE_cons.2 ⟨k, v, _, q1, q2, concE_append q3 h2, rfl⟩
theorem concE_get : ∀ {es : List (V1 × V1 × Nat)} {l : List MapEntry}, concE μ es = some l → ∀ {j : Nat} {e : V1 × V1 × Nat}, es[j]? = some e → ∃ x, l[j]? = some x ∧ e.1.conc μ = some x.key ∧ e.2.1.conc μ = some x.val ∧ x.born = e.2.2
  | [], l, h, j, e, he => by simp at he
  | p :: ps, l, h, j, e, he => by
    obtain ⟨k, v, r, q1, q2, q3, rfl⟩ := concE_cons.1 h
    cases j with
    | zero => simp at he; subst he; exact ⟨_, rfl, q1, q2, rfl⟩
    | succ j => simp at he; obtain ⟨x, p1, p2⟩ := concE_get q3 he; exact ⟨x, by simpa using p1, p2⟩
theorem concE_modify (f : V1 × V1 × Nat → V1 × V1 × Nat) (g : MapEntry → MapEntry) (hfg : ∀ e x, e.1.conc μ = some x.key → e.2.1.conc μ = some x.val → x.born = e.2.2 → (f e).1.conc μ = some (g x).key ∧ (f e).2.1.conc μ = some (g x).val ∧ (g x).born = (f e).2.2) :
    ∀ {es : List (V1 × V1 × Nat)} {l : List MapEntry} (j : Nat), concE μ es = some l → concE μ (es.modify j f) = some (l.modify j g)
  | [], l, j, h => by simp [concE] at h; subst h; cases j <;> simp [concE]
  | e :: es, l, 0, h => by
    obtain ⟨k, v, r, q1, q2, q3, rfl⟩ := concE_cons.1 h
    obtain ⟨p1, p2, p3⟩ := hfg e { key := k, val := v, born := e.2.2 } q1 q2 rfl
    simp only [List.modify_zero_cons]
    exact concE_cons.2 ⟨_, _, r, p1, p2, q3, by rw [← p3]⟩
  | e :: es, l, j + 1, h => by
    obtain ⟨k, v, r, q1, q2, q3, rfl⟩ := concE_cons.1 h
    simp only [List.modify_succ_cons]
    exact concE_cons.2 ⟨k, v, _, q1, q2, concE_modify f g hfg j q3, rfl⟩
theorem concE_erase : ∀ {es : List (V1 × V1 × Nat)} {l : List MapEntry} (j : Nat), concE μ es = some l → concE μ (es.eraseIdx j) = some (l.eraseIdx j)
  | [], l, j, h => by simp [concE] at h; subst h; simp [concE]
  | e :: es, l, 0, h => by
    obtain ⟨k, v, r, q1, q2, q3, rfl⟩ := concE_cons.1 h
    simpa using q3
  | e :: es, l, j + 1, h => by
    obtain ⟨k, v, r, q1, q2, q3, rfl⟩ := concE_cons.1 h
    simp only [List.eraseIdx_cons_succ]
    exact concE_cons.2 ⟨k, v, _, q1, q2, concE_erase j q3, rfl⟩
theorem map_ne (es : List (V1 × V1 × Nat)) (clock : Nat) : ∀ c t e f v, (Obj.map es clock) ≠ .blk c t e f v := by intro c t e f v h; cases h
theorem setMap (h : Rel w0 μ s w) {b : Nat} {l : Loc} (hl : μ b = some l) {es es2 : List (V1 × V1 × Nat)} {clock clock2 : Nat} (ho : s.get b = some (.map es clock)) {es' es2' : Array MapEntry} (h0 : w0.heap.size ≤ l.blk) (hw : w.heap[l.blk]? = some (.map es' clock)) (he : concE μ es2 = some es2'.toList) :
    Rel w0 μ (s.setObj b (.map es2 clock2)) { w with heap := w.heap.setIfInBounds l.blk (.map es2' clock2) } :=
  h.setO hl ho (map_ne _ _) h0 _ ⟨h0, es2', (heap_set hw).1, he⟩
theorem sameKey_eq {d : TypeDesc} {a b : V1} (h : sameKey d a b = some true) : a = b := by
  unfold sameKey at h
  split at h
  · split at h
    · rename_i e; subst e; simp only [Option.some.injEq, beq_iff_eq] at h; subst h; rfl
    · cases h
  · simp only [Option.some.injEq] at h; rw [bytes_beq] at h; subst h; rfl
  · simp only [Option.some.injEq, beq_iff_eq] at h; subst h; rfl
  · cases h
theorem xMapUpdate_sim (h : Rel w0 μ s w) {t : TypeId} {b : Nat} {m' : Value} (hm : (Cell.map b).conc μ = some m') {k x : V1} {k' x' : Value} (hk' : k.conc μ = some k') (hx' : x.conc μ = some x') {v : V} {s' : St} (hx : xMapUpdate P s t b k x = some (v, s')) :
    v = undefV ∧ ∃ w', Rel w0 μ s' w' ∧ (Instr.mapUpdate t m' k' x').run P w = .ok () w' := by
  obtain ⟨l, hl, rfl⟩ := conc_map hm
  unfold xMapUpdate at hx
  split at hx
  · rename_i kt et hu
    split at hx
    · rename_i d hd
      split at hx
      · rename_i hki
        have hik := keyIs_isKey hki hk'
        split at hx
        · rename_i es clock ho
          obtain ⟨h0, es', q1, q2⟩ := map_obj h hl ho
          have hck : ∀ e, (Instr.checkKey e 10000 kt k').run P w = .ok () w := fun e => run_checkKey (P := P) (w := w) hd hik e 9999
          split at hx
          · rename_i j v1 hf
            cases hx
            obtain ⟨r', p1, v', p2, rfl⟩ := find_sim hk' q2 hf
            obtain ⟨e, _, he1, he2⟩ := findA_lt hf
            simp only [Nat.sub_zero] at he1
            obtain ⟨y, y1, y2, y3, y4⟩ := concE_get q2 he1
            have hke := sameKey_eq he2
            rw [← hke, hk'] at y2
            cases y2
            have hfk := run_findKey (P := P) (w := w) hd p1
            have hR := setMap h hl ho (clock2 := clock) (es2' := es'.modify j fun e => { e with key := y.key, val := x' }) h0 q1 (by
              rw [Array.toList_modify]
              exact concE_modify (fun e => (k, x, e.2.2)) (fun e => { e with key := y.key, val := x' }) (fun e z _ _ z3 => ⟨hk', hx', z3⟩) j q2)
            have hks := run_keyThatStays (P := P) (w := w) hik
            refine ⟨rfl, _, hR, ?_⟩
            have hj : es'[j]? = some y := by rw [← Array.getElem?_toList]; exact y1
            simp [Instr.mapUpdate, run_underlying hu, MapKept.run_getObj_map q1, hck, hfk, hj, hks, MapKept.run_setObj_map _ q1]
          · rename_i hf
            cases hx
            obtain ⟨r', p1, rfl⟩ := find_sim hk' q2 hf
            have hfk := run_findKey (P := P) (w := w) hd p1
            have hR := setMap h hl ho (clock2 := clock + 1) (es2' := es'.push { key := k', val := x', born := clock }) h0 q1 (by
              rw [Array.toList_push]
              exact concE_append q2 ((concE_cons (e := (k, x, clock)) (es := [])).2 ⟨k', x', [], hk', hx', rfl, rfl⟩))
            refine ⟨rfl, _, hR, ?_⟩
            simp [Instr.mapUpdate, run_underlying hu, MapKept.run_getObj_map q1, hck, hfk, MapKept.run_setObj_map _ q1]
          · cases hx
        · cases hx
      · cases hx
    · cases hx
  · cases hx
theorem heap_same {w : World} {g : Nat} {o : Go.Obj} (h : w.heap[g]? = some o) : ({ w with heap := w.heap.setIfInBounds g o } : World) = w := by
  have : w.heap.setIfInBounds g o = w.heap := by
    apply Array.ext_getElem?
    intro i
    by_cases e : i = g
    · subst e
      rw [h]
      exact (heap_set h).1
    · simp [Ne.symm e]
  rw [this]
theorem xDelete_sim (h : Rel w0 μ s w) {ats : Array TypeId} {t ty : TypeId} {ts : List TypeId} (hats : ats.toList = t :: ts) {b : Nat} {m' : Value} (hm : (Cell.map b).conc μ = some m') {k : V1} {k' : Value} (hk' : k.conc μ = some k') {v : V} {s' : St} (hx : xDelete P s t b k = some (v, s')) :
    VRes w0 μ v s' ((Builtin.delete_ ats ty #[m', k']).run P w) := by
  have h0t : ats[0]? = some t := by rw [← Array.getElem?_toList, hats]; rfl
  obtain ⟨l, hl, rfl⟩ := conc_map hm
  unfold xDelete at hx
  split at hx
  · rename_i kt et hu
    split at hx
    · rename_i d hd
      split at hx
      · rename_i hki
        have hik := keyIs_isKey hki hk'
        split at hx
        · rename_i es clock ho
          obtain ⟨h0, es', q1, q2⟩ := map_obj h hl ho
          have hck : ∀ e, (Instr.checkKey e 10000 kt k').run P w = .ok () w := fun e => run_checkKey (P := P) (w := w) hd hik e 9999
          split at hx
          · rename_i j v1 hf
            cases hx
            obtain ⟨r', p1, v', p2, rfl⟩ := find_sim hk' q2 hf
            have hfk := run_findKey (P := P) (w := w) hd p1
            have hR := setMap h hl ho (clock2 := clock) (es2' := es'.eraseIdxIfInBounds j) h0 q1 (by
              rw [Array.toList_eraseIdxIfInBounds]
              exact concE_erase j q2)
            refine ⟨μ, .tuple #[], _, Sub.refl _, rfl, hR, ?_⟩
            simp [Builtin.delete_, h0t, run_underlying hu, MapKept.run_getObj_map q1, hck, hfk, MapKept.run_setObj_map _ q1]
          · rename_i hf
            cases hx
            obtain ⟨r', p1, rfl⟩ := find_sim hk' q2 hf
            have hfk := run_findKey (P := P) (w := w) hd p1
            refine ⟨μ, .tuple #[], w, Sub.refl _, rfl, h, ?_⟩
            simp [Builtin.delete_, h0t, run_underlying hu, MapKept.run_getObj_map q1, hck, hfk, MapKept.run_setObj_map _ q1, heap_same q1]
          · cases hx
        · cases hx
      · cases hx
    · cases hx
  · cases hx
theorem xLen_sim (h : Rel w0 μ s w) {ats : Array TypeId} {t ty : TypeId} {ts : List TypeId} (hats : ats.toList = t :: ts) {x : V1} {x' : Value} (hx' : x.conc μ = some x') {v : V} {s' : St} (hx : xLen P s t x = some (v, s')) :
    VRes w0 μ v s' ((Builtin.len_ ats ty #[x']).run P w) := by
  have h0t : ats[0]? = some t := by rw [← Array.getElem?_toList, hats]; rfl
  unfold xLen at hx
  split at hx
  · rename_i b hu
    cases hx
    simp only [V1.conc, Cell.conc, Option.some.injEq] at hx'; subst hx'
    exact ⟨μ, _, w, Sub.refl _, rfl, h, by simp [Builtin.len_, h0t, run_underlying hu, goInt]⟩
  · rename_i n e x hu
    cases hx
    exact ⟨μ, _, w, Sub.refl _, rfl, h, by simp [Builtin.len_, h0t, run_underlying hu, goInt]⟩
  · rename_i a x hu
    split at hx
    · rename_i n e ha
      cases hx
      exact ⟨μ, _, w, Sub.refl _, rfl, h, by simp [Builtin.len_, h0t, run_underlying hu, run_underlying ha, goInt]⟩
    · cases hx
  · rename_i e hu
    cases hx
    simp only [V1.conc, Cell.conc, Option.some.injEq] at hx'; subst hx'
    exact ⟨μ, _, w, Sub.refl _, rfl, h, by simp [Builtin.len_, h0t, run_underlying hu, goInt]⟩
  · rename_i e a c hu
    cases hx
    simp only [V1.conc, Cell.conc, Option.some.injEq] at hx'; subst hx'
    exact ⟨μ, _, w, Sub.refl _, rfl, h, by simp [Builtin.len_, h0t, run_underlying hu, goInt]⟩
  · rename_i e b o0 o d hu
    cases hx
    have hx2 : (Cell.slh b o0 o d).conc μ = some x' := hx'
    simp only [Cell.conc, Option.map_eq_some_iff] at hx2
    obtain ⟨l, hl, rfl⟩ := hx2
    exact ⟨μ, _, w, Sub.refl _, rfl, h, by simp [Builtin.len_, h0t, run_underlying hu, goInt]⟩
  · rename_i e b off n cap hu
    cases hx
    obtain ⟨l, hl, rfl⟩ := conc_sl (show (Cell.sl b off n cap).conc μ = some x' from hx')
    exact ⟨μ, _, w, Sub.refl _, rfl, h, by simp [Builtin.len_, h0t, run_underlying hu, goInt]⟩
  · rename_i k e hu
    cases hx
    simp only [V1.conc, Cell.conc, Option.some.injEq] at hx'; subst hx'
    exact ⟨μ, _, w, Sub.refl _, rfl, h, by simp [Builtin.len_, h0t, run_underlying hu, goInt]⟩
  · rename_i k e b hu
    split at hx
    · rename_i es clock ho
      cases hx
      obtain ⟨l, hl, rfl⟩ := conc_map (show (Cell.map b).conc μ = some x' from hx')
      obtain ⟨h0, es', q1, q2⟩ := map_obj h hl ho
      have hlen := concE_length q2
      rw [Array.length_toList] at hlen
      exact ⟨μ, _, w, Sub.refl _, rfl, h, by simp [Builtin.len_, h0t, run_underlying hu, MapKept.run_getObj_map q1, goInt, hlen]⟩
    · cases hx
  · cases hx
theorem xCap_sim (h : Rel w0 μ s w) {ats : Array TypeId} {t ty : TypeId} {ts : List TypeId} (hats : ats.toList = t :: ts) {x : Cell} {x' : Value} (hx' : x.conc μ = some x') {v : V} {s' : St} (hx : xCap P s t x = some (v, s')) :
    VRes w0 μ v s' ((Builtin.cap_ ats ty #[x']).run P w) := by
  have h0t : ats[0]? = some t := by rw [← Array.getElem?_toList, hats]; rfl
  unfold xCap at hx
  split at hx
  · rename_i e hu
    cases hx
    simp only [Cell.conc, Option.some.injEq] at hx'; subst hx'
    exact ⟨μ, _, w, Sub.refl _, rfl, h, by simp [Builtin.cap_, h0t, run_underlying hu, goInt]⟩
  · rename_i e b off n c hu
    cases hx
    obtain ⟨l, hl, rfl⟩ := conc_sl hx'
    exact ⟨μ, _, w, Sub.refl _, rfl, h, by simp [Builtin.cap_, h0t, run_underlying hu, goInt, capAt]⟩
  · cases hx
theorem xClear_sim (h : Rel w0 μ s w) {ats : Array TypeId} {t ty : TypeId} {ts : List TypeId} (hats : ats.toList = t :: ts) {x : Cell} {x' : Value} (hx' : x.conc μ = some x') {v : V} {s' : St} (hx : xClear P s t x = some (v, s')) :
    VRes w0 μ v s' ((Builtin.clear_ ats ty #[x']).run P w) := by
  have h0t : ats[0]? = some t := by rw [← Array.getElem?_toList, hats]; rfl
  unfold xClear at hx
  split at hx
  · rename_i e he
    have hu := elemT_spec he
    split at hx
    · rename_i n z hn hz
      split at hx
      · rename_i hc
        obtain ⟨zv, hz1, hz2⟩ := zeroT_run hz
        have hzl := concs_length (hz2 μ)
        rw [Array.length_toList] at hzl
        split at hx
        · cases hx
          simp only [Cell.conc, Option.some.injEq] at hx'; subst hx'
          exact ⟨μ, .tuple #[], w, Sub.refl _, rfl, h, by simp [Builtin.clear_, h0t, run_underlying hu]⟩
        · rename_i b off len cap
          obtain ⟨l, hl, rfl⟩ := conc_sl hx'
          split at hx
          · rename_i h0
            subst h0
            cases hx
            exact ⟨μ, .tuple #[], w, Sub.refl _, rfl, h, by simp [Builtin.clear_, h0t, run_underlying hu]⟩
          · rename_i h0
            simp only [Option.map_eq_some_iff, Prod.mk.injEq] at hx
            obtain ⟨s1, hw, rfl, rfl⟩ := hx
            have hrep := repeatC_conc (hz2 μ) (by omega) len
            obtain ⟨w', r1, r2⟩ := storeCells_sim (P := P) h hl hrep hw
            have hzc : (Builtin.zeroCells zv.cells len).toList = (List.range (len * zv.cells.size)).map fun i => zv.cells[i % zv.cells.size]! := by simp [Builtin.zeroCells]
            obtain ⟨len, rfl⟩ : ∃ k, len = k + 1 := ⟨len - 1, by omega⟩
            refine ⟨μ, .tuple #[], w', Sub.refl _, rfl, r2, ?_⟩
            simp only [Builtin.clear_, h0t, Sem.run_bind]
            simp [run_underlying hu, hz1, hzc, r1]
        · cases hx
      · cases hx
    · cases hx
  · cases hx
theorem xRange_sim (h : Rel w0 μ s w) {t : TypeId} {x : Cell} {x' : Value} (hx' : x.conc μ = some x') {v : V} {s' : St} (hx : xRange P s t x = some (v, s')) : VRes w0 μ v s' ((Instr.range t x').run P w) := by
  unfold xRange at hx
  split at hx
  · rename_i b hu
    cases hx
    simp only [Cell.conc, Option.some.injEq] at hx'; subst hx'
    refine ⟨_, .pointer (some ⟨w.heap.size, 0, none⟩), _, sub_upd ⟨w.heap.size, 0, 0⟩ h.fresh, by simp [ptrV, V.conc, V1.conc, Cell.conc, upd_self], h.pushed (.iter b 0) ⟨w.heap.size, 0, 0⟩ (below_alloc' w (.stringIter b 0)) (Nat.le_refl _) ⟨⟨h.size, rfl⟩, heap_push_new w _⟩, ?_⟩
    simp [Instr.range, run_underlying hu]
  · cases hx
theorem xNext_sim (h : Rel w0 μ s w) {ty : TypeId} {b off : Nat} {x' : Value} (hx' : (Cell.ptr b off).conc μ = some x') {v : V} {s' : St} (hx : xNext s b off = some (v, s')) : VRes w0 μ v s' ((Instr.next x' true ty).run P w) := by
  obtain ⟨l, hl, rfl⟩ := conc_ptr hx'
  unfold xNext at hx
  split at hx
  · rename_i t pos ho
    obtain ⟨o, ho', hr⟩ := h.obj b l hl
    rw [ho] at ho'; cases ho'
    obtain ⟨⟨h0, hsh⟩, hw⟩ := hr
    rw [hsh]
    split at hx
    · rename_i hlt
      cases hx
      refine ⟨μ, _, _, Sub.refl _, ?_, h.setO hl ho (by intro c t e f v q; cases q) h0 (.stringIter t (pos + (Utf8.decode t pos).2)) ⟨⟨h0, hsh⟩, (heap_set hw).1⟩, Lib.run_next_any_at w l.blk t pos ty hw hlt⟩
      simp [V.conc, conc1s, V1.conc, Cell.conc]
    · rename_i hlt
      cases hx
      exact ⟨μ, _, w, Sub.refl _, rfl, h, Lib.run_next_end_at w l.blk t pos ty hw hlt⟩
  · cases hx
theorem conc1s_get {vs : List V1} {l : List Value} : conc1s μ vs = some l → ∀ {i : Nat} {v : V1}, vs[i]? = some v → ∃ x, l[i]? = some x ∧ v.conc μ = some x := by
  induction vs generalizing l with
  | nil => intro _ i v h; simp at h
  | cons p ps ih =>
    intro h i v hi
    obtain ⟨y, ws, h1, h2, rfl⟩ := conc1s_cons.1 h
    cases i with
    | zero => simp at hi; subst hi; exact ⟨y, rfl, h1⟩
    | succ i => simp at hi; obtain ⟨x, q1, q2⟩ := ih h2 hi; exact ⟨x, by simpa using q1, q2⟩
theorem eqIn_ptr {t e : TypeId} (hu : P.underlying t = some (.pointer e)) (p q : Option Addr) (hpq : p = none ∨ q = none) (d : Nat) (w : World) : (Op.equalIn (d + 1) t (.pointer p) (.pointer q)).run P w = .ok (p.isNone && q.isNone) w := by
  unfold Op.equalIn
  simp only [Sem.run_bind, run_underlying hu, Result.andThen_ok]
  rcases hpq with rfl | rfl
  · rfl
  · cases p <;> rfl
theorem eqIn_slice {t e : TypeId} (hu : P.underlying t = some (.slice e)) (p q : Option Addr) (hpq : p = none ∨ q = none) (l c l' c' : Nat) (d : Nat) (w : World) : (Op.equalIn (d + 1) t (.slice p l c) (.slice q l' c')).run P w = .ok (p.isNone && q.isNone) w := by
  unfold Op.equalIn
  simp only [Sem.run_bind, run_underlying hu, Result.andThen_ok]
  rcases hpq with rfl | rfl
  · rfl
  · cases p <;> rfl
theorem eqIn_map {t k e : TypeId} (hu : P.underlying t = some (.map k e)) (p q : Option Nat) (hpq : p = none ∨ q = none) (d : Nat) (w : World) : (Op.equalIn (d + 1) t (.map p) (.map q)).run P w = .ok (p.isNone && q.isNone) w := by
  unfold Op.equalIn
  simp only [Sem.run_bind, run_underlying hu, Result.andThen_ok]
  rcases hpq with rfl | rfl
  · rfl
  · cases p <;> rfl
theorem eqIn_func {t : TypeId} {a b : Array TypeId} {c : Bool} (hu : P.underlying t = some (.func a b c)) (f : Fn) (f1 f2 : Array Value) (d : Nat) (w : World) :
    (Op.equalIn (d + 1) t .nilFunc .nilFunc).run P w = .ok true w ∧ (Op.equalIn (d + 1) t .nilFunc (.func f f1 f2)).run P w = .ok false w ∧ (Op.equalIn (d + 1) t (.func f f1 f2) .nilFunc).run P w = .ok false w := by
  unfold Op.equalIn
  simp only [Sem.run_bind, run_underlying hu, Result.andThen_ok]
  exact ⟨rfl, rfl, rfl⟩
/-- From the comparison to the operations. -/
theorem eq_of {t : TypeId} {a b : Value} {r : Bool} (hab : (∃ p q, a = .pointer p ∧ b = .pointer q) ∨ (∃ p l c q l' c', a = .slice p l c ∧ b = .slice q l' c') ∨ (∃ p q, a = .map p ∧ b = .map q) ∨ (a = .nilFunc ∧ b = .nilFunc) ∨ (∃ f x y, a = .nilFunc ∧ b = .func f x y) ∨ (∃ f x y, a = .func f x y ∧ b = .nilFunc))
    (h : ∀ w, (Op.equalIn (9999 + 1) t a b).run P w = .ok r w) (x y : Operand) (w : World) :
    ((do eqGuard .eql t x y a b; binOp .eql t a b : Sem Value).run P w = .ok (.bool r) w) ∧ ((do eqGuard .neq t x y a b; binOp .neq t a b : Sem Value).run P w = .ok (.bool !r) w) := by
  have h' : ∀ w, (Op.equal t a b).run P w = .ok r w := h
  generalize hE : Op.equal t a b = E at h'
  rcases hab with ⟨p, q, rfl, rfl⟩ | ⟨p, l, c, q, l', c', rfl, rfl⟩ | ⟨p, q, rfl, rfl⟩ | ⟨rfl, rfl⟩ | ⟨f, u, v, rfl, rfl⟩ | ⟨f, u, v, rfl, rfl⟩ <;>
    (constructor <;> simp [eqGuard, binOp, hE, h'])
theorem nil_eq_sim {t : TypeId} {a b : Cell} {a' b' : Value} (ha : a.conc μ = some a') (hb : b.conc μ = some b') {r : Bool} (hr : nilEq a b = some r) (hk : nilKind P t a b = true) (x y : Operand) (w : World) :
    ((do eqGuard .eql t x y a' b'; binOp .eql t a' b' : Sem Value).run P w = .ok (.bool r) w) ∧ ((do eqGuard .neq t x y a' b'; binOp .neq t a' b' : Sem Value).run P w = .ok (.bool !r) w) := by
  unfold nilEq at hr
  split at hr <;> (try cases hr) <;> simp only [nilKind] at hk <;> split at hk <;> (try cases hk)
  · rename_i e hu; simp only [Cell.conc, Option.some.injEq] at ha hb; subst ha; subst hb; exact eq_of (.inl ⟨_, _, rfl, rfl⟩) (eqIn_ptr hu none none (.inl rfl) _) x y w
  · rename_i e hu; obtain ⟨l, _, rfl⟩ := conc_ptr hb; simp only [Cell.conc, Option.some.injEq] at ha; subst ha; exact eq_of (.inl ⟨_, _, rfl, rfl⟩) (eqIn_ptr hu none (some _) (.inl rfl) _) x y w
  · rename_i e hu; obtain ⟨l, _, rfl⟩ := conc_ptr ha; simp only [Cell.conc, Option.some.injEq] at hb; subst hb; exact eq_of (.inl ⟨_, _, rfl, rfl⟩) (eqIn_ptr hu (some _) none (.inr rfl) _) x y w
  · rename_i e hu; simp only [Cell.conc, Option.some.injEq] at ha hb; subst ha; subst hb; exact eq_of (.inr (.inl ⟨_, _, _, _, _, _, rfl, rfl⟩)) (eqIn_slice hu none none (.inl rfl) 0 0 0 0 _) x y w
  · rename_i e hu; obtain ⟨l, _, rfl⟩ := conc_sl hb; simp only [Cell.conc, Option.some.injEq] at ha; subst ha; exact eq_of (.inr (.inl ⟨_, _, _, _, _, _, rfl, rfl⟩)) (eqIn_slice hu none (some _) (.inl rfl) 0 0 _ _ _) x y w
  · rename_i e hu; obtain ⟨l, _, rfl⟩ := conc_sl ha; simp only [Cell.conc, Option.some.injEq] at hb; subst hb; exact eq_of (.inr (.inl ⟨_, _, _, _, _, _, rfl, rfl⟩)) (eqIn_slice hu (some _) none (.inr rfl) _ _ 0 0 _) x y w
  · rename_i e hu; simp only [Cell.conc, Option.some.injEq] at ha hb; subst ha; subst hb; exact eq_of (.inr (.inl ⟨_, _, _, _, _, _, rfl, rfl⟩)) (eqIn_slice hu none (some _) (.inl rfl) 0 0 _ _ _) x y w
  · rename_i e hu; simp only [Cell.conc, Option.some.injEq] at ha hb; subst ha; subst hb; exact eq_of (.inr (.inl ⟨_, _, _, _, _, _, rfl, rfl⟩)) (eqIn_slice hu (some _) none (.inr rfl) _ _ 0 0 _) x y w
  · rename_i e hu; simp only [Cell.conc, Option.map_eq_some_iff] at hb; obtain ⟨l, _, rfl⟩ := hb; simp only [Cell.conc, Option.some.injEq] at ha; subst ha; exact eq_of (.inr (.inl ⟨_, _, _, _, _, _, rfl, rfl⟩)) (eqIn_slice hu none (some _) (.inl rfl) 0 0 _ _ _) x y w
  · rename_i e hu; simp only [Cell.conc, Option.map_eq_some_iff] at ha; obtain ⟨l, _, rfl⟩ := ha; simp only [Cell.conc, Option.some.injEq] at hb; subst hb; exact eq_of (.inr (.inl ⟨_, _, _, _, _, _, rfl, rfl⟩)) (eqIn_slice hu (some _) none (.inr rfl) _ _ 0 0 _) x y w
  · rename_i k e hu; simp only [Cell.conc, Option.some.injEq] at ha hb; subst ha; subst hb; exact eq_of (.inr (.inr (.inl ⟨_, _, rfl, rfl⟩))) (eqIn_map hu none none (.inl rfl) _) x y w
  · rename_i k e hu; obtain ⟨l, _, rfl⟩ := conc_map hb; simp only [Cell.conc, Option.some.injEq] at ha; subst ha; exact eq_of (.inr (.inr (.inl ⟨_, _, rfl, rfl⟩))) (eqIn_map hu none (some _) (.inl rfl) _) x y w
  · rename_i k e hu; obtain ⟨l, _, rfl⟩ := conc_map ha; simp only [Cell.conc, Option.some.injEq] at hb; subst hb; exact eq_of (.inr (.inr (.inl ⟨_, _, rfl, rfl⟩))) (eqIn_map hu (some _) none (.inr rfl) _) x y w
  · rename_i p1 p2 p3 hu; simp only [Cell.conc, Option.some.injEq] at ha hb; subst ha; subst hb; exact eq_of (.inr (.inr (.inr (.inl ⟨rfl, rfl⟩)))) (fun w => (eqIn_func hu default #[] #[] _ w).1) x y w
  · rename_i p1 p2 p3 hu; simp only [Cell.conc, Option.map_eq_some_iff] at hb; obtain ⟨l, _, rfl⟩ := hb; simp only [Cell.conc, Option.some.injEq] at ha; subst ha; exact eq_of (.inr (.inr (.inr (.inr (.inl ⟨_, _, _, rfl, rfl⟩))))) (fun w => (eqIn_func hu _ _ _ _ w).2.1) x y w
  · rename_i p1 p2 p3 hu; simp only [Cell.conc, Option.map_eq_some_iff] at ha; obtain ⟨l, _, rfl⟩ := ha; simp only [Cell.conc, Option.some.injEq] at hb; subst hb; exact eq_of (.inr (.inr (.inr (.inr (.inr ⟨_, _, _, rfl, rfl⟩))))) (fun w => (eqIn_func hu _ _ _ _ w).2.2) x y w
end
end Go.Proofs.Ytdhnjkagmbfoaaa.AM
/- The abstract machine's operations: each does what the model's does. -/
set_option linter.unusedSimpArgs false
set_option linter.unusedVariables false
namespace Go.Proofs.Ytdhnjkagmbfoaaa.AM
open Go Go.RowKit Go.MapKept
section
variable {P : Program} {w0 w : World} {μ : Map} {s : St}
def concVs (μ : Map) : List V → Option (List Value)
  | [] => some []
  | v :: vs => match v.conc μ, concVs μ vs with
    | some x, some xs => some (x :: xs)
    | _, _ => none
theorem concVs_cons {v : V} {vs : List V} {l : List Value} : concVs μ (v :: vs) = some l ↔ ∃ x xs, v.conc μ = some x ∧ concVs μ vs = some xs ∧ l = x :: xs := by
  simp only [concVs]
  cases v.conc μ <;> cases concVs μ vs <;> simp [eq_comm]
theorem concVs_append : ∀ {a b : List V} {va vb : List Value}, concVs μ a = some va → concVs μ b = some vb → concVs μ (a ++ b) = some (va ++ vb)
  | [], b, va, vb, h1, h2 => by simp [concVs] at h1; subst h1; simpa using h2
  | e :: es, b, va, vb, h1, h2 => by
    obtain ⟨k, r, q1, q2, rfl⟩ := concVs_cons.1 h1
    exact concVs_cons.2 ⟨k, _, q1, concVs_append q2 h2, rfl⟩
/-- A function that runs elsewhere does what the model's does. -/
def CallOK (P : Program) (w0 : World) (callF : CallF) : Prop :=
  ∀ f args s v s', callF f args s = some (v, s') → (∃ fn, P.funcs[f]? = some fn ∧ fn.body.isSome = true) ∧
    ∀ μ w vals, Rel w0 μ s w → concVs μ args = some vals → Calls P f vals.toArray w fun e w' => ∃ μ' v', Sub μ μ' ∧ v.conc μ' = some v' ∧ e = .returned v' ∧ Rel w0 μ' s' w'
/-- What is told of functions holds. -/
def SpecOK (P : Program) (X : Spec) : Prop :=
  ∀ f vals r, X f vals = some r → ((∃ fn, P.funcs[f]? = some fn ∧ fn.body.isSome = true) ∧ ∀ w, Calls P f vals.toArray w fun e w' => e = .returned r ∧ Below w.heap.size w w') ∨
    ∀ w, (callFunc f vals.toArray).run P w = .ok (.value r) w
/-- What is told of functions holds in each world behind one. -/
def SpecAt (P : Program) (X : Spec) (w0 : World) : Prop :=
  ∀ f vals r, X f vals = some r → ((∃ fn, P.funcs[f]? = some fn ∧ fn.body.isSome = true) ∧ ∀ w, Below w0.heap.size w0 w → Calls P f vals.toArray w fun e w' => e = .returned r ∧ Below w.heap.size w w') ∨
    ∀ w, (callFunc f vals.toArray).run P w = .ok (.value r) w
theorem SpecOK.at_ {P : Program} {X : Spec} (h : SpecOK P X) (w0 : World) : SpecAt P X w0 := fun f vals r hr => (h f vals r hr).imp (fun q => ⟨q.1, fun w _ => q.2 w⟩) id
def PlainNames (P : Program) : Prop := ∀ (f : Nat) (fn : Func), P.funcs[f]? = some fn → fn.body.isSome = true → (fn.name == "runtime.NumGoroutine") = false
theorem pureOp_sim (h : Rel w0 μ s w) {fr : Fr} {a : Act} (hf : FrRel μ fr a.tmps) {o : Oper} (hsel : ∀ cs b, o.op ≠ .select cs b) {v : V} {s' : St} (hx : pureOp P fr s o = some (v, s')) : OpRes P w0 μ v s' ((execOp a.eval o).run P w) := by
  unfold pureOp at hx
  split at hx
  · rename_i hall
    split at hx
    · rename_i u hu
      simp only [Option.map_eq_some_iff, Prod.mk.injEq] at hx
      obtain ⟨r, hr, rfl, rfl⟩ := hx
      have heq : execOp (fun x => (scalarOf fr x).getD undef) o = execOp a.eval o := by
        refine execOp_congr o hsel fun x hxm => ?_
        rw [List.all_eq_true] at hall
        have := hall x (by simpa using hxm)
        obtain ⟨y, hy⟩ := Option.isSome_iff_exists.1 this
        rw [hy, Option.getD_some]
        unfold scalarOf at hy
        obtain ⟨c, hc, hcy⟩ := Option.bind_eq_some_iff.1 hy
        have h1 := evalO_conc hf hc
        have h2 := V.conc_mono (sub_nowhere μ) hcy
        rw [h1] at h2
        exact (Option.some.inj h2).symm
      rw [heq] at hu
      exact .inl ⟨μ, u, w, Sub.refl _, ofV_conc hr, h, .inl (pure?_run hu w)⟩
    · cases hx
  · cases hx
theorem argsOf_conc {fr : Fr} {a : Act} (hf : FrRel μ fr a.tmps) : ∀ {l : List Operand} {vs}, argsOf fr l = some vs → concVs μ vs = some (l.map a.eval)
  | [], vs, e => by simp [argsOf] at e; subst e; rfl
  | x :: l, vs, e => by
    simp only [argsOf] at e
    cases h1 : evalO fr x with
    | none => simp [h1] at e
    | some v =>
      cases h2 : argsOf fr l with
      | none => simp [h1, h2] at e
      | some qs => simp only [h1, h2, Option.some.injEq] at e; subst e; exact concVs_cons.2 ⟨_, _, evalO_conc hf h1, argsOf_conc hf h2, rfl⟩
theorem scalars_conc : ∀ {vs : List V} {l : List Value}, scalars vs = some l → ∀ μ, concVs μ vs = some l
  | [], l, e, μ => by simp [scalars] at e; subst e; rfl
  | v :: vs, l, e, μ => by
    simp only [scalars] at e
    cases h1 : v.conc nowhere with
    | none => simp [h1] at e
    | some x =>
      cases h2 : scalars vs with
      | none => simp [h1, h2] at e
      | some qs => simp only [h1, h2, Option.some.injEq] at e; subst e; exact concVs_cons.2 ⟨_, _, V.conc_mono (sub_nowhere μ) h1, scalars_conc h2 μ, rfl⟩
theorem caps_conc : ∀ {ps : List (Nat × Nat)} {l : List Value}, concPtrs μ ps = some l → concVs μ (ps.map fun p => ptrV p.1 p.2) = some l
  | [], l, e => by simp [concPtrs] at e; subst e; rfl
  | p :: ps, l, e => by
    simp only [concPtrs] at e
    cases h1 : μ p.1 with
    | none => simp [h1] at e
    | some x =>
      cases h2 : concPtrs μ ps with
      | none => simp [h1, h2] at e
      | some qs => simp only [h1, h2, Option.some.injEq] at e; subst e; exact concVs_cons.2 ⟨_, _, by simp [ptrV, V.conc, V1.conc, Cell.conc, h1], caps_conc h2, rfl⟩
theorem capPtrs_conc {fr : Fr} {a : Act} (hf : FrRel μ fr a.tmps) : ∀ {l : List Operand} {ps}, capPtrs (l.map (evalC fr)) = some ps → concPtrs μ ps = some (l.map a.eval)
  | [], ps, e => by simp [capPtrs] at e; subst e; rfl
  | x :: l, ps, e => by
    simp only [List.map_cons] at e
    cases hq : evalC fr x with
    | none => simp [hq, capPtrs] at e
    | some c =>
      rw [hq] at e
      cases c <;> simp only [capPtrs, Option.map_eq_some_iff, reduceCtorEq] at e
      rename_i b off
      obtain ⟨ps', h1, rfl⟩ := e
      obtain ⟨L, hL, hv⟩ := conc_ptr (evalC_conc hf hq)
      simp only [concPtrs, hL, capPtrs_conc hf h1, List.map_cons, hv]
theorem callFunc_run (hN : PlainNames P) {f : Nat} {fn : Func} (hf : P.funcs[f]? = some fn) (hb : fn.body.isSome = true) (args : Array Value) (w : World) : (callFunc f args).run P w = .ok (.enter f args) w := by
  have h1 : ¬ fn.name = "runtime.NumGoroutine" := by simpa using hN f fn hf hb
  have h2 : ¬ fn.body = none := by intro h; rw [h] at hb; cases hb
  simp [callFunc, hf, h1, h2]
theorem opRun_sim {X : Spec} {callF : CallF} (hC : CallOK P w0 callF) (hX : SpecAt P X w0) (hN : PlainNames P) (h : Rel w0 μ s w) {fr : Fr} {a : Act} (hf : FrRel μ fr a.tmps) {o : Oper} {v : V} {s' : St} (hx : opRun P X callF fr s o = some (v, s')) :
    OpRes P w0 μ v s' ((execOp a.eval o).run P w) := by
  unfold opRun at hx
  split at hx
  · -- move
    rename_i x hop
    simp only [Option.map_eq_some_iff, Prod.mk.injEq] at hx
    obtain ⟨u, hu, rfl, rfl⟩ := hx
    exact .inl ⟨μ, _, w, Sub.refl _, evalO_conc hf hu, h, .inl (by simp [execOp, hop])⟩
  · rename_i x hop
    simp only [Option.map_eq_some_iff, Prod.mk.injEq] at hx
    obtain ⟨u, hu, rfl, rfl⟩ := hx
    exact .inl ⟨μ, _, w, Sub.refl _, evalO_conc hf hu, h, .inl (by simp [execOp, hop])⟩
  · -- pick
    rename_i c x y hop
    split at hx
    · rename_i t hc
      simp only [Option.map_eq_some_iff, Prod.mk.injEq] at hx
      obtain ⟨u, hu, rfl, rfl⟩ := hx
      have hcc := evalC_conc hf hc
      simp only [Cell.conc, Option.some.injEq] at hcc
      refine .inl ⟨μ, _, w, Sub.refl _, evalO_conc hf hu, h, .inl ?_⟩
      cases t <;> simp [execOp, hop, ← hcc, asBool]
    · cases hx
  · -- alloc
    rename_i t hop
    simp only [execOp, hop]
    exact (xAlloc_sim h hx).op
  · -- box
    rename_i t x hop
    obtain ⟨u, hu, hx⟩ := Option.bind_eq_some_iff.1 hx
    simp only [execOp, hop]
    exact (xBox_sim h (eval1_conc hf hu) hx).op
  · -- load
    rename_i t x hop
    split at hx
    · rename_i b off hb
      simp only [execOp, hop]
      exact (xLoad_sim h (evalC_conc hf hb) hx).op
    · cases hx
  · -- store
    rename_i t x y hop
    split at hx
    · rename_i b off u hb hu
      simp only [execOp, hop]
      obtain ⟨rfl, w', q1, q2⟩ := xStore_sim h (evalC_conc hf hb) (eval1_conc hf hu) hx
      exact .inl ⟨μ, undef, w', Sub.refl _, rfl, q1, .inr ⟨by simp [q2], rfl⟩⟩
    · cases hx
  · -- nilCheck
    rename_i x hop
    split at hx
    · rename_i b off hb
      cases hx
      have := evalC_conc hf hb
      obtain ⟨l, hl, hv⟩ := conc_ptr this
      exact .inl ⟨μ, _, w, Sub.refl _, this, h, .inl (by simp [execOp, hop, hv])⟩
    · cases hx
  · -- fieldAddr
    rename_i t x f hop
    split at hx
    · rename_i b off hb
      simp only [execOp, hop]
      exact (xFieldAddr_sim h (evalC_conc hf hb) hx).op
    · cases hx
  · -- field
    rename_i t x f hop
    split at hx
    · rename_i cs hb
      simp only [execOp, hop]
      exact (xField_sim h (eval1_conc hf hb) hx).op
    · cases hx
  · -- build
    rename_i t parts hop
    obtain ⟨ps, hps, hx⟩ := Option.bind_eq_some_iff.1 hx
    simp only [execOp, hop]
    exact (xBuild_sim h (by simpa using evalParts_conc hf hps) hx).op
  · -- buildSlice
    rename_i t len parts hop
    obtain ⟨ps, hps, hx⟩ := Option.bind_eq_some_iff.1 hx
    simp only [execOp, hop]
    exact (xBuildSlice_sim h (by simpa using evalParts_conc hf hps) hx).op
  · -- makeSlice
    rename_i t len cap hop
    split at hx
    · rename_i l c hl hc
      have h1 := evalC_conc hf hl
      have h2 := evalC_conc hf hc
      simp only [Cell.conc, Option.some.injEq] at h1 h2
      simp only [execOp, hop, ← h1, ← h2]
      exact (xMakeSlice_sim h hx).op
    · cases hx
  · -- indexAddr
    rename_i t x ix hop
    split at hx
    · rename_i c k i hc hi
      have h2 := evalC_conc hf hi
      simp only [Cell.conc, Option.some.injEq] at h2
      simp only [execOp, hop, ← h2]
      exact (xIndexAddr_sim h (evalC_conc hf hc) hx).op
    · cases hx
  · -- slice
    rename_i t x lo hi mx hop
    split at hx
    · exact pureOp_sim h hf (by intro cs b; rw [hop]; simp) hx
    · rename_i c hns hc
      have hcc := evalC_conc hf hc
      split at hx
      · rename_i len hlen
        split at hx
        · rename_i l hh hl hh'
          have b1 := boundA_is hf hl
          have b2 : ∀ n, (lenA c = some n ∨ (∃ b off e, c = .ptr b off ∧ P.underlying t = some (.array n e))) → BoundIs (hi.map a.eval) n hh := by
            intro n hn
            rcases hn with hn | ⟨b, off, e, rfl, _⟩
            · rw [hlen] at hn; cases hn; exact boundA_is hf hh'
            · simp [lenA] at hlen
          have hstr : ∀ b, c ≠ .str b := by intro b e; subst e; exact hns b rfl
          simp only [execOp, hop]
          split at hx
          · exact (xSlice_sim h hcc b1 b2 (.inl ⟨rfl, rfl⟩) hx hstr).op
          · rename_i m
            split at hx
            · rename_i hio mv hm
              refine (xSlice_sim h hcc b1 b2 (.inr ?_) hx hstr).op
              have b3 := boundA_is hf hm
              rcases b3 with ⟨q, _⟩ | ⟨k', q⟩
              · cases q
              · have b4 := boundA_is hf hh'
                rcases b4 with ⟨q4, _⟩ | ⟨k4, q4⟩
                · simp at q4
                · exact ⟨k4, k', mv, q4, q, rfl⟩
            · cases hx
        · cases hx
      · rename_i hlen
        split at hx
        · rename_i b off n e hu
          split at hx
          · rename_i l hh hl hh'
            have b1 := boundA_is hf hl
            have b2 : ∀ m, (lenA (.ptr b off) = some m ∨ (∃ b' off' e', Cell.ptr b off = .ptr b' off' ∧ P.underlying t = some (.array m e'))) → BoundIs (hi.map a.eval) m hh := by
              intro m hm
              rcases hm with hm | ⟨b', off', e', _, hu'⟩
              · simp [lenA] at hm
              · rw [hu] at hu'; cases hu'; exact boundA_is hf hh'
            simp only [execOp, hop]
            exact (xSlice_sim h hcc b1 b2 (.inl ⟨rfl, rfl⟩) hx (by intro b e; cases e)).op
          · cases hx
        · cases hx
    · cases hx
  · -- makeFunc
    rename_i f captured hop
    simp only [Option.map_eq_some_iff, Prod.mk.injEq] at hx
    obtain ⟨l, hl, rfl, rfl⟩ := hx
    have := capPtrs_conc hf hl
    refine .inl ⟨μ, .func (.func f) #[] (captured.map a.eval), w, Sub.refl _, ?_, h, .inl (by simp [execOp, hop, Instr.makeFunc])⟩
    simp only [V.conc, V1.conc, Cell.conc, this, Option.map_some]
    congr 2
    apply Array.ext'; simp
  · -- makeMap
    rename_i t hop
    simp only [Option.map_eq_some_iff, Prod.mk.injEq] at hx
    obtain ⟨d, hd, rfl, rfl⟩ := hx
    refine .inl ⟨_, .map (some w.heap.size), _, sub_upd ⟨w.heap.size, 0, 0⟩ h.fresh, by simp [V.conc, V1.conc, Cell.conc, upd_self], h.pushed (.map [] 0) ⟨w.heap.size, 0, 0⟩ (below_alloc' w (.map #[] 0)) (Nat.le_refl _) ⟨h.size, #[], heap_push_new w _, rfl⟩, .inl ?_⟩
    simp [execOp, hop, Instr.makeMap]
  · -- lookup
    rename_i t x ix ok hop
    split at hx
    · rename_i c k hc hk
      simp only [execOp, hop]
      exact (xLookup_sim h (evalC_conc hf hc) (eval1_conc hf hk) hx).op
    · cases hx
  · -- mapUpdate
    rename_i t m k u hop
    split at hx
    · rename_i b k' u' hb hk hu
      simp only [execOp, hop]
      obtain ⟨rfl, w', q1, q2⟩ := xMapUpdate_sim h (evalC_conc hf hb) (eval1_conc hf hk) (eval1_conc hf hu) hx
      exact .inl ⟨μ, undef, w', Sub.refl _, rfl, q1, .inr ⟨by simp [q2], rfl⟩⟩
    · cases hx
  · -- range
    rename_i t x hop
    obtain ⟨c, hc, hx⟩ := Option.bind_eq_some_iff.1 hx
    simp only [execOp, hop]
    exact (xRange_sim h (evalC_conc hf hc) hx).op
  · -- next
    rename_i it hop
    split at hx
    · rename_i b off hb
      simp only [execOp, hop]
      exact (xNext_sim h (evalC_conc hf hb) hx).op
    · cases hx
  · -- extract
    rename_i x ix hop
    split at hx
    · rename_i vs hvs
      simp only [Option.map_eq_some_iff, Prod.mk.injEq] at hx
      obtain ⟨u, hu, rfl, rfl⟩ := hx
      have := evalO_conc hf hvs
      simp only [V.conc, Option.map_eq_some_iff] at this
      obtain ⟨l, hl, hv⟩ := this
      obtain ⟨y, q1, q2⟩ := conc1s_get hl hu
      exact .inl ⟨μ, y, w, Sub.refl _, q2, h, .inl (by simp [execOp, hop, Instr.extract, ← hv, q1])⟩
    · cases hx
  · -- convert
    rename_i src dst x hop
    split at hx
    · rename_i hc
      simp only [execOp, hop]
      exact (xBytesToString_sim h (evalC_conc hf hc) hx).op
    · rename_i b off len cap hc
      simp only [execOp, hop]
      exact (xBytesToString_sim h (evalC_conc hf hc) hx).op
    · exact pureOp_sim h hf (by intro cs b; rw [hop]; simp) hx
  · -- binOp
    rename_i op t x y ty hop
    split at hx
    · rename_i ca cb ha hb
      split at hx
      · rename_i r hr
        split at hx
        · rename_i hk
          have q := nil_eq_sim (P := P) (t := t) (evalC_conc hf ha) (evalC_conc hf hb) hr hk x y w
          split at hx
          · cases hx
            have z := VRes.op (P := P) (w := w) (x := (do eqGuard .eql t x y (a.eval x) (a.eval y); binOp .eql t (a.eval x) (a.eval y))) (show VRes w0 μ (.one (.c (.bool r))) s _ from ⟨μ, .bool r, w, Sub.refl _, rfl, h, q.1⟩)
            simpa [execOp, hop] using z
          · cases hx
            have z := VRes.op (P := P) (w := w) (x := (do eqGuard .neq t x y (a.eval x) (a.eval y); binOp .neq t (a.eval x) (a.eval y))) (show VRes w0 μ (.one (.c (.bool !r))) s _ from ⟨μ, .bool !r, w, Sub.refl _, rfl, h, q.2⟩)
            simpa [execOp, hop] using z
          · cases hx
        · cases hx
      · exact pureOp_sim h hf (by intro cs b; rw [hop]; simp) hx
    · exact pureOp_sim h hf (by intro cs b; rw [hop]; simp) hx
  · -- builtins
    rename_i b args argTypes hop
    split at hx
    · rename_i x t ts hargs hats
      obtain ⟨u, hu, hx⟩ := Option.bind_eq_some_iff.1 hx
      have ha : args = #[x] := by apply Array.ext'; simpa using hargs
      have q := (xLen_sim (ty := o.type) h hats (eval1_conc hf hu) hx).op (P := P)
      simpa [execOp, hop, resolve, invoke, builtin, ha] using q
    · rename_i x t ts hargs hats
      obtain ⟨u, hu, hx⟩ := Option.bind_eq_some_iff.1 hx
      have ha : args = #[x] := by apply Array.ext'; simpa using hargs
      have q := (xCap_sim (ty := o.type) h hats (evalC_conc hf hu) hx).op (P := P)
      simpa [execOp, hop, resolve, invoke, builtin, ha] using q
    · rename_i x t ts hargs hats
      obtain ⟨u, hu, hx⟩ := Option.bind_eq_some_iff.1 hx
      have ha : args = #[x] := by apply Array.ext'; simpa using hargs
      have q := (xClear_sim (ty := o.type) h hats (evalC_conc hf hu) hx).op (P := P)
      simpa [execOp, hop, resolve, invoke, builtin, ha] using q
    · rename_i x y t0 ts hargs hats
      split at hx
      · rename_i cx cy hcx hcy
        have ha : args = #[x, y] := by apply Array.ext'; simpa using hargs
        have q := (xAppend_sim (ty := o.type) h hats (evalC_conc hf hcx) (evalC_conc hf hcy) hx).op (P := P)
        simpa [execOp, hop, resolve, invoke, builtin, ha] using q
      · cases hx
    · rename_i x y t0 ts hargs hats
      split at hx
      · rename_i cx cy hcx hcy
        have ha : args = #[x, y] := by apply Array.ext'; simpa using hargs
        have q := (xCopy_sim (ty := o.type) h hats (evalC_conc hf hcx) (evalC_conc hf hcy) hx).op (P := P)
        simpa [execOp, hop, resolve, invoke, builtin, ha] using q
      · cases hx
    · rename_i m k t ts hargs hats
      split at hx
      · rename_i bb kk hb hk
        have ha : args = #[m, k] := by apply Array.ext'; simpa using hargs
        have q := (xDelete_sim (ty := o.type) h hats (evalC_conc hf hb) (eval1_conc hf hk) hx).op (P := P)
        simpa [execOp, hop, resolve, invoke, builtin, ha] using q
      · cases hx
    · exact pureOp_sim h hf (by intro cs b; rw [hop]; simp) hx
    · exact pureOp_sim h hf (by intro cs b; rw [hop]; simp) hx
    · cases hx
  · -- a function
    rename_i g args argTypes hop
    split at hx
    · rename_i f caps vs hg hvs
      have hgc := evalC_conc hf hg
      simp only [Cell.conc, Option.map_eq_some_iff] at hgc
      obtain ⟨cl, hcl, hgv⟩ := hgc
      have hargs := concVs_append (argsOf_conc hf hvs) (caps_conc hcl)
      have henter : ∀ fn, P.funcs[f]? = some fn → fn.body.isSome = true → (execOp a.eval o).run P w = .ok (.enter f ((args.toList.map a.eval) ++ cl).toArray) w := by
        intro fn h1 h2
        have := callFunc_run hN h1 h2 (((args.toList.map a.eval) ++ cl).toArray) w
        have e1 : args.map a.eval ++ cl.toArray = ((args.toList.map a.eval) ++ cl).toArray := by apply Array.ext'; simp
        simp [execOp, hop, resolve, ← hgv, Deferred.ofValue, invoke, e1, this]
      unfold xCallFn at hx
      split at hx
      · rename_i r hr
        simp only [Option.map_eq_some_iff, Prod.mk.injEq] at hx
        obtain ⟨u, hu, rfl, rfl⟩ := hx
        obtain ⟨vals, hv1, hv2⟩ := Option.bind_eq_some_iff.1 hr
        have := scalars_conc hv1 μ
        rw [hargs] at this
        cases this
        rcases hX _ _ _ hv2 with ⟨⟨fn, h1, h2⟩, hcalls⟩ | hrow
        case inr =>
          have e1 : args.map a.eval ++ cl.toArray = ((args.toList.map a.eval) ++ cl).toArray := by apply Array.ext'; simp
          exact .inl ⟨μ, r, w, Sub.refl _, ofV_conc hu, h, .inl (by simp [execOp, hop, resolve, ← hgv, Deferred.ofValue, invoke, e1, hrow w])⟩
        refine .inr ⟨f, _, w, henter fn h1 h2, (hcalls w h.below).mono fun e w' q => ?_⟩
        obtain ⟨rfl, hb⟩ := q
        exact ⟨μ, r, Sub.refl _, ofV_conc hu, rfl, h.world hb h.size⟩
      · obtain ⟨⟨fn, h1, h2⟩, hcalls⟩ := hC _ _ _ _ _ hx
        exact .inr ⟨f, _, w, henter fn h1 h2, hcalls μ w _ h hargs⟩
    · cases hx
  · rename_i hop; exact pureOp_sim h hf (by intro cs b; rw [hop]; simp) hx
  · rename_i hop; exact pureOp_sim h hf (by intro cs b; rw [hop]; simp) hx
  · cases hx
end
end Go.Proofs.Ytdhnjkagmbfoaaa.AM
/- The abstract machine's regions in the text's order, code, and calls. -/
set_option linter.unusedSimpArgs false
set_option linter.unusedVariables false
namespace Go.Proofs.Ytdhnjkagmbfoaaa.AM
open Go Go.RowKit Go.MapKept
section
variable {P : Program} {w0 w : World} {μ : Map} {s : St}
theorem conc_bool {v : V} {b : Bool} (h : v.conc μ = some (.bool b)) : v = .one (.c (.bool b)) := by
  cases v with
  | tup vs => simp [V.conc] at h
  | one x =>
    cases x with
    | agg cs => simp [V.conc, V1.conc] at h
    | c y =>
      cases y <;> try (simp_all [V.conc, V1.conc, Cell.conc]; done)
      rename_i bb off len cap
      cases cap <;> simp [V.conc, V1.conc, Cell.conc] at h
theorem wantedA_eq {fr : Fr} {tmps : Array Value} (hf : FrRel μ fr tmps) (ops : Array Oper) (o : Oper) : Region.wanted o (yielded ops tmps) = wantedA ops fr o := by
  unfold Region.wanted wantedA
  cases hg : o.guard with
  | none => rfl
  | some jw =>
    obtain ⟨j, want⟩ := jw
    simp only
    cases hd : (ops[j]?).bind (·.dst) with
    | none => simp [yielded, hd]
    | some t =>
      have ht := hf.2 t
      simp only [yielded, hd, Option.bind_some]
      generalize fr.get t = v at *
      have hx : (tmps[t]?).getD undef = tmps.getD t undef := by simp [Array.getD_eq_getD_getElem?]
      rw [← hx] at ht
      have rhs : (∀ b, v ≠ .one (.c (.bool b))) → boolIs want v = false := by
        intro hv
        unfold boolIs
        split
        · rename_i b; exact absurd rfl (hv _)
        · rfl
      cases hq : tmps[t]? with
      | none =>
        rw [hq] at ht
        simp only [Option.getD_none] at ht
        rw [rhs (by intro b e; subst e; simp [V.conc, V1.conc, Cell.conc, undef] at ht)]
        rfl
      | some x =>
        rw [hq] at ht
        simp only [Option.getD_some] at ht
        cases x with
        | bool b => rw [conc_bool ht]; cases b <;> cases want <;> rfl
        | _ =>
          rw [rhs (by intro b e; subst e; simp [V.conc, V1.conc, Cell.conc] at ht)]
          rfl
theorem FrRel.putA {fr : Fr} {a : Act} (h : FrRel μ fr a.tmps) {v : V} {v' : Value} (hv : v.conc μ = some v') (d : Option Nat) : FrRel μ (putV fr d v) (a.put d v').tmps := by
  cases d with
  | none => exact h
  | some d => exact h.put hv d
theorem put_defers (a : Act) (d : Option Nat) (v : Value) : (a.put d v).defers = a.defers := by cases d <;> rfl
theorem wp_of_res {o : Oper} {a : Act} {v : V} {s' : St} (h : OpRes P w0 μ v s' ((execOp a.eval o).run P w)) {K : Act → World → Prop} {Q : Exit → Act → World → Prop}
    (hK : ∀ μ' v' w', Sub μ μ' → v.conc μ' = some v' → Rel w0 μ' s' w' → K (a.put o.dst v') w') : o.wp P a w K Q := by
  unfold Oper.wp
  rcases h with ⟨μ', v', w', h1, h2, h3, h4 | ⟨h4, rfl⟩⟩ | ⟨f, args, w1, h1, h2⟩
  · rw [h4]; exact hK μ' v' w' h1 h2 h3
  · rw [h4]; exact hK μ' _ w' h1 h2 h3
  · rw [h1]
    refine h2.mono fun e w' q => ?_
    obtain ⟨μ', v', q1, q2, rfl, q4⟩ := q
    exact hK μ' v' w' q1 q2 q4
/-- Where a run is to come. -/
def At (w0 : World) (μ : Map) (fr : Fr) (s : St) (a : Act) (w : World) : Prop := ∃ μ', Sub μ μ' ∧ FrRel μ' fr a.tmps ∧ a.defers = [] ∧ Rel w0 μ' s w
theorem opsRun_sim {X : Spec} {callF : CallF} (hC : CallOK P w0 callF) (hX : SpecAt P X w0) (hN : PlainNames P) (ops : Array Oper) {Q : Exit → Act → World → Prop} : ∀ (l : List Oper) {μ : Map} {w : World} {fr fr' : Fr} {s s' : St} {a : Act}, Rel w0 μ s w → FrRel μ fr a.tmps → a.defers = [] →
    opsRun P X callF ops l fr s = some (fr', s') → (∀ a' w', At w0 μ fr' s' a' w' → Q .normal a' w') → wpList P ops Q l a w
  | [], μ, w, fr, fr', s, s', a, h, hf, hd, hx, hQ => by
    simp only [opsRun, Option.some.injEq, Prod.mk.injEq] at hx
    obtain ⟨rfl, rfl⟩ := hx
    exact hQ a w ⟨μ, Sub.refl _, hf, hd, h⟩
  | o :: rest, μ, w, fr, fr', s, s', a, h, hf, hd, hx, hQ => by
    simp only [opsRun] at hx
    unfold wpList
    rw [wantedA_eq hf]
    split at hx
    · rename_i hw
      rw [if_pos hw]
      split at hx
      · rename_i v s1 hop
        left
        refine wp_of_res (opRun_sim hC hX hN h hf hop) fun μ' v' w' q1 q2 q3 => ?_
        refine opsRun_sim hC hX hN ops rest q3 ((hf.mono q1).putA q2 o.dst) (by rw [put_defers]; exact hd) hx fun a' w'' q => hQ a' w'' ?_
        obtain ⟨μ'', r1, r2, r3, r4⟩ := q
        exact ⟨μ'', q1.trans r1, r2, r3, r4⟩
      · cases hx
    · rename_i hw
      rw [if_neg hw]
      exact opsRun_sim hC hX hN ops rest h (hf.putA rfl o.dst) (by rw [put_defers]; exact hd) hx hQ
def Ex.to : Ex → Exit
  | .normal => .normal
  | .exit id => .exit id
  | .ret => .ret
theorem mapM_results {fr : Fr} {a : Act} (h : Rel w0 μ s w) (hf : FrRel μ fr a.tmps) (G : ResultVar → Sem Value) (hG1 : ∀ t, G (.tmp t) = pure (a.tmps.getD t undef)) (hG2 : ∀ b t, G (.cell b t) = (do loadVar t (← asAddr (a.tmps.getD b undef)))) :
    ∀ {l : List ResultVar} {vs}, resultsA P s fr l = some vs → ∃ xs, conc1s μ vs = some xs ∧ (l.mapM G).run P w = .ok xs w
  | [], vs, e => by simp [resultsA] at e; subst e; exact ⟨[], rfl, rfl⟩
  | .tmp t :: l, vs, e => by
    simp only [resultsA] at e
    split at e
    · rename_i v vs' h1 h2
      cases e
      obtain ⟨xs, q1, q2⟩ := mapM_results h hf G hG1 hG2 h2
      have ht := hf.2 t
      rw [h1] at ht
      refine ⟨a.tmps.getD t undef :: xs, conc1s_cons.2 ⟨_, _, ht, q1, rfl⟩, ?_⟩
      simp only [List.mapM_cons, hG1, Sem.run_bind, Sem.run_pure, Result.andThen_ok, q2]
    · cases e
  | .cell b t :: l, vs, e => by
    simp only [resultsA] at e
    split at e
    · rename_i bb off vs' h1 h2
      split at e
      · rename_i v s2 h3
        cases e
        obtain ⟨xs, q1, q2⟩ := mapM_results h hf G hG1 hG2 h2
        have ht := hf.2 b
        rw [h1] at ht
        obtain ⟨L, hL, hv⟩ := conc_ptr (show (Cell.ptr bb off).conc μ = some _ from ht)
        obtain ⟨rfl, v', r1, r2⟩ := loadVar_sim h hL h3
        have has : ∀ A w, (asAddr (.pointer (some A))).run P w = .ok A w := fun _ _ => rfl
        refine ⟨v' :: xs, conc1s_cons.2 ⟨_, _, r1, q1, rfl⟩, ?_⟩
        simp only [List.mapM_cons, hG2, hv, has, Sem.run_bind, Sem.run_pure, Result.andThen_ok, r2, q2]
      · cases e
    · cases e
theorem results_sim {fn : Func} {fr : Fr} {a : Act} (h : Rel w0 μ s w) (hf : FrRel μ fr a.tmps) {vs : List V1} (hr : resultsA P s fr fn.results.toList = some vs) : ∃ v', (retV vs).conc μ = some v' ∧ (results fn a.tmps).run P w = .ok v' w := by
  have hm : ∃ xs, conc1s μ vs = some xs ∧ (results fn a.tmps).run P w = .ok (if h : xs.toArray.size = 1 then xs.toArray[0] else .tuple xs.toArray) w := by
    have key : ∀ G : ResultVar → Sem Value, (∀ t, G (.tmp t) = pure (a.tmps.getD t undef)) → (∀ b t, G (.cell b t) = (do loadVar t (← asAddr (a.tmps.getD b undef)))) →
        ∃ xs, conc1s μ vs = some xs ∧ (do let vs ← fn.results.mapM G; pure (if h : vs.size = 1 then vs[0] else .tuple vs) : Sem Value).run P w = .ok (if h : xs.toArray.size = 1 then xs.toArray[0] else .tuple xs.toArray) w := by
      intro G g1 g2
      obtain ⟨xs, q1, q2⟩ := mapM_results (P := P) h hf G g1 g2 hr
      refine ⟨xs, q1, ?_⟩
      rw [Array.mapM_eq_mapM_toList]
      simp only [Sem.run_bind, Sem.run_map, q2, Result.andThen_ok, Sem.run_pure]
    unfold results
    refine key _ ?_ ?_
    · intro t; rfl
    · intro b t; rfl
  obtain ⟨xs, q1, hm⟩ := hm
  refine ⟨_, ?_, hm⟩
  match vs, xs, q1 with
  | [], xs, q1 => simp [conc1s] at q1; subst q1; rfl
  | [v], xs, q1 =>
    obtain ⟨x, r, r1, r2, rfl⟩ := conc1s_cons.1 q1
    simp [conc1s] at r2; subst r2
    exact r1
  | v :: u :: vs, xs, q1 =>
    have q1' := q1
    obtain ⟨x, r, r1, r2, rfl⟩ := conc1s_cons.1 q1
    obtain ⟨y, r', r3, r4, rfl⟩ := conc1s_cons.1 r2
    simp [retV, V.conc, q1']
theorem frame_start {args : List V} {vals : List Value} (h : concVs μ args = some vals) (n : Nat) : FrRel μ (Fr.of args n) (vals.toArray ++ Array.replicate (n - vals.toArray.size) undef) := by
  have hlen : ∀ {args : List V} {vals : List Value}, concVs μ args = some vals → vals.length = args.length := by
    intro args
    induction args with
    | nil => intro vals h; simp [concVs] at h; subst h; rfl
    | cons v vs ih => intro vals h; obtain ⟨x, xs, h1, h2, rfl⟩ := concVs_cons.1 h; simp [ih h2]
  have hget : ∀ {args : List V} {vals : List Value}, concVs μ args = some vals → ∀ t, t < args.length → ((args[t]?).getD undefV).conc μ = some ((vals[t]?).getD undef) := by
    intro args
    induction args with
    | nil => intro vals h t ht; simp at ht
    | cons v vs ih =>
      intro vals h t ht
      obtain ⟨x, xs, h1, h2, rfl⟩ := concVs_cons.1 h
      cases t with
      | zero => simpa using h1
      | succ t => simpa using ih h2 t (by simpa using ht)
  have hl := hlen h
  refine ⟨by rw [Fr.of_size]; simp [hl], fun t => ?_⟩
  rw [Fr.of_get]
  simp only [Array.getD_eq_getD_getElem?]
  by_cases ht : t < args.length
  · rw [Array.getElem?_append_left (by simp [hl]; exact ht)]
    simpa using hget h t ht
  · rw [List.getElem?_eq_none (by omega), Array.getElem?_append_right (by simp [hl]; omega)]
    simp only [Array.getElem?_replicate, List.size_toArray, hl]
    split <;> rfl
end
end Go.Proofs.Ytdhnjkagmbfoaaa.AM
/- The abstract machine's regions that draw their order: what only looks leaves all as it is. -/
set_option linter.unusedSimpArgs false
set_option linter.unusedVariables false
namespace Go.Proofs.Ytdhnjkagmbfoaaa.AM
open Go Go.RowKit Go.MapKept
section
variable {P : Program} {s s1 : St} {v : V}
theorem pureOp_st {fr : Fr} {o : Oper} (h : pureOp P fr s o = some (v, s1)) : s1 = s := by
  unfold pureOp at h
  split at h
  · split at h
    · simp only [Option.map_eq_some_iff, Prod.mk.injEq] at h; obtain ⟨_, _, _, rfl⟩ := h; rfl
    · cases h
  · cases h
theorem xLoad_st {t : TypeId} {b off : Nat} (h : xLoad P s t b off = some (v, s1)) : s1 = s := by
  unfold xLoad at h
  repeat' split at h
  all_goals first | (cases h; done) | (cases h; rfl) | (simp only [Option.map_eq_some_iff, Prod.mk.injEq] at h; obtain ⟨_, _, _, rfl⟩ := h; rfl)
theorem xFieldAddr_st {t : TypeId} {b off f : Nat} (h : xFieldAddr P s t b off f = some (v, s1)) : s1 = s := by
  unfold xFieldAddr at h
  repeat' split at h
  all_goals first | (cases h; done) | (cases h; rfl)
theorem xField_st {t : TypeId} {cs : List Cell} {f : Nat} (h : xField P s t cs f = some (v, s1)) : s1 = s := by
  unfold xField at h
  repeat' split at h
  all_goals first | (cases h; done) | (simp only [Option.map_eq_some_iff, Prod.mk.injEq] at h; obtain ⟨_, _, _, rfl⟩ := h; rfl)
theorem xBuild_st {t : TypeId} {ps : List (Nat × V1)} (h : xBuild P s t ps = some (v, s1)) : s1 = s := by
  unfold xBuild at h
  repeat' split at h
  all_goals first | (cases h; done) | (simp only [Option.map_eq_some_iff, Prod.mk.injEq] at h; obtain ⟨_, _, _, rfl⟩ := h; rfl)
theorem xIndexAddr_st {t : TypeId} {c : Cell} {i : Int} (h : xIndexAddr P s t c i = some (v, s1)) : s1 = s := by
  unfold xIndexAddr at h
  repeat' split at h
  all_goals first | (cases h; done) | (cases h; rfl)
theorem xLookup_st {t : TypeId} {c : Cell} {k : V1} {ok : Bool} (h : xLookup P s t c k ok = some (v, s1)) : s1 = s := by
  unfold xLookup at h
  repeat' split at h
  all_goals first | (cases h; done) | (cases h; rfl)
theorem xBytesToString_st {a b : TypeId} {c : Cell} (h : xBytesToString P s a b c = some (v, s1)) : s1 = s := by
  unfold xBytesToString at h
  repeat' split at h
  all_goals first | (cases h; done) | (cases h; rfl) | (simp only [Option.map_eq_some_iff, Prod.mk.injEq] at h; obtain ⟨_, _, _, rfl⟩ := h; rfl)
theorem xLen_st {t : TypeId} {x : V1} (h : xLen P s t x = some (v, s1)) : s1 = s := by
  unfold xLen at h
  repeat' split at h
  all_goals first | (cases h; done) | (cases h; rfl)
theorem xSlice_st {t : TypeId} {c : Cell} {lo hi : Nat} {mx : Option Nat} (h : xSlice P s t c lo hi mx = some (v, s1)) (hn : s1.next = s.next) : s1 = s := by
  unfold xSlice at h
  repeat' split at h
  all_goals first
    | (cases h; done)
    | (cases h; rfl)
    | (simp only [Option.map_eq_some_iff, Prod.mk.injEq] at h; obtain ⟨_, _, _, rfl⟩ := h; rfl)
theorem quiet_state {X : Spec} {callF : CallF} {fr : Fr} {o : Oper} (hq : isMover o.op = false) (h : opRun P X callF fr s o = some (v, s1)) (hn : s1.next = s.next) : s1 = s := by
  unfold opRun at h
  split at h
  case h_4 hop => rw [hop] at hq; cases hq
  case h_5 hop => rw [hop] at hq; cases hq
  case h_7 hop => rw [hop] at hq; cases hq
  case h_12 hop => rw [hop] at hq; cases hq
  case h_13 hop => rw [hop] at hq; cases hq
  case h_17 hop => rw [hop] at hq; cases hq
  case h_19 hop => rw [hop] at hq; cases hq
  case h_20 hop => rw [hop] at hq; cases hq
  case h_21 hop => rw [hop] at hq; cases hq
  case h_26 hop => rw [hop] at hq; cases hq
  · simp only [Option.map_eq_some_iff, Prod.mk.injEq] at h; obtain ⟨_, _, _, rfl⟩ := h; rfl
  · simp only [Option.map_eq_some_iff, Prod.mk.injEq] at h; obtain ⟨_, _, _, rfl⟩ := h; rfl
  · split at h
    · simp only [Option.map_eq_some_iff, Prod.mk.injEq] at h; obtain ⟨_, _, _, rfl⟩ := h; rfl
    · cases h
  · split at h
    · exact xLoad_st h
    · cases h
  · split at h
    · cases h; rfl
    · cases h
  · split at h
    · exact xFieldAddr_st h
    · cases h
  · split at h
    · exact xField_st h
    · cases h
  · obtain ⟨_, _, h⟩ := Option.bind_eq_some_iff.1 h; exact xBuild_st h
  · split at h
    · exact xIndexAddr_st h
    · cases h
  · -- slice
    repeat' split at h
    all_goals first | (cases h; done) | exact pureOp_st h | exact xSlice_st h hn
  · simp only [Option.map_eq_some_iff, Prod.mk.injEq] at h; obtain ⟨_, _, _, rfl⟩ := h; rfl
  · split at h
    · exact xLookup_st h
    · cases h
  · split at h
    · simp only [Option.map_eq_some_iff, Prod.mk.injEq] at h; obtain ⟨_, _, _, rfl⟩ := h; rfl
    · cases h
  · repeat' split at h
    all_goals first | exact xBytesToString_st h | exact pureOp_st h
  · repeat' split at h
    all_goals first | (cases h; done) | (cases h; rfl) | exact pureOp_st h
  · rename_i b args ats hop
    rw [hop] at hq
    split at h
    · obtain ⟨_, _, h⟩ := Option.bind_eq_some_iff.1 h; exact xLen_st h
    · cases hq
    · cases hq
    · cases hq
    · cases hq
    · cases hq
    · exact pureOp_st h
    · exact pureOp_st h
    · cases h
  · exact pureOp_st h
  · exact pureOp_st h
  · cases h
end
end Go.Proofs.Ytdhnjkagmbfoaaa.AM
/- The abstract machine's regions that draw their order: any order comes to the text's order. -/
set_option linter.unusedSimpArgs false
set_option linter.unusedVariables false
namespace Go.Proofs.Ytdhnjkagmbfoaaa.AM
open Go Go.RowKit Go.MapKept
/-! ### What a set of operations has left, in the text's order -/
def dstOf (ops : Array Oper) (i : Nat) : Option Nat := (ops[i]?).bind (·.dst)
def valOf (trs : List Tr) (i : Nat) : V := (trs[i]?.getD default).v
def moverAt (ops : Array Oper) (i : Nat) : Bool := (ops[i]?).any fun u => isMover u.op
def frameOf (ops : Array Oper) (trs : List Tr) (fr0 : Fr) (L : Nat → Bool) : Nat → Fr
  | 0 => fr0
  | k + 1 => if L k then putV (frameOf ops trs fr0 L k) (dstOf ops k) (valOf trs k) else frameOf ops trs fr0 L k
def stateOf (ops : Array Oper) (trs : List Tr) (s0 : St) (L : Nat → Bool) : Nat → St
  | 0 => s0
  | k + 1 => if L k && moverAt ops k then (trs[k]?.getD default).s' else stateOf ops trs s0 L k
section
variable {ops : Array Oper} {trs : List Tr} {fr0 : Fr} {s0 : St}
theorem putV_length (fr : Fr) (d : Option Nat) (v : V) : (putV fr d v).size = fr.size := by cases d <;> simp [putV, Fr.put_size]
theorem frameOf_length (L : Nat → Bool) : ∀ k, (frameOf ops trs fr0 L k).size = fr0.size
  | 0 => rfl
  | k + 1 => by
    simp only [frameOf]
    split
    · rw [putV_length]; exact frameOf_length L k
    · exact frameOf_length L k
theorem putV_other {fr : Fr} {d : Option Nat} {v : V} {t : Nat} (h : d ≠ some t) : (putV fr d v).get t = fr.get t := by
  cases d with
  | none => rfl
  | some d =>
    have : d ≠ t := fun e => h (by rw [e])
    simp only [putV, Fr.put_get]
    rw [if_neg (fun q => this q.1)]
theorem putV_congr {fr fr' : Fr} {d : Option Nat} {v : V} {t : Nat} (hl : fr.size = fr'.size) (h : fr.get t = fr'.get t) : (putV fr d v).get t = (putV fr' d v).get t := by
  cases d with
  | none => exact h
  | some d =>
    simp only [putV, Fr.put_get] at h ⊢
    by_cases e : d = t
    · simp only [e, true_and, hl]
      split
      · rfl
      · exact h
    · simp only [e, false_and, if_false]; exact h
/-- Only the writers of a variable count. -/
theorem frameOf_agree {L L' : Nat → Bool} {t : Nat} : ∀ k, (∀ j, j < k → dstOf ops j = some t → L j = L' j) → (frameOf ops trs fr0 L k).get t = (frameOf ops trs fr0 L' k).get t
  | 0, _ => rfl
  | k + 1, h => by
    have ih := frameOf_agree (L := L) (L' := L') k fun j hj => h j (by omega)
    simp only [frameOf]
    by_cases hd : dstOf ops k = some t
    · rw [h k (by omega) hd]
      split
      · exact putV_congr (by rw [frameOf_length, frameOf_length]) ih
      · exact ih
    · have h1 := putV_other (fr := frameOf ops trs fr0 L k) (v := valOf trs k) hd
      have h2 := putV_other (fr := frameOf ops trs fr0 L' k) (v := valOf trs k) hd
      split <;> split <;> simp only [h1, h2, ih]
/-- Only those below count. -/
theorem frameOf_below {L : Nat → Bool} {i : Nat} : ∀ k, i ≤ k → (∀ j, i ≤ j → j < k → L j = false) → frameOf ops trs fr0 L k = frameOf ops trs fr0 L i
  | 0, h, _ => by have : i = 0 := by omega
                  subst this; rfl
  | k + 1, h, hL => by
    by_cases e : i = k + 1
    · subst e; rfl
    · simp only [frameOf]
      rw [if_neg (by rw [hL k (by omega) (by omega)]; simp)]
      exact frameOf_below k (by omega) fun j h1 h2 => hL j h1 (by omega)
theorem frameOf_pre {L L' : Nat → Bool} : ∀ k, (∀ j, j < k → L j = L' j) → frameOf ops trs fr0 L k = frameOf ops trs fr0 L' k
  | 0, _ => rfl
  | k + 1, h => by simp only [frameOf]; rw [h k (by omega), frameOf_pre k fun j hj => h j (by omega)]
/-- One more operation. -/
theorem frameOf_add {L : Nat → Bool} {i n : Nat} (hi : i < n) (hL : L i = false) (hlast : ∀ j, i < j → j < n → L j = true → ∀ d, dstOf ops i = some d → dstOf ops j ≠ some d) (t : Nat) :
    (frameOf ops trs fr0 (fun j => L j || j == i) n).get t = (putV (frameOf ops trs fr0 L n) (dstOf ops i) (valOf trs i)).get t := by
  by_cases hd : dstOf ops i = some t
  · -- i is the last writer
    have key : ∀ k, i < k → k ≤ n → (frameOf ops trs fr0 (fun j => L j || j == i) k).get t = (putV (frameOf ops trs fr0 L k) (some t) (valOf trs i)).get t := by
      intro k
      induction k with
      | zero => intro h; omega
      | succ k ih =>
        intro h1 h2
        by_cases e : k = i
        · subst e
          have hpre : frameOf ops trs fr0 (fun j => L j || j == k) k = frameOf ops trs fr0 L k := frameOf_pre k fun j hj => by
            have hjk : (j == k) = false := by simp; omega
            simp [hjk]
          simp only [frameOf, hL, hd, hpre, beq_self_eq_true, Bool.or_true, if_true, Bool.false_eq_true, if_false]
        · have ih := ih (by omega) (by omega)
          have hki : (k == i) = false := by simp; exact e
          simp only [frameOf, hki, Bool.or_false]
          cases hk : L k with
          | false => simpa using ih
          | true =>
            have hne := hlast k (by omega) (by omega) hk t hd
            simp only [if_true]
            rw [putV_other hne, ih]
            exact putV_congr (by rw [putV_length]) (putV_other hne).symm
    rw [key n hi (Nat.le_refl _), hd]
  · rw [putV_other hd]
    refine frameOf_agree n fun j hj hdj => ?_
    have : j ≠ i := fun e => hd (by rw [← e]; exact hdj)
    simp [this]
theorem stateOf_agree {L L' : Nat → Bool} : ∀ k, (∀ j, j < k → moverAt ops j = true → L j = L' j) → stateOf ops trs s0 L k = stateOf ops trs s0 L' k
  | 0, _ => rfl
  | k + 1, h => by
    simp only [stateOf]
    rw [stateOf_agree k fun j hj => h j (by omega)]
    cases hm : moverAt ops k with
    | false => simp
    | true => rw [h k (by omega) hm]
theorem stateOf_last {L : Nat → Bool} : ∀ k, (stateOf ops trs s0 L k = s0 ∧ ∀ j, j < k → moverAt ops j = true → L j = false) ∨
    ∃ j, j < k ∧ L j = true ∧ moverAt ops j = true ∧ stateOf ops trs s0 L k = (trs[j]?.getD default).s' ∧ ∀ j', j < j' → j' < k → moverAt ops j' = true → L j' = false
  | 0 => .inl ⟨rfl, fun j hj => by omega⟩
  | k + 1 => by
    simp only [stateOf]
    by_cases hk : L k && moverAt ops k
    · rw [if_pos hk]
      simp only [Bool.and_eq_true] at hk
      exact .inr ⟨k, by omega, hk.1, hk.2, rfl, fun j' h1 h2 => by omega⟩
    · rw [if_neg hk]
      have hk' : moverAt ops k = true → L k = false := by
        intro hm; cases hl : L k with
        | false => rfl
        | true => simp [hl, hm] at hk
      rcases stateOf_last (L := L) k with ⟨h1, h2⟩ | ⟨j, h1, h2, h3, h4, h5⟩
      · exact .inl ⟨h1, fun j hj hm => by
          by_cases e : j = k
          · subst e; exact hk' hm
          · exact h2 j (by omega) hm⟩
      · exact .inr ⟨j, by omega, h2, h3, h4, fun j' q1 q2 q3 => by
          by_cases e : j' = k
          · subst e; exact hk' q3
          · exact h5 j' q1 (by omega) q3⟩
theorem stateOf_top {L : Nat → Bool} {i n : Nat} (hi : i < n) (hm : moverAt ops i = true) (hLi : L i = true) (hno : ∀ j, i < j → j < n → moverAt ops j = true → L j = false) : stateOf ops trs s0 L n = (trs[i]?.getD default).s' := by
  rcases stateOf_last (ops := ops) (trs := trs) (s0 := s0) (L := L) n with ⟨_, h2⟩ | ⟨j, h1, h2, h3, h4, h5⟩
  · rw [h2 i hi hm] at hLi; cases hLi
  · by_cases e : j = i
    · subst e; exact h4
    · by_cases hlt : j < i
      · rw [h5 i hlt hi hm] at hLi; cases hLi
      · rw [hno j (by omega) h1 h3] at h2; cases h2
/-! ### The trace -/
variable {P : Program} {X : Spec} {callF : CallF}
structure TraceOK (P : Program) (X : Spec) (callF : CallF) (ops : Array Oper) (l : List Oper) (trs : List Tr) (fr : Fr) (s : St) (fr' : Fr) (s' : St) : Prop where
  len : trs.length = l.length
  step : ∀ (i : Nat) (o : Oper) (t : Tr), l[i]? = some o → trs[i]? = some t →
    (t.want = wantedA ops t.fr o) ∧ (t.want = true → opRun P X callF (restr (o.looksAt ops) t.fr) t.s o = some (t.v, t.s')) ∧ (t.want = false → t.v = undefV ∧ t.s' = t.s) ∧ (isMover o.op = false → t.s' = t.s)
  first : ∀ t, trs[0]? = some t → t.fr = fr ∧ t.s = s
  next : ∀ (i : Nat) (o : Oper) (t u : Tr), l[i]? = some o → trs[i]? = some t → trs[i + 1]? = some u → u.fr = putV t.fr o.dst t.v ∧ u.s = t.s'
  last : ∀ (i : Nat) (o : Oper) (t : Tr), l[i]? = some o → trs[i]? = some t → i + 1 = l.length → fr' = putV t.fr o.dst t.v ∧ s' = t.s'
  nil : l = [] → fr' = fr ∧ s' = s
theorem trace_ok : ∀ {l : List Oper} {fr : Fr} {s : St} {trs : List Tr} {fr' : Fr} {s' : St}, trace P X callF ops l fr s = some (trs, fr', s') → TraceOK P X callF ops l trs fr s fr' s'
  | [], fr, s, trs, fr', s', h => by
    simp only [trace, Option.some.injEq, Prod.mk.injEq] at h
    obtain ⟨rfl, rfl, rfl⟩ := h
    exact ⟨rfl, by intro i o t h; simp at h, by intro t h; simp at h, by intro i o t u h; simp at h, by intro i o t h; simp at h, fun _ => ⟨rfl, rfl⟩⟩
  | o :: rest, fr, s, trs, fr', s', h => by
    -- the first entry, and the rest
    have key : ∃ (t0 : Tr) (l : List Tr) (fr1 : Fr) (s1 : St), trs = t0 :: l ∧ t0.fr = fr ∧ t0.s = s ∧ fr1 = putV fr o.dst t0.v ∧ s1 = t0.s' ∧ TraceOK P X callF ops rest l fr1 s1 fr' s' ∧
        (t0.want = wantedA ops t0.fr o) ∧ (t0.want = true → opRun P X callF (restr (o.looksAt ops) t0.fr) t0.s o = some (t0.v, t0.s')) ∧ (t0.want = false → t0.v = undefV ∧ t0.s' = t0.s) ∧ (isMover o.op = false → t0.s' = t0.s) := by
      simp only [trace] at h
      split at h
      · rename_i hw
        split at h
        · rename_i v s1 hop
          split at h
          · rename_i hq
            split at h
            · rename_i l fr2 s2 hr
              cases h
              refine ⟨_, l, _, _, rfl, rfl, rfl, rfl, rfl, trace_ok hr, hw.symm, fun _ => hop, fun e => (by cases e), fun hm => ?_⟩
              rw [hm, Bool.false_or, beq_iff_eq] at hq
              exact quiet_state hm hop hq
            · cases h
          · cases h
        · cases h
      · rename_i hw
        split at h
        · rename_i l fr2 s2 hr
          cases h
          exact ⟨_, l, _, _, rfl, rfl, rfl, rfl, rfl, trace_ok hr, by simpa using hw, fun e => (by cases e), fun _ => ⟨rfl, rfl⟩, fun _ => rfl⟩
        · cases h
    obtain ⟨t0, l, fr1, s1, rfl, e1, e2, e3, e4, T, q1, q2, q3, q4⟩ := key
    refine ⟨by simp [T.len], ?_, ?_, ?_, ?_, by intro h; cases h⟩
    · intro i o' t hi ht
      cases i with
      | zero => simp at hi ht; subst hi; subst ht; exact ⟨q1, q2, q3, q4⟩
      | succ i => simp at hi ht; exact T.step i o' t hi ht
    · intro t ht; simp at ht; subst ht; exact ⟨e1, e2⟩
    · intro i o' t u hi ht hu
      cases i with
      | zero =>
        simp at hi ht hu; subst hi; subst ht
        have := T.first u (by simpa using hu)
        rw [this.1, this.2, e3, e4, e1]; exact ⟨rfl, rfl⟩
      | succ i => simp at hi ht hu; exact T.next i o' t u hi ht (by simpa using hu)
    · intro i o' t hi ht hl
      cases i with
      | zero =>
        simp at hi ht hl; subst hi; subst ht
        have := T.nil hl
        rw [this.1, this.2, e3, e4, e1]; exact ⟨rfl, rfl⟩
      | succ i => simp at hi ht hl; exact T.last i o' t hi ht hl
/-- The trace's frames and states are those of what stands ahead. -/
theorem TraceOK.at {fr : Fr} {s : St} {fr' : Fr} {s' : St} (T : TraceOK P X callF ops ops.toList trs fr s fr' s') : ∀ (i : Nat), i ≤ ops.size →
    (∀ t, trs[i]? = some t → t.fr = frameOf ops trs fr (fun _ => true) i ∧ t.s = stateOf ops trs s (fun _ => true) i) ∧ (i = ops.size → fr' = frameOf ops trs fr (fun _ => true) i ∧ s' = stateOf ops trs s (fun _ => true) i)
  | 0, h => by
    refine ⟨fun t ht => T.first t ht, fun e => ?_⟩
    have : ops.toList = [] := by simpa using e.symm
    exact T.nil this
  | i + 1, h => by
    have ih := TraceOK.at T i (by omega)
    have hlt : i < trs.length := by rw [T.len, Array.length_toList]; omega
    obtain ⟨ti, hti⟩ : ∃ t, trs[i]? = some t := ⟨_, List.getElem?_eq_getElem hlt⟩
    have hlo : i < ops.toList.length := by rw [Array.length_toList]; omega
    obtain ⟨o, ho⟩ : ∃ o, ops.toList[i]? = some o := ⟨_, List.getElem?_eq_getElem hlo⟩
    have ho' : ops[i]? = some o := by rw [← Array.getElem?_toList]; exact ho
    obtain ⟨hf, hs⟩ := ih.1 ti hti
    have hd : dstOf ops i = o.dst := by simp [dstOf, ho']
    have hv : valOf trs i = ti.v := by simp [valOf, hti]
    have hm : moverAt ops i = isMover o.op := by simp [moverAt, ho']
    have hst : stateOf ops trs s (fun _ => true) (i + 1) = ti.s' := by
      simp only [stateOf, Bool.true_and, hm]
      cases hmo : isMover o.op with
      | true => simp [hti]
      | false => simp only [Bool.false_eq_true, if_false]; rw [← hs]; exact ((T.step i o ti ho hti).2.2.2 hmo).symm
    have hfr : frameOf ops trs fr (fun _ => true) (i + 1) = putV ti.fr o.dst ti.v := by
      simp only [frameOf, if_true, hd, hv, hf]
    refine ⟨fun t ht => ?_, fun e => ?_⟩
    · have := T.next i o ti t ho hti ht
      rw [hst, hfr]; exact this
    · have := T.last i o ti ho hti (by simpa using e)
      rw [hst, hfr]; exact this
end
end Go.Proofs.Ytdhnjkagmbfoaaa.AM
/- The abstract machine's regions that draw their order, the theorem; code, loops, calls. -/
set_option linter.unusedSimpArgs false
set_option linter.unusedVariables false
namespace Go.Proofs.Ytdhnjkagmbfoaaa.AM
open Go Go.RowKit Go.MapKept
section
variable {P : Program} {w0 : World} {ops : Array Oper}
/-! ### The static part -/
structure Static (ops : Array Oper) : Prop where
  edge : ∀ (i : Nat) (o : Oper), ops[i]? = some o → ∀ e ∈ o.after.toList, Region.binds .any e = true → e.on < i
  bef : ∀ (i : Nat) (o : Oper) (j : Nat), ops[i]? = some o → j < ops.size → bitB (Region.before ops) i j = true → ∃ e ∈ o.after.toList, Region.binds .any e = true ∧ (j = e.on ∨ bitB (Region.before ops) e.on j = true)
  vars : ∀ (i : Nat) (o : Oper) (j : Nat) (u : Oper) (d : Nat), ops[i]? = some o → ops[j]? = some u → j ≠ i → u.dst = some d → (o.dst = some d ∨ d ∈ o.looksAt ops) → (if j < i then bitB (Region.before ops) i j else bitB (Region.before ops) j i) = true
  movers : ∀ (i : Nat) (o : Oper) (j : Nat) (u : Oper), ops[i]? = some o → ops[j]? = some u → isMover o.op = true → isMover u.op = true → j < i → bitB (Region.before ops) i j = true
theorem static_of (h : staticOK ops = true) : Static ops := by
  unfold staticOK at h
  simp only [List.all_eq_true, List.mem_range] at h
  have hi : ∀ (i : Nat) (o : Oper), ops[i]? = some o → i < ops.size := fun i o ho => (Array.getElem?_eq_some_iff.1 ho).1
  refine ⟨fun i o ho e he hb => ?_, fun i o j ho hj hb => ?_, fun i o j u d ho hu hne hd hn => ?_, fun i o j u ho hu h1 h2 hlt => ?_⟩
  · have := h i (hi i o ho)
    rw [ho] at this
    simp only [Bool.and_eq_true, List.all_eq_true] at this
    have := this.1.1 e he
    simpa [hb] using this
  · have := h i (hi i o ho)
    rw [ho] at this
    simp only [Bool.and_eq_true, List.all_eq_true, List.mem_range] at this
    have := this.1.2 j hj
    rw [hb] at this
    simp only [Bool.not_true, Bool.false_or, List.any_eq_true, Bool.and_eq_true, Bool.or_eq_true, beq_iff_eq] at this
    exact this
  · have := h i (hi i o ho)
    rw [ho] at this
    simp only [Bool.and_eq_true, List.all_eq_true, List.mem_range] at this
    have := this.2 j (hi j u hu)
    rw [hu] at this
    have hnm : (o.dst == some d || (o.looksAt ops).contains d) = true := by
      rcases hn with hn | hn
      · simp [hn]
      · simp [hn]
    simp only [hd, hnm, Bool.not_true, Bool.false_or, Bool.and_eq_true, Bool.or_eq_true, beq_iff_eq] at this
    exact this.1.resolve_left hne
  · have := h i (hi i o ho)
    rw [ho] at this
    simp only [Bool.and_eq_true, List.all_eq_true, List.mem_range] at this
    have := this.2 j (hi j u hu)
    rw [hu] at this
    simp only [Bool.and_eq_true] at this
    have := this.2
    simpa [h1, h2, hlt] using this
theorem stateOf_below {trs : List Tr} {s0 : St} {L : Nat → Bool} {i : Nat} : ∀ k, i ≤ k → (∀ j, i ≤ j → j < k → L j = false) → stateOf ops trs s0 L k = stateOf ops trs s0 L i
  | 0, h, _ => by have : i = 0 := by omega
                  subst this; rfl
  | k + 1, h, hL => by
    by_cases e : i = k + 1
    · subst e; rfl
    · simp only [stateOf]
      rw [if_neg (by rw [hL k (by omega) (by omega)]; simp)]
      exact stateOf_below k (by omega) fun j h1 h2 => hL j h1 (by omega)
theorem wantedA_congr {fr fr' : Fr} {o : Oper} (h : ∀ d, d ∈ o.looksAt ops → fr.get d = fr'.get d) : wantedA ops fr o = wantedA ops fr' o := by
  unfold wantedA
  cases hg : o.guard with
  | none => rfl
  | some jw =>
    obtain ⟨j, want⟩ := jw
    simp only
    cases hd : (ops[j]?).bind (·.dst) with
    | none => rfl
    | some t =>
      simp only
      rw [h t (by simp only [Oper.looksAt, hg, hd, List.mem_append]; exact .inr (by simp))]
def DC (ops : Array Oper) (L : Nat → Bool) : Prop := ∀ i j, i < ops.size → L i = true → j < ops.size → bitB (Region.before ops) i j = true → L j = true
def cnt (L : Nat → Bool) : Nat → Nat
  | 0 => 0
  | k + 1 => cnt L k + if L k then 0 else 1
theorem cnt_zero {L : Nat → Bool} : ∀ n, cnt L n = 0 → ∀ j, j < n → L j = true
  | 0, _, j, hj => by omega
  | n + 1, h, j, hj => by
    simp only [cnt] at h
    by_cases e : j = n
    · subst e; cases hl : L j with
      | true => rfl
      | false => simp [hl] at h
    · exact cnt_zero n (by omega) j (by omega)
theorem cnt_same {L L' : Nat → Bool} : ∀ n, (∀ j, j < n → L j = L' j) → cnt L n = cnt L' n
  | 0, _ => rfl
  | n + 1, h => by simp only [cnt]; rw [cnt_same n fun j hj => h j (by omega), h n (by omega)]
theorem cnt_add {L : Nat → Bool} {i : Nat} (hL : L i = false) : ∀ n, i < n → cnt (fun j => L j || j == i) n + 1 = cnt L n
  | 0, h => by omega
  | n + 1, h => by
    simp only [cnt]
    by_cases e : n = i
    · subst e
      have := cnt_same (L := fun j => L j || j == n) (L' := L) n fun j hj => by
        have hjn : (j == n) = false := by simp; omega
        simp [hjn]
      simp only [this, hL, beq_self_eq_true, Bool.or_true, if_true, Bool.false_eq_true, if_false]
    · have hni : (n == i) = false := by simp; exact e
      have := cnt_add hL n (by omega)
      simp only [hni, Bool.or_false]
      omega
theorem cnt_none : ∀ n, cnt (fun _ => false) n = n
  | 0 => rfl
  | n + 1 => by simp [cnt, cnt_none n]
/-! ### Variables that an operation does not look at -/
def restrV (ts : List Nat) (tmps : Array Value) : Array Value := tmps.mapIdx fun t v => if ts.contains t then v else undef
theorem restrTo_size (fr : Fr) : ∀ (ts : List Nat) (f : Fr), (restrTo fr ts f).size = f.size
  | [], _ => rfl
  | t :: ts, f => by simp only [restrTo]; rw [restrTo_size fr ts, Fr.put_size]
theorem restrTo_get (fr : Fr) : ∀ (ts : List Nat) (f : Fr) (t : Nat), f.size = fr.size → (restrTo fr ts f).get t = if ts.contains t then fr.get t else f.get t
  | [], f, t, _ => by simp [restrTo]
  | u :: ts, f, t, h => by
    simp only [restrTo]
    rw [restrTo_get fr ts (f.put u (fr.get u)) t (by rw [Fr.put_size, h]), Fr.put_get, List.contains_cons]
    by_cases hc : ts.contains t = true
    · simp only [hc, if_true, Bool.or_true]
    · simp only [hc, if_false, Bool.or_false, Bool.false_eq_true]
      by_cases e : u = t
      · subst e
        simp only [true_and, beq_self_eq_true, if_true]
        split
        · rfl
        · rename_i hn
          rw [Fr.get_out f u hn, Fr.get_out fr u (by rw [← h]; exact hn)]
      · have e2 : (t == u) = false := by simp; exact fun q => e q.symm
        simp only [e, false_and, if_false, e2, Bool.false_eq_true]
theorem restr_get (ts : List Nat) (fr : Fr) (t : Nat) : (restr ts fr).get t = if ts.contains t then fr.get t else undefV := by
  unfold restr
  rw [restrTo_get fr ts ⟨fr.size, .leaf⟩ t rfl]
  congr 1
  unfold Fr.get
  split <;> rfl
theorem restr_length (ts : List Nat) (fr : Fr) : (restr ts fr).size = fr.size := by unfold restr; rw [restrTo_size]
theorem restrTo_ext {a b : Fr} : ∀ (ts : List Nat) (f : Fr), (∀ t ∈ ts, a.get t = b.get t) → restrTo a ts f = restrTo b ts f
  | [], _, _ => rfl
  | t :: ts, f, h => by
    simp only [restrTo]
    rw [h t (by simp)]
    exact restrTo_ext ts _ fun u hu => h u (by simp [hu])
theorem restr_ext {ts : List Nat} {a b : Fr} (hl : a.size = b.size) (h : ∀ t ∈ ts, a.get t = b.get t) : restr ts a = restr ts b := by
  unfold restr; rw [hl]; exact restrTo_ext ts _ h
theorem restrV_get (ts : List Nat) (tmps : Array Value) (t : Nat) : (restrV ts tmps).getD t undef = if ts.contains t then tmps.getD t undef else undef := by
  simp only [restrV, Array.getD_eq_getD_getElem?, Array.getElem?_mapIdx]
  cases tmps[t]? with
  | none => simp
  | some v => simp
theorem FrRel.restr {μ : Map} {fr : Fr} {tmps : Array Value} (h : FrRel μ fr tmps) (ts : List Nat) : FrRel μ (restr ts fr) (restrV ts tmps) := by
  refine ⟨by rw [restr_length]; simp [restrV, h.1], fun t => ?_⟩
  rw [restr_get, restrV_get]
  split
  · exact h.2 t
  · rfl
theorem restr_op {X : Spec} {callF : CallF} (hC : CallOK P w0 callF) (hX : SpecAt P X w0) (hN : PlainNames P) {μ : Map} {s : St} {w : World} (h : Rel w0 μ s w) {fr : Fr} {a : Act} (hf : FrRel μ fr a.tmps) {o : Oper} {v : V} {s' : St}
    (hx : opRun P X callF (restr (o.looksAt ops) fr) s o = some (v, s')) : OpRes P w0 μ v s' ((execOp a.eval o).run P w) := by
  have hs : ∀ cs b, o.op ≠ .select cs b := by intro cs b e; simp [opRun, e] at hx
  have := opRun_sim (a := { tmps := restrV (o.looksAt ops) a.tmps, defers := a.defers }) hC hX hN h (hf.restr _) hx
  rwa [execOp_congr (ρ' := a.eval) o hs] at this
  intro x hxm
  cases x with
  | tmp t =>
    have hm : (o.looksAt ops).contains t = true := by
      simp only [List.contains_eq_mem, decide_eq_true_eq, Oper.looksAt, List.mem_append, List.mem_filterMap]
      exact .inl ⟨.tmp t, by simpa using hxm, rfl⟩
    show (restrV _ a.tmps).getD t undef = a.tmps.getD t undef
    rw [restrV_get, if_pos hm]
  | const c => rfl
  | global g => rfl
  | func f => rfl
theorem FrRel.congr {μ : Map} {fr fr' : Fr} {tmps : Array Value} (h : FrRel μ fr tmps) (hl : fr'.size = fr.size) (hg : ∀ t, fr'.get t = fr.get t) : FrRel μ fr' tmps := ⟨by rw [hl, h.1], fun t => by rw [hg]; exact h.2 t⟩
/-! ### The theorem -/
theorem draw_any {X : Spec} {callF : CallF} (hC : CallOK P w0 callF) (hX : SpecAt P X w0) (hN : PlainNames P) {Q : Exit → Act → World → Prop} {fr fr' : Fr} {s s' : St} {trs : List Tr} {μ : Map}
    (hS : Static ops) (T : TraceOK P X callF ops ops.toList trs fr s fr' s') (hD : dynOK P X callF ops trs s = true) (hQ : ∀ a' w', At w0 μ fr' s' a' w' → Q .normal a' w') :
    ∀ (fuel : Nat) (listed : Array Bool) (a : Act) (w : World), listed.size = ops.size → DC ops (fun j => listed.getD j false) → cnt (fun j => listed.getD j false) ops.size = fuel →
      At w0 μ (frameOf ops trs fr (fun j => listed.getD j false) ops.size) (stateOf ops trs s (fun j => listed.getD j false) ops.size) a w → wpAny P .any ops Q fuel listed a w := by
  -- all listed: the text's order's end
  have hend : ∀ (listed : Array Bool) (a : Act) (w : World), (∀ j, j < ops.size → listed.getD j false = true) → At w0 μ (frameOf ops trs fr (fun j => listed.getD j false) ops.size) (stateOf ops trs s (fun j => listed.getD j false) ops.size) a w → Q .normal a w := by
    intro listed a w hall hat
    have := (TraceOK.at T ops.size (Nat.le_refl _)).2 rfl
    rw [frameOf_pre (L' := fun _ => true) ops.size (fun j hj => hall j hj), stateOf_agree (L' := fun _ => true) ops.size (fun j hj _ => hall j hj), ← this.1, ← this.2] at hat
    exact hQ a w hat
  have hready : ∀ (listed : Array Bool), listed.size = ops.size → Region.ready .any ops listed = [] → ∀ j, j < ops.size → listed.getD j false = true := by
    intro listed hsz hnil j
    induction j using Nat.strongRecOn with
    | _ j ih =>
      intro hj
      cases hl : listed.getD j false with
      | true => rfl
      | false =>
        exfalso
        have hget : ops[j]? = some ops[j] := Array.getElem?_eq_getElem hj
        have : j ∈ Region.ready .any ops listed := by
          simp only [Region.ready, List.mem_filter, List.mem_range, hj, true_and, Bool.and_eq_true, Bool.not_eq_true', hget, Option.map_some, Option.getD_some]
          refine ⟨?_, ?_⟩
          · simp only [Array.getD_eq_getD_getElem?, Array.getElem?_eq_getElem (show j < listed.size by omega), Option.getD_some] at hl ⊢
            exact hl
          · rw [Array.all_eq_true]
            intro k hk
            have he : (ops[j].after[k]) ∈ ops[j].after.toList := by simp
            cases hb : Region.binds .any ops[j].after[k] with
            | false => simp
            | true =>
              have hlt := hS.edge j _ hget _ he hb
              have := ih _ hlt (by omega)
              simp [this]
        rw [hnil] at this
        cases this
  intro fuel
  induction fuel with
  | zero =>
    intro listed a w hsz hdc hcnt hat
    have hall := cnt_zero ops.size hcnt
    refine ⟨?_, hend listed a w hall hat⟩
    simp only [Region.ready, List.filter_eq_nil_iff, List.mem_range]
    intro j hj
    have := hall j hj
    simp only [Array.getD_eq_getD_getElem?, Array.getElem?_eq_getElem (show j < listed.size by omega), Option.getD_some] at this ⊢
    simp [this]
  | succ fuel ih =>
    intro listed a w hsz hdc hcnt hat
    refine ⟨fun hnil => hend listed a w (hready listed hsz hnil) hat, fun i hi => ?_⟩
    simp only [Region.ready, List.mem_filter, List.mem_range, Bool.and_eq_true, Bool.not_eq_true'] at hi
    obtain ⟨hin, hil, hie⟩ := hi
    have hget : ops[i]? = some ops[i] := Array.getElem?_eq_getElem hin
    generalize ho : ops[i] = o at hget
    rw [hget, Option.map_some, Option.getD_some, Array.all_eq_true] at hie
    generalize hLd : (fun j => listed.getD j false) = L at hdc hcnt hat
    have hLj : ∀ j, listed.getD j false = L j := fun j => by rw [← hLd]
    have hLi : L i = false := by
      rw [← hLj]
      simp only [Array.getD_eq_getD_getElem?, Array.getElem?_eq_getElem (show i < listed.size by omega), Option.getD_some] at hil ⊢
      exact hil
    -- what must stand ahead of i is listed
    have hpre : ∀ j, j < ops.size → bitB (Region.before ops) i j = true → L j = true := by
      intro j hj hb
      obtain ⟨e, he, hbe, hje⟩ := hS.bef i o j hget hj hb
      have hel : L e.on = true := by
        obtain ⟨k, hk, rfl⟩ := List.getElem_of_mem he
        have := hie k (by simpa using hk)
        rw [← hLj]
        simp only [Array.getElem_toList] at hbe ⊢
        simpa [hbe] using this
      rcases hje with rfl | hje
      · exact hel
      · have hlt := hS.edge i o hget e he hbe
        exact hdc e.on j (by omega) hel hj hje
    have hpost : ∀ j, j < ops.size → bitB (Region.before ops) j i = true → L j = false := by
      intro j hj hb
      cases hl : L j with
      | false => rfl
      | true => rw [hdc j i hj hl hin hb] at hLi; cases hLi
    have hlen : i < trs.length := by rw [T.len, Array.length_toList]; exact hin
    obtain ⟨t, ht⟩ : ∃ t, trs[i]? = some t := ⟨_, List.getElem?_eq_getElem hlen⟩
    have hol : ops.toList[i]? = some o := by rw [Array.getElem?_toList]; exact hget
    obtain ⟨tw, t1, t2, t3⟩ := T.step i o t hol ht
    obtain ⟨tf, ts⟩ := (TraceOK.at T i (by omega)).1 t ht
    have hdst : dstOf ops i = o.dst := by simp [dstOf, hget]
    have hval : valOf trs i = t.v := by simp [valOf, ht]
    have hmov : moverAt ops i = isMover o.op := by simp [moverAt, hget]
    have hfi : t.fr = frameOf ops trs fr (fun j => decide (j < i)) ops.size := by
      rw [tf, frameOf_below (i := i) ops.size (by omega) (fun j h1 h2 => by simp; omega)]
      exact frameOf_pre i fun j hj => by simp [hj]
    have hsi : t.s = stateOf ops trs s (fun j => decide (j < i)) ops.size := by
      rw [ts, stateOf_below (i := i) ops.size (by omega) (fun j h1 h2 => by simp; omega)]
      exact stateOf_agree i fun j hj _ => by simp [hj]
    -- the frame where i looks
    have hlook : ∀ d, (o.dst = some d ∨ d ∈ o.looksAt ops) → (frameOf ops trs fr L ops.size).get d = t.fr.get d := by
      intro d hd
      rw [hfi]
      refine frameOf_agree ops.size fun j hj hdj => ?_
      by_cases e : j = i
      · subst e; rw [hLi]; simp
      · have hju : ops[j]? = some ops[j] := Array.getElem?_eq_getElem hj
        have hud : (ops[j]).dst = some d := by simpa [dstOf, hju] using hdj
        have := hS.vars i o j _ d hget hju e hud hd
        by_cases hlt : j < i
        · rw [if_pos hlt] at this
          rw [hpre j hj this]; simp [hlt]
        · rw [if_neg hlt] at this
          rw [hpost j hj this]; simp [hlt]
    have hrestr : restr (o.looksAt ops) (frameOf ops trs fr L ops.size) = restr (o.looksAt ops) t.fr := by
      exact restr_ext (by rw [frameOf_length, hfi, frameOf_length]) fun d hd => hlook d (.inr hd)
    have hwant : wantedA ops (frameOf ops trs fr L ops.size) o = t.want := by
      rw [tw]; exact wantedA_congr fun d hd => hlook d (.inr hd)
    -- the state
    have hnewq : isMover o.op = false → stateOf ops trs s (fun j => L j || j == i) ops.size = stateOf ops trs s L ops.size := by
      intro hq
      refine stateOf_agree ops.size fun j hj hm => ?_
      have : j ≠ i := by intro e; subst e; rw [hmov, hq] at hm; cases hm
      simp [this]
    have hcur : isMover o.op = true → stateOf ops trs s L ops.size = t.s := by
      intro hm
      rw [hsi]
      refine stateOf_agree ops.size fun j hj hmj => ?_
      have hju : ops[j]? = some ops[j] := Array.getElem?_eq_getElem hj
      have hmu : isMover (ops[j]).op = true := by simpa [moverAt, hju] using hmj
      by_cases e : j = i
      · subst e; rw [hLi]; simp
      · by_cases hlt : j < i
        · rw [hpre j hj (hS.movers i o j _ hget hju hm hmu hlt)]; simp [hlt]
        · rw [hpost j hj (hS.movers j _ i o hju hget hmu hm (by omega))]; simp [hlt]
    have hnewm : isMover o.op = true → stateOf ops trs s (fun j => L j || j == i) ops.size = t.s' := by
      intro hm
      have := stateOf_top (ops := ops) (trs := trs) (s0 := s) (L := fun j => L j || j == i) hin (by rw [hmov]; exact hm) (by simp) fun j h1 h2 hmj => by
        have hju : ops[j]? = some ops[j] := Array.getElem?_eq_getElem h2
        have hmu : isMover (ops[j]).op = true := by simpa [moverAt, hju] using hmj
        have hji : (j == i) = false := by simp; omega
        rw [hpost j h2 (hS.movers j _ i o hju hget hmu hm h1), hji]; rfl
      rw [this, ht]; rfl
    have hrun : t.want = true → opRun P X callF (restr (o.looksAt ops) t.fr) (stateOf ops trs s L ops.size) o = some (t.v, stateOf ops trs s (fun j => L j || j == i) ops.size) := by
      intro hw
      cases hm : isMover o.op with
      | true => rw [hcur hm, hnewm hm]; exact t1 hw
      | false =>
        rw [hnewq hm]
        have hsame : ∀ σ, sameAt P X callF ops o t σ = true → opRun P X callF (restr (o.looksAt ops) t.fr) σ o = some (t.v, σ) := by
          intro σ hs
          unfold sameAt at hs
          split at hs
          · rename_i v s1 hop
            simp only [Bool.and_eq_true, decide_eq_true_eq, beq_iff_eq] at hs
            have := quiet_state hm hop hs.2
            rw [hop, hs.1, this]
          · cases hs
        refine hsame _ ?_
        unfold dynOK at hD
        simp only [List.all_eq_true, List.mem_range] at hD
        have hDi := hD i hin
        rw [hget, ht] at hDi
        simp only [hm, hw, Bool.not_true, Bool.or_self, Bool.false_or, Bool.and_eq_true, Bool.or_eq_true, List.any_eq_true, List.mem_range, List.all_eq_true, decide_eq_true_eq] at hDi
        rcases stateOf_last (ops := ops) (trs := trs) (s0 := s) (L := L) ops.size with ⟨q1, q2⟩ | ⟨j, q1, q2, q3, q4, q5⟩
        · rw [q1]
          rcases hDi.1 with ⟨j, hj, hmj, hb⟩ | hs
          · have := q2 j hj hmj
            rw [hpre j hj hb] at this; cases this
          · exact hs
        · rw [q4]
          have := hDi.2 j q1
          have hju : ops[j]? = some ops[j] := Array.getElem?_eq_getElem q1
          have hmu : isMover (ops[j]).op = true := by simpa [moverAt, hju] using q3
          have hjt : j < trs.length := by rw [T.len, Array.length_toList]; exact q1
          obtain ⟨tj, htj⟩ : ∃ t, trs[j]? = some t := ⟨_, List.getElem?_eq_getElem hjt⟩
          rw [hju, htj] at this
          simp only [hmu, Bool.not_true, Bool.false_or, Bool.or_eq_true, List.any_eq_true, List.mem_range, Bool.and_eq_true, decide_eq_true_eq] at this
          rw [htj]
          rcases this with (hb | ⟨k, hk, ⟨hjk, hmk⟩, hb⟩) | hs
          · rw [hpost j q1 hb] at q2; cases q2
          · have := q5 k hjk hk hmk
            rw [hpre k hk hb] at this; cases this
          · exact hs
    have hskip : t.want = false → t.v = undefV ∧ stateOf ops trs s (fun j => L j || j == i) ops.size = stateOf ops trs s L ops.size := by
      intro hw
      obtain ⟨u1, u2⟩ := t2 hw
      refine ⟨u1, ?_⟩
      cases hm : isMover o.op with
      | true => rw [hnewm hm, hcur hm, u2]
      | false => exact hnewq hm
    -- what comes next
    have hLn : (fun j => (listed.setIfInBounds i true).getD j false) = fun j => L j || j == i := by
      funext j
      rw [← hLj]
      simp only [Array.getD_eq_getD_getElem?, Array.getElem?_setIfInBounds, hsz]
      by_cases e : i = j
      · subst e; simp [hin]
      · have : (j == i) = false := by simp; omega
        simp [e, this]
    have hdc' : DC ops (fun j => L j || j == i) := by
      intro i' j' h1 h2 h3 h4
      simp only [Bool.or_eq_true, beq_iff_eq] at h2 ⊢
      rcases h2 with h2 | rfl
      · exact .inl (hdc i' j' h1 h2 h3 h4)
      · exact .inl (hpre j' h3 h4)
    have hnext : ∀ (a' : Act) (w' : World) (μ' : Map) (v' : Value), Sub μ μ' → FrRel μ' (frameOf ops trs fr L ops.size) a.tmps → a.defers = [] → t.v.conc μ' = some v' → Rel w0 μ' (stateOf ops trs s (fun j => L j || j == i) ops.size) w' →
        wpAny P .any ops Q fuel (listed.setIfInBounds i true) (a.put o.dst v') w' := by
      intro _ w' μ' v' h1 h2 h3 h4 h5
      refine ih (listed.setIfInBounds i true) _ _ (by simp [hsz]) (by rw [hLn]; exact hdc') (by rw [hLn]; have := cnt_add hLi ops.size hin; omega) ?_
      rw [hLn]
      refine ⟨μ', h1, (h2.putA h4 o.dst).congr ?_ ?_, by rw [put_defers]; exact h3, h5⟩
      · rw [putV_length, frameOf_length, frameOf_length]
      · intro d
        have := frameOf_add (ops := ops) (trs := trs) (fr0 := fr) hin hLi (fun j h1 h2 h3 d hd hdj => by
          have hju : ops[j]? = some ops[j] := Array.getElem?_eq_getElem h2
          have hud : (ops[j]).dst = some d := by simpa [dstOf, hju] using hdj
          rw [hdst] at hd
          have hv := hS.vars i o j _ d hget hju (by omega) hud (.inl hd)
          rw [if_neg (by omega)] at hv
          rw [hpost j h2 hv] at h3; cases h3) d
        rw [this, hdst, hval]
    obtain ⟨μ', m1, m2, m3, m4⟩ := hat
    unfold wpOp
    rw [hget]
    simp only
    rw [wantedA_eq m2, hwant]
    cases hw : t.want with
    | true =>
      rw [if_pos rfl]
      left
      have hop := hrun hw
      rw [← hrestr] at hop
      exact wp_of_res (restr_op hC hX hN m4 m2 hop) fun μ'' v' w' r1 r2 r3 => hnext a w' μ'' v' (m1.trans r1) (m2.mono r1) m3 r2 r3
    | false =>
      rw [if_neg (by simp)]
      obtain ⟨u1, u2⟩ := hskip hw
      exact hnext a w μ' undef m1 m2 m3 (by rw [u1]; rfl) (by rw [u2]; exact m4)
end
end Go.Proofs.Ytdhnjkagmbfoaaa.AM
/- The abstract machine's regions that draw their order: a new variable that may come whenever it likes. -/
set_option linter.unusedSimpArgs false
set_option linter.unusedVariables false
namespace Go.Proofs.Ytdhnjkagmbfoaaa.AM
open Go Go.RowKit Go.MapKept
section
variable {P : Program} {w0 : World}
/-! ### A new variable that may come whenever it likes -/
theorem concPtrs_f {μ : Map} {n : Nat} : ∀ (l : List (Nat × Nat)), concPtrs ⟨μ.f, n⟩ l = concPtrs μ l
  | [] => rfl
  | p :: ps => by simp only [concPtrs, concPtrs_f ps]
theorem Cell.conc_f {μ : Map} {n : Nat} (c : Cell) : Cell.conc ⟨μ.f, n⟩ c = Cell.conc μ c := by
  cases c <;> try rfl
  case sl b off len cap => cases cap <;> rfl
  case fn f caps => simp only [Cell.conc, concPtrs_f]
theorem concs_f {μ : Map} {n : Nat} : ∀ (l : List Cell), concs ⟨μ.f, n⟩ l = concs μ l
  | [] => rfl
  | c :: cs => by simp only [concs, concs_f cs, Cell.conc_f]
theorem V1.conc_f {μ : Map} {n : Nat} (c : V1) : V1.conc ⟨μ.f, n⟩ c = V1.conc μ c := by
  cases c with
  | c x => exact Cell.conc_f x
  | agg cs => simp only [V1.conc, concs_f]
theorem conc1s_f {μ : Map} {n : Nat} : ∀ (l : List V1), conc1s ⟨μ.f, n⟩ l = conc1s μ l
  | [] => rfl
  | c :: cs => by simp only [conc1s, conc1s_f cs, V1.conc_f]
theorem V.conc_f {μ : Map} {n : Nat} (c : V) : V.conc ⟨μ.f, n⟩ c = V.conc μ c := by
  cases c with
  | one x => exact V1.conc_f x
  | tup cs => simp only [V.conc, conc1s_f]
theorem concE_f {μ : Map} {n : Nat} : ∀ (l : List (V1 × V1 × Nat)), concE ⟨μ.f, n⟩ l = concE μ l
  | [] => rfl
  | c :: cs => by simp only [concE, concE_f cs, V1.conc_f]
theorem sub_f {μ μ' : Map} (h : ∀ b l, μ b = some l → μ' b = some l) : Sub ⟨μ.f, 0⟩ ⟨μ'.f, 0⟩ := ⟨h, Nat.le_refl _, fun b hb => absurd hb (Nat.not_lt_zero _)⟩
theorem FrRel.weak {μ μ' : Map} {fr : Fr} {tmps : Array Value} (h : FrRel μ fr tmps) (hs : ∀ b l, μ b = some l → μ' b = some l) : FrRel μ' fr tmps := by
  refine ⟨h.1, fun t => ?_⟩
  have := h.2 t
  rw [← V.conc_f (n := 0)] at this
  have := V.conc_mono (sub_f hs) this
  rwa [V.conc_f] at this
theorem ObjRel.f {w0 w : World} {μ : Map} {s : St} {l : Loc} {o : Obj} {n : Nat} : ObjRel w0 ⟨μ.f, n⟩ s w l o ↔ ObjRel w0 μ s w l o := by
  cases o with
  | blk cells ty esz fam ver =>
    constructor
    · intro h
      have hb : BlkRel w0 ⟨μ.f, n⟩ s w l cells ty esz fam ver := h
      exact ⟨hb.hfam, hb.hver, hb.lt, hb.hcap, hb.own, fun q i c hc => by obtain ⟨v, h1, h2⟩ := hb.read q i c hc; rw [Cell.conc_f] at h1; exact ⟨v, h1, h2⟩⟩
    · intro h
      have hb : BlkRel w0 μ s w l cells ty esz fam ver := h
      exact ⟨hb.hfam, hb.hver, hb.lt, hb.hcap, hb.own, fun q i c hc => by obtain ⟨v, h1, h2⟩ := hb.read q i c hc; exact ⟨v, by rw [Cell.conc_f]; exact h1, h2⟩⟩
  | map es c => simp only [ObjRel, concE_f]
  | iter t p => exact Iff.rfl
theorem Rel.reserve {w0 w : World} {μ : Map} {s : St} (h : Rel w0 μ s w) (z : List Cell) (t : TypeId) : Rel w0 ⟨μ.f, s.next + 1⟩ (s.new z t 1) w := by
  refine ⟨St.wf_push h.wf _, h.below, ?_, ?_, Nat.le_refl _⟩
  · intro b l hl
    have hb := h.dom hl
    obtain ⟨o, ho, hr⟩ := h.obj b l hl
    refine ⟨o, by rw [St.new, St.get_push h.wf, if_neg (by omega)]; exact ho, ?_⟩
    have hr0 : ObjRel w0 ⟨μ.f, 0⟩ s w l o := ObjRel.f.2 hr
    have := hr0.keep (s' := s.new z t 1) (w' := w) (sub_f (μ := μ) (μ' := μ) fun _ _ q => q) (fun r hr2 => by rw [St.new, St.fam_push h.wf _ _ (by omega), if_neg (by omega)]) (by simp [St.new, St.push]) rfl
    exact ObjRel.f.2 (ObjRel.f.1 this)
  · intro b1 b2 l1 l2 hne h1 h2 he
    have hb1 := h.dom h1
    have hb2 := h.dom h2
    obtain ⟨c1, t1, g1, f, v1, c2, t2, g2, v2, q1, q2, q3⟩ := h.apart b1 b2 l1 l2 hne h1 h2 he
    obtain ⟨o', ho', hr⟩ := h.obj b1 l1 h1
    rw [q1] at ho'; cases ho'
    have hf := BlkRel.hfam hr
    refine ⟨c1, t1, g1, f, v1, c2, t2, g2, v2, by rw [St.new, St.get_push h.wf, if_neg (by omega)]; exact q1, by rw [St.new, St.get_push h.wf, if_neg (by omega)]; exact q2, ?_⟩
    rw [St.new, St.fam_push h.wf _ _ (by omega), if_neg (by omega)]; exact q3
theorem unused_of {s : St} {a : Nat} {z : List Cell} {t : TypeId} (h : unusedAt s a z t = true) : ∃ fam ver, s.get a = some (.blk z t 1 fam ver) ∧ fam < s.next ∧ ver ≤ (s.fam fam).1 := by
  unfold unusedAt at h
  split at h
  · rename_i cells ty esz fam ver hg
    simp only [Bool.and_eq_true, decide_eq_true_eq, beq_iff_eq] at h
    obtain ⟨⟨⟨⟨rfl, rfl⟩, rfl⟩, h4⟩, h5⟩ := h
    exact ⟨fam, ver, hg, h4, h5⟩
  · cases h
theorem Rel.reveal {w0 w : World} {μ : Map} {s : St} (h : Rel w0 μ s w) {a : Nat} {z : List Cell} {t : TypeId} {v : Value} (ha : μ a = none) (hu : unusedAt s a z t = true) (hz : ∀ μ, concs μ z = some v.cells.toList) :
    Rel w0 ⟨fun x => if x = a then some ⟨w.heap.size, 0, z.length⟩ else μ x, μ.n⟩ s (w.alloc (.cells v.cells t)) := by
  obtain ⟨fam, ver, u1, u2, u3⟩ := unused_of hu
  have hzl := concs_length (hz μ)
  rw [Array.length_toList] at hzl
  have hbd := below_alloc' w (.cells v.cells t)
  have hnew : (w.alloc (.cells v.cells t)).heap[w.heap.size]? = some (.cells v.cells t (0, 0)) := heap_push_new w _
  have hw : ∀ b l, μ b = some l → (⟨fun x => if x = a then some ⟨w.heap.size, 0, z.length⟩ else μ x, μ.n⟩ : Map) b = some l := by
    intro b l hl
    have : b ≠ a := fun e => by subst e; rw [ha] at hl; cases hl
    show (if b = a then _ else _) = _
    rw [if_neg this]; exact hl
  refine ⟨h.wf, h.below.trans (hbd.mono h.size), ?_, ?_, h.hor⟩
  · intro b l hl
    by_cases e : b = a
    · subst e
      have hl' : (if b = b then some (⟨w.heap.size, 0, z.length⟩ : Loc) else μ b) = some l := hl
      rw [if_pos rfl] at hl'
      cases hl'
      refine ⟨_, u1, ?_⟩
      refine ⟨u2, u3, (Array.getElem?_eq_some_iff.1 hnew).1, by simp, fun _ => ⟨h.size, _, hnew, by simp; omega⟩, fun _ i c hi => ?_⟩
      obtain ⟨x, q1, q2⟩ := concs_get (hz _) hi
      refine ⟨x, q1, ?_⟩
      rw [Nat.zero_add]
      simp only [World.cell?, hnew, Option.isSome_none, Bool.false_eq_true, if_false]
      simpa using q2
    · have hl' : (if b = a then some (⟨w.heap.size, 0, z.length⟩ : Loc) else μ b) = some l := hl
      rw [if_neg e] at hl'
      obtain ⟨o, ho, hr⟩ := h.obj b l hl'
      refine ⟨o, ho, ?_⟩
      have hr0 : ObjRel w0 ⟨μ.f, 0⟩ s w l o := ObjRel.f.2 hr
      have := hr0.keep (s' := s) (w' := w.alloc (.cells v.cells t)) (sub_f hw) (fun _ _ => rfl) (Nat.le_refl _) (hbd.block _ hr.lt)
      exact ObjRel.f.2 (ObjRel.f.1 this)
  · intro b1 b2 l1 l2 hne h1 h2 he
    have g1 : (if b1 = a then some (⟨w.heap.size, 0, z.length⟩ : Loc) else μ b1) = some l1 := h1
    have g2 : (if b2 = a then some (⟨w.heap.size, 0, z.length⟩ : Loc) else μ b2) = some l2 := h2
    by_cases e1 : b1 = a
    · rw [if_pos e1] at g1
      rw [if_neg (by omega)] at g2
      cases g1
      obtain ⟨o, ho, hr⟩ := h.obj b2 l2 g2
      have := hr.lt
      simp only at he
      omega
    · rw [if_neg e1] at g1
      by_cases e2 : b2 = a
      · rw [if_pos e2] at g2
        cases g2
        obtain ⟨o, ho, hr⟩ := h.obj b1 l1 g1
        have := hr.lt
        simp only at he
        omega
      · rw [if_neg e2] at g2
        exact h.apart b1 b2 l1 l2 hne g1 g2 he
theorem unfloatL_get {d : Nat} : ∀ (l : List Oper) (i j : Nat), (unfloatL d l i)[j]? = (l[j]?).map fun o => if j = i then { o with op := .move (.tmp d) } else o
  | [], i, j => by simp [unfloatL]
  | o :: l, 0, 0 => rfl
  | o :: l, 0, j + 1 => by
    simp only [unfloatL, List.getElem?_cons_succ, Nat.add_eq_zero_iff, Nat.one_ne_zero, and_false, if_false]
    cases l[j]? <;> rfl
  | o :: l, i + 1, 0 => by simp [unfloatL]
  | o :: l, i + 1, j + 1 => by
    simp only [unfloatL, List.getElem?_cons_succ, unfloatL_get l i j, Nat.add_right_cancel_iff]
theorem unfloatL_len {d : Nat} : ∀ (l : List Oper) (i : Nat), (unfloatL d l i).length = l.length
  | [], i => rfl
  | o :: l, 0 => rfl
  | o :: l, i + 1 => by simp only [unfloatL, List.length_cons, unfloatL_len l i]
theorem unfloat_get {rops : Array Oper} {i d j : Nat} : (unfloat rops i d)[j]? = (rops[j]?).map fun o => if j = i then { o with op := .move (.tmp d) } else o := by
  unfold unfloat
  rw [← Array.getElem?_toList, ← Array.getElem?_toList]
  exact unfloatL_get _ _ _
theorem unfloat_size {rops : Array Oper} {i d : Nat} : (unfloat rops i d).size = rops.size := by
  rw [← Array.length_toList, ← Array.length_toList]
  exact unfloatL_len _ _
theorem unfloat_dst {rops : Array Oper} {i d j : Nat} : ((unfloat rops i d)[j]?).bind (·.dst) = (rops[j]?).bind (·.dst) := by
  rw [unfloat_get]
  cases rops[j]? with
  | none => rfl
  | some o => simp only [Option.map_some, Option.bind_some]; split <;> rfl
theorem wantedA_unfloat {rops : Array Oper} {i d : Nat} (fr : Fr) (o : Oper) : wantedA rops fr o = wantedA (unfloat rops i d) fr o := by
  unfold wantedA
  cases o.guard with
  | none => rfl
  | some jw => simp only [unfloat_dst]
theorem ready_unfloat {rops : Array Oper} {i d : Nat} (listed : Array Bool) : Region.ready .any (unfloat rops i d) listed = Region.ready .any rops listed := by
  unfold Region.ready
  rw [unfloat_size]
  refine List.filter_congr fun j hj => ?_
  congr 1
  rw [unfloat_get]
  cases rops[j]? with
  | none => rfl
  | some o => simp only [Option.map_some, Option.getD_some]; split <;> rfl
theorem frameOf_base {ops : Array Oper} {trs : List Tr} {fa fb : Fr} {L L' : Nat → Bool} {t : Nat} (hl : fa.size = fb.size) : ∀ k, (∀ j, j < k → dstOf ops j = some t → L j = L' j) → (fa.get t = fb.get t ∨ ∃ j, j < k ∧ dstOf ops j = some t ∧ L j = true) → t < fa.size → (frameOf ops trs fa L k).get t = (frameOf ops trs fb L' k).get t
  | 0, _, h, _ => by
    rcases h with h | ⟨j, h, _⟩
    · exact h
    · omega
  | k + 1, hag, h, ht => by
    simp only [frameOf]
    have hsz : (frameOf ops trs fa L k).size = (frameOf ops trs fb L' k).size := by rw [frameOf_length, frameOf_length, hl]
    by_cases hd : dstOf ops k = some t
    · rw [← hag k (by omega) hd]
      cases hL : L k with
      | true =>
        simp only [if_true, hd, putV]
        rw [Fr.put_get, Fr.put_get, if_pos ⟨rfl, by rw [frameOf_length]; exact ht⟩, if_pos ⟨rfl, by rw [← hsz, frameOf_length]; exact ht⟩]
      | false =>
        simp only [Bool.false_eq_true, if_false]
        refine frameOf_base hl k (fun j hj => hag j (by omega)) ?_ ht
        rcases h with h | ⟨j, h1, h2, h3⟩
        · exact .inl h
        · by_cases e : j = k
          · subst e; rw [hL] at h3; cases h3
          · exact .inr ⟨j, by omega, h2, h3⟩
    · have ih := frameOf_base (trs := trs) hl k (L := L) (L' := L') (fun j hj => hag j (by omega)) (by
        rcases h with h | ⟨j, h1, h2, h3⟩
        · exact .inl h
        · by_cases e : j = k
          · subst e; exact absurd h2 hd
          · exact .inr ⟨j, by omega, h2, h3⟩) ht
      have h1 := putV_other (fr := frameOf ops trs fa L k) (v := valOf trs k) hd
      have h2 := putV_other (fr := frameOf ops trs fb L' k) (v := valOf trs k) hd
      split <;> split <;> simp only [h1, h2, ih]
/-- Where a run is to come, with a new variable that may not have turned up yet. -/
def AtF (w0 : World) (μ : Map) (fr : Fr) (s : St) (b : Nat) (here : Bool) (a : Act) (w : World) : Prop := ∃ μ', Sub μ μ' ∧ FrRel μ' fr a.tmps ∧ a.defers = [] ∧ Rel w0 μ' s w ∧ (here = false → μ' b = none ∧ b < μ'.n)
theorem draw_free {X : Spec} {callF : CallF} (hC : CallOK P w0 callF) (hX : SpecAt P X w0) (hN : PlainNames P) {Q : Exit → Act → World → Prop} {fr fr' : Fr} {s0 s s' : St} {trs : List Tr} {μ : Map} {rops ops : Array Oper} {fi fd : Nat} {ft : TypeId} {z : List Cell} {zv : Value} {oi : Oper}
    (hops : ops = unfloat rops fi fd) (hoi : rops[fi]? = some oi) (hop : oi.op = .alloc ft) (hod : oi.dst = some fd) (hog : oi.guard = none) (hzr : ∀ w, (zeroValue ft).run P w = .ok zv w) (hzc : ∀ μ, concs μ z = some zv.cells.toList) (hμn : μ.n ≤ s0.next)
    (hS : Static ops) (T : TraceOK P X callF ops ops.toList trs (fr.put fd (ptrV s0.next 0)) s fr' s') (hD : dynOK P X callF ops trs s = true) (hF : freeOK ops trs fi fd s0.next z ft s = true) (hQ : ∀ a' w', At w0 μ fr' s' a' w' → Q .normal a' w') :
    ∀ (fuel : Nat) (listed : Array Bool) (a : Act) (w : World), listed.size = ops.size → DC ops (fun j => listed.getD j false) → cnt (fun j => listed.getD j false) ops.size = fuel →
      AtF w0 μ (frameOf ops trs fr (fun j => listed.getD j false) ops.size) (stateOf ops trs s (fun j => listed.getD j false) ops.size) s0.next (listed.getD fi false) a w → wpAny P .any rops Q fuel listed a w := by
  have hfin : fi < ops.size := by rw [hops, unfloat_size]; exact (Array.getElem?_eq_some_iff.1 hoi).1
  have hfo : ops[fi]? = some { oi with op := .move (.tmp fd) } := by rw [hops, unfloat_get, hoi, Option.map_some, if_pos rfl]
  have hfd : dstOf ops fi = some fd := by simp [dstOf, hfo, hod]
  have hro : ∀ k, k ≠ fi → rops[k]? = ops[k]? := by
    intro k hk
    rw [hops, unfloat_get]
    cases rops[k]? with
    | none => rfl
    | some o => simp only [Option.map_some]; rw [if_neg hk]
  have hF' := hF
  unfold freeOK at hF'
  simp only [Bool.and_eq_true, List.all_eq_true, List.mem_range] at hF'
  obtain ⟨⟨hF1, hF2⟩, hF3⟩ := hF'
  have hbase : ∀ d, d ≠ fd → fr.get d = (fr.put fd (ptrV s0.next 0)).get d := by
    intro d hd
    rw [Fr.put_get, if_neg (fun q => hd q.1.symm)]
  have hbsz : fr.size = (fr.put fd (ptrV s0.next 0)).size := by rw [Fr.put_size]
  -- frames over either beginning
  have hfr2 : ∀ (L L' : Nat → Bool) (d : Nat), (∀ j, j < ops.size → dstOf ops j = some d → L j = L' j) → (d = fd → L fi = true) → (frameOf ops trs fr L ops.size).get d = (frameOf ops trs (fr.put fd (ptrV s0.next 0)) L' ops.size).get d := by
    intro L L' d hag hd
    by_cases hlt : d < fr.size
    · refine frameOf_base hbsz ops.size hag ?_ hlt
      by_cases e : d = fd
      · subst e; exact .inr ⟨fi, hfin, hfd, hd rfl⟩
      · exact .inl (hbase d e)
    · rw [Fr.get_out _ _ (by rw [frameOf_length]; exact hlt), Fr.get_out _ _ (by rw [frameOf_length, ← hbsz]; exact hlt)]
  -- all listed: the text's order's end
  have hend : ∀ (listed : Array Bool) (a : Act) (w : World), (∀ j, j < ops.size → listed.getD j false = true) → AtF w0 μ (frameOf ops trs fr (fun j => listed.getD j false) ops.size) (stateOf ops trs s (fun j => listed.getD j false) ops.size) s0.next (listed.getD fi false) a w → Q .normal a w := by
    intro listed a w hall hat
    have := (TraceOK.at T ops.size (Nat.le_refl _)).2 rfl
    obtain ⟨μ', m1, m2, m3, m4, _⟩ := hat
    refine hQ a w ⟨μ', m1, m2.congr ?_ ?_, m3, ?_⟩
    · rw [this.1, frameOf_length, frameOf_length, ← hbsz]
    · intro d
      rw [this.1]
      exact (hfr2 _ _ d (fun j hj _ => hall j hj) (fun _ => hall fi hfin)).symm
    · rw [this.2, ← stateOf_agree (L := fun j => listed.getD j false) (L' := fun _ => true) ops.size (fun j hj _ => hall j hj)]
      exact m4
  have hready : ∀ (listed : Array Bool), listed.size = ops.size → Region.ready .any rops listed = [] → ∀ j, j < ops.size → listed.getD j false = true := by
    intro listed hsz hnil j
    rw [← ready_unfloat (i := fi) (d := fd), ← hops] at hnil
    induction j using Nat.strongRecOn with
    | _ j ih =>
      intro hj
      cases hl : listed.getD j false with
      | true => rfl
      | false =>
        exfalso
        have hget : ops[j]? = some ops[j] := Array.getElem?_eq_getElem hj
        have : j ∈ Region.ready .any ops listed := by
          simp only [Region.ready, List.mem_filter, List.mem_range, hj, true_and, Bool.and_eq_true, Bool.not_eq_true', hget, Option.map_some, Option.getD_some]
          refine ⟨?_, ?_⟩
          · simp only [Array.getD_eq_getD_getElem?, Array.getElem?_eq_getElem (show j < listed.size by omega), Option.getD_some] at hl ⊢
            exact hl
          · rw [Array.all_eq_true]
            intro k hk
            have he : (ops[j].after[k]) ∈ ops[j].after.toList := by simp
            cases hb : Region.binds .any ops[j].after[k] with
            | false => simp
            | true =>
              have hlt := hS.edge j _ hget _ he hb
              have := ih _ hlt (by omega)
              simp [this]
        rw [hnil] at this
        cases this
  intro fuel
  induction fuel with
  | zero =>
    intro listed a w hsz hdc hcnt hat
    have hall := cnt_zero ops.size hcnt
    refine ⟨?_, hend listed a w hall hat⟩
    rw [← ready_unfloat (i := fi) (d := fd), ← hops]
    simp only [Region.ready, List.filter_eq_nil_iff, List.mem_range]
    intro j hj
    have := hall j hj
    simp only [Array.getD_eq_getD_getElem?, Array.getElem?_eq_getElem (show j < listed.size by omega), Option.getD_some] at this ⊢
    simp [this]
  | succ fuel ih =>
    intro listed a w hsz hdc hcnt hat
    refine ⟨fun hnil => hend listed a w (hready listed hsz hnil) hat, fun i hi => ?_⟩
    rw [← ready_unfloat (i := fi) (d := fd), ← hops] at hi
    simp only [Region.ready, List.mem_filter, List.mem_range, Bool.and_eq_true, Bool.not_eq_true'] at hi
    obtain ⟨hin, hil, hie⟩ := hi
    have hget : ops[i]? = some ops[i] := Array.getElem?_eq_getElem hin
    generalize ho : ops[i] = o at hget
    rw [hget, Option.map_some, Option.getD_some, Array.all_eq_true] at hie
    generalize hLd : (fun j => listed.getD j false) = L at hdc hcnt hat
    have hLj : ∀ j, listed.getD j false = L j := fun j => by rw [← hLd]
    have hLi : L i = false := by
      rw [← hLj]
      simp only [Array.getD_eq_getD_getElem?, Array.getElem?_eq_getElem (show i < listed.size by omega), Option.getD_some] at hil ⊢
      exact hil
    -- what must stand ahead of i is listed
    have hpre : ∀ j, j < ops.size → bitB (Region.before ops) i j = true → L j = true := by
      intro j hj hb
      obtain ⟨e, he, hbe, hje⟩ := hS.bef i o j hget hj hb
      have hel : L e.on = true := by
        obtain ⟨k, hk, rfl⟩ := List.getElem_of_mem he
        have := hie k (by simpa using hk)
        rw [← hLj]
        simp only [Array.getElem_toList] at hbe ⊢
        simpa [hbe] using this
      rcases hje with rfl | hje
      · exact hel
      · have hlt := hS.edge i o hget e he hbe
        exact hdc e.on j (by omega) hel hj hje
    have hpost : ∀ j, j < ops.size → bitB (Region.before ops) j i = true → L j = false := by
      intro j hj hb
      cases hl : L j with
      | false => rfl
      | true => rw [hdc j i hj hl hin hb] at hLi; cases hLi
    have hlen : i < trs.length := by rw [T.len, Array.length_toList]; exact hin
    obtain ⟨t, ht⟩ : ∃ t, trs[i]? = some t := ⟨_, List.getElem?_eq_getElem hlen⟩
    have hol : ops.toList[i]? = some o := by rw [Array.getElem?_toList]; exact hget
    obtain ⟨tw, t1, t2, t3⟩ := T.step i o t hol ht
    obtain ⟨tf, ts⟩ := (TraceOK.at T i (by omega)).1 t ht
    have hdst : dstOf ops i = o.dst := by simp [dstOf, hget]
    have hval : valOf trs i = t.v := by simp [valOf, ht]
    have hmov : moverAt ops i = isMover o.op := by simp [moverAt, hget]
    have hfi : t.fr = frameOf ops trs (fr.put fd (ptrV s0.next 0)) (fun j => decide (j < i)) ops.size := by
      rw [tf, frameOf_below (i := i) ops.size (by omega) (fun j h1 h2 => by simp; omega)]
      exact frameOf_pre i fun j hj => by simp [hj]
    have hsi : t.s = stateOf ops trs s (fun j => decide (j < i)) ops.size := by
      rw [ts, stateOf_below (i := i) ops.size (by omega) (fun j h1 h2 => by simp; omega)]
      exact stateOf_agree i fun j hj _ => by simp [hj]
    -- the frame where i looks
    have hlook : i ≠ fi → ∀ d, (o.dst = some d ∨ d ∈ o.looksAt ops) → (frameOf ops trs fr L ops.size).get d = t.fr.get d := by
      intro hne d hd
      rw [hfi]
      refine hfr2 _ _ d (fun j hj hdj => ?_) (fun e => ?_)
      rotate_left
      · subst e
        have h9 := hF3 i hin
        rw [hget, ht] at h9
        simp only [Bool.and_eq_true, Bool.or_eq_true, beq_iff_eq, Bool.not_eq_true', Bool.or_eq_false_iff] at h9
        rcases h9.2 with (h9 | h9) | h9
        · exact absurd h9 hne
        · exact hpre fi hfin h9
        · rcases hd with hd | hd
          · have := h9.1; simp [hd] at this
          · have := h9.2; simp [hd] at this
      by_cases e : j = i
      · subst e; rw [hLi]; simp
      · have hju : ops[j]? = some ops[j] := Array.getElem?_eq_getElem hj
        have hud : (ops[j]).dst = some d := by simpa [dstOf, hju] using hdj
        have := hS.vars i o j _ d hget hju e hud hd
        by_cases hlt : j < i
        · rw [if_pos hlt] at this
          rw [hpre j hj this]; simp [hlt]
        · rw [if_neg hlt] at this
          rw [hpost j hj this]; simp [hlt]
    have hrestr : i ≠ fi → restr (o.looksAt ops) (frameOf ops trs fr L ops.size) = restr (o.looksAt ops) t.fr := by
      intro hne
      exact restr_ext (by rw [frameOf_length, hfi, frameOf_length, hbsz]) fun d hd => hlook hne d (.inr hd)
    have hwant : i ≠ fi → wantedA ops (frameOf ops trs fr L ops.size) o = t.want := by
      intro hne
      rw [tw]; exact wantedA_congr fun d hd => hlook hne d (.inr hd)
    -- the state
    have hnewq : isMover o.op = false → stateOf ops trs s (fun j => L j || j == i) ops.size = stateOf ops trs s L ops.size := by
      intro hq
      refine stateOf_agree ops.size fun j hj hm => ?_
      have : j ≠ i := by intro e; subst e; rw [hmov, hq] at hm; cases hm
      simp [this]
    have hcur : isMover o.op = true → stateOf ops trs s L ops.size = t.s := by
      intro hm
      rw [hsi]
      refine stateOf_agree ops.size fun j hj hmj => ?_
      have hju : ops[j]? = some ops[j] := Array.getElem?_eq_getElem hj
      have hmu : isMover (ops[j]).op = true := by simpa [moverAt, hju] using hmj
      by_cases e : j = i
      · subst e; rw [hLi]; simp
      · by_cases hlt : j < i
        · rw [hpre j hj (hS.movers i o j _ hget hju hm hmu hlt)]; simp [hlt]
        · rw [hpost j hj (hS.movers j _ i o hju hget hmu hm (by omega))]; simp [hlt]
    have hnewm : isMover o.op = true → stateOf ops trs s (fun j => L j || j == i) ops.size = t.s' := by
      intro hm
      have := stateOf_top (ops := ops) (trs := trs) (s0 := s) (L := fun j => L j || j == i) hin (by rw [hmov]; exact hm) (by simp) fun j h1 h2 hmj => by
        have hju : ops[j]? = some ops[j] := Array.getElem?_eq_getElem h2
        have hmu : isMover (ops[j]).op = true := by simpa [moverAt, hju] using hmj
        have hji : (j == i) = false := by simp; omega
        rw [hpost j h2 (hS.movers j _ i o hju hget hmu hm h1), hji]; rfl
      rw [this, ht]; rfl
    have hrun : t.want = true → opRun P X callF (restr (o.looksAt ops) t.fr) (stateOf ops trs s L ops.size) o = some (t.v, stateOf ops trs s (fun j => L j || j == i) ops.size) := by
      intro hw
      cases hm : isMover o.op with
      | true => rw [hcur hm, hnewm hm]; exact t1 hw
      | false =>
        rw [hnewq hm]
        have hsame : ∀ σ, sameAt P X callF ops o t σ = true → opRun P X callF (restr (o.looksAt ops) t.fr) σ o = some (t.v, σ) := by
          intro σ hs
          unfold sameAt at hs
          split at hs
          · rename_i v s1 hop
            simp only [Bool.and_eq_true, decide_eq_true_eq, beq_iff_eq] at hs
            have := quiet_state hm hop hs.2
            rw [hop, hs.1, this]
          · cases hs
        refine hsame _ ?_
        unfold dynOK at hD
        simp only [List.all_eq_true, List.mem_range] at hD
        have hDi := hD i hin
        rw [hget, ht] at hDi
        simp only [hm, hw, Bool.not_true, Bool.or_self, Bool.false_or, Bool.and_eq_true, Bool.or_eq_true, List.any_eq_true, List.mem_range, List.all_eq_true, decide_eq_true_eq] at hDi
        rcases stateOf_last (ops := ops) (trs := trs) (s0 := s) (L := L) ops.size with ⟨q1, q2⟩ | ⟨j, q1, q2, q3, q4, q5⟩
        · rw [q1]
          rcases hDi.1 with ⟨j, hj, hmj, hb⟩ | hs
          · have := q2 j hj hmj
            rw [hpre j hj hb] at this; cases this
          · exact hs
        · rw [q4]
          have := hDi.2 j q1
          have hju : ops[j]? = some ops[j] := Array.getElem?_eq_getElem q1
          have hmu : isMover (ops[j]).op = true := by simpa [moverAt, hju] using q3
          have hjt : j < trs.length := by rw [T.len, Array.length_toList]; exact q1
          obtain ⟨tj, htj⟩ : ∃ t, trs[j]? = some t := ⟨_, List.getElem?_eq_getElem hjt⟩
          rw [hju, htj] at this
          simp only [hmu, Bool.not_true, Bool.false_or, Bool.or_eq_true, List.any_eq_true, List.mem_range, Bool.and_eq_true, decide_eq_true_eq] at this
          rw [htj]
          rcases this with (hb | ⟨k, hk, ⟨hjk, hmk⟩, hb⟩) | hs
          · rw [hpost j q1 hb] at q2; cases q2
          · have := q5 k hjk hk hmk
            rw [hpre k hk hb] at this; cases this
          · exact hs
    have hskip : t.want = false → t.v = undefV ∧ stateOf ops trs s (fun j => L j || j == i) ops.size = stateOf ops trs s L ops.size := by
      intro hw
      obtain ⟨u1, u2⟩ := t2 hw
      refine ⟨u1, ?_⟩
      cases hm : isMover o.op with
      | true => rw [hnewm hm, hcur hm, u2]
      | false => exact hnewq hm
    -- what comes next
    have hLn : (fun j => (listed.setIfInBounds i true).getD j false) = fun j => L j || j == i := by
      funext j
      rw [← hLj]
      simp only [Array.getD_eq_getD_getElem?, Array.getElem?_setIfInBounds, hsz]
      by_cases e : i = j
      · subst e; simp [hin]
      · have : (j == i) = false := by simp; omega
        simp [e, this]
    have hdc' : DC ops (fun j => L j || j == i) := by
      intro i' j' h1 h2 h3 h4
      simp only [Bool.or_eq_true, beq_iff_eq] at h2 ⊢
      rcases h2 with h2 | rfl
      · exact .inl (hdc i' j' h1 h2 h3 h4)
      · exact .inl (hpre j' h3 h4)
    have hnext : ∀ (w' : World) (μ' : Map) (v' : Value), Sub μ μ' → FrRel μ' (frameOf ops trs fr L ops.size) a.tmps → a.defers = [] → t.v.conc μ' = some v' → Rel w0 μ' (stateOf ops trs s (fun j => L j || j == i) ops.size) w' → (i ≠ fi → L fi = false → μ' s0.next = none ∧ s0.next < μ'.n) →
        wpAny P .any rops Q fuel (listed.setIfInBounds i true) (a.put o.dst v') w' := by
      intro w' μ' v' h1 h2 h3 h4 h5 h6
      refine ih (listed.setIfInBounds i true) _ _ (by simp [hsz]) (by rw [hLn]; exact hdc') (by rw [hLn]; have := cnt_add hLi ops.size hin; omega) ?_
      have hhere : (listed.setIfInBounds i true).getD fi false = (L fi || fi == i) := congrFun hLn fi
      rw [hLn, hhere]
      refine ⟨μ', h1, (h2.putA h4 o.dst).congr ?_ ?_, by rw [put_defers]; exact h3, h5, fun q => ?_⟩
      · rw [putV_length, frameOf_length, frameOf_length]
      · intro d
        have := frameOf_add (ops := ops) (trs := trs) (fr0 := fr) hin hLi (fun j h1 h2 h3 d hd hdj => by
          have hju : ops[j]? = some ops[j] := Array.getElem?_eq_getElem h2
          have hud : (ops[j]).dst = some d := by simpa [dstOf, hju] using hdj
          rw [hdst] at hd
          have hv := hS.vars i o j _ d hget hju (by omega) hud (.inl hd)
          rw [if_neg (by omega)] at hv
          rw [hpost j h2 hv] at h3; cases h3) d
        rw [this, hdst, hval]
      · simp only [Bool.or_eq_false_iff, beq_eq_false_iff_ne] at q
        exact h6 (fun e => q.2 e.symm) q.1
    obtain ⟨μ', m1, m2, m3, m4, m5⟩ := hat
    rw [hLj] at m5
    by_cases hifi : i = fi
    · -- the new variable turns up
      subst hifi
      rw [hfo] at hget
      cases hget
      unfold wpOp
      rw [hoi]
      simp only
      have hwt : Region.wanted oi (yielded rops a.tmps) = true := by unfold Region.wanted; rw [hog]
      rw [if_pos hwt]
      left
      rw [ht] at hF2
      simp only [Option.any_some, Bool.and_eq_true, decide_eq_true_eq] at hF2
      obtain ⟨ma, mb⟩ := m5 hLi
      have hq : isMover (Op.move (Operand.tmp fd)) = false := rfl
      have hun : unusedAt (stateOf ops trs s L ops.size) s0.next z ft = true := by
        rcases stateOf_last (ops := ops) (trs := trs) (s0 := s) (L := L) ops.size with ⟨q1, q2⟩ | ⟨j, q1, q2, q3, q4, q5⟩
        · rw [q1]; exact hF1
        · rw [q4]
          have h9 := hF3 j q1
          have hju : ops[j]? = some ops[j] := Array.getElem?_eq_getElem q1
          have hmu : isMover (ops[j]).op = true := by simpa [moverAt, hju] using q3
          have hjt : j < trs.length := by rw [T.len, Array.length_toList]; exact q1
          obtain ⟨tj, htj⟩ : ∃ t, trs[j]? = some t := ⟨_, List.getElem?_eq_getElem hjt⟩
          rw [hju, htj] at h9
          simp only [Bool.and_eq_true, Bool.or_eq_true, Bool.not_eq_true'] at h9
          rw [htj]
          rcases h9.1 with (h9 | h9) | h9
          · rw [hmu] at h9; cases h9
          · rw [hpost j q1 h9] at q2; cases q2
          · exact h9
      have hst : stateOf ops trs s (fun j => L j || j == i) ops.size = stateOf ops trs s L ops.size := hnewq hq
      have hrun : (execOp a.eval oi).run P w = .ok (.value (.pointer (some ⟨w.heap.size, 0, none⟩))) (w.alloc (.cells zv.cells ft)) := by
        simp only [execOp, hop]
        simp [Instr.alloc, hzr, newVar, newRow]
      unfold Oper.wp
      rw [hrun]
      have hre := m4.reveal ma hun hzc
      refine hnext _ _ _ ?_ (m2.weak fun b l hl => ?_) m3 ?_ (by rw [hst]; exact hre) (fun q => absurd rfl q)
      · refine ⟨fun b l hl => ?_, m1.2.1, fun b hb => ?_⟩
        · have := m1.1 b l hl
          show (if b = s0.next then _ else _) = _
          rw [if_neg (fun e => by subst e; rw [ma] at this; cases this)]; exact this
        · show (if b = s0.next then _ else _) = _
          rw [if_neg (by omega)]; exact m1.2.2 b hb
      · show (if b = s0.next then _ else _) = _
        rw [if_neg (fun e => by subst e; rw [ma] at hl; cases hl)]; exact hl
      · rw [hF2.2]
        simp [ptrV, V.conc, V1.conc, Cell.conc]
    · unfold wpOp
      rw [hro i hifi, hget]
      simp only
      rw [wantedA_eq m2, wantedA_unfloat (i := fi) (d := fd), ← hops, hwant hifi]
      cases hw : t.want with
      | true =>
        rw [if_pos rfl]
        left
        have hop' := hrun hw
        rw [← hrestr hifi] at hop'
        exact wp_of_res (restr_op hC hX hN m4 m2 hop') fun μ'' v' w' r1 r2 r3 => hnext w' μ'' v' (m1.trans r1) (m2.mono r1) m3 r2 r3 (fun _ q => by
          obtain ⟨ma, mb⟩ := m5 q
          exact ⟨by rw [r1.2.2 _ mb]; exact ma, Nat.lt_of_lt_of_le mb r1.2.1⟩)
      | false =>
        rw [if_neg (by simp)]
        obtain ⟨u1, u2⟩ := hskip hw
        exact hnext w μ' undef m1 m2 m3 (by rw [u1]; rfl) (by rw [u2]; exact m4) (fun _ q => m5 q)
end
end Go.Proofs.Ytdhnjkagmbfoaaa.AM
/- The abstract machine's code and calls: what it answers, the model answers, in whatever world. -/
set_option linter.unusedSimpArgs false
set_option linter.unusedVariables false
namespace Go.Proofs.Ytdhnjkagmbfoaaa.AM
open Go Go.RowKit Go.MapKept
section
variable {P : Program} {w0 : World}
theorem At.trans {μ μ' : Map} {fr : Fr} {s : St} {a : Act} {w : World} (h : Sub μ μ') (q : At w0 μ' fr s a w) : At w0 μ fr s a w := by
  obtain ⟨μ'', h1, h2⟩ := q
  exact ⟨μ'', h.trans h1, h2⟩
theorem Rel.drewW {μ : Map} {s : St} {w : World} (h : Rel w0 μ s w) : Rel w0 μ s { w with drawn := w.drawn + 1 } := h.drew
theorem floatAt_spec {ops : Array Oper} {k i d : Nat} {t : TypeId} (h : floatAt ops k = some (i, d, t)) : ∃ oi, ops[i]? = some oi ∧ oi.op = .alloc t ∧ oi.dst = some d ∧ oi.guard = none := by
  unfold floatAt at h
  split at h
  · rename_i o ho
    split at h
    · rename_i t' d' h1 h2 h3
      simp only at h
      split at h
      · cases h
        exact ⟨o, ho, h1, h2, h3⟩
      · cases h
    · cases h
  · cases h
theorem freeRun_sim {X : Spec} {callF : CallF} (hm : P.follows .mixedOrders = true) (hC : CallOK P w0 callF) (hX : SpecAt P X w0) (hN : PlainNames P) {ops : Array Oper} {Q : Exit → Act → World → Prop} {μ : Map} {w : World} {fr fr' : Fr} {s s' : St} {a : Act} {id i d : Nat} {t : TypeId} {oi : Oper}
    (hoi : ops[i]? = some oi) (hop : oi.op = .alloc t) (hod : oi.dst = some d) (hog : oi.guard = none)
    (h : Rel w0 μ s w) (hf : FrRel μ fr a.tmps) (hd : a.defers = []) (hx : freeRun P X callF ops fr s i d t = some (fr', s')) (hQ : ∀ a' w', At w0 μ fr' s' a' w' → Q .normal a' w') : (Code.region id ops true).wp P Q a w := by
  unfold freeRun at hx
  split at hx
  · rename_i z hz
    split at hx
    · rename_i hst
      split at hx
      · rename_i trs fr1 s1 htr
        split at hx
        · rename_i hdy
          cases hx
          simp only [Bool.and_eq_true] at hdy
          obtain ⟨zv, hzr, hzc⟩ := zeroT_run hz
          refine wp_region_any hm ?_
          have hL : (fun j => (Array.replicate ops.size false).getD j false) = fun _ => false := by
            funext j
            simp only [Array.getD_eq_getD_getElem?, Array.getElem?_replicate]
            split <;> rfl
          have key := draw_free (Q := Q) (μ := μ) (fr := fr) (s0 := s) hC hX hN rfl hoi hop hod hog hzr hzc h.hor (static_of hst) (trace_ok htr) hdy.1 hdy.2 hQ (unfloat ops i d).size (Array.replicate ops.size false) a { w with drawn := w.drawn + 1 } (by simp [unfloat_size]) (by
            intro i j _ h1
            have h2 := congrFun hL i
            simp only at h1 h2; rw [h1] at h2; cases h2) (by rw [hL]; exact cnt_none _) (by
            have hLi : (Array.replicate ops.size false).getD i false = false := congrFun hL i
            rw [hL, hLi]
            refine ⟨⟨μ.f, s.next + 1⟩, ⟨fun _ _ q => q, Nat.le_succ_of_le h.hor, fun _ _ => rfl⟩, ?_, hd, ?_, fun _ => ⟨h.fresh.2, Nat.lt_succ_self _⟩⟩
            · rw [frameOf_below (i := 0) (unfloat ops i d).size (by omega) (fun _ _ _ => rfl)]; exact hf.weak fun _ _ q => q
            · rw [stateOf_below (i := 0) (unfloat ops i d).size (by omega) (fun _ _ _ => rfl)]; exact h.drewW.reserve z t)
          rw [unfloat_size] at key
          exact key
        · cases hx
      · cases hx
    · cases hx
  · cases hx
theorem drawRun_sim {X : Spec} {callF : CallF} (hm : P.follows .mixedOrders = true) (hC : CallOK P w0 callF) (hX : SpecAt P X w0) (hN : PlainNames P) {ops : Array Oper} {Q : Exit → Act → World → Prop} {μ : Map} {w : World} {fr fr' : Fr} {s s' : St} {a : Act} {id : Nat}
    (h : Rel w0 μ s w) (hf : FrRel μ fr a.tmps) (hd : a.defers = []) (hx : drawRun P X callF ops fr s = some (fr', s')) (hQ : ∀ a' w', At w0 μ fr' s' a' w' → Q .normal a' w') : (Code.region id ops true).wp P Q a w := by
  unfold drawRun at hx
  split at hx
  · rename_i hst
    split at hx
    · rename_i trs fr1 s1 htr
      split at hx
      · rename_i hdy
        cases hx
        refine wp_region_any hm ?_
        have hL : (fun j => (Array.replicate ops.size false).getD j false) = fun _ => false := by
          funext j
          simp only [Array.getD_eq_getD_getElem?, Array.getElem?_replicate]
          split <;> rfl
        refine draw_any hC hX hN (static_of hst) (trace_ok htr) hdy hQ ops.size _ a _ (by simp) ?_ ?_ ?_
        · intro i j _ h1
          have h2 := congrFun hL i
          simp only at h1 h2; rw [h1] at h2; cases h2
        · rw [hL]; exact cnt_none _
        · rw [hL]
          refine ⟨μ, Sub.refl _, ?_, hd, ?_⟩
          · rw [frameOf_below (i := 0) ops.size (by omega) (fun _ _ _ => rfl)]; exact hf
          · rw [stateOf_below (i := 0) ops.size (by omega) (fun _ _ _ => rfl)]; exact h.drewW
      · cases hx
    · cases hx
  · split at hx
    · rename_i i d t hfl
      obtain ⟨k, _, hk⟩ := List.exists_of_findSome?_eq_some hfl
      obtain ⟨oi, o1, o2, o3, o4⟩ := floatAt_spec hk
      exact freeRun_sim hm hC hX hN o1 o2 o3 o4 h hf hd hx hQ
    · cases hx
/-- A function by its body. -/
theorem callOK_of {X : Spec} (n : Nat) (hA : ∀ (c : Code) (μ : Map) (w : World) (fr fr' : Fr) (s s' : St) (a : Act) (ex : Ex) (Q : Exit → Act → World → Prop), Rel w0 μ s w → FrRel μ fr a.tmps → a.defers = [] → go P X n c fr s = some (ex, fr', s') →
      (∀ a' w', At w0 μ fr' s' a' w' → Q ex.to a' w') → c.wp P Q a w) (callF : CallF)
    (hcall : ∀ f args s, callF f args s = callA P X n f args s) : CallOK P w0 callF := by
  intro f args s v s' hx
  rw [hcall] at hx
  unfold callA at hx
  split at hx
  · rename_i fn hfn
    split at hx
    · rename_i body hb
      refine ⟨⟨fn, hfn, by rw [hb]; rfl⟩, fun μ w vals h hv => ?_⟩
      have hlen : ∀ {args : List V} {vals : List Value}, concVs μ args = some vals → vals.length = args.length := by
        intro args
        induction args with
        | nil => intro vals h; simp [concVs] at h; subst h; rfl
        | cons v vs ih => intro vals h; obtain ⟨x, xs, h1, h2, rfl⟩ := concVs_cons.1 h; simp [ih h2]
      have hres : ∀ ex fr1 s1, (ex = Ex.normal ∨ ex = Ex.ret) → go P X n body (Fr.of args fn.ntmps) s = some (ex, fr1, s1) → (resultsA P s1 fr1 fn.results.toList).map (fun vs => (retV vs, s1)) = some (v, s') →
          Calls P f vals.toArray w fun e w' => ∃ μ' v', Sub μ μ' ∧ v.conc μ' = some v' ∧ e = .returned v' ∧ Rel w0 μ' s' w' := by
        intro ex fr1 s1 hex hgo hr
        simp only [Option.map_eq_some_iff, Prod.mk.injEq] at hr
        obtain ⟨vs, hr, rfl, rfl⟩ := hr
        refine calls_of_wp hfn hb ?_
        refine hA body μ w _ fr1 s s1 _ ex _ h (frame_start hv fn.ntmps) rfl hgo fun a' w' q => ?_
        obtain ⟨μ', q1, q2, q3, q4⟩ := q
        obtain ⟨v', r1, r2⟩ := results_sim (P := P) (fn := fn) q4 q2 hr
        rcases hex with rfl | rfl
        · exact ⟨q3, v', r2, μ', v', q1, r1, rfl, q4⟩
        · exact ⟨q3, v', r2, μ', v', q1, r1, rfl, q4⟩
      split at hx
      · rename_i fr1 s1 hgo; exact hres _ _ _ (.inl rfl) hgo hx
      · rename_i fr1 s1 hgo; exact hres _ _ _ (.inr rfl) hgo hx
      · cases hx
    · cases hx
  · cases hx
theorem go_sim {X : Spec} (hm : P.follows .mixedOrders = true) (hX : SpecAt P X w0) (hN : PlainNames P) : ∀ (n : Nat),
    (∀ (c : Code) (μ : Map) (w : World) (fr fr' : Fr) (s s' : St) (a : Act) (ex : Ex) (Q : Exit → Act → World → Prop), Rel w0 μ s w → FrRel μ fr a.tmps → a.defers = [] → go P X n c fr s = some (ex, fr', s') →
      (∀ a' w', At w0 μ fr' s' a' w' → Q ex.to a' w') → c.wp P Q a w) ∧
    (∀ (c : Code) (μ : Map) (w : World) (fr fr' : Fr) (s s' : St) (a : Act) (ex : Ex) (Q : Exit → Act → World → Prop), Rel w0 μ s w → FrRel μ fr a.tmps → a.defers = [] → go P X n (.loop c) fr s = some (ex, fr', s') →
      (∀ a' w', At w0 μ fr' s' a' w' → Q ex.to a' w') → Code.rounds P c Q n a w)
  | 0 => ⟨fun c μ w fr fr' s s' a ex Q h hf hd hx => by simp [go] at hx, fun c μ w fr fr' s s' a ex Q h hf hd hx => by simp [go] at hx⟩
  | n + 1 => by
    obtain ⟨hA, hB⟩ := go_sim hm hX hN n
    have hB' : ∀ (c : Code) (μ : Map) (w : World) (fr fr' : Fr) (s s' : St) (a : Act) (ex : Ex) (Q : Exit → Act → World → Prop), Rel w0 μ s w → FrRel μ fr a.tmps → a.defers = [] → go P X (n + 1) (.loop c) fr s = some (ex, fr', s') →
        (∀ a' w', At w0 μ fr' s' a' w' → Q ex.to a' w') → Code.rounds P c Q (n + 1) a w := by
      intro c μ w fr fr' s s' a ex Q h hf hd hx hQ
      simp only [go] at hx
      rw [rounds_succ]
      split at hx
      · rename_i fr1 s1 h1
        refine hA c μ w fr fr1 s s1 a .normal _ h hf hd h1 fun a1 w1 q => ?_
        obtain ⟨μ', q1, q2, q3, q4⟩ := q
        exact hB c μ' w1 fr1 fr' s1 s' a1 ex Q q4 q2 q3 hx fun a' w' q => hQ a' w' (At.trans q1 q)
      · rename_i hne
        refine hA c μ w fr fr' s s' a ex _ h hf hd hx fun a1 w1 q => ?_
        cases ex with
        | normal => exact absurd hx (hne _ _)
        | exit id => exact hQ a1 w1 q
        | ret => exact hQ a1 w1 q
    refine ⟨fun c μ w fr fr' s s' a ex Q h hf hd hx hQ => ?_, hB'⟩
    cases c with
    | skip =>
      simp only [go, Option.some.injEq, Prod.mk.injEq] at hx
      obtain ⟨rfl, rfl, rfl⟩ := hx
      exact wp_skip (hQ a w ⟨μ, Sub.refl _, hf, hd, h⟩)
    | ret =>
      simp only [go, Option.some.injEq, Prod.mk.injEq] at hx
      obtain ⟨rfl, rfl, rfl⟩ := hx
      exact wp_ret (hQ a w ⟨μ, Sub.refl _, hf, hd, h⟩)
    | exit id =>
      simp only [go, Option.some.injEq, Prod.mk.injEq] at hx
      obtain ⟨rfl, rfl, rfl⟩ := hx
      exact wp_exit (hQ a w ⟨μ, Sub.refl _, hf, hd, h⟩)
    | seq x y =>
      simp only [go] at hx
      refine wp_seq ?_
      split at hx
      · rename_i fr1 s1 h1
        refine hA x μ w fr fr1 s s1 a .normal _ h hf hd h1 fun a1 w1 q => ?_
        obtain ⟨μ', q1, q2, q3, q4⟩ := q
        exact hA y μ' w1 fr1 fr' s1 s' a1 ex Q q4 q2 q3 hx fun a' w' q => hQ a' w' (At.trans q1 q)
      · rename_i hne
        refine hA x μ w fr fr' s s' a ex _ h hf hd hx fun a1 w1 q => ?_
        cases ex with
        | normal => exact absurd hx (hne _ _)
        | exit id => exact hQ a1 w1 q
        | ret => exact hQ a1 w1 q
    | cond c x y =>
      simp only [go] at hx
      split at hx
      · rename_i hc
        have := evalC_conc hf hc
        simp only [Cell.conc, Option.some.injEq] at this
        exact wp_cond_true this.symm (hA x μ w fr fr' s s' a ex Q h hf hd hx hQ)
      · rename_i hc
        have := evalC_conc hf hc
        simp only [Cell.conc, Option.some.injEq] at this
        exact wp_cond_false this.symm (hA y μ w fr fr' s s' a ex Q h hf hd hx hQ)
      · cases hx
    | block id c =>
      simp only [go] at hx
      refine wp_block ?_
      split at hx
      · rename_i i fr1 s1 h1
        refine hA c μ w fr fr1 s s1 a (.exit i) _ h hf hd h1 fun a1 w1 q => ?_
        simp only [Ex.to, Exit.inBlock]
        split at hx
        · rename_i e
          cases hx
          rw [if_pos e]; exact hQ a1 w1 q
        · rename_i e
          cases hx
          rw [if_neg e]; exact hQ a1 w1 q
      · rename_i hne
        refine hA c μ w fr fr' s s' a ex _ h hf hd hx fun a1 w1 q => ?_
        cases ex with
        | normal => exact hQ a1 w1 q
        | exit id => exact absurd hx (hne _ _ _)
        | ret => exact hQ a1 w1 q
    | loop c => exact wp_loop_rounds (n + 1) (hB' c μ w fr fr' s s' a ex Q h hf hd hx hQ)
    | region id ops draw =>
      simp only [go, Option.map_eq_some_iff, Prod.mk.injEq] at hx
      obtain ⟨⟨fr1, s1⟩, hx, rfl, rfl, rfl⟩ := hx
      have hC : ∀ callF : CallF, (∀ f args s, callF f args s = callA P X n f args s) → CallOK P w0 callF := fun callF hc => callOK_of n hA callF hc
      cases draw with
      | true => exact drawRun_sim hm (hC _ fun f args s => rfl) hX hN h hf hd hx hQ
      | false => exact wp_region_list (opsRun_sim (hC _ fun f args s => rfl) hX hN ops ops.toList h hf hd hx hQ)
    | _ => simp [go] at hx
/-- WHAT THE ABSTRACT MACHINE ANSWERS, THE MODEL ANSWERS. -/
theorem call_sim {X : Spec} (hm : P.follows .mixedOrders = true) (hX : SpecAt P X w0) (hN : PlainNames P) {n f : Nat} {args : List V} {s s' : St} {v : V} (hx : callA P X n f args s = some (v, s')) {μ : Map} {w : World} {vals : List Value} (h : Rel w0 μ s w) (hv : concVs μ args = some vals) :
    Calls P f vals.toArray w fun e w' => ∃ μ' v', Sub μ μ' ∧ v.conc μ' = some v' ∧ e = .returned v' ∧ Rel w0 μ' s' w' :=
  (callOK_of n (go_sim hm hX hN n).1 (callA P X n) (fun _ _ _ => rfl) _ _ _ _ _ hx).2 μ w vals h hv
theorem rel_start (w : World) : Rel w nowhere St.empty w := ⟨⟨rfl, rfl⟩, Below.refl _ _, fun b l h => (by cases h), fun b1 b2 l1 l2 _ h => (by cases h), Nat.zero_le _⟩
def isTrue : Option (V × St) → Bool
  | some (.one (.c (.bool true)), _) => true
  | _ => false
/-- A function of nothing that the abstract machine finds true, in one world. -/
theorem true_at {X : Spec} {w : World} (hm : P.follows .mixedOrders = true) (hX : SpecAt P X w) (hN : PlainNames P) {n f : Nat} (h : isTrue (callA P X n f [] St.empty) = true) :
    Calls P f #[] w fun e w' => e = .returned (.bool true) ∧ Below w.heap.size w w' := by
  unfold isTrue at h
  split at h
  · rename_i s' hx
    refine (call_sim hm hX hN hx (rel_start w) (vals := []) rfl).mono fun e w' q => ?_
    obtain ⟨μ', v', _, q2, rfl, q4⟩ := q
    simp only [V.conc, V1.conc, Cell.conc, Option.some.injEq] at q2
    subst q2
    exact ⟨rfl, q4.below⟩
  · cases h
/-- A function of nothing that the abstract machine finds true. -/
theorem true_of {X : Spec} (hm : P.follows .mixedOrders = true) (hX : SpecOK P X) (hN : PlainNames P) {n f : Nat} (h : isTrue (callA P X n f [] St.empty) = true) (w : World) :
    Calls P f #[] w fun e w' => e = .returned (.bool true) ∧ Below w.heap.size w w' := true_at hm (hX.at_ w) hN h
def noSpec : Spec := fun _ _ => none
theorem noSpec_ok : SpecOK P noSpec := fun f vals r h => by cases h
def plainNamesB (P : Program) : Bool := P.funcs.all fun fn => !(fn.name == "runtime.NumGoroutine")
theorem plainNames_of (h : plainNamesB P = true) : PlainNames P := by
  intro f fn hf _
  unfold plainNamesB at h
  rw [Array.all_eq_true] at h
  obtain ⟨hlt, rfl⟩ := Array.getElem?_eq_some_iff.1 hf
  simpa using h f hlt
end
#print axioms true_of
end Go.Proofs.Ytdhnjkagmbfoaaa.AM
/- Facts: closed calls that the abstract machine ran, told as a table of a function of a string. -/
namespace Go.Proofs.Ytdhnjkagmbfoaaa.AM
open Go Go.RowKit Go.MapKept
def bytesOf (ns : List Nat) : ByteArray := ⟨(ns.map Nat.toUInt8).toArray⟩
end Go.Proofs.Ytdhnjkagmbfoaaa.AM
