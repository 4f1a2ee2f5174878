/- The abstract machine's operations, the last: maps, iterators, functions, pure ones; and each operation. -/
import Derived.Test.YtlmmeihgjpgooaaAMS9
set_option linter.unusedSimpArgs false
set_option linter.unusedVariables false
namespace Go.Proofs.Ytlmmeihgjpgooaa.AM
open Go Go.RowKit Go.MapKept
section
variable {P : Program} {w0 w : World} {μ : Map} {s : St}

theorem concE_length : ∀ {es : List (V1 × V1 × Nat)} {l : List MapEntry}, concE μ es = some l → l.length = es.length
  | [], l, h => by simp [concE] at h; subst h; rfl
  | e :: es, l, h => by
    obtain ⟨k, v, r, h1, h2, h3, rfl⟩ := concE_cons.1 h
    simp [concE_length h3]
theorem concE_append : ∀ {a b : List (V1 × V1 × Nat)} {va vb : List MapEntry}, concE μ a = some va → concE μ b = some vb → concE μ (a ++ b) = some (va ++ vb)
  | [], b, va, vb, h1, h2 => by simp [concE] at h1; subst h1; simpa using h2
  | e :: es, b, va, vb, h1, h2 => by
    obtain ⟨k, v, r, q1, q2, q3, rfl⟩ := concE_cons.1 h1
    exact concE_cons.2 ⟨k, v, _, q1, q2, concE_append q3 h2, rfl⟩
theorem concE_get : ∀ {es : List (V1 × V1 × Nat)} {l : List MapEntry}, concE μ es = some l → ∀ {j : Nat} {e : V1 × V1 × Nat}, es[j]? = some e → ∃ x, l[j]? = some x ∧ e.1.conc μ = some x.key ∧ e.2.1.conc μ = some x.val ∧ x.born = e.2.2
  | [], l, h, j, e, he => by simp at he
  | p :: ps, l, h, j, e, he => by
    obtain ⟨k, v, r, q1, q2, q3, rfl⟩ := concE_cons.1 h
    cases j with
    | zero => simp at he; subst he; exact ⟨_, rfl, q1, q2, rfl⟩
    | succ j => simp at he; obtain ⟨x, p1, p2⟩ := concE_get q3 he; exact ⟨x, by simpa using p1, p2⟩
theorem concE_modify (f : V1 × V1 × Nat → V1 × V1 × Nat) (g : MapEntry → MapEntry) (hfg : ∀ e x, e.1.conc μ = some x.key → e.2.1.conc μ = some x.val → x.born = e.2.2 → (f e).1.conc μ = some (g x).key ∧ (f e).2.1.conc μ = some (g x).val ∧ (g x).born = (f e).2.2) :
    ∀ {es : List (V1 × V1 × Nat)} {l : List MapEntry} (j : Nat), concE μ es = some l → concE μ (es.modify j f) = some (l.modify j g)
  | [], l, j, h => by simp [concE] at h; subst h; cases j <;> simp [concE]
  | e :: es, l, 0, h => by
    obtain ⟨k, v, r, q1, q2, q3, rfl⟩ := concE_cons.1 h
    obtain ⟨p1, p2, p3⟩ := hfg e { key := k, val := v, born := e.2.2 } q1 q2 rfl
    simp only [List.modify_zero_cons]
    exact concE_cons.2 ⟨_, _, r, p1, p2, q3, by rw [← p3]⟩
  | e :: es, l, j + 1, h => by
    obtain ⟨k, v, r, q1, q2, q3, rfl⟩ := concE_cons.1 h
    simp only [List.modify_succ_cons]
    exact concE_cons.2 ⟨k, v, _, q1, q2, concE_modify f g hfg j q3, rfl⟩
theorem concE_erase : ∀ {es : List (V1 × V1 × Nat)} {l : List MapEntry} (j : Nat), concE μ es = some l → concE μ (es.eraseIdx j) = some (l.eraseIdx j)
  | [], l, j, h => by simp [concE] at h; subst h; simp [concE]
  | e :: es, l, 0, h => by
    obtain ⟨k, v, r, q1, q2, q3, rfl⟩ := concE_cons.1 h
    simpa using q3
  | e :: es, l, j + 1, h => by
    obtain ⟨k, v, r, q1, q2, q3, rfl⟩ := concE_cons.1 h
    simp only [List.eraseIdx_cons_succ]
    exact concE_cons.2 ⟨k, v, _, q1, q2, concE_erase j q3, rfl⟩
theorem map_ne (es : List (V1 × V1 × Nat)) (clock : Nat) : ∀ c t e f v, (Obj.map es clock) ≠ .blk c t e f v := by intro c t e f v h; cases h
theorem setMap (h : Rel w0 μ s w) {b : Nat} {l : Loc} (hl : μ b = some l) {es es2 : List (V1 × V1 × Nat)} {clock clock2 : Nat} (ho : s.get b = some (.map es clock)) {es' es2' : Array MapEntry} (h0 : w0.heap.size ≤ l.blk) (hw : w.heap[l.blk]? = some (.map es' clock)) (he : concE μ es2 = some es2'.toList) :
    Rel w0 μ (s.setObj b (.map es2 clock2)) { w with heap := w.heap.setIfInBounds l.blk (.map es2' clock2) } :=
  h.setO hl ho (map_ne _ _) h0 _ ⟨h0, es2', (heap_set hw).1, he⟩
theorem sameKey_eq {d : TypeDesc} {a b : V1} (h : sameKey d a b = some true) : a = b := by
  unfold sameKey at h
  split at h
  · split at h
    · rename_i e; subst e; simp only [Option.some.injEq, beq_iff_eq] at h; subst h; rfl
    · cases h
  · simp only [Option.some.injEq] at h; rw [bytes_beq] at h; subst h; rfl
  · simp only [Option.some.injEq, beq_iff_eq] at h; subst h; rfl
  · cases h
theorem xMapUpdate_sim (h : Rel w0 μ s w) {t : TypeId} {b : Nat} {m' : Value} (hm : (Cell.map b).conc μ = some m') {k x : V1} {k' x' : Value} (hk' : k.conc μ = some k') (hx' : x.conc μ = some x') {v : V} {s' : St} (hx : xMapUpdate P s t b k x = some (v, s')) :
    v = undefV ∧ ∃ w', Rel w0 μ s' w' ∧ (Instr.mapUpdate t m' k' x').run P w = .ok () w' := by
  obtain ⟨l, hl, rfl⟩ := conc_map hm
  unfold xMapUpdate at hx
  split at hx
  · rename_i kt et hu
    split at hx
    · rename_i d hd
      split at hx
      · rename_i hki
        have hik := keyIs_isKey hki hk'
        split at hx
        · rename_i es clock ho
          obtain ⟨h0, es', q1, q2⟩ := map_obj h hl ho
          have hck : ∀ e, (Instr.checkKey e 10000 kt k').run P w = .ok () w := fun e => run_checkKey (P := P) (w := w) hd hik e 9999
          split at hx
          · rename_i j v1 hf
            cases hx
            obtain ⟨r', p1, v', p2, rfl⟩ := find_sim hk' q2 hf
            obtain ⟨e, _, he1, he2⟩ := findA_lt hf
            simp only [Nat.sub_zero] at he1
            obtain ⟨y, y1, y2, y3, y4⟩ := concE_get q2 he1
            have hke := sameKey_eq he2
            rw [← hke, hk'] at y2
            cases y2
            have hfk := run_findKey (P := P) (w := w) hd p1
            have hR := setMap h hl ho (clock2 := clock) (es2' := es'.modify j fun e => { e with key := y.key, val := x' }) h0 q1 (by
              rw [Array.toList_modify]
              exact concE_modify (fun e => (k, x, e.2.2)) (fun e => { e with key := y.key, val := x' }) (fun e z _ _ z3 => ⟨hk', hx', z3⟩) j q2)
            have hks := run_keyThatStays (P := P) (w := w) hik
            refine ⟨rfl, _, hR, ?_⟩
            have hj : es'[j]? = some y := by rw [← Array.getElem?_toList]; exact y1
            simp [Instr.mapUpdate, run_underlying hu, MapKept.run_getObj_map q1, hck, hfk, hj, hks, MapKept.run_setObj_map _ q1]
          · rename_i hf
            cases hx
            obtain ⟨r', p1, rfl⟩ := find_sim hk' q2 hf
            have hfk := run_findKey (P := P) (w := w) hd p1
            have hR := setMap h hl ho (clock2 := clock + 1) (es2' := es'.push { key := k', val := x', born := clock }) h0 q1 (by
              rw [Array.toList_push]
              exact concE_append q2 ((concE_cons (e := (k, x, clock)) (es := [])).2 ⟨k', x', [], hk', hx', rfl, rfl⟩))
            refine ⟨rfl, _, hR, ?_⟩
            simp [Instr.mapUpdate, run_underlying hu, MapKept.run_getObj_map q1, hck, hfk, MapKept.run_setObj_map _ q1]
          · cases hx
        · cases hx
      · cases hx
    · cases hx
  · cases hx
theorem heap_same {w : World} {g : Nat} {o : Go.Obj} (h : w.heap[g]? = some o) : ({ w with heap := w.heap.setIfInBounds g o } : World) = w := by
  have : w.heap.setIfInBounds g o = w.heap := by
    apply Array.ext_getElem?
    intro i
    by_cases e : i = g
    · subst e
      rw [h]
      exact (heap_set h).1
    · simp [Ne.symm e]
  rw [this]
theorem xDelete_sim (h : Rel w0 μ s w) {ats : Array TypeId} {t ty : TypeId} {ts : List TypeId} (hats : ats.toList = t :: ts) {b : Nat} {m' : Value} (hm : (Cell.map b).conc μ = some m') {k : V1} {k' : Value} (hk' : k.conc μ = some k') {v : V} {s' : St} (hx : xDelete P s t b k = some (v, s')) :
    VRes w0 μ v s' ((Builtin.delete_ ats ty #[m', k']).run P w) := by
  have h0t : ats[0]? = some t := by rw [← Array.getElem?_toList, hats]; rfl
  obtain ⟨l, hl, rfl⟩ := conc_map hm
  unfold xDelete at hx
  split at hx
  · rename_i kt et hu
    split at hx
    · rename_i d hd
      split at hx
      · rename_i hki
        have hik := keyIs_isKey hki hk'
        split at hx
        · rename_i es clock ho
          obtain ⟨h0, es', q1, q2⟩ := map_obj h hl ho
          have hck : ∀ e, (Instr.checkKey e 10000 kt k').run P w = .ok () w := fun e => run_checkKey (P := P) (w := w) hd hik e 9999
          split at hx
          · rename_i j v1 hf
            cases hx
            obtain ⟨r', p1, v', p2, rfl⟩ := find_sim hk' q2 hf
            have hfk := run_findKey (P := P) (w := w) hd p1
            have hR := setMap h hl ho (clock2 := clock) (es2' := es'.eraseIdxIfInBounds j) h0 q1 (by
              rw [Array.toList_eraseIdxIfInBounds]
              exact concE_erase j q2)
            refine ⟨μ, .tuple #[], _, Sub.refl _, rfl, hR, ?_⟩
            simp [Builtin.delete_, h0t, run_underlying hu, MapKept.run_getObj_map q1, hck, hfk, MapKept.run_setObj_map _ q1]
          · rename_i hf
            cases hx
            obtain ⟨r', p1, rfl⟩ := find_sim hk' q2 hf
            have hfk := run_findKey (P := P) (w := w) hd p1
            refine ⟨μ, .tuple #[], w, Sub.refl _, rfl, h, ?_⟩
            simp [Builtin.delete_, h0t, run_underlying hu, MapKept.run_getObj_map q1, hck, hfk, MapKept.run_setObj_map _ q1, heap_same q1]
          · cases hx
        · cases hx
      · cases hx
    · cases hx
  · cases hx
theorem xLen_sim (h : Rel w0 μ s w) {ats : Array TypeId} {t ty : TypeId} {ts : List TypeId} (hats : ats.toList = t :: ts) {x : V1} {x' : Value} (hx' : x.conc μ = some x') {v : V} {s' : St} (hx : xLen P s t x = some (v, s')) :
    VRes w0 μ v s' ((Builtin.len_ ats ty #[x']).run P w) := by
  have h0t : ats[0]? = some t := by rw [← Array.getElem?_toList, hats]; rfl
  unfold xLen at hx
  split at hx
  · rename_i b hu
    cases hx
    simp only [V1.conc, Cell.conc, Option.some.injEq] at hx'; subst hx'
    exact ⟨μ, _, w, Sub.refl _, rfl, h, by simp [Builtin.len_, h0t, run_underlying hu, goInt]⟩
  · rename_i n e x hu
    cases hx
    exact ⟨μ, _, w, Sub.refl _, rfl, h, by simp [Builtin.len_, h0t, run_underlying hu, goInt]⟩
  · rename_i a x hu
    split at hx
    · rename_i n e ha
      cases hx
      exact ⟨μ, _, w, Sub.refl _, rfl, h, by simp [Builtin.len_, h0t, run_underlying hu, run_underlying ha, goInt]⟩
    · cases hx
  · rename_i e hu
    cases hx
    simp only [V1.conc, Cell.conc, Option.some.injEq] at hx'; subst hx'
    exact ⟨μ, _, w, Sub.refl _, rfl, h, by simp [Builtin.len_, h0t, run_underlying hu, goInt]⟩
  · rename_i e b off n cap hu
    cases hx
    obtain ⟨l, hl, rfl⟩ := conc_sl (show (Cell.sl b off n cap).conc μ = some x' from hx')
    exact ⟨μ, _, w, Sub.refl _, rfl, h, by simp [Builtin.len_, h0t, run_underlying hu, goInt]⟩
  · rename_i k e hu
    cases hx
    simp only [V1.conc, Cell.conc, Option.some.injEq] at hx'; subst hx'
    exact ⟨μ, _, w, Sub.refl _, rfl, h, by simp [Builtin.len_, h0t, run_underlying hu, goInt]⟩
  · rename_i k e b hu
    split at hx
    · rename_i es clock ho
      cases hx
      obtain ⟨l, hl, rfl⟩ := conc_map (show (Cell.map b).conc μ = some x' from hx')
      obtain ⟨h0, es', q1, q2⟩ := map_obj h hl ho
      have hlen := concE_length q2
      rw [Array.length_toList] at hlen
      exact ⟨μ, _, w, Sub.refl _, rfl, h, by simp [Builtin.len_, h0t, run_underlying hu, MapKept.run_getObj_map q1, goInt, hlen]⟩
    · cases hx
  · cases hx
theorem xCap_sim (h : Rel w0 μ s w) {ats : Array TypeId} {t ty : TypeId} {ts : List TypeId} (hats : ats.toList = t :: ts) {x : Cell} {x' : Value} (hx' : x.conc μ = some x') {v : V} {s' : St} (hx : xCap P s t x = some (v, s')) :
    VRes w0 μ v s' ((Builtin.cap_ ats ty #[x']).run P w) := by
  have h0t : ats[0]? = some t := by rw [← Array.getElem?_toList, hats]; rfl
  unfold xCap at hx
  split at hx
  · rename_i e hu
    cases hx
    simp only [Cell.conc, Option.some.injEq] at hx'; subst hx'
    exact ⟨μ, _, w, Sub.refl _, rfl, h, by simp [Builtin.cap_, h0t, run_underlying hu, goInt]⟩
  · rename_i e b off n c hu
    cases hx
    obtain ⟨l, hl, rfl⟩ := conc_sl hx'
    exact ⟨μ, _, w, Sub.refl _, rfl, h, by simp [Builtin.cap_, h0t, run_underlying hu, goInt, capAt]⟩
  · cases hx
theorem xClear_sim (h : Rel w0 μ s w) {ats : Array TypeId} {t ty : TypeId} {ts : List TypeId} (hats : ats.toList = t :: ts) {x : Cell} {x' : Value} (hx' : x.conc μ = some x') {v : V} {s' : St} (hx : xClear P s t x = some (v, s')) :
    VRes w0 μ v s' ((Builtin.clear_ ats ty #[x']).run P w) := by
  have h0t : ats[0]? = some t := by rw [← Array.getElem?_toList, hats]; rfl
  unfold xClear at hx
  split at hx
  · rename_i e he
    have hu := elemT_spec he
    split at hx
    · rename_i n z hn hz
      split at hx
      · rename_i hc
        obtain ⟨zv, hz1, hz2⟩ := zeroT_run hz
        have hzl := concs_length (hz2 μ)
        rw [Array.length_toList] at hzl
        split at hx
        · cases hx
          simp only [Cell.conc, Option.some.injEq] at hx'; subst hx'
          exact ⟨μ, .tuple #[], w, Sub.refl _, rfl, h, by simp [Builtin.clear_, h0t, run_underlying hu]⟩
        · rename_i b off len cap
          obtain ⟨l, hl, rfl⟩ := conc_sl hx'
          split at hx
          · rename_i h0
            subst h0
            cases hx
            exact ⟨μ, .tuple #[], w, Sub.refl _, rfl, h, by simp [Builtin.clear_, h0t, run_underlying hu]⟩
          · rename_i h0
            simp only [Option.map_eq_some_iff, Prod.mk.injEq] at hx
            obtain ⟨s1, hw, rfl, rfl⟩ := hx
            have hrep := repeatC_conc (hz2 μ) (by omega) len
            obtain ⟨w', r1, r2⟩ := storeCells_sim (P := P) h hl hrep hw
            have hzc : (Builtin.zeroCells zv.cells len).toList = (List.range (len * zv.cells.size)).map fun i => zv.cells[i % zv.cells.size]! := by simp [Builtin.zeroCells]
            obtain ⟨len, rfl⟩ : ∃ k, len = k + 1 := ⟨len - 1, by omega⟩
            refine ⟨μ, .tuple #[], w', Sub.refl _, rfl, r2, ?_⟩
            simp only [Builtin.clear_, h0t, Sem.run_bind]
            simp [run_underlying hu, hz1, hzc, r1]
        · cases hx
      · cases hx
    · cases hx
  · cases hx
theorem xRange_sim (h : Rel w0 μ s w) {t : TypeId} {x : Cell} {x' : Value} (hx' : x.conc μ = some x') {v : V} {s' : St} (hx : xRange P s t x = some (v, s')) : VRes w0 μ v s' ((Instr.range t x').run P w) := by
  unfold xRange at hx
  split at hx
  · rename_i b hu
    cases hx
    simp only [Cell.conc, Option.some.injEq] at hx'; subst hx'
    refine ⟨_, .pointer (some ⟨w.heap.size, 0, none⟩), _, sub_upd ⟨w.heap.size, 0, 0⟩ h.fresh, by simp [ptrV, V.conc, V1.conc, Cell.conc, upd_self], h.pushed (.iter b 0) ⟨w.heap.size, 0, 0⟩ (below_alloc' w (.stringIter b 0)) (Nat.le_refl _) ⟨⟨h.size, rfl⟩, heap_push_new w _⟩, ?_⟩
    simp [Instr.range, run_underlying hu]
  · cases hx
theorem xNext_sim (h : Rel w0 μ s w) {ty : TypeId} {b off : Nat} {x' : Value} (hx' : (Cell.ptr b off).conc μ = some x') {v : V} {s' : St} (hx : xNext s b off = some (v, s')) : VRes w0 μ v s' ((Instr.next x' true ty).run P w) := by
  obtain ⟨l, hl, rfl⟩ := conc_ptr hx'
  unfold xNext at hx
  split at hx
  · rename_i t pos ho
    obtain ⟨o, ho', hr⟩ := h.obj b l hl
    rw [ho] at ho'; cases ho'
    obtain ⟨⟨h0, hsh⟩, hw⟩ := hr
    rw [hsh]
    split at hx
    · rename_i hlt
      cases hx
      refine ⟨μ, _, _, Sub.refl _, ?_, h.setO hl ho (by intro c t e f v q; cases q) h0 (.stringIter t (pos + (Utf8.decode t pos).2)) ⟨⟨h0, hsh⟩, (heap_set hw).1⟩, Lib.run_next_any_at w l.blk t pos ty hw hlt⟩
      simp [V.conc, conc1s, V1.conc, Cell.conc]
    · rename_i hlt
      cases hx
      exact ⟨μ, _, w, Sub.refl _, rfl, h, Lib.run_next_end_at w l.blk t pos ty hw hlt⟩
  · cases hx
theorem conc1s_get {vs : List V1} {l : List Value} : conc1s μ vs = some l → ∀ {i : Nat} {v : V1}, vs[i]? = some v → ∃ x, l[i]? = some x ∧ v.conc μ = some x := by
  induction vs generalizing l with
  | nil => intro _ i v h; simp at h
  | cons p ps ih =>
    intro h i v hi
    obtain ⟨y, ws, h1, h2, rfl⟩ := conc1s_cons.1 h
    cases i with
    | zero => simp at hi; subst hi; exact ⟨y, rfl, h1⟩
    | succ i => simp at hi; obtain ⟨x, q1, q2⟩ := ih h2 hi; exact ⟨x, by simpa using q1, q2⟩
theorem eqIn_ptr {t e : TypeId} (hu : P.underlying t = some (.pointer e)) (p q : Option Addr) (hpq : p = none ∨ q = none) (d : Nat) (w : World) : (Op.equalIn (d + 1) t (.pointer p) (.pointer q)).run P w = .ok (p.isNone && q.isNone) w := by
  unfold Op.equalIn
  simp only [Sem.run_bind, run_underlying hu, Result.andThen_ok]
  rcases hpq with rfl | rfl
  · rfl
  · cases p <;> rfl
theorem eqIn_slice {t e : TypeId} (hu : P.underlying t = some (.slice e)) (p q : Option Addr) (hpq : p = none ∨ q = none) (l c l' c' : Nat) (d : Nat) (w : World) : (Op.equalIn (d + 1) t (.slice p l c) (.slice q l' c')).run P w = .ok (p.isNone && q.isNone) w := by
  unfold Op.equalIn
  simp only [Sem.run_bind, run_underlying hu, Result.andThen_ok]
  rcases hpq with rfl | rfl
  · rfl
  · cases p <;> rfl
theorem eqIn_map {t k e : TypeId} (hu : P.underlying t = some (.map k e)) (p q : Option Nat) (hpq : p = none ∨ q = none) (d : Nat) (w : World) : (Op.equalIn (d + 1) t (.map p) (.map q)).run P w = .ok (p.isNone && q.isNone) w := by
  unfold Op.equalIn
  simp only [Sem.run_bind, run_underlying hu, Result.andThen_ok]
  rcases hpq with rfl | rfl
  · rfl
  · cases p <;> rfl
theorem eqIn_func {t : TypeId} {a b : Array TypeId} {c : Bool} (hu : P.underlying t = some (.func a b c)) (f : Fn) (f1 f2 : Array Value) (d : Nat) (w : World) :
    (Op.equalIn (d + 1) t .nilFunc .nilFunc).run P w = .ok true w ∧ (Op.equalIn (d + 1) t .nilFunc (.func f f1 f2)).run P w = .ok false w ∧ (Op.equalIn (d + 1) t (.func f f1 f2) .nilFunc).run P w = .ok false w := by
  unfold Op.equalIn
  simp only [Sem.run_bind, run_underlying hu, Result.andThen_ok]
  exact ⟨rfl, rfl, rfl⟩
/-- From the comparison to the operations. -/
theorem eq_of {t : TypeId} {a b : Value} {r : Bool} (hab : (∃ p q, a = .pointer p ∧ b = .pointer q) ∨ (∃ p l c q l' c', a = .slice p l c ∧ b = .slice q l' c') ∨ (∃ p q, a = .map p ∧ b = .map q) ∨ (a = .nilFunc ∧ b = .nilFunc) ∨ (∃ f x y, a = .nilFunc ∧ b = .func f x y) ∨ (∃ f x y, a = .func f x y ∧ b = .nilFunc))
    (h : ∀ w, (Op.equalIn (9999 + 1) t a b).run P w = .ok r w) (x y : Operand) (w : World) :
    ((do eqGuard .eql t x y a b; binOp .eql t a b : Sem Value).run P w = .ok (.bool r) w) ∧ ((do eqGuard .neq t x y a b; binOp .neq t a b : Sem Value).run P w = .ok (.bool !r) w) := by
  have h' : ∀ w, (Op.equal t a b).run P w = .ok r w := h
  generalize hE : Op.equal t a b = E at h'
  rcases hab with ⟨p, q, rfl, rfl⟩ | ⟨p, l, c, q, l', c', rfl, rfl⟩ | ⟨p, q, rfl, rfl⟩ | ⟨rfl, rfl⟩ | ⟨f, u, v, rfl, rfl⟩ | ⟨f, u, v, rfl, rfl⟩ <;>
    (constructor <;> simp [eqGuard, binOp, hE, h'])
theorem nil_eq_sim {t : TypeId} {a b : Cell} {a' b' : Value} (ha : a.conc μ = some a') (hb : b.conc μ = some b') {r : Bool} (hr : nilEq a b = some r) (hk : nilKind P t a b = true) (x y : Operand) (w : World) :
    ((do eqGuard .eql t x y a' b'; binOp .eql t a' b' : Sem Value).run P w = .ok (.bool r) w) ∧ ((do eqGuard .neq t x y a' b'; binOp .neq t a' b' : Sem Value).run P w = .ok (.bool !r) w) := by
  unfold nilEq at hr
  split at hr <;> (try cases hr) <;> simp only [nilKind] at hk <;> split at hk <;> (try cases hk)
  · rename_i e hu; simp only [Cell.conc, Option.some.injEq] at ha hb; subst ha; subst hb; exact eq_of (.inl ⟨_, _, rfl, rfl⟩) (eqIn_ptr hu none none (.inl rfl) _) x y w
  · rename_i e hu; obtain ⟨l, _, rfl⟩ := conc_ptr hb; simp only [Cell.conc, Option.some.injEq] at ha; subst ha; exact eq_of (.inl ⟨_, _, rfl, rfl⟩) (eqIn_ptr hu none (some _) (.inl rfl) _) x y w
  · rename_i e hu; obtain ⟨l, _, rfl⟩ := conc_ptr ha; simp only [Cell.conc, Option.some.injEq] at hb; subst hb; exact eq_of (.inl ⟨_, _, rfl, rfl⟩) (eqIn_ptr hu (some _) none (.inr rfl) _) x y w
  · rename_i e hu; simp only [Cell.conc, Option.some.injEq] at ha hb; subst ha; subst hb; exact eq_of (.inr (.inl ⟨_, _, _, _, _, _, rfl, rfl⟩)) (eqIn_slice hu none none (.inl rfl) 0 0 0 0 _) x y w
  · rename_i e hu; obtain ⟨l, _, rfl⟩ := conc_sl hb; simp only [Cell.conc, Option.some.injEq] at ha; subst ha; exact eq_of (.inr (.inl ⟨_, _, _, _, _, _, rfl, rfl⟩)) (eqIn_slice hu none (some _) (.inl rfl) 0 0 _ _ _) x y w
  · rename_i e hu; obtain ⟨l, _, rfl⟩ := conc_sl ha; simp only [Cell.conc, Option.some.injEq] at hb; subst hb; exact eq_of (.inr (.inl ⟨_, _, _, _, _, _, rfl, rfl⟩)) (eqIn_slice hu (some _) none (.inr rfl) _ _ 0 0 _) x y w
  · rename_i k e hu; simp only [Cell.conc, Option.some.injEq] at ha hb; subst ha; subst hb; exact eq_of (.inr (.inr (.inl ⟨_, _, rfl, rfl⟩))) (eqIn_map hu none none (.inl rfl) _) x y w
  · rename_i k e hu; obtain ⟨l, _, rfl⟩ := conc_map hb; simp only [Cell.conc, Option.some.injEq] at ha; subst ha; exact eq_of (.inr (.inr (.inl ⟨_, _, rfl, rfl⟩))) (eqIn_map hu none (some _) (.inl rfl) _) x y w
  · rename_i k e hu; obtain ⟨l, _, rfl⟩ := conc_map ha; simp only [Cell.conc, Option.some.injEq] at hb; subst hb; exact eq_of (.inr (.inr (.inl ⟨_, _, rfl, rfl⟩))) (eqIn_map hu (some _) none (.inr rfl) _) x y w
  · rename_i p1 p2 p3 hu; simp only [Cell.conc, Option.some.injEq] at ha hb; subst ha; subst hb; exact eq_of (.inr (.inr (.inr (.inl ⟨rfl, rfl⟩)))) (fun w => (eqIn_func hu default #[] #[] _ w).1) x y w
  · rename_i p1 p2 p3 hu; simp only [Cell.conc, Option.map_eq_some_iff] at hb; obtain ⟨l, _, rfl⟩ := hb; simp only [Cell.conc, Option.some.injEq] at ha; subst ha; exact eq_of (.inr (.inr (.inr (.inr (.inl ⟨_, _, _, rfl, rfl⟩))))) (fun w => (eqIn_func hu _ _ _ _ w).2.1) x y w
  · rename_i p1 p2 p3 hu; simp only [Cell.conc, Option.map_eq_some_iff] at ha; obtain ⟨l, _, rfl⟩ := ha; simp only [Cell.conc, Option.some.injEq] at hb; subst hb; exact eq_of (.inr (.inr (.inr (.inr (.inr ⟨_, _, _, rfl, rfl⟩))))) (fun w => (eqIn_func hu _ _ _ _ w).2.2) x y w
end
end Go.Proofs.Ytlmmeihgjpgooaa.AM
