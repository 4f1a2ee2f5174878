/- The abstract machine's operations, more: parts, rows, places. -/
import Derived.Test.YtlmmeihgjpgooaaAMS3
import Derived.IntWalk
set_option linter.unusedSimpArgs false
set_option linter.unusedVariables false
namespace Go.Proofs.Ytlmmeihgjpgooaa.AM
open Go Go.RowKit
section
variable {P : Program} {w0 w : World} {μ : Map} {s : St}

theorem foldl_set (off : Nat) : ∀ (l : List Value) (k : Nat) (cs : Array Value), off + k + l.length ≤ cs.size →
    (l.zipIdx k).foldl (fun cs p => cs.setIfInBounds (off + p.2) p.1) cs = (cs.toList.take (off + k) ++ l ++ cs.toList.drop (off + k + l.length)).toArray
  | [], k, cs, h => by apply Array.ext'; simp
  | v :: l, k, cs, h => by
    simp only [List.length_cons] at h
    have ih := foldl_set off l (k + 1) (cs.setIfInBounds (off + k) v) (by simp; omega)
    simp only [List.zipIdx_cons, List.foldl_cons]
    rw [ih]
    congr 1
    apply List.ext_getElem?
    intro i
    rw [spliceV_get _ _ _ (by simp; omega), spliceV_get _ _ _ (by simp; omega)]
    simp only [Array.toList_setIfInBounds, List.getElem?_set, Array.length_toList, List.length_cons]
    by_cases h1 : off + (k + 1) ≤ i ∧ i < off + (k + 1) + l.length
    · rw [if_pos h1, if_pos (by omega), show i - (off + k) = (i - (off + (k + 1))) + 1 by omega]; rfl
    · rw [if_neg h1]
      by_cases h2 : i = off + k
      · subst h2; rw [if_pos rfl, if_pos (by omega), if_pos (by omega)]; simp
      · rw [if_neg (by omega), if_neg (by omega)]
def concParts (μ : Map) : List (Nat × V1) → Option (List (Nat × Value))
  | [] => some []
  | p :: ps => match p.2.conc μ, concParts μ ps with
    | some v, some l => some ((p.1, v) :: l)
    | _, _ => none
theorem concParts_cons {μ : Map} {p : Nat × V1} {ps : List (Nat × V1)} {l : List (Nat × Value)} : concParts μ (p :: ps) = some l ↔ ∃ v r, p.2.conc μ = some v ∧ concParts μ ps = some r ∧ l = (p.1, v) :: r := by
  simp only [concParts]
  cases p.2.conc μ <;> cases concParts μ ps <;> simp [eq_comm]
theorem evalParts_conc {fr : List V} {a : Act} (h : FrRel μ fr a.tmps) : ∀ {l : List (Nat × Operand)} {ps}, evalParts fr l = some ps → concParts μ ps = some (l.map fun p => (p.1, a.eval p.2))
  | [], ps, e => by simp [evalParts] at e; subst e; rfl
  | (i, x) :: l, ps, e => by
    simp only [evalParts] at e
    cases h1 : eval1 fr x with
    | none => simp [h1] at e
    | some v =>
      cases h2 : evalParts fr l with
      | none => simp [h1, h2] at e
      | some qs => simp only [h1, h2, Option.some.injEq] at e; subst e; exact concParts_cons.2 ⟨_, _, eval1_conc h h1, evalParts_conc h h2, rfl⟩
theorem concs_splice {cells new : List Cell} {vs nv : List Value} (h : concs μ cells = some vs) (hn : concs μ new = some nv) (off : Nat) : concs μ (splice cells off new) = some (vs.take off ++ nv ++ vs.drop (off + nv.length)) := by
  unfold splice
  rw [← concs_length hn]
  exact concs_append (concs_append (concs_take _ h) hn) (concs_drop _ h)
theorem fill_sim (place place' : Nat → Option (Nat × Nat)) (hp : ∀ i, place' i = place i) : ∀ {ps : List (Nat × V1)} {pv : List (Nat × Value)} {cells cells' : List Cell} {vs : List Value}, concParts μ ps = some pv → concs μ cells = some vs → fillA place cells ps = some cells' →
    ∃ vs', concs μ cells' = some vs' ∧ Instr.fill place' vs.toArray pv = some vs'.toArray
  | [], pv, cells, cells', vs, h1, h2, h3 => by
    simp [concParts] at h1; subst h1
    simp [fillA] at h3; subst h3
    exact ⟨vs, h2, rfl⟩
  | (i, v) :: ps, pv, cells, cells', vs, h1, h2, h3 => by
    obtain ⟨x, r, q1, q2, rfl⟩ := concParts_cons.1 h1
    simp only at q1
    simp only [fillA] at h3
    cases hpl : place i with
    | none => simp [hpl] at h3
    | some z =>
      obtain ⟨off, size⟩ := z
      simp only [hpl] at h3
      split at h3
      · rename_i hc
        have hx := V1.conc_cells q1
        have hxl := concs_length hx
        have hvl := concs_length h2
        rw [Array.length_toList] at hxl
        obtain ⟨vs', r1, r2⟩ := fill_sim place place' hp q2 (concs_splice h2 hx off) h3
        refine ⟨vs', r1, ?_⟩
        simp only [Instr.fill, hp, hpl]
        rw [if_neg (by simp only [ne_eq, Bool.or_eq_true, decide_eq_true_eq, List.size_toArray]; omega)]
        rw [← r2]
        congr 1
        rw [← Array.foldl_toList, Array.toList_zipIdx, foldl_set off x.cells.toList 0 vs.toArray (by simp; omega)]
        simp
      · cases h3
theorem placesT_get : ∀ {fs : List Field} {pl : List (Nat × Nat)}, placesT P fs = some pl → ∀ w, (fs.mapM (fun f => Prod.mk f.offset <$> sizeOf f.type : Field → Sem (Nat × Nat))).run P w = .ok pl w
  | [], pl, h, w => by simp [placesT] at h; subst h; rfl
  | f :: fs, pl, h, w => by
    simp only [placesT] at h
    cases h1 : sizeT P f.type with
    | none => simp [h1] at h
    | some n =>
      cases h2 : placesT P fs with
      | none => simp [h1, h2] at h
      | some l =>
        simp only [h1, h2, Option.some.injEq] at h; subst h
        simp [List.mapM_cons, run_sizeOf' h1, placesT_get h2 w]
theorem xBuild_sim (h : Rel w0 μ s w) {t : TypeId} {ps : List (Nat × V1)} {pv : Array (Nat × Value)} (hp : concParts μ ps = some pv.toList) {v : V} {s' : St} (hx : xBuild P s t ps = some (v, s')) : VRes w0 μ v s' ((Instr.build t pv).run P w) := by
  unfold xBuild at hx
  split at hx
  · rename_i fields z hu hz
    split at hx
    · rename_i pl hpl
      simp only [Option.map_eq_some_iff, Prod.mk.injEq] at hx
      obtain ⟨cs, hf, rfl, rfl⟩ := hx
      obtain ⟨zv, hz1, hz2⟩ := zeroT_run hz
      obtain ⟨vs', r1, r2⟩ := fill_sim (fun i => pl[i]?) (fun i => pl[i]?) (fun i => rfl) hp (hz2 μ) hf
      refine ⟨μ, .agg vs'.toArray, w, Sub.refl _, by simp [V.conc, V1.conc, r1], h, ?_⟩
      have hm : (fields.mapM (fun f => Prod.mk f.offset <$> sizeOf f.type : Field → Sem (Nat × Nat))).run P w = .ok pl.toArray w := by
        rw [Array.mapM_eq_mapM_toList]; simp [placesT_get hpl w]
      try simp only [Array.toArray_toList] at r2
      simp [Instr.build, hz1, run_underlying hu, hm, r2]
    · cases hx
  · rename_i n e z hu hz
    split at hx
    · rename_i m hm
      simp only [Option.map_eq_some_iff, Prod.mk.injEq] at hx
      obtain ⟨cs, hf, rfl, rfl⟩ := hx
      obtain ⟨zv, hz1, hz2⟩ := zeroT_run hz
      obtain ⟨vs', r1, r2⟩ := fill_sim (fun i => some (i * m, m)) (fun i => some (i * m, m)) (fun i => rfl) hp (hz2 μ) hf
      refine ⟨μ, .agg vs'.toArray, w, Sub.refl _, by simp [V.conc, V1.conc, r1], h, ?_⟩
      try simp only [Array.toArray_toList] at r2
      simp [Instr.build, hz1, run_underlying hu, run_sizeOf' hm, r2]
    · cases hx
  · cases hx
theorem repeatC_length (z : List Cell) : ∀ n, (repeatC z n).length = n * z.length
  | 0 => by simp [repeatC]
  | n + 1 => by simp [repeatC, repeatC_length z n, Nat.succ_mul, Nat.add_comm]
theorem repeatC_conc {z : List Cell} {zv : Array Value} (h : concs μ z = some zv.toList) (hz : 0 < zv.size) : ∀ n, concs μ (repeatC z n) = some ((List.range (n * zv.size)).map fun i => zv[i % zv.size]!)
  | 0 => by simp [repeatC, concs]
  | n + 1 => by
    have ih := repeatC_conc h hz n
    have := concs_append h ih
    rw [repeatC, this, Nat.succ_mul, Nat.add_comm (n * zv.size), List.range_add, List.map_append, List.map_map]
    congr 2
    · apply List.ext_getElem
      · simp
      · intro i h1 h2
        simp at h1
        simp [Nat.mod_eq_of_lt h1, h1]
    · apply List.map_congr_left
      intro i _
      simp
theorem elemT_spec {t e : TypeId} (h : elemT P t = some e) : P.underlying t = some (.slice e) := by
  unfold elemT at h; split at h
  · cases h; rename_i q; exact q
  · cases h
theorem newRow_sim (h : Rel w0 μ s w) {cs : List Cell} {vs : List Value} (hv : concs μ cs = some vs) (e n len cap : Nat) (hc : cs.length = cap * n) :
    ∃ μ', Sub μ μ' ∧ (V.one (.c (.sl s.next 0 len (.lim 0)))).conc μ' = some (.slice (some ⟨w.heap.size, 0, none⟩) len cap) ∧ Rel w0 μ' (s.new cs e n) (w.alloc (.cells vs.toArray e)) := by
  have hl := concs_length hv
  refine ⟨_, sub_upd ⟨w.heap.size, 0, cap⟩ h.fresh, ?_, h.newBlk hv e n cap vs.toArray (below_alloc' w _) (heap_push_new w _) (fun j u hj => by simpa using hj) (by omega) (by simp; omega)⟩
  simp [V.conc, V1.conc, Cell.conc, upd_self]
theorem xBuildSlice_sim (h : Rel w0 μ s w) {t : TypeId} {len : Nat} {ps : List (Nat × V1)} {pv : Array (Nat × Value)} (hp : concParts μ ps = some pv.toList) {v : V} {s' : St} (hx : xBuildSlice P s t len ps = some (v, s')) : VRes w0 μ v s' ((Instr.buildSlice t len pv).run P w) := by
  unfold xBuildSlice at hx
  split at hx
  · rename_i e he
    split at hx
    · rename_i n z hn hz
      split at hx
      · rename_i hc
        simp only [Option.map_eq_some_iff, Prod.mk.injEq] at hx
        obtain ⟨cs, hf, rfl, rfl⟩ := hx
        obtain ⟨zv, hz1, hz2⟩ := zeroT_run hz
        have hzl := concs_length (hz2 μ)
        rw [Array.length_toList] at hzl
        have hrep := repeatC_conc (hz2 μ) (by omega) len
        obtain ⟨vs', r1, r2⟩ := fill_sim (fun i => some (i * n, n)) (fun i => some (i * n, n)) (fun i => rfl) hp hrep hf
        have hcl : cs.length = len * n := by
          have : ∀ {ps : List (Nat × V1)} {cells cells' : List Cell}, fillA (fun i => some (i * n, n)) cells ps = some cells' → cells'.length = cells.length := by
            intro ps
            induction ps with
            | nil => intro a b q; simp [fillA] at q; rw [q]
            | cons p ps ih =>
              intro a b q
              simp only [fillA] at q
              split at q
              · rename_i hq; rw [ih q, splice_length (by omega)]
              · cases q
          rw [this hf, repeatC_length, hc.2.1]
        obtain ⟨μ', q1, q2, q3⟩ := newRow_sim h r1 e n len len hcl
        refine ⟨μ', _, _, q1, q2, q3, ?_⟩
        try simp only [Array.toArray_toList] at r2
        have hbig : ¬ (16777216 < len * n) := by omega
        have hsz : zv.cells.size = n := by omega
        rw [hsz] at r2
        by_cases h0 : len * n = 0
        · have hl0 : len = 0 := by rcases Nat.mul_eq_zero.1 h0 with q | q <;> omega
          subst hl0
          simp only [Nat.zero_mul, List.range_zero, List.map_nil] at r2
          simp [Instr.buildSlice, run_underlying (elemT_spec he), run_sizeOf' hn, newRow, Array.range_zero', r2]
        · have hr : (Array.range (len * n)).map (fun i => zv.cells[i % n]!) = ((List.range (len * n)).map fun i => zv.cells[i % n]!).toArray := by
            apply Array.ext'; simp
          simp [Instr.buildSlice, run_underlying (elemT_spec he), run_sizeOf' hn, hbig, h0, hz1, newRow, hsz, hr, r2]
      · cases hx
    · cases hx
  · cases hx
theorem xMakeSlice_sim (h : Rel w0 μ s w) {t : TypeId} {len cap : Int} {v : V} {s' : St} (hx : xMakeSlice P s t len cap = some (v, s')) : VRes w0 μ v s' ((Instr.makeSlice t (.int .i64 len) (.int .i64 cap)).run P w) := by
  unfold xMakeSlice at hx
  split at hx
  · rename_i e he
    split at hx
    · rename_i i z hi hz
      split at hx
      · rename_i hc
        cases hx
        obtain ⟨h0, h1, h2, h3, h4, h5⟩ := hc
        obtain ⟨zv, hz1, hz2⟩ := zeroT_run hz
        have hzl := concs_length (hz2 μ)
        rw [Array.length_toList] at hzl
        have hrep := repeatC_conc (hz2 μ) (by omega) cap.toNat
        obtain ⟨μ', q1, q2, q3⟩ := newRow_sim h hrep e i.size len.toNat cap.toNat (by rw [repeatC_length, h4])
        refine ⟨μ', _, _, q1, q2, q3, ?_⟩
        have hwl : IntKind.i64.wrap len = len := IntWalk.i64_in _ (by omega)
        have hwc : IntKind.i64.wrap cap = cap := IntWalk.i64_in _ (by omega)
        have hbytes : (i.bytes : Int) * cap ≤ 281474976710656 := by
          have h6 : (i.bytes : Int) * cap ≤ 65536 * cap := Int.mul_le_mul_of_nonneg_right (by omega) (by omega)
          omega
        have hb' : ¬ (281474976710656 < (i.bytes : Int) * cap) := by omega
        have c0 : ¬ cap < 0 := by omega
        have l0 : ¬ len < 0 := by omega
        have lc : ¬ cap < len := by omega
        have hsz : zv.cells.size = i.size := by omega
        have hs' : sizeT P e = some i.size := by simp [sizeT, hi]
        rw [hsz]
        by_cases hz0 : cap.toNat * i.size = 0
        · have : cap.toNat = 0 := by rcases Nat.mul_eq_zero.1 hz0 with q | q <;> omega
          simp [Instr.makeSlice, run_underlying (elemT_spec he), asInt, asIntOf, typeInfo, hi, hwl, hwc, c0, hb', l0, lc, run_sizeOf' hs', this, newRow, Array.range_zero']
        · have hr : (Array.range (cap.toNat * i.size)).map (fun j => zv.cells[j % i.size]!) = ((List.range (cap.toNat * i.size)).map fun j => zv.cells[j % i.size]!).toArray := by
            apply Array.ext'; simp
          simp [Instr.makeSlice, run_underlying (elemT_spec he), asInt, asIntOf, typeInfo, hi, hwl, hwc, c0, hb', l0, lc, run_sizeOf' hs', hz0, hz1, newRow, hsz, hr]
      · cases hx
    · cases hx
  · cases hx
def capAt (l : Loc) : Cap → Nat
  | .fix n => n
  | .lim d => l.cap - d
theorem conc_sl {b off len : Nat} {cap : Cap} {x : Value} (h : (Cell.sl b off len cap).conc μ = some x) : ∃ l, μ b = some l ∧ x = .slice (some ⟨l.blk, l.sh + off, none⟩) len (capAt l cap) := by
  cases cap <;> (simp only [Cell.conc, Option.map_eq_some_iff] at h; obtain ⟨l, hl, rfl⟩ := h; exact ⟨l, hl, rfl⟩)
theorem xIndexAddr_sim (h : Rel w0 μ s w) {t : TypeId} {c : Cell} {x : Value} (hc : c.conc μ = some x) {k : IntKind} {i : Int} {v : V} {s' : St} (hx : xIndexAddr P s t c i = some (v, s')) : VRes w0 μ v s' ((Instr.indexAt t x (.int k i)).run P w) := by
  unfold xIndexAddr at hx
  split at hx
  · rename_i len e b off hu
    split at hx
    · rename_i n hn
      split at hx
      · rename_i hi
        cases hx
        obtain ⟨l, hl, rfl⟩ := conc_ptr hc
        refine ⟨μ, .pointer (some ⟨l.blk, l.sh + (off + i.toNat * n), none⟩), w, Sub.refl _, by simp [ptrV, V.conc, V1.conc, Cell.conc, hl], h, ?_⟩
        simp [Instr.indexAt, asIntOf, run_underlying hu, Instr.sureAddr, hi, run_sizeOf' hn, Addr.add_lit, Nat.add_assoc]
      · cases hx
    · cases hx
  · rename_i e b off len cap hu
    split at hx
    · rename_i n hn
      split at hx
      · rename_i hi
        cases hx
        obtain ⟨l, hl, rfl⟩ := conc_sl hc
        refine ⟨μ, .pointer (some ⟨l.blk, l.sh + (off + i.toNat * n), none⟩), w, Sub.refl _, by simp [ptrV, V.conc, V1.conc, Cell.conc, hl], h, ?_⟩
        simp [Instr.indexAt, asIntOf, run_underlying hu, hi, run_sizeOf' hn, Addr.add_lit, Nat.add_assoc]
      · cases hx
    · cases hx
  · cases hx
end
end Go.Proofs.Ytlmmeihgjpgooaa.AM
