/- The abstract machine's operations, more: copying, texts, maps, iterators. -/
import Derived.Test.YtlmmeihgjpgooaaAMS8
import Derived.MapKept
import Derived.Lib.OthersKept
set_option linter.unusedSimpArgs false
set_option linter.unusedVariables false
namespace Go.Proofs.Ytlmmeihgjpgooaa.AM
open Go Go.RowKit Go.MapKept
section
variable {P : Program} {w0 w : World} {μ : Map} {s : St}

theorem xCopy_sim (h : Rel w0 μ s w) {ats : Array TypeId} {t0 ty : TypeId} {ts : List TypeId} (hats : ats.toList = t0 :: ts) {x y : Cell} {x' y' : Value} (hx' : x.conc μ = some x') (hy' : y.conc μ = some y')
    {v : V} {s' : St} (hx : xCopy P s t0 x y = some (v, s')) : VRes w0 μ v s' ((Builtin.copy_ ats ty #[x', y']).run P w) := by
  have h0 : ats[0]? = some t0 := by rw [← Array.getElem?_toList, hats]; rfl
  unfold xCopy at hx
  split at hx
  · rename_i e he
    have ht := elemT_spec he
    split at hx
    · rename_i n hn
      split at hx
      · rename_i a b ha hb
        split at hx
        · rename_i cs hcs
          obtain ⟨r1, vs, r2, r3⟩ := elems_sim (P := P) h hy' (k := some (min b a)) hb (by simp; omega) hcs
          have r4 := r3 w rfl
          simp only [Option.getD_some] at r4
          split at hx
          · cases hx
            simp only [lenA, Option.some.injEq] at ha; subst ha
            simp only [Cell.conc, Option.some.injEq] at hx'; subst hx'
            refine ⟨μ, .int .i64 ((min b 0 : Nat) : Int), w, Sub.refl _, rfl, h, ?_⟩
            have e1 : b.min 0 = min b 0 := rfl
            simp [Builtin.copy_, h0, run_underlying ht, r1, run_sizeOf' hn, r4, goInt]
            simp at r4
            simp [r4]
          · rename_i bb off len cap
            split at hx
            · rename_i hlen
              simp only [Option.map_eq_some_iff, Prod.mk.injEq] at hx
              obtain ⟨s1, hw, rfl, rfl⟩ := hx
              simp only [lenA, Option.some.injEq] at ha; subst ha
              obtain ⟨L, hL, rfl⟩ := conc_sl hx'
              obtain ⟨w', q1, q2⟩ := storeCells_sim (P := P) h hL r2 hw
              refine ⟨μ, .int .i64 ((min b len : Nat) : Int), w', Sub.refl _, rfl, q2, ?_⟩
              have e1 : b.min len = min b len := rfl
              simp [Builtin.copy_, h0, run_underlying ht, r1, run_sizeOf' hn, e1, r4, q1, goInt]
            · cases hx
          · cases hx
        · cases hx
      · cases hx
    · cases hx
  · cases hx
theorem bytesOf_conc (f : Value → ByteArray → Sem (ForInStep ByteArray)) (hf : ∀ n r, f (.int .u8 n) r = pure (.yield (r.push (UInt8.ofNat n.toNat)))) : ∀ {cs : List Cell} {l : List UInt8} {vs : List Value}, bytesOfCells cs = some l → concs μ cs = some vs → ∀ (acc : ByteArray) (w : World),
    (forIn vs acc f).run P w = .ok (l.foldl (fun a b => a.push b) acc) w
  | [], l, vs, h1, h2, acc, w => by
    simp [bytesOfCells] at h1; subst h1
    simp [concs] at h2; subst h2
    rfl
  | c :: cs, l, vs, h1, h2, acc, w => by
    obtain ⟨v, ws, q1, q2, rfl⟩ := concs_cons.1 h2
    unfold bytesOfCells at h1
    split at h1
    · rename_i e; cases e
    · rename_i n l' e
      cases e
      simp only [Option.map_eq_some_iff] at h1
      obtain ⟨l2, h3, rfl⟩ := h1
      simp only [Cell.conc, Option.some.injEq] at q1; subst q1
      simp only [List.forIn_cons, hf, Sem.run_bind, Sem.run_pure, Result.andThen_ok, List.foldl_cons]
      exact bytesOf_conc f hf h3 q2 _ w
    · cases h1
theorem foldl_push : ∀ (l : List UInt8) (a : ByteArray), l.foldl (fun a b => a.push b) a = ⟨(a.data.toList ++ l).toArray⟩
  | [], a => by simp
  | b :: l, a => by
    simp only [List.foldl_cons]
    rw [foldl_push l (a.push b)]
    congr 1
    simp [ByteArray.push]
theorem xBytesToString_sim (h : Rel w0 μ s w) {src dst : TypeId} {x : Cell} {x' : Value} (hx' : x.conc μ = some x') {v : V} {s' : St} (hx : xBytesToString P s src dst x = some (v, s')) : VRes w0 μ v s' ((convert src dst x').run P w) := by
  unfold xBytesToString at hx
  split at hx
  · rename_i e hs hd
    split at hx
    · rename_i he
      split at hx
      · cases hx
        simp only [Cell.conc, Option.some.injEq] at hx'; subst hx'
        refine ⟨μ, .string .empty, w, Sub.refl _, rfl, h, ?_⟩
        simp [convert, run_underlying hs, run_underlying hd, run_underlying he, Conv.bytesToString]
      · rename_i b off len cap
        split at hx
        · rename_i cs hr
          simp only [Option.map_eq_some_iff, Prod.mk.injEq] at hx
          obtain ⟨l, hl, rfl, rfl⟩ := hx
          obtain ⟨L, hL, rfl⟩ := conc_sl hx'
          obtain ⟨vs, q1, q2, q3⟩ := h.read hr hL
          have q4 := run_loadCells_list (P := P) w _ vs q3
          rw [q2] at q4
          refine ⟨μ, .string ⟨l.toArray⟩, w, Sub.refl _, rfl, h, ?_⟩
          simp only [convert, Sem.run_bind, run_underlying hs, run_underlying hd, run_underlying he, Conv.bytesToString, Result.andThen_ok, q4, List.forIn_toArray]
          rw [bytesOf_conc (P := P) (μ := μ) _ (by intro n r; rfl) hl q1 .empty w, foldl_push]
          simp
        · cases hx
      · cases hx
    · cases hx
  · cases hx
/-- An object that is no row of cells turns. -/
theorem Rel.setO (h : Rel w0 μ s w) {b : Nat} {l : Loc} (hl : μ b = some l) {o o' : Obj} (ho : s.get b = some o) (hb : ∀ c t e f v, o ≠ .blk c t e f v) (h0 : w0.heap.size ≤ l.blk) (O' : Go.Obj)
    (hO : ObjRel w0 μ (s.setObj b o') { w with heap := w.heap.setIfInBounds l.blk O' } l o') : Rel w0 μ (s.setObj b o') { w with heap := w.heap.setIfInBounds l.blk O' } := by
  have hbs := St.get_lt ho
  have hgetn := fun b' => St.get_setObj h.wf b o' hbs b'
  have hne : ∀ b' l', b' ≠ b → μ b' = some l' → l'.blk ≠ l.blk := by
    intro b' l' e hl' he
    obtain ⟨_, _, _, _, _, _, _, _, _, _, q2, _⟩ := h.apart b' b l' l e hl' hl he
    rw [ho] at q2; cases q2
    exact hb _ _ _ _ _ rfl
  have hother : ∀ k, k ≠ l.blk → (w.heap.setIfInBounds l.blk O')[k]? = w.heap[k]? := fun k hk => by simp [Ne.symm hk]
  refine ⟨St.wf_setObj h.wf _ _, h.below.trans ⟨rfl, rfl, rfl, by simp, fun k hk => hother k (by omega)⟩, ?_, ?_⟩
  · intro b' l' hl'
    by_cases e : b' = b
    · subst e; rw [hl] at hl'; cases hl'
      exact ⟨o', by rw [hgetn, if_pos rfl], hO⟩
    · obtain ⟨o1, ho1, hr⟩ := h.obj b' l' hl'
      exact ⟨o1, by rw [hgetn, if_neg e]; exact ho1, hr.keep (Sub.refl _) (fun r _ => rfl) (Nat.le_refl _) (hother _ (hne b' l' e hl'))⟩
  · intro b1 b2 l1 l2 hn h1 h2 he
    by_cases e1 : b1 = b
    · subst e1; rw [hl] at h1; cases h1
      exact absurd he.symm (hne b2 l2 (Ne.symm hn) h2)
    · by_cases e2 : b2 = b
      · subst e2; rw [hl] at h2; cases h2
        exact absurd he (hne b1 l1 e1 h1)
      · obtain ⟨c1, t1, g1, f, v1, c2, t2, g2, v2, q1, q2, q3⟩ := h.apart b1 b2 l1 l2 hn h1 h2 he
        exact ⟨c1, t1, g1, f, v1, c2, t2, g2, v2, by rw [hgetn, if_neg e1]; exact q1, by rw [hgetn, if_neg e2]; exact q2, q3⟩
theorem keyIs_isKey {d : TypeDesc} {k : V1} {k' : Value} (hk : keyIs d k = true) (hc : k.conc μ = some k') : IsKey d k' := by
  cases k with
  | agg cs => cases d <;> simp [keyIs] at hk
  | c x => cases d <;> cases x <;> simp_all [keyIs, V1.conc, Cell.conc, IsKey] <;> subst hc <;> simp_all [IsKey]
theorem sameKey_now {d : TypeDesc} {a b : V1} {a' b' : Value} (ha : a.conc μ = some a') (hb : b.conc μ = some b') {r : Bool} (h : sameKey d a b = some r) : Instr.sameNow d a' b' = some r := by
  unfold sameKey at h
  split at h <;> simp_all [V1.conc, Cell.conc]
  all_goals (subst ha; subst hb; simp_all [Instr.sameNow])
theorem find_sim {d : TypeDesc} {k : V1} {k' : Value} (hk : k.conc μ = some k') : ∀ {es : List (V1 × V1 × Nat)} {es' : List MapEntry} {i : Nat} {r : Option (Nat × V1)}, concE μ es = some es' → findA d k es i = some r →
    ∃ r', Instr.findNow d k' es' i = some r' ∧ (match r with | none => r' = none | some (j, v) => ∃ v', v.conc μ = some v' ∧ r' = some (j, v'))
  | [], es', i, r, he, hf => by
    simp [concE] at he; subst he
    simp [findA] at hf; subst hf
    exact ⟨none, rfl, rfl⟩
  | e :: es, es', i, r, he, hf => by
    obtain ⟨q, v, l, h1, h2, h3, rfl⟩ := concE_cons.1 he
    simp only [findA] at hf
    split at hf
    · rename_i hs
      cases hf
      exact ⟨some (i, v), by simp [Instr.findNow, sameKey_now hk h1 hs], v, h2, rfl⟩
    · rename_i hs
      obtain ⟨r', q1, q2⟩ := find_sim hk h3 hf
      exact ⟨r', by simp [Instr.findNow, sameKey_now hk h1 hs, q1], q2⟩
    · cases hf
theorem findA_lt {d : TypeDesc} {k : V1} : ∀ {es : List (V1 × V1 × Nat)} {i j : Nat} {v : V1}, findA d k es i = some (some (j, v)) → ∃ e, i ≤ j ∧ es[j - i]? = some e ∧ sameKey d k e.1 = some true
  | [], i, j, v, h => by simp [findA] at h
  | e :: es, i, j, v, h => by
    simp only [findA] at h
    split at h
    · rename_i hs; cases h; exact ⟨e, Nat.le_refl _, by simp, hs⟩
    · obtain ⟨e', h1, h2, h3⟩ := findA_lt h
      exact ⟨e', by omega, by rw [show j - i = (j - (i + 1)) + 1 by omega]; exact h2, h3⟩
    · cases h
theorem zeroV1_run {t : TypeId} {z : V1} (h : zeroV1 P t = some z) : ∃ z' : Value, (∀ w, (zeroValue t).run P w = .ok z' w) ∧ (∀ μ, z.conc μ = some z') := by
  simp only [zeroV1] at h
  cases hi : P.info? t with
  | none => simp [hi] at h
  | some i =>
    cases hz : i.zero with
    | none => simp [hi, hz] at h
    | some z' =>
      simp only [hi, hz, Option.bind_some] at h
      exact ⟨z', fun w => by simp [zeroValue, typeInfo, hi, hz], fun μ => ofV1_conc h⟩
theorem conc_map {b : Nat} {x : Value} (h : (Cell.map b).conc μ = some x) : ∃ l, μ b = some l ∧ x = .map (some l.blk) := by
  simp only [Cell.conc, Option.map_eq_some_iff] at h; obtain ⟨l, hl, rfl⟩ := h; exact ⟨l, hl, rfl⟩
theorem map_obj (h : Rel w0 μ s w) {b : Nat} {l : Loc} (hl : μ b = some l) {es : List (V1 × V1 × Nat)} {clock : Nat} (ho : s.get b = some (.map es clock)) : w0.heap.size ≤ l.blk ∧ ∃ es' : Array MapEntry, w.heap[l.blk]? = some (.map es' clock) ∧ concE μ es = some es'.toList := by
  obtain ⟨o, ho', hr⟩ := h.obj b l hl
  rw [ho] at ho'; cases ho'; exact hr
theorem lookup_some {t kt et : TypeId} {d : TypeDesc} {k' x' v' : Value} {es' : Array MapEntry} {ok : Bool} {j : Nat} (hu : P.underlying t = some (.map kt et)) (hd : P.underlying kt = some d) (hik : IsKey d k')
    (hx : (x' = .map none ∧ es' = #[]) ∨ ∃ r c, x' = .map (some r) ∧ w.heap[r]? = some (.map es' c)) (hf : Instr.findNow d k' es'.toList 0 = some (some (j, v'))) :
    (Instr.lookup t x' k' ok).run P w = .ok (if ok then .tuple #[v', .bool true] else v') w := by
  have hck : ∀ e, (Instr.checkKey e 10000 kt k').run P w = .ok () w := fun e => run_checkKey (P := P) (w := w) hd hik e 9999
  have hfk := run_findKey (P := P) (w := w) hd hf
  rcases hx with ⟨rfl, rfl⟩ | ⟨r, c, rfl, hr⟩
  · simp [Instr.findNow] at hf
  · simp [Instr.lookup, run_underlying hu, MapKept.run_getObj_map hr, hck, hfk]
theorem lookup_none {t kt et : TypeId} {d : TypeDesc} {k' x' z' : Value} {es' : Array MapEntry} {ok : Bool} (hu : P.underlying t = some (.map kt et)) (hd : P.underlying kt = some d) (hik : IsKey d k')
    (hx : (x' = .map none ∧ es' = #[]) ∨ ∃ r c, x' = .map (some r) ∧ w.heap[r]? = some (.map es' c)) (hf : Instr.findNow d k' es'.toList 0 = some none) (hz : (zeroValue et).run P w = .ok z' w) :
    (Instr.lookup t x' k' ok).run P w = .ok (if ok then .tuple #[z', .bool false] else z') w := by
  have hck : ∀ e, (Instr.checkKey e 10000 kt k').run P w = .ok () w := fun e => run_checkKey (P := P) (w := w) hd hik e 9999
  have hfk := run_findKey (P := P) (w := w) hd hf
  rcases hx with ⟨rfl, rfl⟩ | ⟨r, c, rfl, hr⟩
  · simp at hfk
    simp [Instr.lookup, run_underlying hu, hck, hfk, hz]
  · simp [Instr.lookup, run_underlying hu, MapKept.run_getObj_map hr, hck, hfk, hz]
theorem xLookup_sim (h : Rel w0 μ s w) {t : TypeId} {x : Cell} {x' : Value} (hx' : x.conc μ = some x') {k : V1} {k' : Value} (hk' : k.conc μ = some k') {ok : Bool} {v : V} {s' : St} (hx : xLookup P s t x k ok = some (v, s')) : VRes w0 μ v s' ((Instr.lookup t x' k' ok).run P w) := by
  unfold xLookup at hx
  split at hx
  · rename_i kt et hu
    split at hx
    · rename_i d hd
      split at hx
      · rename_i hki
        have hik := keyIs_isKey hki hk'
        split at hx
        · rename_i es hes
          have key : ∃ es' : Array MapEntry, concE μ es = some es'.toList ∧ ((x' = .map none ∧ es' = #[]) ∨ ∃ r c, x' = .map (some r) ∧ w.heap[r]? = some (.map es' c)) := by
            split at hes
            · cases hes
              simp only [Cell.conc, Option.some.injEq] at hx'; subst hx'
              exact ⟨#[], rfl, .inl ⟨rfl, rfl⟩⟩
            · rename_i b
              split at hes
              · rename_i es2 clock ho
                cases hes
                obtain ⟨l, hl, rfl⟩ := conc_map hx'
                obtain ⟨_, es', q1, q2⟩ := map_obj h hl ho
                exact ⟨es', q2, .inr ⟨_, _, rfl, q1⟩⟩
              · cases hes
            · cases hes
          obtain ⟨es', q1, q2⟩ := key
          split at hx
          · rename_i j v1 hf
            cases hx
            obtain ⟨r', p1, v', p2, rfl⟩ := find_sim hk' q1 hf
            refine ⟨μ, if ok then .tuple #[v', .bool true] else v', w, Sub.refl _, ?_, h, lookup_some hu hd hik q2 p1⟩
            cases ok
            · exact p2
            · simp only [if_true, V.conc, conc1s, p2]; rfl
          · rename_i hf
            split at hx
            · rename_i z hz
              cases hx
              obtain ⟨r', p1, rfl⟩ := find_sim hk' q1 hf
              obtain ⟨z', z1, z2⟩ := zeroV1_run hz
              refine ⟨μ, if ok then .tuple #[z', .bool false] else z', w, Sub.refl _, ?_, h, lookup_none hu hd hik q2 p1 (z1 w)⟩
              cases ok
              · exact z2 μ
              · simp only [if_true, V.conc, conc1s, z2]; rfl
            · cases hx
          · cases hx
        · cases hx
      · cases hx
    · cases hx
  · cases hx
end
end Go.Proofs.Ytlmmeihgjpgooaa.AM
