/- The abstract machine's operations, more: appending, copying, texts of bytes. -/
import Derived.Test.YtlmmeihgjpgooaaAMS7
set_option linter.unusedSimpArgs false
set_option linter.unusedVariables false
namespace Go.Proofs.Ytlmmeihgjpgooaa.AM
open Go Go.RowKit
section
variable {P : Program} {w0 w : World} {μ : Map} {s : St}

/-- A row grows by a new one. -/
theorem Rel.regrow {w' : World} (h : Rel w0 μ s w) {b : Nat} {L : Loc} (hl : μ b = some L) {cells : List Cell} {ty esz fam ver : Nat} (ho : s.get b = some (.blk cells ty esz fam ver)) (hver : (s.fam fam).1 = ver)
    {new : List Cell} {vs : List Value} (hv : concs μ new = some vs) (cap : Nat) (cs : Array Value) (hb : Below w.heap.size w w') (hc : w'.heap[w.heap.size]? = some (.cells cs ty (0, 0))) (hcs : ∀ (j : Nat) (v : Value), vs[j]? = some v → cs[j]? = some v)
    (h1 : new.length ≤ cap * esz) (h2 : cap * esz ≤ cs.size) :
    Rel w0 (upd μ s.next ⟨w.heap.size, 0, cap⟩) ((s.push (.blk new ty esz fam (ver + 1))).setFam fam (ver + 1, (s.fam fam).2)) w' := by
  have hB := famlt h hl ho
  have hsub := sub_upd ⟨w.heap.size, 0, cap⟩ h.fresh
  have hfs := hB.hfam
  have hwf1 := St.wf_push h.wf (.blk new ty esz fam (ver + 1))
  have hgetn : ∀ b', ((s.push (.blk new ty esz fam (ver + 1))).setFam fam (ver + 1, (s.fam fam).2)).get b' = if b' = s.next then some (.blk new ty esz fam (ver + 1)) else s.get b' := by
    intro b'; rw [St.get_setFam, St.get_push h.wf]
  have hfamn : ∀ r, r < s.next → ((s.push (.blk new ty esz fam (ver + 1))).setFam fam (ver + 1, (s.fam fam).2)).fam r = if r = fam then (ver + 1, (s.fam fam).2) else s.fam r := by
    intro r hr
    rw [St.fam_setFam hwf1 _ _ (by simp only [St.push]; omega) _ (by simp only [St.push]; omega), St.fam_push h.wf _ _ (by omega), if_neg (show ¬ r = s.next by omega)]
  refine ⟨St.wf_setFam hwf1 _ _, h.below.trans (hb.mono h.size), ?_, ?_⟩
  · intro b' l' hl'
    by_cases e : b' = s.next
    · subst e
      rw [upd_self] at hl'; cases hl'
      refine ⟨_, by rw [hgetn, if_pos rfl], ?_⟩
      refine ⟨by simp only [St.setFam, St.push]; omega, by rw [hfamn _ hfs, if_pos rfl]; exact Nat.le_refl _, (Array.getElem?_eq_some_iff.1 hc).1, h1, fun _ => ⟨h.size, cs, hc, by simpa using h2⟩, fun _ i c hi => ?_⟩
      obtain ⟨v, q1, q2⟩ := concs_get hv hi
      refine ⟨v, Cell.conc_mono hsub q1, ?_⟩
      rw [Nat.zero_add]
      simp only [World.cell?, hc, Option.isSome_none, Bool.false_eq_true, if_false]
      exact hcs i v q2
    · simp only [upd, if_neg e] at hl'
      obtain ⟨o', ho', hr⟩ := h.obj b' l' hl'
      refine ⟨o', by rw [hgetn, if_neg e]; exact ho', ?_⟩
      have hw := hb.block _ hr.lt
      cases o' with
      | map es c => obtain ⟨q0, es', q1, q2⟩ := hr; exact ⟨q0, es', by rw [hw]; exact q1, concE_mono hsub q2⟩
      | iter t p => exact ⟨hr.1, by rw [hw]; exact hr.2⟩
      | blk c1 t1 g1 f1 v1 =>
        have hr' : BlkRel w0 μ s w l' c1 t1 g1 f1 v1 := hr
        have hfl := hr'.hfam
        have hsz' : l'.blk < w'.heap.size := Nat.lt_of_lt_of_le hr'.lt hb.size
        refine ⟨by simp only [St.setFam, St.push]; omega, ?_, hsz', hr'.hcap, ?_, ?_⟩
        · rw [hfamn _ hfl]; split
          · rename_i e2; subst e2; have := hr'.hver; simp only; omega
          · exact hr'.hver
        · rw [hfamn _ hfl]; split
          · rename_i e2; subst e2; intro e3; have := hr'.hver; simp only at e3; omega
          · rw [hw]; exact hr'.own
        · intro hle i c hi
          have hle' : (s.fam f1).2 ≤ v1 := by
            rw [hfamn _ hfl] at hle
            split at hle
            · rename_i e2; subst e2; exact hle
            · exact hle
          obtain ⟨v, q1, q2⟩ := hr'.read hle' i c hi
          exact ⟨v, Cell.conc_mono hsub q1, by rw [World.cell?_of_block (w := w) (a := ⟨l'.blk, l'.sh + i, none⟩) hw]; exact q2⟩
  · intro b1 b2 l1 l2 hne h1' h2' he
    by_cases e1 : b1 = s.next
    · subst e1; rw [upd_self] at h1'; cases h1'
      simp only [upd, if_neg (Ne.symm hne)] at h2'
      obtain ⟨o', ho', hr⟩ := h.obj b2 l2 h2'
      have := hr.lt; simp only at he; omega
    · by_cases e2 : b2 = s.next
      · subst e2; rw [upd_self] at h2'; cases h2'
        simp only [upd, if_neg hne] at h1'
        obtain ⟨o', ho', hr⟩ := h.obj b1 l1 h1'
        have := hr.lt; simp only at he; omega
      · simp only [upd, if_neg e1] at h1'
        simp only [upd, if_neg e2] at h2'
        obtain ⟨c1, t1, g1, f, v1, c2, t2, g2, v2, q1, q2, q3, q4, q5⟩ := h.apart b1 b2 l1 l2 hne h1' h2' he
        have hf1 := (famlt h h1' q1)
        have hf2 := (famlt h h2' q2)
        refine ⟨c1, t1, g1, f, v1, c2, t2, g2, v2, by rw [hgetn, if_neg e1]; exact q1, by rw [hgetn, if_neg e2]; exact q2, ?_⟩
        rw [hfamn _ hf1.hfam]
        split
        · rename_i e3; subst e3
          have := hf1.hver; have := hf2.hver
          exact ⟨by intro q; have := q.1; simp only at this; omega, by intro q; simp only at q; omega, by intro q; simp only at q; omega⟩
        · exact ⟨q3, q4, q5⟩
theorem grown_row (ov nv : Array Value) (z : Value) (cap k size : Nat) (hz : z.cells.size = size) (hk : k ≤ cap) (hs : ov.size + nv.size = k * size) : (ov ++ nv ++ Builtin.zeroCells z.cells (cap - k)).size = cap * size := by
  rw [Array.size_append, Array.size_append, hs, size_zeroCells, hz, ← Nat.add_mul]
  congr 1; omega
theorem grown_get {a b : List Value} {c : Array Value} {j : Nat} {v : Value} (h : (a ++ b)[j]? = some v) : (a.toArray ++ b.toArray ++ c)[j]? = some v := by
  have hl := (List.getElem?_eq_some_iff.1 h).1
  rw [List.length_append] at hl
  rw [Array.getElem?_append_left (by simp; omega)]
  simpa using h
theorem appendA_sim (h : Rel w0 μ s w) {ats : Array TypeId} {t0 e ty : TypeId} {i : TypeInfo} {z y' : Value} {n : Nat} {nv : List Value} {new : List Cell} {c : Cell} {x' : Value}
    (h0 : ats[0]? = some t0) (ht : P.underlying t0 = some (.slice e)) (hi : P.info? e = some i) (hz : i.zero = some z) (hzs : z.cells.size = i.size) (hs0 : 0 < i.size) (hb0 : 0 < i.bytes)
    (ha : AppArg P w ats e i z y' n nv.toArray) (hnew : concs μ new = some nv) (hnl : new.length = n * i.size) (hx' : c.conc μ = some x') {l : Nat} (hl : lenA c = some l) (hbig : (l + n) * i.bytes ≤ 16777216)
    {v : V} {s' : St} (hx : appendA s e i.size n new c = some (v, s')) : VRes w0 μ v s' ((Builtin.append_ ats ty #[x', y']).run P w) := by
  have hnvl := concs_length hnew
  have hbd : ∀ o, Below w.heap.size w (w.drew.alloc o) := fun o => (Below.refl _ _).drew.alloc (Nat.le_refl _) o
  have hget : ∀ o, (w.drew.alloc o).heap[w.heap.size]? = some o := fun o => heap_alloc_new w.drew o
  unfold appendA at hx
  split at hx
  · -- nil
    simp only [lenA, Option.some.injEq] at hl; subst hl
    simp only [Cell.conc, Option.some.injEq] at hx'; subst hx'
    split at hx
    · rename_i hn; subst hn
      cases hx
      exact ⟨μ, .slice none 0 0, w, Sub.refl _, rfl, h, by rw [append_room h0 ht hi hz ha none 0 0 (by omega)]⟩
    · rename_i hn
      cases hx
      have hg := append_grow (ty := ty) h0 ht hi hz ha none 0 0 (by omega) hbig hb0 (ov := #[]) (fun w' _ => rfl)
      have hge := grownCap_ge w (0 + n) 0 e
      refine ⟨_, _, _, sub_upd ⟨w.heap.size, 0, grownCap w (0 + n) 0 e⟩ h.fresh, ?_, h.newBlk hnew e i.size (grownCap w (0 + n) 0 e) _ (hbd _) (hget _) (fun j u hj => ?_) ?_ ?_, hg⟩
      · simp [V.conc, V1.conc, Cell.conc, upd_self]
      · exact grown_get (a := []) (by simpa using hj)
      · rw [hnl]; exact Nat.mul_le_mul_right _ (by omega)
      · rw [grown_row #[] nv.toArray z _ (0 + n) i.size hzs hge (by simp; omega)]; exact Nat.le_refl _
  · -- a known room
    rename_i b off len c0
    simp only [lenA, Option.some.injEq] at hl; subst hl
    obtain ⟨L, hL, rfl⟩ := conc_sl hx'
    split at hx
    · rename_i hroom
      simp only [Option.map_eq_some_iff, Prod.mk.injEq] at hx
      obtain ⟨s1, hw, rfl, rfl⟩ := hx
      obtain ⟨w', r1, r2⟩ := storeCells_sim (P := P) h hL hnew hw
      refine ⟨μ, .slice (some ⟨L.blk, L.sh + off, none⟩) (len + n) c0, w', Sub.refl _, by simp [V.conc, V1.conc, Cell.conc, hL], r2, ?_⟩
      simp only [capAt]
      rw [append_room h0 ht hi hz ha (some ⟨L.blk, L.sh + off, none⟩) len c0 hroom]
      simp only [Addr.add_lit]
      rw [show L.sh + off + len * i.size = L.sh + (off + len * i.size) by omega, r1]; rfl
    · rename_i hroom
      split at hx
      · rename_i old hr
        cases hx
        obtain ⟨ov, q1, q2, q3⟩ := h.read hr hL
        have hg := append_grow (ty := ty) h0 ht hi hz ha (some ⟨L.blk, L.sh + off, none⟩) len c0 (by omega) hbig hb0 (ov := ov.toArray) (fun w' hw => by
          have := run_loadCells_list (P := P) w' ⟨L.blk, L.sh + off, none⟩ ov (fun j v hj => by
            have := q3 j v hj
            simpa [World.cell?, hw] using this)
          rw [q2] at this
          simp [Builtin.firstCells, this])
        have hge := grownCap_ge w (len + n) c0 e
        refine ⟨_, _, _, sub_upd ⟨w.heap.size, 0, grownCap w (len + n) c0 e⟩ h.fresh, ?_, h.newBlk (concs_append q1 hnew) e i.size (grownCap w (len + n) c0 e) _ (hbd _) (hget _) (fun j u hj => grown_get hj) ?_ ?_, hg⟩
        · simp [V.conc, V1.conc, Cell.conc, upd_self]
        · rw [List.length_append, hnl, ← concs_length q1, q2, ← Nat.add_mul]; exact Nat.mul_le_mul_right _ (by omega)
        · rw [grown_row ov.toArray nv.toArray z _ (len + n) i.size hzs hge (by simp [q2, Nat.add_mul]; omega)]; exact Nat.le_refl _
      · cases hx
  · -- up to the block's end
    rename_i b off len d
    simp only [lenA, Option.some.injEq] at hl; subst hl
    obtain ⟨L, hL, rfl⟩ := conc_sl hx'
    simp only [capAt]
    split at hx
    · rename_i cells tyb esz fam ver ho
      split at hx
      · rename_i hc
        obtain ⟨hoff, rfl, rfl, hend⟩ := hc
        have hB := famlt h hL ho
        have hcap := hB.hcap
        have hcapn : ∀ m, off + m * i.size ≤ cells.length → m ≤ L.cap - d := by
          intro m hm
          have : (d + m) * i.size ≤ L.cap * i.size := by rw [Nat.add_mul]; omega
          have := Nat.le_of_mul_le_mul_right this hs0
          omega
        split at hx
        · rename_i hn; subst hn
          cases hx
          have hnn : nv = [] := List.eq_nil_of_length_eq_zero (by omega)
          subst hnn
          refine ⟨μ, .slice (some ⟨L.blk, L.sh + off, none⟩) len (L.cap - d), w, Sub.refl _, by simp [V.conc, V1.conc, Cell.conc, hL], h, ?_⟩
          rw [append_room h0 ht hi hz ha (some ⟨L.blk, L.sh + off, none⟩) len (L.cap - d) (by have := hcapn len hend; omega)]
          simp [storeCells]
        · rename_i hn
          split at hx
          · rename_i hfit
            simp only [Option.map_eq_some_iff, Prod.mk.injEq] at hx
            obtain ⟨s1, hw, rfl, rfl⟩ := hx
            obtain ⟨w', r1, r2⟩ := storeCells_sim (P := P) h hL hnew hw
            refine ⟨μ, .slice (some ⟨L.blk, L.sh + off, none⟩) (len + n) (L.cap - d), w', Sub.refl _, by simp [V.conc, V1.conc, Cell.conc, hL], r2, ?_⟩
            rw [append_room h0 ht hi hz ha (some ⟨L.blk, L.sh + off, none⟩) len (L.cap - d) (hcapn _ hfit)]
            simp only [Addr.add_lit]
            rw [show L.sh + off + len * i.size = L.sh + (off + len * i.size) by omega, r1]; rfl
          · split at hx
            · rename_i hfit hD
              cases hx
              have hdl : (cells.drop off).length = len * i.size := by rw [List.length_drop]; omega
              by_cases hroom : len + n ≤ L.cap - d
              · have hcm : (d + (L.cap - d)) * i.size = L.cap * i.size := by congr 1; omega
                rw [Nat.add_mul] at hcm
                obtain ⟨cs, hcs, hfit2, hR⟩ := h.grow hL ho hD.2.1 hD.2.2 hnew off (L.cap - d) (by omega) (by rw [List.length_append, hdl, hnl, ← Nat.add_mul]; exact Nat.mul_le_mul_right _ hroom) (by omega)
                refine ⟨_, .slice (some ⟨L.blk, L.sh + off, none⟩) (len + n) (L.cap - d), _, sub_upd ⟨L.blk, L.sh + off, L.cap - d⟩ h.fresh, by simp [V.conc, V1.conc, Cell.conc, upd_self], hR, ?_⟩
                rw [append_room h0 ht hi hz ha (some ⟨L.blk, L.sh + off, none⟩) len (L.cap - d) hroom]
                have hst := run_storeCells_at P L.blk (L.sh + cells.length) tyb nv 0 cs w hcs (by simpa using hfit2) (concs_one hnew)
                simp only [Nat.add_zero] at hst
                simp only [Addr.add_lit]
                rw [show L.sh + off + len * i.size = L.sh + cells.length by omega, hst]; rfl
              · have hrd : s.read b off (len * i.size) = some (cells.drop off) ∨ len * i.size = 0 := by
                  by_cases hz0 : len * i.size = 0
                  · exact .inr hz0
                  · left
                    simp only [St.read, hz0, if_false, ho]
                    rw [if_pos ⟨hD.2.2, by omega⟩, List.take_of_length_le (by omega)]
                obtain ⟨ov, q1, q2, q3⟩ : ∃ vs, concs μ (cells.drop off) = some vs ∧ vs.length = len * i.size ∧ ∀ (j : Nat) (v : Value), vs[j]? = some v → w.cell? ((⟨L.blk, L.sh + off, none⟩ : Addr).add j) = some v := by
                  rcases hrd with hrd | hz0
                  · exact h.read hrd hL
                  · have : cells.drop off = [] := List.eq_nil_of_length_eq_zero (by omega)
                    rw [this]; exact ⟨[], rfl, by simp [hz0], fun j v hj => by simp at hj⟩
                have hg := append_grow (ty := ty) h0 ht hi hz ha (some ⟨L.blk, L.sh + off, none⟩) len (L.cap - d) (by omega) hbig hb0 (ov := ov.toArray) (fun w' hw => by
                  have := run_loadCells_list (P := P) w' ⟨L.blk, L.sh + off, none⟩ ov (fun j v hj => by
                    have := q3 j v hj
                    simpa [World.cell?, hw] using this)
                  rw [q2] at this
                  simp [Builtin.firstCells, this])
                have hge := grownCap_ge w (len + n) (L.cap - d) tyb
                refine ⟨_, _, _, sub_upd ⟨w.heap.size, 0, grownCap w (len + n) (L.cap - d) tyb⟩ h.fresh, ?_, h.regrow hL ho hD.2.1 (concs_append q1 hnew) (grownCap w (len + n) (L.cap - d) tyb) _ (hbd _) (hget _) (fun j u hj => grown_get hj) ?_ ?_, hg⟩
                · simp [V.conc, V1.conc, Cell.conc, upd_self]
                · rw [List.length_append, hnl, hdl, ← Nat.add_mul]; exact Nat.mul_le_mul_right _ (by omega)
                · rw [grown_row ov.toArray nv.toArray z _ (len + n) i.size hzs hge (by simp [q2, Nat.add_mul]; omega)]; exact Nat.le_refl _
            · cases hx
      · cases hx
    · cases hx
  · cases hx
theorem zeroT_info {t : TypeId} {cs : List Cell} {i : TypeInfo} (h : zeroT P t = some cs) (hi : P.info? t = some i) : ∃ z, i.zero = some z ∧ ∀ μ, concs μ cs = some z.cells.toList := by
  simp only [zeroT, hi, Option.bind_some] at h
  cases hz : i.zero with
  | none => simp [hz] at h
  | some z => simp only [hz, Option.bind_some] at h; exact ⟨z, rfl, fun μ => ofCells_conc h⟩
theorem xAppend_sim (h : Rel w0 μ s w) {ats : Array TypeId} {t0 ty : TypeId} {ts : List TypeId} (hats : ats.toList = t0 :: ts) {x y : Cell} {x' y' : Value} (hx' : x.conc μ = some x') (hy' : y.conc μ = some y')
    {v : V} {s' : St} (hx : xAppend P s t0 ts.head? x y = some (v, s')) : VRes w0 μ v s' ((Builtin.append_ ats ty #[x', y']).run P w) := by
  have h0 : ats[0]? = some t0 := by rw [← Array.getElem?_toList, hats]; rfl
  have h1 : ats[1]? = ts.head? := by rw [← Array.getElem?_toList, hats]; cases ts <;> rfl
  unfold xAppend at hx
  split at hx
  · rename_i e he
    have ht := elemT_spec he
    split at hx
    · rename_i i z hi hz
      split at hx
      · rename_i hc
        obtain ⟨hzl, hs0, hb0⟩ := hc
        obtain ⟨zv, hz1, hz2⟩ := zeroT_info hz hi
        have hzs : zv.cells.size = i.size := by have := concs_length (hz2 μ); rw [Array.length_toList] at this; omega
        -- a slice's or a text's elements
        have hgen : ∀ (u : TypeId) (du : TypeDesc), ats[1]? = some u → P.underlying u = some du → ((∃ e', du = .slice e') ∨ du = .string) →
            (match lenA x, lenA y, elemsA s i.size (lenA y) y with
              | some l, some n, some new => if (l + n) * i.bytes ≤ 16777216 ∧ new.length = n * i.size then appendA s e i.size n new x else none
              | _, _, _ => none) = some (v, s') → VRes w0 μ v s' ((Builtin.append_ ats ty #[x', y']).run P w) := by
          intro u du hu hdu hk hx
          split at hx
          · rename_i l n new hl hn hnew
            split at hx
            · rename_i hq
              rw [hn] at hnew
              obtain ⟨r1, vs, r2, r3⟩ := elems_sim (P := P) h hy' (k := some n) hn (Nat.le_refl _) hnew
              exact appendA_sim h h0 ht hi hz1 hzs hs0 hb0 ⟨u, du, hu, hdu, .inl ⟨hk, r1, r3⟩⟩ r2 hq.2 hx' hl hq.1 hx
            · cases hx
          · cases hx
        split at hx
        · rename_i k m hu
          obtain ⟨u, hu1, hu2⟩ := Option.bind_eq_some_iff.1 hu
          split at hx
          · rename_i hm
            split at hx
            · rename_i l hl
              split at hx
              · rename_i hbig
                simp only [Cell.conc, Option.some.injEq] at hy'; subst hy'
                have hmn : ((m.toNat : Nat) : Int) = m := by omega
                have hnew : concs μ (repeatC z m.toNat) = some (Builtin.zeroCells zv.cells m.toNat).toList := by
                  rw [repeatC_conc (hz2 μ) (by omega)]; simp [Builtin.zeroCells]
                have hmb : m.toNat * i.bytes ≤ 16777216 := by rw [Nat.add_mul] at hbig; omega
                refine appendA_sim h h0 ht hi hz1 hzs hs0 hb0 (nv := (Builtin.zeroCells zv.cells m.toNat).toList) ⟨u, _, by rw [h1]; exact hu1, hu2, .inr ⟨⟨k, rfl⟩, by rw [hmn], by omega, hmb, by simp, hs0⟩⟩ hnew (by rw [repeatC_length]; congr 1) hx' hl hbig hx
              · cases hx
            · cases hx
          · cases hx
        · rename_i e' hu
          obtain ⟨u, hu1, hu2⟩ := Option.bind_eq_some_iff.1 hu
          exact hgen u _ (by rw [h1]; exact hu1) hu2 (.inl ⟨_, rfl⟩) hx
        · rename_i hu
          obtain ⟨u, hu1, hu2⟩ := Option.bind_eq_some_iff.1 hu
          exact hgen u _ (by rw [h1]; exact hu1) hu2 (.inr rfl) hx
        · cases hx
      · cases hx
    · cases hx
  · cases hx
end
end Go.Proofs.Ytlmmeihgjpgooaa.AM
