/- The abstract machine's operations, more: slices that grow in place, or are cut. -/
import Derived.Test.YtlmmeihgjpgooaaAMS4
set_option linter.unusedSimpArgs false
set_option linter.unusedVariables false
namespace Go.Proofs.Ytlmmeihgjpgooaa.AM
open Go Go.RowKit
section
variable {P : Program} {w0 w : World} {μ : Map} {s : St}

theorem famlt (h : Rel w0 μ s w) {b : Nat} {l : Loc} (hl : μ b = some l) {cells : List Cell} {ty esz fam ver : Nat} (ho : s.get b = some (.blk cells ty esz fam ver)) : BlkRel w0 μ s w l cells ty esz fam ver := by
  obtain ⟨o, ho', hr⟩ := h.obj b l hl
  rw [ho] at ho'; cases ho'; exact hr
/-- A row grows in its own room: a new version. -/
theorem Rel.grow (h : Rel w0 μ s w) {b : Nat} {L : Loc} (hl : μ b = some L) {cells : List Cell} {ty esz fam ver : Nat} (ho : s.get b = some (.blk cells ty esz fam ver)) (hver : (s.fam fam).1 = ver) (hlive : (s.fam fam).2 ≤ ver)
    {new : List Cell} {vs : List Value} (hv : concs μ new = some vs) (off cap : Nat) (hoff : off ≤ cells.length) (h1 : (cells.drop off ++ new).length ≤ cap * esz) (h2 : off + cap * esz ≤ L.cap * esz) :
    ∃ cs, w.heap[L.blk]? = some (.cells cs ty (0, 0)) ∧ L.sh + cells.length + vs.length ≤ cs.size ∧
      Rel w0 (upd μ s.next ⟨L.blk, L.sh + off, cap⟩) ((s.push (.blk (cells.drop off ++ new) ty esz fam (ver + 1))).setFam fam (ver + 1, (s.fam fam).2)) (wrote w L.blk cs (L.sh + cells.length) vs) := by
  have hB := famlt h hl ho
  obtain ⟨h0, cs, hcs, hsz⟩ := hB.own hver.symm
  have hlen := concs_length hv
  have hnl : (cells.drop off ++ new).length = cells.length - off + new.length := by rw [List.length_append, List.length_drop]
  have hfit : L.sh + cells.length + vs.length ≤ cs.size := by omega
  have hsub := sub_upd ⟨L.blk, L.sh + off, cap⟩ h.fresh
  have hfs := hB.hfam
  have hwf1 := St.wf_push h.wf (.blk (cells.drop off ++ new) ty esz fam (ver + 1))
  have hbs : b < s.next := St.get_lt ho
  refine ⟨cs, hcs, hfit, ?_⟩
  have hgetn : ∀ b', ((s.push (.blk (cells.drop off ++ new) ty esz fam (ver + 1))).setFam fam (ver + 1, (s.fam fam).2)).get b' = if b' = s.next then some (.blk (cells.drop off ++ new) ty esz fam (ver + 1)) else s.get b' := by
    intro b'; rw [St.get_setFam, St.get_push h.wf]
  have hfamn : ∀ r, r < s.next → ((s.push (.blk (cells.drop off ++ new) ty esz fam (ver + 1))).setFam fam (ver + 1, (s.fam fam).2)).fam r = if r = fam then (ver + 1, (s.fam fam).2) else s.fam r := by
    intro r hr
    rw [St.fam_setFam hwf1 _ _ (by simp only [St.push]; omega) _ (by simp only [St.push]; omega), St.fam_push h.wf _ _ (by omega), if_neg (show ¬ r = s.next by omega)]
  have hrow := setRow_heap w L.blk cs (cs.toList.take (L.sh + cells.length) ++ vs ++ cs.toList.drop (L.sh + cells.length + vs.length)).toArray ty (0, 0) hcs
  have hrs : (cs.toList.take (L.sh + cells.length) ++ vs ++ cs.toList.drop (L.sh + cells.length + vs.length)).toArray.size = cs.size := by
    simp only [List.size_toArray, List.length_append, List.length_take, List.length_drop, Array.length_toList]; omega
  have hcell : ∀ i, (wrote w L.blk cs (L.sh + cells.length) vs).cell? ⟨L.blk, i, none⟩ = if L.sh + cells.length ≤ i ∧ i < L.sh + cells.length + vs.length then vs[i - (L.sh + cells.length)]? else cs[i]? := by
    intro i
    simp only [World.cell?, wrote, hrow, Option.isSome_none, Bool.false_eq_true, if_false, List.getElem?_toArray]
    rw [spliceV_get _ _ _ (by rw [Array.length_toList]; exact hfit)]
    simp
  have hold : ∀ i, w.cell? ⟨L.blk, i, none⟩ = cs[i]? := by
    intro i; simp only [World.cell?, hcs, Option.isSome_none, Bool.false_eq_true, if_false]
  have hother : ∀ k, k ≠ L.blk → (wrote w L.blk cs (L.sh + cells.length) vs).heap[k]? = w.heap[k]? := fun k hk => setRow_other w _ _ _ hk
  have hltn : L.blk < (wrote w L.blk cs (L.sh + cells.length) vs).heap.size := (Array.getElem?_eq_some_iff.1 hrow).1
  -- what shares the row ends ahead of it
  have hends : ∀ b' l' c1 t1 g1 f1 v1, μ b' = some l' → l'.blk = L.blk → s.get b' = some (.blk c1 t1 g1 f1 v1) → f1 = fam ∧ v1 ≤ ver ∧ l'.sh + c1.length ≤ L.sh + cells.length := by
    intro b' l' c1 t1 g1 f1 v1 hl' hblk ho'
    by_cases e : b' = b
    · subst e; rw [hl] at hl'; cases hl'; rw [ho] at ho'; cases ho'; exact ⟨rfl, Nat.le_refl _, Nat.le_refl _⟩
    · obtain ⟨d1, t1', g1', f, u1, d2, t2, g2, u2, q1, q2, q3, q4, q5⟩ := h.apart b' b l' L e hl' hl hblk
      rw [ho] at q2; cases q2
      rw [ho'] at q1; cases q1
      have := (famlt h hl' ho').hver
      exact ⟨rfl, by omega, q4 hver.symm⟩
  refine ⟨St.wf_setFam hwf1 _ _, below_setRow h.below _ _ h0, ?_, ?_⟩
  · intro b' l' hl'
    by_cases e : b' = s.next
    · subst e
      rw [upd_self] at hl'; cases hl'
      refine ⟨_, by rw [hgetn, if_pos rfl], ?_⟩
      refine ⟨by simp only [St.setFam, St.push]; omega, by rw [hfamn _ hfs, if_pos rfl]; exact Nat.le_refl _, hltn, h1, fun _ => ⟨h0, _, hrow, by rw [hrs]; show L.sh + off + cap * esz ≤ _; omega⟩, fun _ i c hi => ?_⟩
      simp only [hcell]
      by_cases hin : i < cells.length - off
      · rw [List.getElem?_append_left (by rw [List.length_drop]; exact hin), List.getElem?_drop] at hi
        obtain ⟨v, q1, q2⟩ := hB.read hlive _ c hi
        refine ⟨v, Cell.conc_mono hsub q1, ?_⟩
        rw [if_neg (by omega), ← hold, show L.sh + off + i = L.sh + (off + i) by omega]; exact q2
      · rw [List.getElem?_append_right (by rw [List.length_drop]; omega), List.length_drop] at hi
        obtain ⟨v, q1, q2⟩ := concs_get hv hi
        have := (List.getElem?_eq_some_iff.1 q2).1
        refine ⟨v, Cell.conc_mono hsub q1, ?_⟩
        rw [if_pos (by omega), show L.sh + off + i - (L.sh + cells.length) = i - (cells.length - off) by omega]; exact q2
    · simp only [upd, if_neg e] at hl'
      obtain ⟨o', ho', hr⟩ := h.obj b' l' hl'
      refine ⟨o', by rw [hgetn, if_neg e]; exact ho', ?_⟩
      cases o' with
      | map es c =>
        obtain ⟨q0, es', q1, q2⟩ := hr
        have hne : l'.blk ≠ L.blk := by intro e; rw [e, hcs] at q1; cases q1
        exact ⟨q0, es', by rw [hother _ hne]; exact q1, concE_mono hsub q2⟩
      | iter t p =>
        have hne : l'.blk ≠ L.blk := by intro e; have := hr.2; rw [e, hcs] at this; cases this
        exact ⟨hr.1, by rw [hother _ hne]; exact hr.2⟩
      | blk c1 t1 g1 f1 v1 =>
        have hr' : BlkRel w0 μ s w l' c1 t1 g1 f1 v1 := hr
        have hfl := hr'.hfam
        have hsz' : l'.blk < (wrote w L.blk cs (L.sh + cells.length) vs).heap.size := by simpa [wrote, World.setRow] using hr'.lt
        refine ⟨by simp only [St.setFam, St.push]; omega, ?_, hsz', hr'.hcap, ?_, ?_⟩
        · rw [hfamn _ hfl]; split
          · rename_i e2; subst e2; have := hr'.hver; simp only; omega
          · exact hr'.hver
        · rw [hfamn _ hfl]; split
          · rename_i e2; subst e2; intro e3; have := hr'.hver; simp only at e3; omega
          · rename_i e2
            intro e3
            obtain ⟨p0, cs', p1, p2⟩ := hr'.own e3
            by_cases hblk : l'.blk = L.blk
            · exact absurd (hends b' l' _ _ _ _ _ hl' hblk ho').1 e2
            · exact ⟨p0, cs', by rw [hother _ hblk]; exact p1, p2⟩
        · intro hle i c hi
          have hle' : (s.fam f1).2 ≤ v1 := by
            rw [hfamn _ hfl] at hle
            split at hle
            · rename_i e2; subst e2; exact hle
            · exact hle
          obtain ⟨v, q1, q2⟩ := hr'.read hle' i c hi
          refine ⟨v, Cell.conc_mono hsub q1, ?_⟩
          by_cases hblk : l'.blk = L.blk
          · obtain ⟨_, _, he⟩ := hends b' l' _ _ _ _ _ hl' hblk ho'
            have hil := (List.getElem?_eq_some_iff.1 hi).1
            rw [hblk, hcell, if_neg (by omega), ← hold, ← hblk]; exact q2
          · rw [World.cell?_of_block (w := w) (a := ⟨l'.blk, l'.sh + i, none⟩) (hother _ hblk)]; exact q2
  · intro b1 b2 l1 l2 hne h1' h2' he
    by_cases e1 : b1 = s.next
    · subst e1
      rw [upd_self] at h1'; cases h1'
      simp only [upd, if_neg (Ne.symm hne)] at h2'
      obtain ⟨o', ho', hr⟩ := h.obj b2 l2 h2'
      cases o' with
      | map es c => obtain ⟨q0, es', q1, q2⟩ := hr; simp only at he; rw [← he, hcs] at q1; cases q1
      | iter t p => have := hr.2; simp only at he; rw [← he, hcs] at this; cases this
      | blk c1 t1 g1 f1 v1 =>
        obtain ⟨rfl, hv1, hend⟩ := hends b2 l2 _ _ _ _ _ h2' he.symm ho'
        refine ⟨_, _, _, f1, ver + 1, c1, t1, g1, v1, by rw [hgetn, if_pos rfl], by rw [hgetn, if_neg (Ne.symm hne)]; exact ho', ?_⟩
        rw [hfamn _ hfs, if_pos rfl]
        refine ⟨by intro q; have := q.2; simp only at this; omega, by intro q; simp only at q; omega, fun _ => ?_⟩
        rw [hnl]; simp only; omega
    · by_cases e2 : b2 = s.next
      · subst e2
        rw [upd_self] at h2'; cases h2'
        simp only [upd, if_neg hne] at h1'
        obtain ⟨o', ho', hr⟩ := h.obj b1 l1 h1'
        cases o' with
        | map es c => obtain ⟨q0, es', q1, q2⟩ := hr; simp only at he; rw [he, hcs] at q1; cases q1
        | iter t p => have := hr.2; simp only at he; rw [he, hcs] at this; cases this
        | blk c1 t1 g1 f1 v1 =>
          obtain ⟨rfl, hv1, hend⟩ := hends b1 l1 _ _ _ _ _ h1' he ho'
          refine ⟨c1, t1, g1, f1, v1, _, _, _, ver + 1, by rw [hgetn, if_neg hne]; exact ho', by rw [hgetn, if_pos rfl], ?_⟩
          rw [hfamn _ hfs, if_pos rfl]
          refine ⟨by intro q; have := q.1; simp only at this; omega, fun _ => ?_, by intro q; simp only at q; omega⟩
          rw [hnl]; simp only; omega
      · simp only [upd, if_neg e1] at h1'
        simp only [upd, if_neg e2] at h2'
        obtain ⟨c1, t1, g1, f, v1, c2, t2, g2, v2, q1, q2, q3, q4, q5⟩ := h.apart b1 b2 l1 l2 hne h1' h2' he
        have hf1 := (famlt h h1' q1)
        have hf2 := (famlt h h2' q2)
        refine ⟨c1, t1, g1, f, v1, c2, t2, g2, v2, by rw [hgetn, if_neg e1]; exact q1, by rw [hgetn, if_neg e2]; exact q2, ?_⟩
        rw [hfamn _ hf1.hfam]
        split
        · rename_i e3; subst e3
          have := hf1.hver; have := hf2.hver
          exact ⟨by intro q; have := q.1; simp only at this; omega, by intro q; simp only at q; omega, by intro q; simp only at q; omega⟩
        · exact ⟨q3, q4, q5⟩
/-- An empty slice in a block that is there. -/
theorem Rel.empty (h : Rel w0 μ s w) {b : Nat} {L : Loc} (hl : μ b = some L) {cells : List Cell} {ty esz fam ver : Nat} (ho : s.get b = some (.blk cells ty esz fam ver)) (hpos : 0 < (s.fam fam).1) (l : Loc) (hblk : l.blk = L.blk) (hsh : l.sh ≤ L.sh + cells.length) :
    Rel w0 (upd μ s.next l) (s.push (.blk [] ty esz fam 0)) w := by
  have hB := famlt h hl ho
  have hsub := sub_upd l h.fresh
  have hfs := hB.hfam
  have hgetn : ∀ b', (s.push (.blk [] ty esz fam 0)).get b' = if b' = s.next then some (.blk [] ty esz fam 0) else s.get b' := fun b' => St.get_push h.wf _ _
  have hfamn : ∀ r, r < s.next → (s.push (.blk [] ty esz fam 0)).fam r = s.fam r := by
    intro r hr; rw [St.fam_push h.wf _ _ (by omega), if_neg (by omega)]
  have hends : ∀ b' l' c1 t1 g1 f1 v1, μ b' = some l' → l'.blk = L.blk → s.get b' = some (.blk c1 t1 g1 f1 v1) → f1 = fam ∧ (v1 = (s.fam fam).1 → l.sh ≤ l'.sh + c1.length) := by
    intro b' l' c1 t1 g1 f1 v1 hl' hb' ho'
    by_cases e : b' = b
    · subst e; rw [hl] at hl'; cases hl'; rw [ho] at ho'; cases ho'; exact ⟨rfl, fun _ => hsh⟩
    · obtain ⟨d1, t1', g1', f, u1, d2, t2, g2, u2, q1, q2, q3, q4, q5⟩ := h.apart b' b l' L e hl' hl hb'
      rw [ho] at q2; cases q2
      rw [ho'] at q1; cases q1
      exact ⟨rfl, fun q => by have := q5 q; omega⟩
  have isblk : ∀ b' l', μ b' = some l' → l'.blk = L.blk → ∃ c1 t1 g1 f1 v1, s.get b' = some (.blk c1 t1 g1 f1 v1) := by
    intro b' l' hl' hb'
    by_cases e : b' = b
    · subst e; exact ⟨_, _, _, _, _, ho⟩
    · obtain ⟨d1, t1', g1', f, u1, d2, t2, g2, u2, q1, _⟩ := h.apart b' b l' L e hl' hl hb'
      exact ⟨_, _, _, _, _, q1⟩
  refine ⟨St.wf_push h.wf _, h.below, ?_, ?_⟩
  · intro b' l' hl'
    by_cases e : b' = s.next
    · subst e
      rw [upd_self] at hl'; cases hl'
      refine ⟨_, by rw [hgetn, if_pos rfl], ?_⟩
      refine ⟨by simp only [St.push]; omega, Nat.zero_le _, by rw [hblk]; exact hB.lt, Nat.zero_le _, fun q => ?_, fun _ i c hi => by simp at hi⟩
      rw [hfamn _ hfs] at q; omega
    · simp only [upd, if_neg e] at hl'
      obtain ⟨o', ho', hr⟩ := h.obj b' l' hl'
      exact ⟨o', by rw [hgetn, if_neg e]; exact ho', hr.keep hsub hfamn (by simp [St.push]) rfl⟩
  · intro b1 b2 l1 l2 hne h1' h2' he
    by_cases e1 : b1 = s.next
    · subst e1
      rw [upd_self] at h1'; cases h1'
      simp only [upd, if_neg (Ne.symm hne)] at h2'
      obtain ⟨c1, t1, g1, f1, v1, ho'⟩ := isblk b2 l2 h2' (by omega)
      obtain ⟨rfl, q⟩ := hends b2 l2 _ _ _ _ _ h2' (by omega) ho'
      refine ⟨_, _, _, f1, 0, c1, t1, g1, v1, by rw [hgetn, if_pos rfl], by rw [hgetn, if_neg (Ne.symm hne)]; exact ho', ?_⟩
      rw [hfamn _ hfs]
      exact ⟨by intro q; have := q.1; omega, by simpa using q, by intro q; omega⟩
    · by_cases e2 : b2 = s.next
      · subst e2
        rw [upd_self] at h2'; cases h2'
        simp only [upd, if_neg hne] at h1'
        obtain ⟨c1, t1, g1, f1, v1, ho'⟩ := isblk b1 l1 h1' (by omega)
        obtain ⟨rfl, q⟩ := hends b1 l1 _ _ _ _ _ h1' (by omega) ho'
        refine ⟨c1, t1, g1, f1, v1, _, _, _, 0, by rw [hgetn, if_neg hne]; exact ho', by rw [hgetn, if_pos rfl], ?_⟩
        rw [hfamn _ hfs]
        exact ⟨by intro q; have := q.2; omega, by intro q; omega, by simpa using q⟩
      · simp only [upd, if_neg e1] at h1'
        simp only [upd, if_neg e2] at h2'
        obtain ⟨c1, t1, g1, f, v1, c2, t2, g2, v2, q1, q2, q3⟩ := h.apart b1 b2 l1 l2 hne h1' h2' he
        have hf1 := (famlt h h1' q1)
        exact ⟨c1, t1, g1, f, v1, c2, t2, g2, v2, by rw [hgetn, if_neg e1]; exact q1, by rw [hgetn, if_neg e2]; exact q2, by rw [hfamn _ hf1.hfam]; exact q3⟩
end
end Go.Proofs.Ytlmmeihgjpgooaa.AM
