/- The abstract machine's relation to the model's world: what reading, writing and making leave of it. -/
import Derived.Test.YtlmmeihgjpgooaaAMS1
import Derived.Laws.CopyRow
set_option linter.unusedSimpArgs false
set_option linter.unusedVariables false
namespace Go.Proofs.Ytlmmeihgjpgooaa.AM
open Go Go.RowKit

def concE (μ : Map) : List (V1 × V1 × Nat) → Option (List MapEntry)
  | [] => some []
  | e :: es => match e.1.conc μ, e.2.1.conc μ, concE μ es with
    | some k, some v, some l => some ({ key := k, val := v, born := e.2.2 } :: l)
    | _, _, _ => none
theorem concE_cons {μ : Map} {e : V1 × V1 × Nat} {es : List (V1 × V1 × Nat)} {l : List MapEntry} : concE μ (e :: es) = some l ↔ ∃ k v r, e.1.conc μ = some k ∧ e.2.1.conc μ = some v ∧ concE μ es = some r ∧ l = { key := k, val := v, born := e.2.2 } :: r := by
  simp only [concE]
  cases e.1.conc μ <;> cases e.2.1.conc μ <;> cases concE μ es <;> simp [eq_comm]
theorem concE_mono {μ μ' : Map} (h : Sub μ μ') : ∀ {l : List (V1 × V1 × Nat)} {vs}, concE μ l = some vs → concE μ' l = some vs
  | [], vs, e => by simpa [concE] using e
  | p :: ps, vs, e => by
    obtain ⟨k, v, r, h1, h2, h3, rfl⟩ := concE_cons.1 e
    exact concE_cons.2 ⟨k, v, r, V1.conc_mono h h1, V1.conc_mono h h2, concE_mono h h3, rfl⟩

structure BlkRel (w0 : World) (μ : Map) (s : St) (w : World) (l : Loc) (cells : List Cell) (ty esz fam ver : Nat) : Prop where
  hfam : fam < s.next
  hver : ver ≤ (s.fam fam).1
  lt : l.blk < w.heap.size
  hcap : cells.length ≤ l.cap * esz
  own : ver = (s.fam fam).1 → w0.heap.size ≤ l.blk ∧ ∃ cs, w.heap[l.blk]? = some (.cells cs ty (0, 0)) ∧ l.sh + l.cap * esz ≤ cs.size
  read : (s.fam fam).2 ≤ ver → ∀ (i : Nat) (c : Cell), cells[i]? = some c → ∃ v, c.conc μ = some v ∧ w.cell? ⟨l.blk, l.sh + i, none⟩ = some v
def ObjRel (w0 : World) (μ : Map) (s : St) (w : World) (l : Loc) : Obj → Prop
  | .blk cells ty esz fam ver => BlkRel w0 μ s w l cells ty esz fam ver
  | .map es clock => w0.heap.size ≤ l.blk ∧ ∃ es' : Array MapEntry, w.heap[l.blk]? = some (.map es' clock) ∧ concE μ es = some es'.toList
  | .iter t pos => (w0.heap.size ≤ l.blk ∧ l.sh = 0) ∧ w.heap[l.blk]? = some (.stringIter t pos)
def SameFam (s : St) (l1 l2 : Loc) (b1 b2 : Nat) : Prop :=
  ∃ c1 t1 e1 f v1 c2 t2 e2 v2, s.get b1 = some (.blk c1 t1 e1 f v1) ∧ s.get b2 = some (.blk c2 t2 e2 f v2) ∧ ¬ (v1 = (s.fam f).1 ∧ v2 = (s.fam f).1) ∧
    (v2 = (s.fam f).1 → l1.sh + c1.length ≤ l2.sh + c2.length) ∧ (v1 = (s.fam f).1 → l2.sh + c2.length ≤ l1.sh + c1.length)
structure Rel (w0 : World) (μ : Map) (s : St) (w : World) : Prop where
  wf : s.wf
  below : Below w0.heap.size w0 w
  obj : ∀ b l, μ b = some l → ∃ o, s.get b = some o ∧ ObjRel w0 μ s w l o
  apart : ∀ b1 b2 l1 l2, b1 ≠ b2 → μ b1 = some l1 → μ b2 = some l2 → l1.blk = l2.blk → SameFam s l1 l2 b1 b2

theorem Rel.dom {w0 w : World} {μ : Map} {s : St} (h : Rel w0 μ s w) {b : Nat} {l : Loc} (hb : μ b = some l) : b < s.next := by
  obtain ⟨o, ho, _⟩ := h.obj b l hb; exact St.get_lt ho
theorem Rel.fresh {w0 w : World} {μ : Map} {s : St} (h : Rel w0 μ s w) : μ s.next = none := by
  cases e : μ s.next with
  | none => rfl
  | some l => have := h.dom e; omega
theorem ObjRel.lt {w0 w : World} {μ : Map} {s : St} {l : Loc} {o : Obj} (h : ObjRel w0 μ s w l o) : l.blk < w.heap.size := by
  cases o with
  | blk => exact BlkRel.lt h
  | map es c => obtain ⟨_, es', h, _⟩ := h; exact (Array.getElem?_eq_some_iff.1 h).1
  | iter t p => exact (Array.getElem?_eq_some_iff.1 h.2).1
def upd (μ : Map) (b : Nat) (l : Loc) : Map := fun x => if x = b then some l else μ x
theorem upd_self (μ : Map) (b : Nat) (l : Loc) : upd μ b l b = some l := by simp [upd]
theorem sub_upd {μ : Map} {b : Nat} (l : Loc) (h : μ b = none) : Sub μ (upd μ b l) := by
  intro x l' hx
  unfold upd
  by_cases e : x = b
  · subst e; rw [h] at hx; cases hx
  · rw [if_neg e]; exact hx
theorem ObjRel.keep {w0 w w' : World} {μ μ' : Map} {s s' : St} {l : Loc} {o : Obj} (h : ObjRel w0 μ s w l o) (hμ : Sub μ μ') (hf : ∀ r, r < s.next → s'.fam r = s.fam r) (hn : s.next ≤ s'.next)
    (hw : w'.heap[l.blk]? = w.heap[l.blk]?) : ObjRel w0 μ' s' w' l o := by
  have hlt : l.blk < w'.heap.size := by
    have h1 := h.lt
    rw [Array.getElem?_eq_getElem h1] at hw
    exact (Array.getElem?_eq_some_iff.1 hw).1
  cases o with
  | blk cells ty esz fam ver =>
    have hb : BlkRel w0 μ s w l cells ty esz fam ver := h
    refine ⟨Nat.lt_of_lt_of_le hb.hfam hn, by rw [hf _ hb.hfam]; exact hb.hver, hlt, hb.hcap, ?_, ?_⟩
    · rw [hf _ hb.hfam, hw]; exact hb.own
    · rw [hf _ hb.hfam]
      intro hv i c hc
      obtain ⟨v, h1, h2⟩ := hb.read hv i c hc
      exact ⟨v, Cell.conc_mono hμ h1, by rw [World.cell?_of_block (w := w) (a := ⟨l.blk, l.sh + i, none⟩) hw]; exact h2⟩
  | map es c => obtain ⟨h0, es', h1, h2⟩ := h; exact ⟨h0, es', by rw [hw]; exact h1, concE_mono hμ h2⟩
  | iter t p => exact ⟨h.1, by rw [hw]; exact h.2⟩
theorem Rel.world {w0 w w' : World} {μ : Map} {s : St} (h : Rel w0 μ s w) (hb : Below w.heap.size w w') (h0 : w0.heap.size ≤ w.heap.size) : Rel w0 μ s w' :=
  ⟨h.wf, h.below.trans (hb.mono h0), fun b l hl => by
    obtain ⟨o, ho, hr⟩ := h.obj b l hl
    exact ⟨o, ho, hr.keep (Sub.refl _) (fun _ _ => rfl) (Nat.le_refl _) (hb.block _ hr.lt)⟩, h.apart⟩
theorem Rel.size {w0 w : World} {μ : Map} {s : St} (h : Rel w0 μ s w) : w0.heap.size ≤ w.heap.size := h.below.size
theorem Rel.drew {w0 w : World} {μ : Map} {s : St} (h : Rel w0 μ s w) : Rel w0 μ s w.drew := h.world (Below.refl _ _).drew h.size
/-- Reading. -/
theorem Rel.read {w0 w : World} {μ : Map} {s : St} (h : Rel w0 μ s w) {b off n : Nat} {cs : List Cell} {l : Loc} (hr : s.read b off n = some cs) (hl : μ b = some l) :
    ∃ vs, concs μ cs = some vs ∧ vs.length = n ∧ ∀ (j : Nat) (v : Value), vs[j]? = some v → w.cell? ((⟨l.blk, l.sh + off, none⟩ : Addr).add j) = some v := by
  unfold St.read at hr
  by_cases hn : n = 0
  · subst hn; simp at hr; subst hr; exact ⟨[], rfl, rfl, fun j v hj => by simp at hj⟩
  · rw [if_neg hn] at hr
    obtain ⟨o, ho, hO⟩ := h.obj b l hl
    rw [ho] at hr
    cases o with
    | map => cases hr
    | iter => cases hr
    | blk cells ty esz fam ver =>
      simp only at hr
      split at hr
      · rename_i hc
        cases hr
        have hB : BlkRel w0 μ s w l cells ty esz fam ver := hO
        have hrd := hB.read hc.1
        have hget : ∀ (i : Nat) (c : Cell), ((cells.drop off).take n)[i]? = some c → i < n ∧ cells[off + i]? = some c := by
          intro i c hi
          rw [List.getElem?_take] at hi
          by_cases hin : i < n
          · rw [if_pos hin, List.getElem?_drop] at hi; exact ⟨hin, hi⟩
          · rw [if_neg hin] at hi; cases hi
        obtain ⟨vs, hvs⟩ := concs_of (μ := μ) ((cells.drop off).take n) (fun i c hi => by
          obtain ⟨v, h1, _⟩ := hrd _ _ (hget i c hi).2; exact ⟨v, h1⟩)
        have hlen := concs_length hvs
        refine ⟨vs, hvs, by rw [hlen, List.length_take, List.length_drop]; omega, fun j v hj => ?_⟩
        obtain ⟨c, hc1, hc2⟩ := concs_get' hvs hj
        obtain ⟨hjn, hcell⟩ := hget j c hc1
        obtain ⟨u, hu1, hu2⟩ := hrd _ _ hcell
        rw [hc2] at hu1; cases hu1
        rw [Addr.add_lit, Nat.add_assoc]; exact hu2
      · cases hr
theorem read_dead {s : St} {b off n : Nat} {cs : List Cell} (hr : s.read b off n = some cs) : cs.length = n := by
  unfold St.read at hr
  split at hr
  · cases hr; rename_i h; simp [h]
  · split at hr
    · split at hr
      · rename_i hc; cases hr; rw [List.length_take, List.length_drop]; omega
      · cases hr
    · cases hr
/-- A new block. -/
theorem Rel.pushed {w0 w w' : World} {μ : Map} {s : St} (h : Rel w0 μ s w) (o : Obj) (l : Loc) (hb : Below w.heap.size w w') (hl : w.heap.size ≤ l.blk)
    (ho : ObjRel w0 (upd μ s.next l) (s.push o) w' l o) : Rel w0 (upd μ s.next l) (s.push o) w' := by
  have hsub := sub_upd l h.fresh
  refine ⟨St.wf_push h.wf o, h.below.trans (hb.mono h.size), ?_, ?_⟩
  · intro b l' hb'
    by_cases e : b = s.next
    · subst e; rw [upd_self] at hb'; cases hb'
      exact ⟨o, by rw [St.get_push h.wf, if_pos rfl], ho⟩
    · simp only [upd, if_neg e] at hb'
      obtain ⟨o', ho', hr⟩ := h.obj b l' hb'
      refine ⟨o', by rw [St.get_push h.wf, if_neg e]; exact ho', hr.keep hsub (fun r hr => ?_) (by simp [St.push]) (hb.block _ hr.lt)⟩
      rw [St.fam_push h.wf _ _ (by omega), if_neg (by omega)]
  · intro b1 b2 l1 l2 hne h1 h2 he
    by_cases e1 : b1 = s.next
    · subst e1; rw [upd_self] at h1; cases h1
      simp only [upd, if_neg (Ne.symm hne)] at h2
      obtain ⟨o', ho', hr⟩ := h.obj b2 l2 h2
      have := hr.lt; omega
    · by_cases e2 : b2 = s.next
      · subst e2; rw [upd_self] at h2; cases h2
        simp only [upd, if_neg hne] at h1
        obtain ⟨o', ho', hr⟩ := h.obj b1 l1 h1
        have := hr.lt; omega
      · simp only [upd, if_neg e1] at h1
        simp only [upd, if_neg e2] at h2
        obtain ⟨c1, t1, g1, f, v1, c2, t2, g2, v2, q1, q2, q3⟩ := h.apart b1 b2 l1 l2 hne h1 h2 he
        refine ⟨c1, t1, g1, f, v1, c2, t2, g2, v2, by rw [St.get_push h.wf, if_neg e1]; exact q1, by rw [St.get_push h.wf, if_neg e2]; exact q2, ?_⟩
        obtain ⟨o', ho', hr⟩ := h.obj b1 l1 h1
        rw [q1] at ho'; cases ho'
        have hf := BlkRel.hfam hr
        rw [St.fam_push h.wf _ _ (by omega), if_neg (by omega)]; exact q3
theorem Rel.newBlk {w0 w w' : World} {μ : Map} {s : St} (h : Rel w0 μ s w) {cells : List Cell} {vs : List Value} (hv : concs μ cells = some vs) (ty esz cap : Nat) (cs : Array Value)
    (hb : Below w.heap.size w w') (hc : w'.heap[w.heap.size]? = some (.cells cs ty (0, 0))) (hcs : ∀ (j : Nat) (v : Value), vs[j]? = some v → cs[j]? = some v) (h1 : cells.length ≤ cap * esz) (h2 : cap * esz ≤ cs.size) :
    Rel w0 (upd μ s.next ⟨w.heap.size, 0, cap⟩) (s.new cells ty esz) w' := by
  have hsub := sub_upd ⟨w.heap.size, 0, cap⟩ h.fresh
  refine h.pushed _ _ hb (Nat.le_refl _) ?_
  have hfam : (s.push (.blk cells ty esz s.next 1)).fam s.next = (1, 0) := by rw [St.fam_push h.wf _ _ (Nat.le_refl _), if_pos rfl]
  refine ⟨by simp [St.push], by rw [hfam]; exact Nat.le_refl _, (Array.getElem?_eq_some_iff.1 hc).1, h1, fun _ => ⟨h.size, cs, hc, by simpa using h2⟩, fun _ i c hi => ?_⟩
  obtain ⟨v, q1, q2⟩ := concs_get hv hi
  refine ⟨v, Cell.conc_mono hsub q1, ?_⟩
  rw [Nat.zero_add]
  simp only [World.cell?, hc, Option.isSome_none, Bool.false_eq_true, if_false]
  exact hcs i v q2
theorem splice_length {cells : List Cell} {off : Nat} {new : List Cell} (h : off + new.length ≤ cells.length) : (splice cells off new).length = cells.length := by
  unfold splice; simp only [List.length_append, List.length_take, List.length_drop]; omega
theorem splice_get {cells : List Cell} {off : Nat} {new : List Cell} (h : off + new.length ≤ cells.length) (i : Nat) : (splice cells off new)[i]? = if off ≤ i ∧ i < off + new.length then new[i - off]? else cells[i]? := by
  unfold splice
  by_cases h1 : i < off
  · rw [if_neg (by omega), List.append_assoc, List.getElem?_append_left (by rw [List.length_take]; omega), List.getElem?_take, if_pos h1]
  · by_cases h2 : i < off + new.length
    · rw [if_pos (by omega), List.append_assoc, List.getElem?_append_right (by rw [List.length_take]; omega), List.length_take, List.getElem?_append_left (by omega)]
      congr 1; omega
    · rw [if_neg (by omega), List.getElem?_append_right (by simp; omega), List.getElem?_drop]
      simp only [List.length_append, List.length_take]
      congr 1; omega
theorem spliceV_get (cs : List Value) (o : Nat) (vs : List Value) (h : o + vs.length ≤ cs.length) (i : Nat) : (cs.take o ++ vs ++ cs.drop (o + vs.length))[i]? = if o ≤ i ∧ i < o + vs.length then vs[i - o]? else cs[i]? := by
  by_cases h1 : i < o
  · rw [if_neg (by omega), List.append_assoc, List.getElem?_append_left (by rw [List.length_take]; omega), List.getElem?_take, if_pos h1]
  · by_cases h2 : i < o + vs.length
    · rw [if_pos (by omega), List.append_assoc, List.getElem?_append_right (by rw [List.length_take]; omega), List.length_take, List.getElem?_append_left (by omega)]
      congr 1; omega
    · rw [if_neg (by omega), List.getElem?_append_right (by simp; omega), List.getElem?_drop]
      simp only [List.length_append, List.length_take]
      congr 1; omega
/-- The concrete row behind a write. -/
def wrote (w : World) (g : Nat) (cs : Array Value) (o : Nat) (vs : List Value) : World := w.setRow g (cs.toList.take o ++ vs ++ cs.toList.drop (o + vs.length)).toArray
theorem below_setRow {B : Nat} {w0 w : World} (h : Below B w0 w) (g : Nat) (cs : Array Value) (hg : B ≤ g) : Below B w0 (w.setRow g cs) :=
  h.trans ⟨rfl, rfl, rfl, by simp [World.setRow], fun k hk => setRow_other w g k cs (by omega)⟩
/-- Writing. -/
theorem Rel.write {w0 w : World} {μ : Map} {s s' : St} (h : Rel w0 μ s w) {b off : Nat} {new : List Cell} {vs : List Value} {l : Loc} (hw : s.write b off new = some s') (hl : μ b = some l) (hv : concs μ new = some vs) :
    (new = [] ∧ s' = s) ∨ ∃ cs ty, w.heap[l.blk]? = some (.cells cs ty (0, 0)) ∧ l.sh + off + vs.length ≤ cs.size ∧ Rel w0 μ s' (wrote w l.blk cs (l.sh + off) vs) := by
  unfold St.write at hw
  by_cases hn : new = []
  · rw [if_pos hn] at hw; cases hw; exact .inl ⟨hn, rfl⟩
  · rw [if_neg hn] at hw
    right
    obtain ⟨o, ho, hO⟩ := h.obj b l hl
    rw [ho] at hw
    cases o with
    | map => cases hw
    | iter => cases hw
    | blk cells ty esz fam ver =>
      simp only at hw
      split at hw
      · rename_i hc
        cases hw
        have hB : BlkRel w0 μ s w l cells ty esz fam ver := hO
        obtain ⟨h0, cs, hcs, hsz⟩ := hB.own hc.1.1.symm
        have hcap := hB.hcap
        have hlen := concs_length hv
        have hfit : l.sh + off + vs.length ≤ cs.size := by omega
        have hbs : b < s.next := St.get_lt ho
        have hfs := hB.hfam
        have hwf1 := St.wf_setObj h.wf b (.blk (splice cells off new) ty esz fam ver)
        have hgetn : ∀ b', ((s.setObj b (.blk (splice cells off new) ty esz fam ver)).setFam fam (ver, ver)).get b' = if b' = b then some (.blk (splice cells off new) ty esz fam ver) else s.get b' := by
          intro b'; rw [St.get_setFam, St.get_setObj h.wf _ _ hbs]
        have hfamn : ∀ r, r < s.next → ((s.setObj b (.blk (splice cells off new) ty esz fam ver)).setFam fam (ver, ver)).fam r = if r = fam then (ver, ver) else s.fam r := by
          intro r hr
          rw [St.fam_setFam hwf1 _ _ (by exact hfs) _ (by exact hr)]
          rfl
        have hrow := setRow_heap w l.blk cs (cs.toList.take (l.sh + off) ++ vs ++ cs.toList.drop (l.sh + off + vs.length)).toArray ty (0, 0) hcs
        have hrs : (cs.toList.take (l.sh + off) ++ vs ++ cs.toList.drop (l.sh + off + vs.length)).toArray.size = cs.size := by
          simp only [List.size_toArray, List.length_append, List.length_take, List.length_drop, Array.length_toList]; omega
        refine ⟨cs, ty, hcs, hfit, St.wf_setFam hwf1 _ _, below_setRow h.below _ _ h0, ?_, ?_⟩
        · intro b' l' hl'
          by_cases e : b' = b
          · subst e
            rw [hl] at hl'; cases hl'
            refine ⟨_, by rw [hgetn, if_pos rfl], ?_⟩
            refine ⟨hfs, by rw [hfamn _ hfs, if_pos rfl]; exact Nat.le_refl _, (Array.getElem?_eq_some_iff.1 hrow).1, by rw [splice_length hc.2]; exact hcap, fun _ => ⟨h0, _, hrow, by rw [hrs]; exact hsz⟩, fun _ i c hi => ?_⟩
            rw [splice_get hc.2] at hi
            have hcell : (wrote w l.blk cs (l.sh + off) vs).cell? ⟨l.blk, l.sh + i, none⟩ = (cs.toList.take (l.sh + off) ++ vs ++ cs.toList.drop (l.sh + off + vs.length))[l.sh + i]? := by
              simp only [World.cell?, wrote, hrow, Option.isSome_none, Bool.false_eq_true, if_false, List.getElem?_toArray]
            rw [hcell, spliceV_get _ _ _ (by rw [Array.length_toList]; exact hfit)]
            by_cases hin : off ≤ i ∧ i < off + new.length
            · rw [if_pos hin] at hi
              obtain ⟨v, q1, q2⟩ := concs_get hv hi
              exact ⟨v, q1, by rw [if_pos (by omega), show l.sh + i - (l.sh + off) = i - off by omega]; exact q2⟩
            · rw [if_neg hin] at hi
              have hlive : (s.fam fam).2 ≤ ver := hc.1.2
              obtain ⟨v, q1, q2⟩ := hB.read hlive i c hi
              refine ⟨v, q1, ?_⟩
              rw [if_neg (by omega)]
              simp only [World.cell?, hcs, Option.isSome_none, Bool.false_eq_true, if_false] at q2
              simpa using q2
          · obtain ⟨o', ho', hr⟩ := h.obj b' l' hl'
            refine ⟨o', by rw [hgetn, if_neg e]; exact ho', ?_⟩
            by_cases hblk : l'.blk = l.blk
            · obtain ⟨c1, t1, g1, f, v1, c2, t2, g2, v2, q1, q2, q3⟩ := h.apart b' b l' l e hl' hl hblk
              rw [ho] at q2; cases q2
              rw [ho'] at q1; cases q1
              have hr' : BlkRel w0 μ s w l' c1 t1 g1 fam v1 := hr
              have hv1 : v1 < ver := by
                have := hr'.hver
                have := hc.1.1
                have : v1 ≠ ver := fun e => q3.1 ⟨by omega, by omega⟩
                omega
              refine ⟨hfs, by rw [hfamn _ hfs, if_pos rfl]; omega, by have := (Array.getElem?_eq_some_iff.1 hrow).1; rw [hblk]; exact this, hr'.hcap, ?_, ?_⟩
              · rw [hfamn _ hfs, if_pos rfl]; intro e; simp only at e; omega
              · rw [hfamn _ hfs, if_pos rfl]; intro e; simp only at e; omega
            · have hother : (wrote w l.blk cs (l.sh + off) vs).heap[l'.blk]? = w.heap[l'.blk]? := setRow_other w _ _ _ hblk
              cases o' with
              | map es c => obtain ⟨q0, es', q1, q2⟩ := hr; exact ⟨q0, es', by rw [hother]; exact q1, q2⟩
              | iter t p => exact ⟨hr.1, by rw [hother]; exact hr.2⟩
              | blk c1 t1 g1 f1 v1 =>
                have hr' : BlkRel w0 μ s w l' c1 t1 g1 f1 v1 := hr
                have hsz' : l'.blk < (wrote w l.blk cs (l.sh + off) vs).heap.size := by simpa [wrote, World.setRow] using hr'.lt
                refine ⟨hr'.hfam, ?_, hsz', hr'.hcap, ?_, ?_⟩
                · rw [hfamn _ hr'.hfam]
                  split
                  · rename_i e2; subst e2; have := hr'.hver; have := hc.1.1; simp only; omega
                  · exact hr'.hver
                · rw [hfamn _ hr'.hfam, hother]
                  split
                  · rename_i e2; subst e2; intro e3; exact hr'.own (by rw [hc.1.1]; exact e3)
                  · exact hr'.own
                · rw [hfamn _ hr'.hfam]
                  intro hle i c hi
                  have hle' : (s.fam f1).2 ≤ v1 := by
                    split at hle
                    · rename_i e2; subst e2
                      simp only at hle
                      have := hc.1.2
                      omega
                    · exact hle
                  obtain ⟨v, q1, q2⟩ := hr'.read hle' i c hi
                  exact ⟨v, q1, by rw [World.cell?_of_block (w := w) (a := ⟨l'.blk, l'.sh + i, none⟩) hother]; exact q2⟩
        · intro b1 b2 l1 l2 hne h1 h2 he
          obtain ⟨c1, t1, g1, f, v1, c2, t2, g2, v2, q1, q2, q3⟩ := h.apart b1 b2 l1 l2 hne h1 h2 he
          have hff : f < s.next := by
            obtain ⟨o', ho', hr⟩ := h.obj b1 l1 h1
            rw [q1] at ho'; cases ho'
            exact BlkRel.hfam hr
          have hkeep : (((s.setObj b (.blk (splice cells off new) ty esz fam ver)).setFam fam (ver, ver)).fam f).1 = (s.fam f).1 := by
            rw [hfamn _ hff]; split
            · rename_i e; subst e; exact hc.1.1.symm
            · rfl
          by_cases e1 : b1 = b
          · subst e1
            rw [ho] at q1; cases q1
            exact ⟨_, _, _, _, _, _, _, _, _, by rw [hgetn, if_pos rfl], by rw [hgetn, if_neg (Ne.symm hne)]; exact q2, by rw [hkeep, splice_length hc.2]; exact q3⟩
          · by_cases e2 : b2 = b
            · subst e2
              rw [ho] at q2; cases q2
              exact ⟨_, _, _, _, _, _, _, _, _, by rw [hgetn, if_neg e1]; exact q1, by rw [hgetn, if_pos rfl], by rw [hkeep, splice_length hc.2]; exact q3⟩
            · exact ⟨_, _, _, _, _, _, _, _, _, by rw [hgetn, if_neg e1]; exact q1, by rw [hgetn, if_neg e2]; exact q2, by rw [hkeep]; exact q3⟩
      · cases hw
end Go.Proofs.Ytlmmeihgjpgooaa.AM
