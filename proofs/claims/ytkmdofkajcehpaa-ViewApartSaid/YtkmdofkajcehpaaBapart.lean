/- Unlike lines are shown unlike. -/
import Derived.Test.YtkmdofkajcehpaaAX
import Derived.Test.YtkmdofkajcehpaaBview
import Derived.Test.YtkmdofkajcehpaaQPrefix
set_option linter.unusedVariables false
set_option linter.unusedSimpArgs false
set_option maxRecDepth 10000
set_option maxHeartbeats 4000000
namespace Go.Proofs.Ytkmdofkajcehpaa.AM.B
open Go Go.RowKit
theorem right_cls2 {x : Sign} (h : rightS x = true) : clsV x.f0 ≠ 0 := by
  have hw := Go.Proofs.Ytkmdofkajcehpaa.P.class_where x.f0
  simp only [rightS, rightV, pointV, Bool.and_eq_true, Bool.or_eq_true, decide_eq_true_eq] at h
  show Go.Proofs.Ytkmdofkajcehpaa.P.class_Of.v x.f0 ≠ 0
  omega
def keyD (x : DC) : Int × Int := (x.f0, x.f1)
theorem eqF_key : ∀ {l l' : List DC}, eqF sameD l l' = true → l.map keyD = l'.map keyD
  | [], [], _ => rfl
  | [], _ :: _, h => by cases h
  | _ :: _, [], h => by cases h
  | x :: l, y :: l', h => by
    simp only [eqF, sameD, Bool.and_eq_true, decide_eq_true_eq] at h
    simp only [List.map_cons, eqF_key h.2, keyD, h.1.1, h.1.2]
def txtL (v : Int) : List UInt8 := (txtV v).data.toList
def kB (lk : Int) (b : UInt8) : Int × Int := ((b.toNat : Int), lk)
/-- What is seen of a sign's cells. -/
def keysV (x : Sign) : List (Int × Int) := (cellsV x 0).map keyD
theorem bytesC_keys (x : Sign) (own : Int) (t : ByteArray) : (bytesC x own t t.size).map keyD = t.data.toList.map (kB (looksV x)) := by
  unfold bytesC
  rw [List.map_map]
  apply List.ext_getElem?
  intro i
  simp only [List.getElem?_map]
  by_cases h : i < t.size
  · have h2 : i < t.data.toList.length := h
    rw [List.getElem?_range h, List.getElem?_eq_getElem h2]
    simp only [Option.map_some, Function.comp, cellAt, keyD, kB, byteAt]
    rw [show ((i : Nat) : Int).toNat = i by omega, List.getElem?_eq_getElem h2]; rfl
  · have h2 : ¬ i < t.data.toList.length := h
    rw [List.getElem?_eq_none (by rw [List.length_range]; omega), List.getElem?_eq_none (by omega)]; rfl
theorem keysV_1 {x : Sign} (own : Int) (h : clsV x.f0 = 1 ∨ clsV x.f0 = 3) : (cellsV x own).map keyD = [(x.f0, looksV x)] := by rw [cellsV_1 h]; rfl
theorem keysV_2 {x : Sign} (own : Int) (h : clsV x.f0 = 2) : (cellsV x own).map keyD = [(x.f0, looksV x), (-1, looksV x)] := by rw [cellsV_2 h]; rfl
theorem keysV_4 {x : Sign} (own : Int) (h : 3 < clsV x.f0) : (cellsV x own).map keyD = (txtL x.f0).map (kB (looksV x)) := by rw [cellsV_4 h]; exact bytesC_keys x own (txtV x.f0)
theorem keysV_own (x : Sign) (own : Int) : (cellsV x own).map keyD = keysV x := by
  unfold keysV
  have h0 := clsV_ge x.f0
  by_cases h : 3 < clsV x.f0
  · rw [keysV_4 own h, keysV_4 0 h]
  · have : clsV x.f0 = 0 ∨ (clsV x.f0 = 1 ∨ clsV x.f0 = 3) ∨ clsV x.f0 = 2 := by omega
    rcases this with h | h | h
    · rw [cellsV_0 h, cellsV_0 h]
    · rw [keysV_1 own h, keysV_1 0 h]
    · rw [keysV_2 own h, keysV_2 0 h]
theorem lineC_keys : ∀ (i : Int) (l : List Sign), (lineC i l).map keyD = l.flatMap keysV
  | _, [] => rfl
  | i, s :: l => by simp only [lineC, List.map_append, List.flatMap_cons, keysV_own, lineC_keys (i + 1) l]
theorem looks_odd (x : Sign) : looksV x % 2 = if 3 < clsV x.f0 then 1 else 0 := by
  unfold looksV
  (repeat' split) <;> omega
theorem map_begin {lk : Int} : ∀ {a b : List UInt8} {R S : List (Int × Int)}, a.map (kB lk) ++ R = b.map (kB lk) ++ S → a.length ≤ b.length → ∃ w, b = a ++ w ∧ R = w.map (kB lk) ++ S
  | [], b, R, S, h, _ => ⟨b, rfl, h⟩
  | x :: a, [], R, S, h, hl => by simp at hl
  | x :: a, y :: b, R, S, h, hl => by
    simp only [List.map_cons, List.cons_append, List.cons.injEq, kB, Prod.mk.injEq, and_true] at h
    obtain ⟨w, h1, h2⟩ := map_begin (a := a) (b := b) h.2 (by simpa using hl)
    have e : x = y := UInt8.toNat_inj.1 (by omega)
    exact ⟨w, by rw [e, h1]; rfl, h2⟩
theorem txt_same {v w : Int} (hv : 3 < clsV v) (hw : 3 < clsV w) {u : List UInt8} (h : txtL w = txtL v ++ u) : v = w ∧ u = [] := by
  have hu := Go.Proofs.Ytkmdofkajcehpaa.P.showT_prefix v w hv hw u h
  subst hu
  rw [List.append_nil] at h
  refine ⟨Go.Proofs.Ytkmdofkajcehpaa.P.showT_inj v w (by show clsV v ≠ 0; omega) (by show clsV w ≠ 0; omega) ⟨fun _ => hw, fun _ => hv⟩ ?_, rfl⟩
  have e : (txtV v).data = (txtV w).data := Array.toList_inj.1 h.symm
  show txtV v = txtV w
  cases hq : txtV v; cases hr : txtV w
  rw [hq, hr] at e
  exact congrArg ByteArray.mk e
theorem keys_head {x : Sign} (h : clsV x.f0 ≠ 0) : ∃ v r, keysV x = (v, looksV x) :: r ∧ (¬ 3 < clsV x.f0 → v = x.f0) := by
  have h0 := clsV_ge x.f0
  unfold keysV
  by_cases h4 : 3 < clsV x.f0
  · rw [keysV_4 0 h4]
    have := txtV_size h4
    have hl : (txtL x.f0).length = (txtV x.f0).size := rfl
    cases hq : txtL x.f0 with
    | nil => rw [hq] at hl; simp at hl; omega
    | cons b t => exact ⟨_, _, rfl, fun q => absurd h4 q⟩
  · have : (clsV x.f0 = 1 ∨ clsV x.f0 = 3) ∨ clsV x.f0 = 2 := by omega
    rcases this with h | h
    · rw [keysV_1 0 h]; exact ⟨_, _, rfl, fun _ => rfl⟩
    · rw [keysV_2 0 h]; exact ⟨_, _, rfl, fun _ => rfl⟩
theorem keys_cancel {x y : Sign} {R S : List (Int × Int)} (hx : clsV x.f0 ≠ 0) (hy : clsV y.f0 ≠ 0) (h : keysV x ++ R = keysV y ++ S) : x.f0 = y.f0 ∧ R = S := by
  obtain ⟨v, r, e1, f1⟩ := keys_head hx
  obtain ⟨w, q, e2, f2⟩ := keys_head hy
  have hh := h
  rw [e1, e2] at hh
  simp only [List.cons_append, List.cons.injEq, Prod.mk.injEq] at hh
  obtain ⟨⟨hvw, hlk⟩, _⟩ := hh
  have o1 := looks_odd x
  have o2 := looks_odd y
  have hx0 := clsV_ge x.f0
  by_cases hd : 3 < clsV x.f0
  · have hd2 : 3 < clsV y.f0 := by
      rw [if_pos hd] at o1
      by_cases q : 3 < clsV y.f0
      · exact q
      · rw [if_neg q] at o2; omega
    unfold keysV at h
    rw [keysV_4 0 hd, keysV_4 0 hd2, hlk] at h
    by_cases hl : (txtL x.f0).length ≤ (txtL y.f0).length
    · obtain ⟨u, g1, g2⟩ := map_begin h hl
      obtain ⟨a, b⟩ := txt_same hd hd2 g1
      subst b
      exact ⟨a, g2⟩
    · obtain ⟨u, g1, g2⟩ := map_begin h.symm (by omega)
      obtain ⟨a, b⟩ := txt_same hd2 hd g1
      subst b
      exact ⟨a.symm, g2.symm⟩
  · have hd2 : ¬ 3 < clsV y.f0 := by
      rw [if_neg hd] at o1
      intro q
      rw [if_pos q] at o2; omega
    have e : x.f0 = y.f0 := by rw [← f1 hd, ← f2 hd2]; exact hvw
    refine ⟨e, ?_⟩
    have hk : keysV x = keysV y := by
      unfold keysV
      have hc : (clsV x.f0 = 1 ∨ clsV x.f0 = 3) ∨ clsV x.f0 = 2 := by omega
      rcases hc with hc | hc
      · rw [keysV_1 0 hc, keysV_1 0 (by rw [← e]; exact hc), e, hlk]
      · rw [keysV_2 0 hc, keysV_2 0 (by rw [← e]; exact hc), e, hlk]
    rw [hk] at h
    exact List.append_cancel_left h
theorem keys_inj : ∀ {a b : List Sign}, a.all rightS = true → b.all rightS = true → a.flatMap keysV = b.flatMap keysV → a.map (·.f0) = b.map (·.f0)
  | [], [], _, _, _ => rfl
  | [], y :: b, _, hb, h => by
    simp only [List.all_cons, Bool.and_eq_true] at hb
    obtain ⟨v, r, e, _⟩ := keys_head (right_cls2 hb.1)
    rw [List.flatMap_cons, e] at h; cases h
  | x :: a, [], ha, _, h => by
    simp only [List.all_cons, Bool.and_eq_true] at ha
    obtain ⟨v, r, e, _⟩ := keys_head (right_cls2 ha.1)
    rw [List.flatMap_cons, e] at h; cases h
  | x :: a, y :: b, ha, hb, h => by
    simp only [List.all_cons, Bool.and_eq_true] at ha hb
    simp only [List.flatMap_cons] at h
    obtain ⟨h1, h2⟩ := keys_cancel (right_cls2 ha.1) (right_cls2 hb.1) h
    simp only [List.map_cons, h1, keys_inj ha.2 hb.2 h2]
theorem view_apart {p a b : List Sign} (ha : a.all rightS = true) (hb : b.all rightS = true) (h : eqF sameD (viewC p a) (viewC p b) = true) : a.map (·.f0) = b.map (·.f0) := by
  have e := eqF_key h
  unfold viewC at e
  rw [List.map_append, List.map_append, lineC_keys, lineC_keys] at e
  exact keys_inj ha hb (List.append_cancel_left e)
end Go.Proofs.Ytkmdofkajcehpaa.AM.B
