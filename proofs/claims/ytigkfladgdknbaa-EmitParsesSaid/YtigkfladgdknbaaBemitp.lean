/- Pieces and their bytes: what a text of the grammar is. No program. -/
import Derived.Test.YtigkfladgdknbaaAX
import Derived.Test.YtigkfladgdknbaaButf
import Derived.Test.YtigkfladgdknbaaP0
import Derived.Test.YtigkfladgdknbaaQWidth
import Derived.Test.YtigkfladgdknbaaQClassWhere
set_option linter.unusedVariables false
set_option linter.unusedSimpArgs false
set_option maxRecDepth 10000
set_option maxHeartbeats 4000000
namespace Go.Proofs.Ytigkfladgdknbaa.AM.B
open Go Go.RowKit
abbrev OutS := Go.Proofs.Ytigkfladgdknbaa.P.S31
abbrev clsV (v : Int) : Int := Go.Proofs.Ytigkfladgdknbaa.P.class_Of.v v
abbrev widthV (v : Int) : Int := Go.Proofs.Ytigkfladgdknbaa.P.widthC (clsV v)
theorem width_cls {v : Int} : widthV v ≠ 0 ↔ (1 ≤ clsV v ∧ clsV v ≤ 3) := by
  show Go.Proofs.Ytigkfladgdknbaa.P.widthC (clsV v) ≠ 0 ↔ _
  unfold Go.Proofs.Ytigkfladgdknbaa.P.widthC
  repeat' split
  all_goals omega
set_option maxRecDepth 100000 in
theorem cls_low : ∀ n : Nat, n < 32 → clsV (n : Int) = 4 := by decide +kernel
set_option maxRecDepth 100000 in
theorem cls_127 : clsV 127 = 5 := by decide +kernel
set_option maxRecDepth 100000 in
theorem cls_ascii : ∀ n : Nat, n < 127 → clsV (n : Int) ≤ 4 := by decide +kernel
theorem width_ok {v : Int} (h : widthV v ≠ 0) : 32 ≤ v ∧ v ≠ 127 ∧ v ≤ 1114111 := by
  have h1 := width_cls.1 h
  have hl : 0 ≤ v → v < 32 → False := fun a b => by
    have := cls_low v.toNat (by omega)
    rw [Int.toNat_of_nonneg a] at this
    omega
  have hd : v ≠ 127 := by
    rintro rfl
    rw [cls_127] at h1; omega
  have h2 := Go.Proofs.Ytigkfladgdknbaa.P.class_where v
  have h3 : clsV v = Go.Proofs.Ytigkfladgdknbaa.P.class_Of.v v := rfl
  have h0 : 0 ≤ v ∧ v ≤ 1114111 := by omega
  have h32 : 32 ≤ v := by
    rcases Int.lt_or_le v 32 with q | q
    · exact (hl h0.1 q).elim
    · exact q
  exact ⟨h32, hd, h0.2⟩
theorem width_pos {v : Int} (h : widthV v ≠ 0) : 1 ≤ widthV v ∧ widthV v ≤ 2 := by
  revert h
  show Go.Proofs.Ytigkfladgdknbaa.P.widthC (clsV v) ≠ 0 → 1 ≤ Go.Proofs.Ytigkfladgdknbaa.P.widthC (clsV v) ∧ Go.Proofs.Ytigkfladgdknbaa.P.widthC (clsV v) ≤ 2
  unfold Go.Proofs.Ytigkfladgdknbaa.P.widthC
  repeat' split
  all_goals omega
theorem bl_append (a b : ByteArray) : bl (a ++ b) = bl a ++ bl b := by
  show (a ++ b).data.toList = _
  rw [ByteArray.data_append, Array.toList_append]
/-! ### Numbers -/
/-- A number's digits. -/
def decR (n : Nat) : List UInt8 := if h : n < 10 then [UInt8.ofNat (48 + n)] else decR (n / 10) ++ [UInt8.ofNat (48 + n % 10)]
termination_by n
decreasing_by exact Nat.div_lt_self (by omega) (by decide)
theorem decR_lt {n : Nat} (h : n < 10) : decR n = [UInt8.ofNat (48 + n)] := by rw [decR]; exact dif_pos h
theorem decR_ge {n : Nat} (h : 10 ≤ n) : decR n = decR (n / 10) ++ [UInt8.ofNat (48 + n % 10)] := by rw [decR]; exact dif_neg (by omega)
theorem dig_nat {d : Nat} (h : d < 10) : (UInt8.ofNat (48 + d)).toNat = 48 + d := by rw [UInt8.toNat_ofNat']; omega
theorem decR_digs : ∀ (m n : Nat), n < m → ∀ x ∈ decR n, 48 ≤ x.toNat ∧ x.toNat ≤ 57
  | 0, n, h => by omega
  | m + 1, n, h => by
    intro x hx
    rcases Nat.lt_or_ge n 10 with q | q
    · rw [decR_lt q, List.mem_singleton] at hx
      subst hx; rw [dig_nat q]; omega
    · rw [decR_ge q, List.mem_append, List.mem_singleton] at hx
      have := Nat.div_lt_self (n := n) (k := 10) (by omega) (by decide)
      rcases hx with hx | hx
      · exact decR_digs m (n / 10) (by omega) x hx
      · subst hx; rw [dig_nat (Nat.mod_lt _ (by decide))]; omega
theorem decR_dig (n : Nat) : ∀ x ∈ decR n, 48 ≤ x.toNat ∧ x.toNat ≤ 57 := decR_digs (n + 1) n (Nat.lt_succ_self n)
theorem decR_len : ∀ (m n : Nat), n < 10 ^ m → 1 ≤ m → (decR n).length ≤ m
  | 0, n, h, h1 => by omega
  | m + 1, n, h, _ => by
    rcases Nat.lt_or_ge n 10 with q | q
    · rw [decR_lt q]; simp
    · rw [decR_ge q, List.length_append]
      have hm : 1 ≤ m := by
        rcases m with _ | m
        · simp at h; omega
        · omega
      have := decR_len m (n / 10) (by rw [Nat.pow_succ] at h; omega) hm
      simp only [List.length_cons, List.length_nil]; omega
/-- What digits are worth. -/
def numW : List UInt8 → Nat → Nat
  | [], u => u
  | x :: l, u => numW l (10 * u + (x.toNat - 48))
theorem numW_snoc : ∀ (l : List UInt8) (x : UInt8) (u : Nat), numW (l ++ [x]) u = 10 * numW l u + (x.toNat - 48)
  | [], x, u => rfl
  | y :: l, x, u => by simp only [List.cons_append, numW]; exact numW_snoc l x _
theorem numW_decs : ∀ (m n : Nat), n < m → numW (decR n) 0 = n
  | 0, n, h => by omega
  | m + 1, n, h => by
    rcases Nat.lt_or_ge n 10 with q | q
    · rw [decR_lt q]; simp only [numW]; rw [dig_nat q]; omega
    · have := Nat.div_lt_self (n := n) (k := 10) (by omega) (by decide)
      rw [decR_ge q, numW_snoc, numW_decs m (n / 10) (by omega), dig_nat (Nat.mod_lt _ (by decide))]
      have := Nat.div_add_mod n 10
      omega
theorem numW_dec (n : Nat) : numW (decR n) 0 = n := numW_decs (n + 1) n (Nat.lt_succ_self n)
/-! ### Pieces -/
def begB : List UInt8 := [27, 91]
def looksT : List (List UInt8) := [[48, 109], [48, 59, 55, 109], [48, 59, 52, 109], [48, 59, 55, 59, 52, 109], [48, 59, 49, 109], [48, 59, 55, 59, 49, 109], [48, 59, 52, 59, 49, 109], [48, 59, 55, 59, 52, 59, 49, 109]]
def looksB (n : Int) : List UInt8 := (looksT[n.toNat]?).getD []
/-- A text that is shown as it is. -/
def plainL (l : List UInt8) : Bool := decide (l ≠ []) && (vals l).all fun v => decide (widthV v ≠ 0)
/-- May a piece be? -/
def mayO (o : OutS) : Bool :=
  if o.f0 = 0 then decide (o.f1 = 0 ∧ o.f2 = 0) && plainL (bl o.f3)
  else decide (o.f3 = ⟨#[]⟩) && (if o.f0 = 1 then decide (1 ≤ o.f1 ∧ o.f1 ≤ 1000 ∧ 1 ≤ o.f2 ∧ o.f2 ≤ 1000) else decide (o.f2 = 0) &&
    (if o.f0 = 4 then decide (0 ≤ o.f1 ∧ o.f1 ≤ 7) else if o.f0 = 5 then decide (o.f1 = 0 ∨ o.f1 = 1) else decide (2 ≤ o.f0 ∧ o.f0 ≤ 8 ∧ o.f1 = 0)))
/-- A piece's bytes behind the bracket. -/
def escL (o : OutS) : List UInt8 :=
  if o.f0 = 1 then decR o.f1.toNat ++ 59 :: (decR o.f2.toNat ++ [72]) else if o.f0 = 2 then [50, 74] else if o.f0 = 3 then [75] else if o.f0 = 4 then looksB o.f1
  else [63, 50, 48, 48, 52] ++ (if o.f1 = 0 then [108] else [104])
def bytesL (o : OutS) : List UInt8 :=
  if o.f0 = 0 then bl o.f3 else if o.f0 = 6 then [7] else if o.f0 = 7 then [13] else if o.f0 = 8 then [10] else begB ++ escL o
def textL (l : List OutS) : List UInt8 := l.flatMap bytesL
/-- What a piece that may be is. -/
theorem may_cases {o : OutS} (h : mayO o = true) : (o.f0 = 0 ∧ o.f1 = 0 ∧ o.f2 = 0 ∧ plainL (bl o.f3) = true) ∨
    (o.f3 = ⟨#[]⟩ ∧ ((o.f0 = 1 ∧ 1 ≤ o.f1 ∧ o.f1 ≤ 1000 ∧ 1 ≤ o.f2 ∧ o.f2 ≤ 1000) ∨ (o.f0 = 4 ∧ o.f2 = 0 ∧ 0 ≤ o.f1 ∧ o.f1 ≤ 7) ∨ (o.f0 = 5 ∧ o.f2 = 0 ∧ (o.f1 = 0 ∨ o.f1 = 1)) ∨
      ((o.f0 = 2 ∨ o.f0 = 3 ∨ o.f0 = 6 ∨ o.f0 = 7 ∨ o.f0 = 8) ∧ o.f1 = 0 ∧ o.f2 = 0))) := by
  unfold mayO at h
  split at h
  · rename_i h0
    rw [Bool.and_eq_true, decide_eq_true_eq] at h
    exact .inl ⟨h0, h.1.1, h.1.2, h.2⟩
  · rename_i h0
    rw [Bool.and_eq_true, decide_eq_true_eq] at h
    refine .inr ⟨h.1, ?_⟩
    have h2 := h.2
    split at h2
    · rename_i h1; exact .inl ⟨h1, of_decide_eq_true h2⟩
    · rename_i h1
      rw [Bool.and_eq_true, decide_eq_true_eq] at h2
      have h3 := h2.2
      split at h3
      · rename_i h4; exact .inr (.inl ⟨h4, h2.1, of_decide_eq_true h3⟩)
      · rename_i h4
        split at h3
        · rename_i h5; exact .inr (.inr (.inl ⟨h5, h2.1, of_decide_eq_true h3⟩))
        · rename_i h5
          have := of_decide_eq_true h3
          exact .inr (.inr (.inr ⟨by omega, this.2.2, h2.1⟩))
theorem plain_ne {l : List UInt8} (h : plainL l = true) : l ≠ [] := by
  unfold plainL at h
  rw [Bool.and_eq_true, decide_eq_true_eq] at h; exact h.1
theorem plain_all {l : List UInt8} (h : plainL l = true) : ∀ v ∈ vals l, widthV v ≠ 0 := by
  unfold plainL at h
  rw [Bool.and_eq_true, List.all_eq_true] at h
  intro v hv
  exact of_decide_eq_true (h.2 v hv)
/-- A byte that is no control. -/
def okB (x : UInt8) : Prop := 32 ≤ x.toNat ∧ x.toNat ≠ 127
theorem oneL_bytes {l : List UInt8} (h : l ≠ []) (hp : widthV ((oneL l).1 : Int) ≠ 0) : ∀ x ∈ l.take (oneL l).2, okB x := by
  have hw := oneL_wid h
  have hv := width_ok hp
  have l0 := bAt_lt l 0
  have hat : ∀ (i : Nat) (x : UInt8), (l.take (oneL l).2)[i]? = some x → x.toNat = bAt l i ∧ i < (oneL l).2 := by
    intro i x hx
    have hi : i < (oneL l).2 := by
      have := (List.getElem?_eq_some_iff.1 hx).1
      rw [List.length_take] at this; omega
    rw [List.getElem?_take_of_lt hi] at hx
    unfold bAt; rw [hx]; exact ⟨rfl, hi⟩
  intro x hx
  obtain ⟨i, hi⟩ := List.getElem?_of_mem hx
  obtain ⟨e1, e2⟩ := hat i x hi
  unfold okB
  by_cases hb : begN l.length (bAt l 0) (bAt l 1) (bAt l 2) (bAt l 3) = szN (bAt l 0)
  · unfold oneL at e2 hv
    rcases one_ok hb with ⟨q, e⟩ | ⟨q, q1, q2, r1, r2, e⟩ | ⟨q, q1, q2, r1, r2, r3, r4, r5, e⟩ | ⟨q, q1, q2, r1, r2, r3, r4, r5, r6, r7, e⟩
    all_goals rw [e] at e2 hv; simp only [] at e2 hv
    · obtain rfl : i = 0 := by omega
      omega
    · obtain rfl | rfl : i = 0 ∨ i = 1 := by omega
      all_goals omega
    · obtain rfl | rfl | rfl : i = 0 ∨ i = 1 ∨ i = 2 := by omega
      all_goals omega
    · obtain rfl | rfl | rfl | rfl : i = 0 ∨ i = 1 ∨ i = 2 ∨ i = 3 := by omega
      all_goals omega
  · have e : oneL l = (1114112 + bAt l 0, 1) := by unfold oneL oneN; rw [if_pos hb]
    rw [e] at hv
    simp only [] at hv
    omega
theorem vals_bytes : ∀ (k : Nat) (l : List UInt8), l.length ≤ k → (∀ v ∈ vals l, widthV v ≠ 0) → ∀ x ∈ l, okB x
  | 0, l, h, _ => by
    have : l = [] := List.length_eq_zero_iff.1 (by omega)
    subst this; intro x hx; cases hx
  | k + 1, l, h, hv => by
    by_cases e : l = []
    · subst e; intro x hx; cases hx
    · have hw := oneL_wid e
      rw [vals_cons e] at hv
      have h1 := oneL_bytes e (hv _ (List.mem_cons_self ..))
      have h2 := vals_bytes k (l.drop (oneL l).2) (by rw [List.length_drop]; omega) fun v hx => hv v (List.mem_cons_of_mem _ hx)
      intro x hx
      rw [← List.take_append_drop (oneL l).2 l] at hx
      rcases List.mem_append.1 hx with q | q
      · exact h1 x q
      · exact h2 x q
theorem plain_bytes {l : List UInt8} (h : plainL l = true) : ∀ x ∈ l, okB x := vals_bytes _ l (Nat.le_refl _) (plain_all h)
theorem plain_app {a b : List UInt8} (ha : plainL a = true) (hb : plainL b = true) : plainL (a ++ b) = true := by
  have h1 := plain_all ha
  have h2 := plain_all hb
  have hv : vals (a ++ b) = vals a ++ vals b := vals_join _ a b (Nat.le_refl _) fun v hx => by have := width_ok (h1 v hx); omega
  unfold plainL
  rw [Bool.and_eq_true, decide_eq_true_eq, List.all_eq_true, hv]
  refine ⟨fun q => plain_ne ha (List.append_eq_nil_iff.1 q).1, fun v hx => decide_eq_true ?_⟩
  rcases List.mem_append.1 hx with q | q
  · exact h1 v q
  · exact h2 v q
/-! ### Texts side by side -/
theorem last_snoc {α : Type} (l : List α) (y : α) : (l ++ [y]).getLast? = some y := by simp
theorem init_snoc {α : Type} (l : List α) (y : α) : (l ++ [y]).dropLast = l := by simp
def isT (o : OutS) : Bool := decide (o.f0 = 0)
def merge (x y : OutS) : OutS := ⟨x.f0, x.f1, x.f2, x.f3 ++ y.f3⟩
def joinS (out : List OutS) (x : OutS) : List OutS :=
  match out.getLast? with
  | some y => if isT x && isT y then out.dropLast ++ [merge y x] else out ++ [x]
  | none => [x]
def joinO (l : List OutS) : List OutS := l.foldl joinS []
theorem joinO_snoc (l : List OutS) (x : OutS) : joinO (l ++ [x]) = joinS (joinO l) x := by unfold joinO; rw [List.foldl_append]; rfl
theorem joinS_nil (x : OutS) : joinS [] x = [x] := rfl
theorem joinS_snoc (l : List OutS) (y x : OutS) : joinS (l ++ [y]) x = if isT x && isT y then l ++ [merge y x] else (l ++ [y]) ++ [x] := by
  unfold joinS; rw [last_snoc, init_snoc]
/-- No two texts are side by side. -/
def canon : List OutS → Prop
  | [] => True
  | [_] => True
  | x :: y :: l => ¬ (isT x = true ∧ isT y = true) ∧ canon (y :: l)
theorem canon_snoc : ∀ (l : List OutS) (y x : OutS), canon (l ++ [y]) → ¬ (isT y = true ∧ isT x = true) → canon ((l ++ [y]) ++ [x])
  | [], y, x, _, h => ⟨h, trivial⟩
  | [a], y, x, h, h2 => ⟨h.1, h2, trivial⟩
  | a :: b :: l, y, x, h, h2 => ⟨h.1, canon_snoc (b :: l) y x h.2 h2⟩
theorem canon_last : ∀ (l : List OutS) (y z : OutS), canon (l ++ [y]) → isT y = isT z → canon (l ++ [z])
  | [], y, z, _, _ => trivial
  | [a], y, z, h, e => ⟨by rw [← e]; exact h.1, trivial⟩
  | a :: b :: l, y, z, h, e => ⟨h.1, canon_last (b :: l) y z h.2 e⟩
theorem snoc_cases {α : Type} (l : List α) : l = [] ∨ ∃ m y, l = m ++ [y] := by
  rcases List.eq_nil_or_concat l with h | ⟨m, y, h⟩
  · exact .inl h
  · exact .inr ⟨m, y, by rw [h, List.concat_eq_append]⟩
theorem merge_may {x y : OutS} (hx : mayO x = true) (hy : mayO y = true) (tx : isT x = true) (ty : isT y = true) : mayO (merge x y) = true ∧ bytesL (merge x y) = bytesL x ++ bytesL y ∧ isT (merge x y) = true := by
  have kx := of_decide_eq_true tx
  have ky := of_decide_eq_true ty
  rcases may_cases hx with ⟨_, a1, a2, a3⟩ | ⟨_, q⟩
  · rcases may_cases hy with ⟨_, b1, b2, b3⟩ | ⟨_, q⟩
    · refine ⟨?_, ?_, decide_eq_true kx⟩
      · unfold mayO merge
        simp only []
        rw [if_pos kx, Bool.and_eq_true, decide_eq_true_eq, bl_append]
        exact ⟨⟨a1, a2⟩, plain_app a3 b3⟩
      · unfold bytesL merge
        simp only []
        rw [if_pos kx, if_pos kx, if_pos ky, bl_append]
    · omega
  · omega
theorem joinO_ok : ∀ (l : List OutS), (∀ o ∈ l, mayO o = true) → (∀ o ∈ joinO l, mayO o = true) ∧ textL (joinO l) = textL l ∧ canon (joinO l) := by
  intro l
  suffices h : ∀ (r : List OutS), (∀ o ∈ r.reverse, mayO o = true) → (∀ o ∈ joinO r.reverse, mayO o = true) ∧ textL (joinO r.reverse) = textL r.reverse ∧ canon (joinO r.reverse) by
    have := h l.reverse; rwa [List.reverse_reverse] at this
  intro r
  induction r with
  | nil => intro _; exact ⟨(fun o h => by cases h), rfl, trivial⟩
  | cons x r ih =>
    intro hm
    rw [List.reverse_cons] at hm ⊢
    obtain ⟨i1, i2, i3⟩ := ih fun o ho => hm o (List.mem_append_left _ ho)
    have hx := hm x (by simp)
    rw [joinO_snoc]
    generalize joinO r.reverse = j at *
    have e2 : textL (r.reverse ++ [x]) = textL r.reverse ++ bytesL x := by unfold textL; rw [List.flatMap_append]; simp
    rw [e2, ← i2]
    rcases snoc_cases j with rfl | ⟨m, y, rfl⟩
    · rw [joinS_nil]
      exact ⟨(fun o ho => by rw [List.mem_singleton.1 ho]; exact hx), (by simp [textL]), trivial⟩
    · rw [joinS_snoc]
      have hy := i1 y (by simp)
      by_cases c : (isT x && isT y) = true
      · rw [if_pos c]
        rw [Bool.and_eq_true] at c
        obtain ⟨q1, q2, q3⟩ := merge_may hy hx c.2 c.1
        refine ⟨fun o ho => ?_, ?_, canon_last m y _ i3 (by rw [q3, c.2])⟩
        · rcases List.mem_append.1 ho with ho | ho
          · exact i1 o (List.mem_append_left _ ho)
          · rw [List.mem_singleton.1 ho]; exact q1
        · unfold textL
          simp only [List.flatMap_append, List.flatMap_cons, List.flatMap_nil, List.append_nil]
          rw [q2, List.append_assoc]
      · rw [if_neg c]
        refine ⟨fun o ho => ?_, by unfold textL; simp, canon_snoc m y x i3 fun q => c (by rw [q.1, q.2]; rfl)⟩
        rcases List.mem_append.1 ho with ho | ho
        · exact i1 o ho
        · rw [List.mem_singleton.1 ho]; exact hx
/-! ### What a text begins with -/
/-- Behind a text there is a control, or nothing. -/
def stop (o : OutS) (r : List UInt8) : Prop := o.f0 = 0 → r = [] ∨ ∃ x r', r = x :: r' ∧ x.toNat < 32
theorem looksB_ok {n : Int} (h0 : 0 ≤ n) (h1 : n ≤ 7) : ∃ b, looksB n = b ++ [109] ∧ ∀ x ∈ b, (48 ≤ x.toNat ∧ x.toNat ≤ 57) ∨ x.toNat = 59 := by
  obtain ⟨k, rfl⟩ : ∃ k : Nat, n = (k : Int) := ⟨n.toNat, by omega⟩
  have key : ∀ k : Nat, k < 8 → ((looksT[k]?).getD []).getLast? = some 109 ∧ ∀ x ∈ ((looksT[k]?).getD []).dropLast, (48 ≤ x.toNat ∧ x.toNat ≤ 57) ∨ x.toNat = 59 := by decide
  obtain ⟨h2, h3⟩ := key k (by omega)
  have e : looksB (k : Int) = ((looksT[k]?).getD []) := rfl
  rw [e]
  rcases snoc_cases ((looksT[k]?).getD []) with q | ⟨m, y, q⟩
  · rw [q] at h2; cases h2
  · rw [q] at h2 h3 ⊢
    rw [last_snoc] at h2
    rw [init_snoc] at h3
    cases h2
    exact ⟨m, rfl, h3⟩
theorem looksB_inj {n m : Int} (h0 : 0 ≤ n) (h1 : n ≤ 7) (g0 : 0 ≤ m) (g1 : m ≤ 7) (h : looksB n = looksB m) : n = m := by
  obtain ⟨k, rfl⟩ : ∃ k : Nat, n = (k : Int) := ⟨n.toNat, by omega⟩
  obtain ⟨j, rfl⟩ : ∃ k : Nat, m = (k : Int) := ⟨m.toNat, by omega⟩
  have key : ∀ k : Nat, k < 8 → ∀ j : Nat, j < 8 → ((looksT[k]?).getD []) = ((looksT[j]?).getD []) → k = j := by decide
  have := key k (by omega) j (by omega) h
  omega
/-- A byte of what stands between a bracket and the last byte. -/
def midB (x : UInt8) : Prop := (48 ≤ x.toNat ∧ x.toNat ≤ 57) ∨ x.toNat = 59 ∨ x.toNat = 63
theorem esc_ok {o : OutS} (h : mayO o = true) (hk : 1 ≤ o.f0 ∧ o.f0 ≤ 5) : ∃ b f, escL o = b ++ [f] ∧ (∀ x ∈ b, midB x) ∧
    ((o.f0 = 1 ∧ f = 72 ∧ b = decR o.f1.toNat ++ 59 :: decR o.f2.toNat) ∨ (o.f0 = 2 ∧ f = 74) ∨ (o.f0 = 3 ∧ f = 75) ∨ (o.f0 = 4 ∧ f = 109) ∨ (o.f0 = 5 ∧ o.f1 = 0 ∧ f = 108) ∨ (o.f0 = 5 ∧ o.f1 = 1 ∧ f = 104)) := by
  unfold escL
  rcases may_cases h with ⟨q, _⟩ | ⟨h3, ⟨q, a1, a2, a3, a4⟩ | ⟨q, a1, a2, a3⟩ | ⟨q, a1, a2⟩ | ⟨q, a1, a2⟩⟩
  · omega
  · rw [if_pos q]
    refine ⟨decR o.f1.toNat ++ 59 :: decR o.f2.toNat, 72, by simp, fun x hx => ?_, .inl ⟨q, rfl, rfl⟩⟩
    rcases List.mem_append.1 hx with hx | hx
    · exact .inl (decR_dig _ x hx)
    · rcases List.mem_cons.1 hx with rfl | hx
      · exact .inr (.inl rfl)
      · exact .inl (decR_dig _ x hx)
  · rw [if_neg (by omega), if_neg (by omega), if_neg (by omega), if_pos q]
    obtain ⟨b, e, hb⟩ := looksB_ok a2 a3
    exact ⟨b, 109, e, fun x hx => (hb x hx).imp id .inl, .inr (.inr (.inr (.inl ⟨q, rfl⟩)))⟩
  · rw [if_neg (by omega), if_neg (by omega), if_neg (by omega), if_neg (by omega)]
    have hm : ∀ x ∈ ([63, 50, 48, 48, 52] : List UInt8), midB x := by
      intro x hx
      have : ∀ x ∈ ([63, 50, 48, 48, 52] : List UInt8), (48 ≤ x.toNat ∧ x.toNat ≤ 57) ∨ x.toNat = 59 ∨ x.toNat = 63 := by decide
      exact this x hx
    rcases a2 with a2 | a2
    · rw [if_pos a2]; exact ⟨_, 108, rfl, hm, .inr (.inr (.inr (.inr (.inl ⟨q, a2, rfl⟩))))⟩
    · rw [if_neg (by omega)]; exact ⟨_, 104, rfl, hm, .inr (.inr (.inr (.inr (.inr ⟨q, a2, rfl⟩))))⟩
  · rcases q with q | q | q
    · rw [if_neg (by omega), if_pos q]
      exact ⟨[50], 74, rfl, fun x hx => by rw [List.mem_singleton.1 hx]; exact .inl (by decide), .inr (.inl ⟨q, rfl⟩)⟩
    · rw [if_neg (by omega), if_neg (by omega), if_pos q]
      exact ⟨[], 75, rfl, fun x hx => (by cases hx), .inr (.inr (.inl ⟨q, rfl⟩))⟩
    · omega
theorem bytes_esc {o : OutS} (hk : 1 ≤ o.f0 ∧ o.f0 ≤ 5) : bytesL o = begB ++ escL o := by
  unfold bytesL; rw [if_neg (by omega), if_neg (by omega), if_neg (by omega), if_neg (by omega)]
theorem bytes_text {o : OutS} (hk : o.f0 = 0) : bytesL o = bl o.f3 := by unfold bytesL; rw [if_pos hk]
/-- How a piece's bytes begin. -/
theorem head_of {o : OutS} (h : mayO o = true) : (o.f0 = 0 ∧ ∃ x r, bytesL o = x :: r ∧ okB x) ∨ (1 ≤ o.f0 ∧ o.f0 ≤ 5 ∧ bytesL o = 27 :: 91 :: escL o) ∨ (o = ⟨6, 0, 0, ⟨#[]⟩⟩ ∧ bytesL o = [7]) ∨ (o = ⟨7, 0, 0, ⟨#[]⟩⟩ ∧ bytesL o = [13]) ∨ (o = ⟨8, 0, 0, ⟨#[]⟩⟩ ∧ bytesL o = [10]) := by
  have mk : ∀ (k : Int), o.f0 = k → o.f1 = 0 → o.f2 = 0 → o.f3 = ⟨#[]⟩ → o = ⟨k, 0, 0, ⟨#[]⟩⟩ := by
    intro k a b c d; cases o; simp at a b c d; subst a b c d; rfl
  rcases may_cases h with ⟨q, a1, a2, a3⟩ | ⟨h3, ⟨q, a1, a2, a3, a4⟩ | ⟨q, a1, a2, a3⟩ | ⟨q, a1, a2⟩ | ⟨q, a1, a2⟩⟩
  · left; refine ⟨q, ?_⟩
    rw [bytes_text q]
    have hb := plain_bytes a3
    cases e : bl o.f3 with
    | nil => exact absurd e (plain_ne a3)
    | cons x r => exact ⟨x, r, rfl, hb x (by rw [e]; exact List.mem_cons_self ..)⟩
  · right; left; exact ⟨by omega, by omega, bytes_esc (by omega)⟩
  · right; left; exact ⟨by omega, by omega, bytes_esc (by omega)⟩
  · right; left; exact ⟨by omega, by omega, bytes_esc (by omega)⟩
  · rcases q with q | q | q | q | q
    · right; left; exact ⟨by omega, by omega, bytes_esc (by omega)⟩
    · right; left; exact ⟨by omega, by omega, bytes_esc (by omega)⟩
    · right; right; left; exact ⟨mk 6 q a1 a2 h3, by unfold bytesL; rw [if_neg (by omega), if_pos q]⟩
    · right; right; right; left; exact ⟨mk 7 q a1 a2 h3, by unfold bytesL; rw [if_neg (by omega), if_neg (by omega), if_pos q]⟩
    · right; right; right; right; exact ⟨mk 8 q a1 a2 h3, by unfold bytesL; rw [if_neg (by omega), if_neg (by omega), if_neg (by omega), if_pos q]⟩
theorem bytes_ne {o : OutS} (h : mayO o = true) : bytesL o ≠ [] := by
  rcases head_of h with ⟨_, x, r, e, _⟩ | ⟨_, _, e⟩ | ⟨_, e⟩ | ⟨_, e⟩ | ⟨_, e⟩ <;> rw [e] <;> simp
/-- Behind a piece of a list without two texts side by side: a control, or nothing. -/
theorem canon_stop {o : OutS} {l : List OutS} (hm : ∀ x ∈ o :: l, mayO x = true) (h : canon (o :: l)) : stop o (textL l) := by
  intro h0
  cases l with
  | nil => exact .inl rfl
  | cons y l =>
    right
    have hy := hm y (by simp)
    have nt : ¬ y.f0 = 0 := fun q => h.1 ⟨decide_eq_true h0, decide_eq_true q⟩
    have e0 : textL (y :: l) = bytesL y ++ textL l := rfl
    rw [e0]
    rcases head_of hy with ⟨q, _⟩ | ⟨_, _, e⟩ | ⟨_, e⟩ | ⟨_, e⟩ | ⟨_, e⟩
    · exact absurd q nt
    all_goals rw [e]; exact ⟨_, _, rfl, by decide⟩
/-- What a whole text of the grammar begins with: a piece, that does not end early. -/
def heads (s : List UInt8) (o : OutS) : Prop := ∃ r, s = bytesL o ++ r ∧ mayO o = true ∧ stop o r
theorem span_stop {p : UInt8 → Prop} {a b r t : List UInt8} (ha : ∀ x ∈ a, p x) (hb : ∀ x ∈ b, p x) (hr : r = [] ∨ ∃ x r', r = x :: r' ∧ ¬ p x) (ht : t = [] ∨ ∃ x r', t = x :: r' ∧ ¬ p x) (h : a ++ r = b ++ t) : a = b := by
  induction a generalizing b with
  | nil =>
    cases b with
    | nil => rfl
    | cons y b =>
      rw [List.nil_append] at h
      rcases hr with q | ⟨x, r', q, hx⟩
      · rw [q] at h; cases h
      · rw [q] at h
        have := (List.cons.inj h).1
        subst this
        exact absurd (hb x (List.mem_cons_self ..)) hx
  | cons x a ih =>
    cases b with
    | nil =>
      rw [List.nil_append] at h
      rcases ht with q | ⟨y, r', q, hy⟩
      · rw [q] at h; cases h
      · rw [q] at h
        have := (List.cons.inj h).1
        subst this
        exact absurd (ha x (List.mem_cons_self ..)) hy
    | cons y b =>
      have h2 := List.cons.inj h
      rw [h2.1, ih (fun z hz => ha z (List.mem_cons_of_mem _ hz)) (fun z hz => hb z (List.mem_cons_of_mem _ hz)) h2.2]
theorem bl_inj {a b : ByteArray} (h : bl a = bl b) : a = b := ByteArray.ext (Array.toList_inj.1 h)
theorem fin_mid {f : UInt8} (h : f = 72 ∨ f = 74 ∨ f = 75 ∨ f = 109 ∨ f = 108 ∨ f = 104) : ¬ midB f := by
  unfold midB
  rcases h with rfl | rfl | rfl | rfl | rfl | rfl <;> decide
theorem may_eta {o o' : OutS} (h0 : o.f0 = o'.f0) (h1 : o.f1 = o'.f1) (h2 : o.f2 = o'.f2) (h3 : o.f3 = o'.f3) : o = o' := by
  cases o; cases o'; simp at h0 h1 h2 h3; subst h0 h1 h2 h3; rfl
/-- Two pieces behind a bracket, of the same bytes. -/
theorem esc_inj {o o' : OutS} {r r' : List UInt8} (h : mayO o = true) (h' : mayO o' = true) (hk : 1 ≤ o.f0 ∧ o.f0 ≤ 5) (hk' : 1 ≤ o'.f0 ∧ o'.f0 ≤ 5) (he : escL o ++ r = escL o' ++ r') : o = o' := by
  obtain ⟨b, f, e, hb, hc⟩ := esc_ok h hk
  obtain ⟨b', f', e', hb', hc'⟩ := esc_ok h' hk'
  have hf : ¬ midB f := fin_mid (by rcases hc with q | q | q | q | q | q <;> simp [q])
  have hf' : ¬ midB f' := fin_mid (by rcases hc' with q | q | q | q | q | q <;> simp [q])
  rw [e, e', List.append_assoc, List.append_assoc] at he
  have hbb : b = b' := span_stop hb hb' (.inr ⟨f, r, rfl, hf⟩) (.inr ⟨f', r', rfl, hf'⟩) he
  subst hbb
  have hff : f = f' := (List.cons.inj (List.append_cancel_left he)).1
  subst hff
  have n3 : o.f3 = ⟨#[]⟩ := by rcases may_cases h with ⟨q, _⟩ | ⟨q, _⟩; omega; exact q
  have n3' : o'.f3 = ⟨#[]⟩ := by rcases may_cases h' with ⟨q, _⟩ | ⟨q, _⟩; omega; exact q
  have k3 : o.f3 = o'.f3 := n3.trans n3'.symm
  have num : ∀ {x : OutS}, mayO x = true → (x.f0 = 1 → 1 ≤ x.f1 ∧ x.f1 ≤ 1000 ∧ 1 ≤ x.f2 ∧ x.f2 ≤ 1000) ∧ (x.f0 = 2 ∨ x.f0 = 3 → x.f1 = 0 ∧ x.f2 = 0) ∧ (x.f0 = 4 → x.f2 = 0 ∧ 0 ≤ x.f1 ∧ x.f1 ≤ 7) ∧ (x.f0 = 5 → x.f2 = 0) := by
    intro x hx
    rcases may_cases hx with ⟨q, _⟩ | ⟨_, ⟨q, a1, a2, a3, a4⟩ | ⟨q, a1, a2, a3⟩ | ⟨q, a1, a2⟩ | ⟨q, a1, a2⟩⟩
    · refine ⟨?_, ?_, ?_, ?_⟩ <;> intro z <;> omega
    · refine ⟨?_, ?_, ?_, ?_⟩ <;> intro z <;> omega
    · refine ⟨?_, ?_, ?_, ?_⟩ <;> intro z <;> omega
    · refine ⟨?_, ?_, ?_, ?_⟩ <;> intro z <;> omega
    · refine ⟨?_, ?_, ?_, ?_⟩ <;> intro z <;> omega
  have m := num h
  have m' := num h'
  rcases hc with ⟨q, qf, qb⟩ | ⟨q, qf⟩ | ⟨q, qf⟩ | ⟨q, qf⟩ | ⟨q, q1, qf⟩ | ⟨q, q1, qf⟩ <;>
  rcases hc' with ⟨p, pf, pb⟩ | ⟨p, pf⟩ | ⟨p, pf⟩ | ⟨p, pf⟩ | ⟨p, p1, pf⟩ | ⟨p, p1, pf⟩ <;> first | (exfalso; rw [qf] at pf; revert pf; decide) | skip
  · rw [qb] at pb
    have d1 : decR o.f1.toNat = decR o'.f1.toNat := by
      refine span_stop (p := fun x => x.toNat ≠ 59) (fun x hx => ?_) (fun x hx => ?_) (.inr ⟨59, _, rfl, by decide⟩) (.inr ⟨59, _, rfl, by decide⟩) pb
      · have := decR_dig _ x hx; omega
      · have := decR_dig _ x hx; omega
    rw [d1] at pb
    have d2 := (List.cons.inj (List.append_cancel_left pb)).2
    have e1 : o.f1.toNat = o'.f1.toNat := by rw [← numW_dec o.f1.toNat, d1, numW_dec]
    have e2 : o.f2.toNat = o'.f2.toNat := by rw [← numW_dec o.f2.toNat, d2, numW_dec]
    have a := m.1 q
    have a' := m'.1 p
    exact may_eta (by omega) (by omega) (by omega) k3
  · have a := m.2.1 (.inl q)
    have a' := m'.2.1 (.inl p)
    exact may_eta (by omega) (by omega) (by omega) k3
  · have a := m.2.1 (.inr q)
    have a' := m'.2.1 (.inr p)
    exact may_eta (by omega) (by omega) (by omega) k3
  · have a := m.2.2.1 q
    have a' := m'.2.2.1 p
    have l1 : escL o = looksB o.f1 := by unfold escL; rw [if_neg (by omega), if_neg (by omega), if_neg (by omega), if_pos q]
    have l2 : escL o' = looksB o'.f1 := by unfold escL; rw [if_neg (by omega), if_neg (by omega), if_neg (by omega), if_pos p]
    have := looksB_inj a.2.1 a.2.2 a'.2.1 a'.2.2 (by rw [← l1, ← l2, e, e'])
    exact may_eta (by omega) this (by omega) k3
  · have a := m.2.2.2 q
    have a' := m'.2.2.2 p
    exact may_eta (by omega) (by omega) (by omega) k3
  · have a := m.2.2.2 q
    have a' := m'.2.2.2 p
    exact may_eta (by omega) (by omega) (by omega) k3
theorem text_span {o : OutS} (h : mayO o = true) (h0 : o.f0 = 0) : ∀ x ∈ bytesL o, 32 ≤ x.toNat := by
  rcases may_cases h with ⟨_, _, _, a3⟩ | ⟨_, q⟩
  · rw [bytes_text h0]; intro x hx; exact (plain_bytes a3 x hx).1
  · omega
theorem stop_span {o : OutS} {r : List UInt8} (h0 : o.f0 = 0) (h : stop o r) : r = [] ∨ ∃ x r', r = x :: r' ∧ ¬ 32 ≤ x.toNat := by
  rcases h h0 with q | ⟨x, r', q, hx⟩
  · exact .inl q
  · exact .inr ⟨x, r', q, by omega⟩
/-- A text begins with one piece alone. -/
theorem heads_inj {s : List UInt8} {o o' : OutS} (h : heads s o) (h' : heads s o') : o = o' := by
  obtain ⟨r, e, hm, hs⟩ := h
  obtain ⟨r', e', hm', hs'⟩ := h'
  rw [e] at e'
  have H := head_of hm
  have H' := head_of hm'
  rcases H with ⟨q, x, t, ex, ox⟩ | ⟨q1, q2, ex⟩ | ⟨q, ex⟩ | ⟨q, ex⟩ | ⟨q, ex⟩ <;>
  rcases H' with ⟨p, x', t', ex', ox'⟩ | ⟨p1, p2, ex'⟩ | ⟨p, ex'⟩ | ⟨p, ex'⟩ | ⟨p, ex'⟩
  · have hb : bytesL o = bytesL o' := span_stop (text_span hm q) (text_span hm' p) (stop_span q hs) (stop_span p hs') e'
    rw [bytes_text q, bytes_text p] at hb
    rcases may_cases hm with ⟨_, a1, a2, _⟩ | ⟨_, z⟩
    · rcases may_cases hm' with ⟨_, b1, b2, _⟩ | ⟨_, z⟩
      · exact may_eta (by omega) (by omega) (by omega) (bl_inj hb)
      · omega
    · omega
  case inr.inl.inr.inl =>
    rw [ex, ex'] at e'
    simp only [List.cons_append] at e'
    exact esc_inj hm hm' ⟨q1, q2⟩ ⟨p1, p2⟩ (List.cons.inj (List.cons.inj e').2).2
  all_goals first | exact q.trans p.symm | (exfalso; rw [ex, ex'] at e'; have := (List.cons.inj e').1; first | (subst this; exact absurd ox.1 (by decide)) | (rw [← this] at ox'; exact absurd ox'.1 (by decide)) | (revert this; decide))
def stopL (out : List OutS) (r : List UInt8) : Prop := ∀ m y, out = m ++ [y] → stop y r
theorem stop_cons {x : OutS} {out : List OutS} {r : List UInt8} (hm : ∀ o ∈ x :: out, mayO o = true) (hc : canon (x :: out)) (hs : stopL (x :: out) r) : stop x (textL out ++ r) := by
  cases out with
  | nil => exact hs [] x rfl
  | cons y l =>
    intro h0
    right
    rcases canon_stop hm hc h0 with q | ⟨z, t, q, hz⟩
    · have := bytes_ne (hm y (by simp))
      have e0 : textL (y :: l) = bytesL y ++ textL l := rfl
      rw [e0] at q
      exact absurd (List.append_eq_nil_iff.1 q).1 this
    · exact ⟨z, t ++ r, by rw [q]; rfl, hz⟩
theorem canon_tail {x : OutS} {l : List OutS} (h : canon (x :: l)) : canon l := by
  cases l with
  | nil => trivial
  | cons y l => exact h.2
/-- What is read already is a beginning of what the whole text is. -/
theorem canon_prefix : ∀ (out L : List OutS) (s : List UInt8), (∀ o ∈ out, mayO o = true) → canon out → stopL out s → (∀ o ∈ L, mayO o = true) → canon L → textL L = textL out ++ s → ∃ L', L = out ++ L' ∧ textL L' = s
  | [], L, s, _, _, _, _, _, h => ⟨L, rfl, h⟩
  | x :: out, L, s, hm, hc, hs, hM, hC, h => by
    have e0 : textL (x :: out) = bytesL x ++ textL out := rfl
    rw [e0, List.append_assoc] at h
    cases L with
    | nil =>
      have : bytesL x ++ (textL out ++ s) = [] := h.symm
      exact absurd (List.append_eq_nil_iff.1 this).1 (bytes_ne (hm x (by simp)))
    | cons y L =>
      have e1 : textL (y :: L) = bytesL y ++ textL L := rfl
      have hx : heads (textL (y :: L)) x := ⟨_, h, hm x (by simp), stop_cons hm hc hs⟩
      have hy : heads (textL (y :: L)) y := ⟨_, e1, hM y (by simp), canon_stop hM hC⟩
      have := heads_inj hy hx
      subst this
      rw [e1] at h
      obtain ⟨L', q1, q2⟩ := canon_prefix out L s (fun o ho => hm o (by simp [ho])) (canon_tail hc) (fun m z e => hs (y :: m) z (by rw [e]; rfl)) (fun o ho => hM o (by simp [ho])) (canon_tail hC) (List.append_cancel_left h)
      exact ⟨L', by rw [q1]; rfl, q2⟩
/-- A text of the grammar. -/
def clean (s : List UInt8) : Prop := ∃ l, (∀ o ∈ l, mayO o = true) ∧ textL l = s
theorem clean_canon {s : List UInt8} (h : clean s) : ∃ l, (∀ o ∈ l, mayO o = true) ∧ textL l = s ∧ canon l := by
  obtain ⟨l, h1, h2⟩ := h
  obtain ⟨a, b, c⟩ := joinO_ok l h1
  exact ⟨joinO l, a, b.trans h2, c⟩
/-- One step more. -/
theorem step_ok {out : List OutS} {o : OutS} {s t : List UInt8} (hm : ∀ x ∈ out, mayO x = true) (hc : canon out) (hs : stopL out s) (ho : mayO o = true) (e : s = bytesL o ++ t) (h0 : o.f0 = 0 → t = [] ∨ ∃ x r, t = x :: r ∧ x.toNat < 32) :
    (∀ x ∈ out ++ [o], mayO x = true) ∧ canon (out ++ [o]) ∧ stopL (out ++ [o]) t ∧ textL (out ++ [o]) ++ t = textL out ++ s := by
  refine ⟨fun x hx => ?_, ?_, fun m y q => ?_, ?_⟩
  · rcases List.mem_append.1 hx with q | q
    · exact hm x q
    · rw [List.mem_singleton.1 q]; exact ho
  · rcases snoc_cases out with rfl | ⟨m, y, rfl⟩
    · trivial
    · refine canon_snoc m y o hc fun q => ?_
      rcases hs m y rfl (of_decide_eq_true q.1) with z | ⟨x, r, z, hx⟩
      · rw [z] at e; exact absurd (List.append_eq_nil_iff.1 e.symm).1 (bytes_ne ho)
      · cases hb : bytesL o with
        | nil => exact bytes_ne ho hb
        | cons b bs =>
          have := text_span ho (of_decide_eq_true q.2) b (by rw [hb]; exact List.mem_cons_self ..)
          rw [hb, z] at e
          have e2 := (List.cons.inj e).1
          subst e2
          omega
  · have := (List.append_inj' q rfl).2
    simp at this
    subst this
    exact h0
  · unfold textL
    rw [e]; simp
/-- A text of the grammar that is not read yet begins with a piece. -/
theorem rest_heads {out : List OutS} {s S : List UInt8} (hm : ∀ x ∈ out, mayO x = true) (hc : canon out) (hs : stopL out s) (e : S = textL out ++ s) (hS : clean S) (hne : s ≠ []) : ∃ o, heads s o := by
  obtain ⟨L, h1, h2, h3⟩ := clean_canon hS
  obtain ⟨L', q1, q2⟩ := canon_prefix out L s hm hc hs h1 h3 (h2.trans e)
  cases L' with
  | nil => exact absurd q2.symm hne
  | cons o l =>
    have hc2 : ∀ (a b : List OutS), canon (a ++ b) → canon b := by
      intro a
      induction a with
      | nil => intro b h; exact h
      | cons x a ih => intro b h; exact ih b (canon_tail h)
    rw [q1] at h1 h3
    exact ⟨o, textL l, q2.symm, h1 o (by simp), canon_stop (fun x hx => h1 x (List.mem_append_right _ hx)) (hc2 out _ h3)⟩
/-! ### Controls -/
def goodS : List UInt8 → Prop
  | [] => True
  | x :: r => (okB x ∨ x = 7 ∨ x = 10 ∨ x = 13 ∨ (x = 27 ∧ ∃ r', r = 91 :: r')) ∧ goodS r
theorem good_ok : ∀ (a r : List UInt8), (∀ x ∈ a, okB x) → goodS r → goodS (a ++ r)
  | [], r, _, h => h
  | x :: a, r, ha, h => ⟨.inl (ha x (List.mem_cons_self ..)), good_ok a r (fun y hy => ha y (List.mem_cons_of_mem _ hy)) h⟩
theorem mid_ok {x : UInt8} (h : midB x) : okB x := by unfold midB at h; unfold okB; omega
theorem esc_bytes {o : OutS} (h : mayO o = true) (hk : 1 ≤ o.f0 ∧ o.f0 ≤ 5) : ∀ x ∈ escL o, okB x := by
  obtain ⟨b, f, e, hb, hc⟩ := esc_ok h hk
  rw [e]
  intro x hx
  rcases List.mem_append.1 hx with q | q
  · exact mid_ok (hb x q)
  · rw [List.mem_singleton.1 q]
    unfold okB
    rcases hc with ⟨_, z, _⟩ | ⟨_, z⟩ | ⟨_, z⟩ | ⟨_, z⟩ | ⟨_, _, z⟩ | ⟨_, _, z⟩ <;> rw [z] <;> decide
theorem good_text : ∀ (l : List OutS), (∀ o ∈ l, mayO o = true) → goodS (textL l)
  | [], _ => trivial
  | o :: l, h => by
    have ih := good_text l fun x hx => h x (List.mem_cons_of_mem _ hx)
    have ho := h o (List.mem_cons_self ..)
    have e0 : textL (o :: l) = bytesL o ++ textL l := rfl
    rw [e0]
    rcases head_of ho with ⟨q, _⟩ | ⟨q1, q2, e⟩ | ⟨_, e⟩ | ⟨_, e⟩ | ⟨_, e⟩
    · rw [bytes_text q]
      rcases may_cases ho with ⟨_, _, _, a3⟩ | ⟨_, z⟩
      · exact good_ok _ _ (plain_bytes a3) ih
      · omega
    · rw [e]
      exact ⟨.inr (.inr (.inr (.inr ⟨rfl, _, rfl⟩))), .inl (by unfold okB; decide), good_ok _ _ (esc_bytes ho ⟨q1, q2⟩) ih⟩
    · rw [e]; exact ⟨.inr (.inl rfl), ih⟩
    · rw [e]; exact ⟨.inr (.inr (.inr (.inl rfl))), ih⟩
    · rw [e]; exact ⟨.inr (.inr (.inl rfl)), ih⟩
theorem good_at : ∀ {s : List UInt8} {i : Nat} {x : UInt8}, goodS s → s[i]? = some x → okB x ∨ x = 7 ∨ x = 10 ∨ x = 13 ∨ (x = 27 ∧ s[i + 1]? = some 91)
  | [], i, x, _, h => by simp at h
  | y :: s, 0, x, hg, h => by
    have : y = x := by simpa using h
    subst this
    rcases hg.1 with q | q | q | q | ⟨q, r', e⟩
    · exact .inl q
    · exact .inr (.inl q)
    · exact .inr (.inr (.inl q))
    · exact .inr (.inr (.inr (.inl q)))
    · exact .inr (.inr (.inr (.inr ⟨q, by rw [e]; rfl⟩)))
  | y :: s, i + 1, x, hg, h => by
    have := good_at hg.2 (i := i) (x := x) (by simpa using h)
    simpa using this
theorem one_ascii (n b0 b1 b2 b3 : Nat) (h : b0 < 128) : oneN n b0 b1 b2 b3 = (b0, 1) := by
  have hs : szN b0 = 1 := by unfold szN; rw [if_pos h]
  have hb : begN n b0 b1 b2 b3 = 1 := by unfold begN; rw [if_neg (show ¬ (1 < szN b0 ∧ _) from fun q => absurd q.1 (by rw [hs]; decide))]
  unfold oneN
  rw [if_neg (by rw [hb, hs]; decide), if_pos hs]
theorem vals_ascii : ∀ (k : Nat) (a r : List UInt8), a.length ≤ k → (∀ x ∈ a, x.toNat < 128) → vals (a ++ r) = (a.map fun x => (x.toNat : Int)) ++ vals r
  | _, [], r, _, _ => rfl
  | 0, x :: a, r, h, _ => by simp at h
  | k + 1, x :: a, r, h, ha => by
    have hx := ha x (List.mem_cons_self ..)
    have e : oneL (x :: a ++ r) = (x.toNat, 1) := one_ascii _ _ _ _ _ hx
    rw [vals_cons (by simp), e]
    simp only [List.cons_append, List.drop_succ_cons, List.drop_zero, List.map_cons]
    rw [vals_ascii k a r (by simp at h; omega) fun y hy => ha y (List.mem_cons_of_mem _ hy)]
/-- The values of a text of the grammar. -/
theorem vals_text (Q : Int → Prop) (hQ : ∀ v, widthV v ≠ 0 → Q v) (hA : ∀ n : Nat, n < 127 → Q n) : ∀ (l : List OutS), (∀ o ∈ l, mayO o = true) → ∀ v ∈ vals (textL l), Q v
  | [], _ => fun v h => by cases h
  | o :: l, h => by
    have ih := vals_text Q hQ hA l fun x hx => h x (List.mem_cons_of_mem _ hx)
    have ho := h o (List.mem_cons_self ..)
    have e0 : textL (o :: l) = bytesL o ++ textL l := rfl
    have asc : ∀ a : List UInt8, (∀ x ∈ a, x.toNat < 127) → bytesL o = a → ∀ v ∈ vals (textL (o :: l)), Q v := by
      intro a ha e v hv
      rw [e0, e, vals_ascii _ a _ (Nat.le_refl _) fun x hx => by have := ha x hx; omega] at hv
      rcases List.mem_append.1 hv with q | q
      · obtain ⟨x, hx, rfl⟩ := List.mem_map.1 q
        exact hA x.toNat (ha x hx)
      · exact ih v q
    rcases head_of ho with ⟨q, _⟩ | ⟨q1, q2, e⟩ | ⟨_, e⟩ | ⟨_, e⟩ | ⟨_, e⟩
    · rcases may_cases ho with ⟨_, _, _, a3⟩ | ⟨_, z⟩
      · have hp := plain_all a3
        rw [e0, bytes_text q, vals_join _ _ _ (Nat.le_refl _) fun v hx => by have := width_ok (hp v hx); omega]
        intro v hv
        rcases List.mem_append.1 hv with z | z
        · exact hQ v (hp v z)
        · exact ih v z
      · omega
    · refine asc _ (fun x hx => ?_) e
      obtain ⟨b, f, e2, hb, hc⟩ := esc_ok ho ⟨q1, q2⟩
      rw [e2] at hx
      rcases List.mem_cons.1 hx with rfl | hx
      · decide
      · rcases List.mem_cons.1 hx with rfl | hx
        · decide
        · rcases List.mem_append.1 hx with z | z
          · have := hb x z; unfold midB at this; omega
          · rw [List.mem_singleton.1 z]
            rcases hc with ⟨_, z, _⟩ | ⟨_, z⟩ | ⟨_, z⟩ | ⟨_, z⟩ | ⟨_, _, z⟩ | ⟨_, _, z⟩ <;> rw [z] <;> decide
    · exact asc _ (fun x hx => by rw [List.mem_singleton.1 hx]; decide) e
    · exact asc _ (fun x hx => by rw [List.mem_singleton.1 hx]; decide) e
    · exact asc _ (fun x hx => by rw [List.mem_singleton.1 hx]; decide) e
end Go.Proofs.Ytigkfladgdknbaa.AM.B
