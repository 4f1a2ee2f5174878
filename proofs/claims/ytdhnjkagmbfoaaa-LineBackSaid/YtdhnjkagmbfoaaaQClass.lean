/- The class, the width and the look of any value: the program's and the document's are one. -/
import Derived.Test.YtdhnjkagmbfoaaaPclass
import Derived.Test.YtdhnjkagmbfoaaaPdactylref03
import Derived.Test.YtdhnjkagmbfoaaaPdactylref02
import Derived.Test.YtdhnjkagmbfoaaaPutf
namespace Go.Proofs.Ytdhnjkagmbfoaaa.P
open Go.RowKit Go.Proofs.Ytdhnjkagmbfoaaa.P Go.Proofs.YtdhnjkagmbfoaaaW.PrintWords Go.Proofs.YtdhnjkagmbfoaaaW.PrintLast
set_option linter.unusedVariables false
set_option linter.unusedSimpArgs false
theorem class_in.cases (a : Int) (l : List S81) : class_in.v a l = 0 ∨ ∃ x ∈ l, class_in.v a l = x.f2 := by
  unfold class_in.v
  by_cases h : idxF (fun x : S81 => decide (x.f0 ≤ a) && decide (a ≤ x.f1)) l < 0
  · left; rw [if_pos h]
  · right
    rw [if_neg h]
    have hlt := idxF_lt (fun x : S81 => decide (x.f0 ≤ a) && decide (a ≤ x.f1)) l
    generalize idxF (fun x : S81 => decide (x.f0 ≤ a) && decide (a ≤ x.f1)) l = i at *
    have hi : i.toNat < l.length := by omega
    refine ⟨l[i.toNat], List.getElem_mem hi, ?_⟩
    simp [rd_T81, hi]
/-- A value's class. -/
def class_Of.v (a : Int) : Int := (class_Of.f 1 a).getD 0
theorem class_Of.some_range (a : Int) : ∃ r, class_Of.f 1 a = some r ∧ 0 ≤ r ∧ r ≤ 12 := by
  have hs : ∀ x ∈ (class_spans.f).getD [], 0 ≤ x.f2 ∧ x.f2 ≤ 12 := by decide
  have hw : ∀ x ∈ (class_wides.f).getD [], 0 ≤ x.f2 ∧ x.f2 ≤ 12 := by decide
  have h0 : ∃ b, utf_point.f a = some b := by
    unfold utf_point.f
    repeat' split
    all_goals exact ⟨_, rfl⟩
  obtain ⟨b0, hb0⟩ := h0
  have h1 : ∃ b, utf_Right.f a = some b := by
    unfold utf_Right.f
    rw [hb0]
    simp only [Option.bind_some]
    repeat' split
    all_goals exact ⟨_, rfl⟩
  obtain ⟨b, hb⟩ := h1
  have e1 : class_spans.f = some ((class_spans.f).getD []) := rfl
  have e2 : class_wides.f = some ((class_wides.f).getD []) := rfl
  have c1 := class_in.cases a ((class_spans.f).getD [])
  have c2 := class_in.cases a ((class_wides.f).getD [])
  generalize (class_spans.f).getD [] = sp at *
  generalize (class_wides.f).getD [] = wi at *
  have p1 : 0 ≤ class_in.v a sp ∧ class_in.v a sp ≤ 12 := by
    rcases c1 with h | ⟨x, hx, h⟩
    · omega
    · rw [h]; exact hs x hx
  have p2 : 0 ≤ class_in.v a wi ∧ class_in.v a wi ≤ 12 := by
    rcases c2 with h | ⟨x, hx, h⟩
    · omega
    · rw [h]; exact hw x hx
  unfold class_Of.f class_Of.j0 class_in.f class_Skeleton.f
  rw [hb, e1, e2]
  simp only [Option.bind_some]
  repeat' split
  all_goals exact ⟨_, rfl, by omega, by omega⟩
theorem class_Of.eq (a : Int) : class_Of.f 1 a = some (class_Of.v a) := by
  obtain ⟨r, h, _⟩ := class_Of.some_range a
  unfold class_Of.v; rw [h]; rfl
theorem class_Of.range (a : Int) : 0 ≤ class_Of.v a ∧ class_Of.v a ≤ 12 := by
  obtain ⟨r, h, h1⟩ := class_Of.some_range a
  unfold class_Of.v; rw [h]; exact h1
/-- The first range that a number is in tells its class; 0: none. -/
def clsL : List (Int × Int × Int) → Int → Int
  | [], _ => 0
  | (a, b, c) :: r, v => if a ≤ v ∧ v ≤ b then c else clsL r v
def bndsL (l : List (Int × Int × Int)) : List Int := l.flatMap fun x => [x.1, x.2.1 + 1]
theorem clsL_congr (l : List (Int × Int × Int)) (v v' : Int) (h : ∀ b ∈ bndsL l, b ≤ v ↔ b ≤ v') : clsL l v = clsL l v' := by
  induction l with
  | nil => rfl
  | cons x r ih =>
    obtain ⟨a, b, c⟩ := x
    have h1 := h a (by simp [bndsL])
    have h2 := h (b + 1) (by simp [bndsL])
    have h3 := ih (fun y hy => h y (by simp only [bndsL, List.flatMap_cons] at hy ⊢; exact List.mem_append_right _ hy))
    unfold clsL
    by_cases q : a ≤ v ∧ v ≤ b
    · rw [if_pos q, if_pos (by omega)]
    · rw [if_neg q, if_neg (by omega), h3]
theorem clsL_low (l : List (Int × Int × Int)) (v : Int) (h : ∀ b ∈ bndsL l, ¬ b ≤ v) : clsL l v = 0 := by
  induction l with
  | nil => rfl
  | cons x r ih =>
    obtain ⟨a, b, c⟩ := x
    have h1 := h a (by simp [bndsL])
    have h3 := ih (fun y hy => h y (by simp only [bndsL, List.flatMap_cons] at hy ⊢; exact List.mem_append_right _ hy))
    unfold clsL
    rw [if_neg (by omega), h3]
theorem greatest_below (B : List Int) (v : Int) (h : ∃ b ∈ B, b ≤ v) : ∃ m ∈ B, m ≤ v ∧ ∀ b ∈ B, b ≤ v → b ≤ m := by
  induction B with
  | nil => obtain ⟨b, hb, _⟩ := h; simp at hb
  | cons x r ih =>
    by_cases hr : ∃ b ∈ r, b ≤ v
    · obtain ⟨m, hm, h1, h2⟩ := ih hr
      by_cases hx : x ≤ v ∧ m ≤ x
      · exact ⟨x, by simp, hx.1, fun b hb hv => by
          rcases List.mem_cons.1 hb with rfl | hb
          · omega
          · have := h2 b hb hv; omega⟩
      · exact ⟨m, by simp [hm], h1, fun b hb hv => by
          rcases List.mem_cons.1 hb with rfl | hb
          · omega
          · exact h2 b hb hv⟩
    · obtain ⟨b, hb, hv⟩ := h
      rcases List.mem_cons.1 hb with rfl | hb
      · exact ⟨b, by simp, hv, fun c hc hcv => by
          rcases List.mem_cons.1 hc with rfl | hc
          · omega
          · exact absurd ⟨c, hc, hcv⟩ hr⟩
      · exact absurd ⟨b, hb, hv⟩ hr
theorem clsL_eq (l l' : List (Int × Int × Int)) (check : ∀ b ∈ bndsL l ++ bndsL l', clsL l b = clsL l' b) (v : Int) : clsL l v = clsL l' v := by
  by_cases h : ∃ b ∈ bndsL l ++ bndsL l', b ≤ v
  · obtain ⟨m, hm, h1, h2⟩ := greatest_below _ v h
    rw [clsL_congr l v m (fun b hb => ⟨fun q => h2 b (List.mem_append_left _ hb) q, fun q => by omega⟩), clsL_congr l' v m (fun b hb => ⟨fun q => h2 b (List.mem_append_right _ hb) q, fun q => by omega⟩), check m hm]
  · rw [clsL_low l v (fun b hb q => h ⟨b, List.mem_append_left _ hb, q⟩), clsL_low l' v (fun b hb q => h ⟨b, List.mem_append_right _ hb, q⟩)]
theorem clsL_any (ps : List (Int × Int)) (c : Int) (r : List (Int × Int × Int)) (v : Int) : clsL (ps.map (fun p => (p.1, p.2, c)) ++ r) v = if (ps.any fun p => decide (p.1 ≤ v ∧ v ≤ p.2)) = true then c else clsL r v := by
  induction ps with
  | nil => simp
  | cons x ps ih =>
    by_cases q : x.1 ≤ v ∧ v ≤ x.2
    · have e : ((x :: ps).any fun p => decide (p.1 ≤ v ∧ v ≤ p.2)) = true := by rw [List.any_cons, decide_eq_true q, Bool.true_or]
      rw [if_pos e]
      simp only [List.map_cons, List.cons_append, clsL]
      rw [if_pos q]
    · have e : ((x :: ps).any fun p => decide (p.1 ≤ v ∧ v ≤ p.2)) = ps.any fun p => decide (p.1 ≤ v ∧ v ≤ p.2) := by rw [List.any_cons, decide_eq_false q, Bool.false_or]
      rw [e, ← ih]
      simp only [List.map_cons, List.cons_append, clsL]
      rw [if_neg q]
theorem idxF_cons {α : Type} (p : α → Bool) (x : α) (l : List α) : idxF p (x :: l) = if p x = true then 0 else if idxF p l < 0 then -1 else idxF p l + 1 := by
  unfold idxF
  rw [List.findIdx?_cons]
  by_cases h : p x = true
  · simp [h]
  · simp only [h]
    cases hq : l.findIdx? p with
    | none => simp
    | some i => simp; omega
theorem class_in.nil (v : Int) : class_in.v v [] = 0 := by simp [class_in.v, idxF]
theorem class_in.cons (v : Int) (x : S81) (l : List S81) : class_in.v v (x :: l) = if x.f0 ≤ v ∧ v ≤ x.f1 then x.f2 else class_in.v v l := by
  unfold class_in.v
  rw [idxF_cons]
  by_cases h : x.f0 ≤ v ∧ v ≤ x.f1
  · simp [h, rd_T81]
  · have : (decide (x.f0 ≤ v) && decide (v ≤ x.f1)) = false := by simp; omega
    simp only [this, if_neg h]
    have hg := idxF_ge (fun x : S81 => decide (x.f0 ≤ v) && decide (v ≤ x.f1)) l
    generalize idxF (fun x : S81 => decide (x.f0 ≤ v) && decide (v ≤ x.f1)) l = i at *
    by_cases hi : i < 0
    · simp [hi]
    · have e : (i + 1).toNat = i.toNat + 1 := by omega
      have : ¬ i + 1 < 0 := by omega
      simp [hi, this, rd_T81, e]
theorem class_in.cls (v : Int) (l : List S81) : class_in.v v l = clsL (l.map fun x => (x.f0, x.f1, x.f2)) v := by
  induction l with
  | nil => rw [class_in.nil]; rfl
  | cons x l ih => rw [class_in.cons, ih]; rfl
/-- Look-alikes by their pairs. -/
def skL : List (Int × Int) → Int → Int
  | [], v => v
  | (a, b) :: r, v => if a = v then b else skL r v
def sk1 (v : Int) (l : List S87) : Int := if idxF (fun x : S87 => x.f0 == v) l < 0 then v else (rd_T87 l (idxF (fun x : S87 => x.f0 == v) l)).f1
theorem sk1_skL (v : Int) (l : List S87) : sk1 v l = skL (l.map fun x => (x.f0, x.f1)) v := by
  induction l with
  | nil => simp [sk1, idxF, skL]
  | cons x l ih =>
    rw [List.map_cons, skL, ← ih]
    unfold sk1
    rw [idxF_cons]
    by_cases h : x.f0 = v
    · simp [h, rd_T87]
    · have : (x.f0 == v) = false := by simp [h]
      simp only [this, if_neg h]
      have hg := idxF_ge (fun x : S87 => x.f0 == v) l
      generalize idxF (fun x : S87 => x.f0 == v) l = i at *
      by_cases hi : i < 0
      · simp [hi]
      · have e : (i + 1).toNat = i.toNat + 1 := by omega
        have : ¬ i + 1 < 0 := by omega
        simp [hi, this, rd_T87, e]
def looksT : List (Int × Int) := class_looks.l.map fun x => (x.f0, x.f1)
theorem class_Skeleton.sk (v : Int) : class_Skeleton.v v = skL looksT v := sk1_skL v _
theorem wrap_small (i : Int) (h0 : -9223372036854775808 ≤ i) (h1 : i ≤ 9223372036854775807) : wrap64 i = i := by unfold wrap64; omega
theorem rd_at (xs : List Int) (i : Nat) (h : i < xs.length) : rd xs (i : Int) = xs[i] := by simp [rd, h]
def flatP : List (Int × Int) → List Int
  | [] => []
  | (a, b) :: r => a :: b :: flatP r
theorem within_l0 (v : Int) : ∀ (ps : List (Int × Int)) (pre : List Int) (k : Nat), ps.length < k → pre.length + (flatP ps).length ≤ 1000000 → dactylref03_within.l0 k v (pre ++ flatP ps) pre.length = some (ps.any fun p => decide (p.1 ≤ v ∧ v ≤ p.2)) := by
  intro ps
  induction ps with
  | nil =>
    intro pre k hk hl
    obtain ⟨k, rfl⟩ : ∃ m, k = m + 1 := ⟨k - 1, by omega⟩
    simp only [flatP, List.append_nil, List.length_nil, Nat.add_zero] at *
    simp only [dactylref03_within.l0]
    rw [wrap_small _ (by omega) (by omega), if_neg (by omega)]; rfl
  | cons x ps ih =>
    obtain ⟨a, b⟩ := x
    intro pre k hk hl
    obtain ⟨k, rfl⟩ : ∃ m, k = m + 1 := ⟨k - 1, by omega⟩
    simp only [flatP, List.length_cons] at *
    have h2 := ih (pre ++ [a, b]) k (by omega) (by simp; omega)
    simp only [List.append_assoc, List.cons_append, List.nil_append, List.length_append, List.length_cons, List.length_nil] at h2
    have e0 : rd (pre ++ a :: b :: flatP ps) (pre.length : Int) = a := by rw [rd_at _ _ (by simp)]; simp
    have e1 : rd (pre ++ a :: b :: flatP ps) ((pre.length : Int) + 1) = b := by
      have := rd_at (pre ++ a :: b :: flatP ps) (pre.length + 1) (by simp)
      rw [show ((pre.length : Int) + 1) = ((pre.length + 1 : Nat) : Int) by omega, this]; simp
    simp only [dactylref03_within.l0, List.any_cons]
    rw [wrap_small ((pre.length : Int) + 1) (by omega) (by omega), wrap_small ((pre.length : Int) + 2) (by omega) (by omega), e0, e1]
    rw [if_pos (by simp; omega), if_pos (by omega), if_pos (by simp; omega)]
    have e2 : ((pre.length : Int) + 2) = ((pre.length + (0 + 1 + 1) : Nat) : Int) := by omega
    by_cases h3 : v ≥ a
    · rw [if_pos h3, if_pos (by omega)]
      by_cases h4 : v ≤ b
      · rw [if_pos h4]; simp [h3, h4]
      · rw [if_neg h4, e2, h2]; simp [h4]
    · rw [if_neg h3, e2, h2]
      have : ¬ a ≤ v := h3
      simp [this]
theorem within_flat (v : Int) (ps : List (Int × Int)) (k : Nat) (hk : ps.length < k) (hl : (flatP ps).length ≤ 1000000) : dactylref03_within.f k v (flatP ps) = some (ps.any fun p => decide (p.1 ≤ v ∧ v ≤ p.2)) := within_l0 v ps [] k hk (by simpa using hl)
def pSpace : List (Int × Int) := [(160, 160), (5760, 5760), (8192, 8202), (8232, 8233), (8239, 8239), (8287, 8287), (12288, 12288)]
def pZero : List (Int × Int) := [(173, 173), (6155, 6158), (8203, 8205), (8288, 8292), (65279, 65279), (65529, 65531)]
def pBidi : List (Int × Int) := [(1564, 1564), (8206, 8207), (8234, 8238), (8294, 8297)]
def pMark : List (Int × Int) := [(768, 879), (1155, 1161), (1425, 1469), (1552, 1562), (1611, 1631), (1750, 1756), (6832, 6862), (7616, 7679), (8400, 8432), (12330, 12335), (12441, 12442), (65024, 65039), (65056, 65071)]
def pOther : List (Int × Int) := [(57344, 63743), (64976, 65007), (65520, 65528), (65534, 65535), (131070, 131071), (262142, 1114111)]
def pWide : List (Int × Int) := [(4352, 4447), (8986, 8987), (11904, 12287), (12289, 12350), (12353, 13311), (13312, 19903), (19968, 42191), (43360, 43391), (44032, 55203), (63744, 64255), (65072, 65135), (65280, 65376), (65504, 65510), (127744, 128591), (128640, 128767), (129280, 129535), (131072, 262141)]
def oddT : List (Int × Int × Int) := (0, 31, 4) :: (127, 127, 5) :: (128, 159, 6) :: (pSpace.map (fun p => (p.1, p.2, 10)) ++ (pZero.map (fun p => (p.1, p.2, 8)) ++ (pBidi.map (fun p => (p.1, p.2, 7)) ++ (pMark.map (fun p => (p.1, p.2, 9)) ++ (pOther.map (fun p => (p.1, p.2, 11)) ++ [])))))
def spansT : List (Int × Int × Int) := (class_spans.f).getD [] |>.map fun x => (x.f0, x.f1, x.f2)
theorem spans_odd (v : Int) : clsL spansT v = clsL oddT v := clsL_eq _ _ (by decide +kernel) v
theorem odd_f (v : Int) (k : Nat) (hk : 20 ≤ k) (h0 : 0 ≤ v) : dactylref03_odd.f k v = some (clsL oddT v) := by
  obtain ⟨k, rfl⟩ : ∃ m, k = m + 1 := ⟨k - 1, by omega⟩
  have e1 := within_flat v pSpace k (by simp [pSpace]; omega) (by decide)
  have e2 := within_flat v pZero k (by simp [pZero]; omega) (by decide)
  have e3 := within_flat v pBidi k (by simp [pBidi]; omega) (by decide)
  have e4 := within_flat v pMark k (by simp [pMark]; omega) (by decide)
  have e5 := within_flat v pOther k (by simp [pOther]; omega) (by decide)
  have hj : ∀ b, dactylref03_odd.j0 (k + 1) v b = if b = true then some 6 else some (clsL (pSpace.map (fun p => (p.1, p.2, 10)) ++ (pZero.map (fun p => (p.1, p.2, 8)) ++ (pBidi.map (fun p => (p.1, p.2, 7)) ++ (pMark.map (fun p => (p.1, p.2, 9)) ++ (pOther.map (fun p => (p.1, p.2, 11)) ++ []))))) v) := by
    intro b
    cases b with
    | true => rfl
    | false =>
      have q1 : (flatP pSpace) = [160, 160, 5760, 5760, 8192, 8202, 8232, 8233, 8239, 8239, 8287, 8287, 12288, 12288] := rfl
      have q2 : (flatP pZero) = [173, 173, 6155, 6158, 8203, 8205, 8288, 8292, 65279, 65279, 65529, 65531] := rfl
      have q3 : (flatP pBidi) = [1564, 1564, 8206, 8207, 8234, 8238, 8294, 8297] := rfl
      have q4 : (flatP pMark) = [768, 879, 1155, 1161, 1425, 1469, 1552, 1562, 1611, 1631, 1750, 1756, 6832, 6862, 7616, 7679, 8400, 8432, 12330, 12335, 12441, 12442, 65024, 65039, 65056, 65071] := rfl
      have q5 : (flatP pOther) = [57344, 63743, 64976, 65007, 65520, 65528, 65534, 65535, 131070, 131071, 262142, 1114111] := rfl
      rw [q1] at e1; rw [q2] at e2; rw [q3] at e3; rw [q4] at e4; rw [q5] at e5
      simp only [dactylref03_odd.j0, clsL_any]
      rw [e1, e2, e3, e4, e5]
      generalize (pSpace.any fun p => decide (p.1 ≤ v ∧ v ≤ p.2)) = c1
      generalize (pZero.any fun p => decide (p.1 ≤ v ∧ v ≤ p.2)) = c2
      generalize (pBidi.any fun p => decide (p.1 ≤ v ∧ v ≤ p.2)) = c3
      generalize (pMark.any fun p => decide (p.1 ≤ v ∧ v ≤ p.2)) = c4
      generalize (pOther.any fun p => decide (p.1 ≤ v ∧ v ≤ p.2)) = c5
      cases c1 <;> cases c2 <;> cases c3 <;> cases c4 <;> cases c5 <;> rfl
  unfold dactylref03_odd.f oddT
  rw [hj, hj]
  simp only [clsL]
  by_cases a1 : v ≤ 31
  · rw [if_pos a1, if_pos (show 0 ≤ v ∧ v ≤ 31 from ⟨h0, a1⟩)]
  · rw [if_neg a1, if_neg (show ¬ (0 ≤ v ∧ v ≤ 31) by omega)]
    by_cases a2 : v = 127
    · rw [if_pos a2, if_pos (show 127 ≤ v ∧ v ≤ 127 by omega)]
    · rw [if_neg a2, if_neg (show ¬ (127 ≤ v ∧ v ≤ 127) by omega)]
      by_cases a3 : v ≥ 128
      · rw [if_pos a3]
        by_cases a4 : v ≤ 159
        · rw [decide_eq_true a4, if_pos rfl, if_pos (show 128 ≤ v ∧ v ≤ 159 from ⟨a3, a4⟩)]
        · rw [decide_eq_false a4, if_neg (show ¬ (false = true) by simp), if_neg (show ¬ (128 ≤ v ∧ v ≤ 159) by omega)]
      · rw [if_neg a3, if_neg (show ¬ (false = true) by simp), if_neg (show ¬ (128 ≤ v ∧ v ≤ 159) by omega)]
def skChars : ByteArray := ⟨#[65, 66, 69, 90, 72, 73, 75, 77, 78, 79, 80, 84, 89, 88, 118, 111, 112, 83, 73, 74, 65, 66, 69, 75, 77, 72, 79, 80, 67, 84, 88, 97, 101, 111, 112, 99, 121, 120, 115, 105, 106, 100, 113, 119, 59, 45, 45, 47, 47, 46, 44]⟩
theorem sk_l0 (v : Int) (T : List (Int × Int)) (s : ByteArray) (hs : s.size = T.length) (hl : T.length ≤ 1000000) (hc : ∀ i : Nat, i < T.length → wrap64 (bt s (i : Int)) = (T.getD i (0, 0)).2) :
    ∀ (n i k : Nat), T.length - i = n → i ≤ T.length → n < k → dactylref03_Skeleton.l0 k v (T.map (·.1)) s (i : Int) = some (skL (T.drop i) v) := by
  intro n
  induction n with
  | zero =>
    intro i k hn hi hk
    obtain ⟨k, rfl⟩ : ∃ m, k = m + 1 := ⟨k - 1, by omega⟩
    have : i = T.length := by omega
    subst this
    simp only [dactylref03_Skeleton.l0]
    rw [if_neg (by simp), List.drop_length]; rfl
  | succ n ih =>
    intro i k hn hi hk
    obtain ⟨k, rfl⟩ : ∃ m, k = m + 1 := ⟨k - 1, by omega⟩
    have hlt : i < T.length := by omega
    have c1 : (i : Int) < ((T.map (·.1)).length : Int) := by rw [List.length_map]; omega
    have c2 : (0 : Int) ≤ (i : Int) := by omega
    have c3 : (i : Int) < (s.size : Int) := by omega
    have e3 : wrap64 ((i : Int) + 1) = ((i + 1 : Nat) : Int) := by rw [wrap_small _ (by omega) (by omega)]; omega
    have h2 := ih (i + 1) k (by omega) (by omega) (by omega)
    have hcc := hc i hlt
    simp only [dactylref03_Skeleton.l0]
    rw [List.drop_eq_getElem_cons hlt]
    have e : rd (T.map (·.1)) (i : Int) = T[i].1 := by rw [rd_at _ _ (by simpa using hlt)]; simp
    have e2 : (T.getD i (0, 0)).2 = T[i].2 := by rw [List.getD_eq_getElem?_getD, List.getElem?_eq_getElem hlt]; rfl
    simp only [c1, c2, c3, if_true, e, hcc, e2, e3, h2]
    simp only [skL]
    by_cases q : T[i].1 = v
    · rw [if_pos q, if_pos q]
    · rw [if_neg q, if_neg q]
def skKeys : List Int := [913, 914, 917, 918, 919, 921, 922, 924, 925, 927, 929, 932, 933, 935, 957, 959, 961, 1029, 1030, 1032, 1040, 1042, 1045, 1050, 1052, 1053, 1054, 1056, 1057, 1058, 1061, 1072, 1077, 1086, 1088, 1089, 1091, 1093, 1109, 1110, 1112, 1281, 1307, 1309, 894, 8208, 8722, 8260, 8725, 8228, 8218]
theorem skKeys_eq : looksT.map (·.1) = skKeys := by decide +kernel
theorem sk_f (v : Int) (k : Nat) : dactylref03_Skeleton.f k v = dactylref03_Skeleton.l0 k v skKeys skChars ((0 : Nat) : Int) := rfl
theorem sk_len : looksT.length = 51 := by decide +kernel
theorem sk_chars : ∀ i : Nat, i < 51 → wrap64 (bt skChars (i : Int)) = (looksT.getD i (0, 0)).2 := by decide +kernel
theorem ref_Skeleton (v : Int) (k : Nat) (hk : 60 ≤ k) : dactylref03_Skeleton.f k v = some (class_Skeleton.v v) := by
  have hz : skChars.size = looksT.length := by rw [sk_len]; decide
  have hc : ∀ i : Nat, i < looksT.length → wrap64 (bt skChars (i : Int)) = (looksT.getD i (0, 0)).2 := by rw [sk_len]; exact sk_chars
  have hl := sk_len
  have hk' := skKeys_eq
  have hs' := class_Skeleton.sk v
  have hf := sk_f v k
  generalize looksT = T at *
  generalize skChars = S at *
  have h := sk_l0 v T S hz (by omega) hc 51 0 k (by omega) (by omega) (by omega)
  rw [hk', List.drop_zero] at h
  rw [hs', hf, h]
theorem pairs_any_wide (v : Int) : class_in.v v ((class_wides.f).getD []) = if (pWide.any fun p => decide (p.1 ≤ v ∧ v ≤ p.2)) = true then 2 else 0 := by
  rw [class_in.cls, show (((class_wides.f).getD []).map fun x => (x.f0, x.f1, x.f2)) = pWide.map (fun p => (p.1, p.2, 2)) ++ [] from by decide +kernel, clsL_any]; rfl
/-- The class, told in one piece. -/
theorem class_Of.v_eq (v : Int) : class_Of.v v = if utf_Right.f v = some true then (if v > 1114111 then 12 else if v > 31 ∧ v < 127 then 1 else if clsL spansT v = 0 then (if class_Skeleton.v v = v then (if (pWide.any fun p => decide (p.1 ≤ v ∧ v ≤ p.2)) = true then 2 else 1) else 3) else clsL spansT v) else 0 := by
  have e1 : class_spans.f = some ((class_spans.f).getD []) := rfl
  have e2 : class_wides.f = some ((class_wides.f).getD []) := rfl
  have e3 := class_in.cls v ((class_spans.f).getD [])
  have e4 := pairs_any_wide v
  have h0 : ∃ b, utf_point.f v = some b := by
    unfold utf_point.f
    repeat' split
    all_goals exact ⟨_, rfl⟩
  obtain ⟨b0, hb0⟩ := h0
  have h1 : ∃ b, utf_Right.f v = some b := by
    unfold utf_Right.f
    rw [hb0]
    simp only [Option.bind_some]
    repeat' split
    all_goals exact ⟨_, rfl⟩
  obtain ⟨b, hb⟩ := h1
  have e5 : class_Of.j0 1 v = some (if clsL spansT v = 0 then (if class_Skeleton.v v = v then (if (pWide.any fun p => decide (p.1 ≤ v ∧ v ≤ p.2)) = true then 2 else 1) else 3) else clsL spansT v) := by
    simp only [class_Of.j0]
    rw [e1, e2]
    simp only [Option.bind_some, class_in.f, class_Skeleton.f]
    rw [e3, e4]
    show _ = some (if clsL spansT v = 0 then _ else _)
    change (if clsL spansT v = 0 then _ else _) = _
    by_cases q1 : clsL spansT v = 0
    · rw [if_pos q1, if_pos q1]
      by_cases q2 : class_Skeleton.v v = v
      · rw [if_pos q2, if_pos q2]
        generalize (pWide.any fun p => decide (p.1 ≤ v ∧ v ≤ p.2)) = c
        cases c <;> rfl
      · rw [if_neg q2, if_neg q2]
    · rw [if_neg q1, if_neg q1]; rfl
  unfold class_Of.v class_Of.f
  rw [hb, e5]
  simp only [Option.bind_some]
  cases b with
  | false => rfl
  | true =>
    rw [if_pos rfl, if_pos rfl]
    by_cases q1 : v > 1114111
    · rw [if_pos q1, if_pos q1]; rfl
    · rw [if_neg q1, if_neg q1]
      by_cases q2 : v > 31
      · by_cases q3 : v < 127
        · rw [if_pos q2, if_pos q3, if_pos (show v > 31 ∧ v < 127 from ⟨q2, q3⟩)]; rfl
        · rw [if_pos q2, if_neg q3, if_neg (show ¬ (v > 31 ∧ v < 127) from fun h => q3 h.2)]; rfl
      · rw [if_neg q2, if_neg (show ¬ (v > 31 ∧ v < 127) from fun h => q2 h.1)]; rfl
theorem right_iff (v : Int) : utf_Right.f v = some (decide (0 ≤ v ∧ v < 55296 ∨ 57343 < v ∧ v ≤ 1114111 ∨ 1114240 ≤ v ∧ v ≤ 1114367)) := by
  unfold utf_Right.f utf_point.f
  repeat' split
  all_goals simp only [Option.bind_some]
  all_goals (repeat' split)
  all_goals (refine congrArg some (Bool.eq_iff_iff.2 ?_))
  all_goals (simp at *)
  all_goals omega
theorem right_same (v : Int) : dactylref02_Right.f v = some (decide (0 ≤ v ∧ v < 55296 ∨ 57343 < v ∧ v ≤ 1114111 ∨ 1114240 ≤ v ∧ v ≤ 1114367)) := by
  unfold dactylref02_Right.f
  repeat' split
  all_goals (refine congrArg some (Bool.eq_iff_iff.2 ?_))
  all_goals (simp at *)
  all_goals omega
theorem clsL_cases (l : List (Int × Int × Int)) (v : Int) : clsL l v = 0 ∨ ∃ x ∈ l, clsL l v = x.2.2 := by
  induction l with
  | nil => left; rfl
  | cons x l ih =>
    obtain ⟨a, b, c⟩ := x
    unfold clsL
    by_cases h : a ≤ v ∧ v ≤ b
    · right; exact ⟨(a, b, c), by simp, by rw [if_pos h]⟩
    · rw [if_neg h]
      rcases ih with q | ⟨y, hy, q⟩
      · left; exact q
      · right; exact ⟨y, by simp [hy], q⟩
theorem odd_pos : ∀ x ∈ oddT, 0 < x.2.2 := by decide +kernel
theorem odd_ge (v : Int) : 0 ≤ clsL oddT v := by
  rcases clsL_cases oddT v with h | ⟨x, hx, h⟩
  · omega
  · have := odd_pos x hx; omega
theorem plain_low : ∀ n : Nat, n < 95 → clsL oddT ((n : Int) + 32) = 0 ∧ skL looksT ((n : Int) + 32) = (n : Int) + 32 ∧ (pWide.any fun p => decide (p.1 ≤ (n : Int) + 32 ∧ (n : Int) + 32 ≤ p.2)) = false := by decide +kernel
theorem flat_wide : flatP pWide = [4352, 4447, 8986, 8987, 11904, 12287, 12289, 12350, 12353, 13311, 13312, 19903, 19968, 42191, 43360, 43391, 44032, 55203, 63744, 64255, 65072, 65135, 65280, 65376, 65504, 65510, 127744, 128591, 128640, 128767, 129280, 129535, 131072, 262141] := rfl
/-- The program's class is the document's. -/
theorem ref_Of (v : Int) (k : Nat) (hk : 60 ≤ k) : dactylref03_Of.f k v = some (class_Of.v v) := by
  rw [class_Of.v_eq, right_iff]
  unfold dactylref03_Of.f
  rw [right_same]
  simp only [Option.bind_some]
  by_cases hr : 0 ≤ v ∧ v < 55296 ∨ 57343 < v ∧ v ≤ 1114111 ∨ 1114240 ≤ v ∧ v ≤ 1114367
  · rw [decide_eq_true hr, if_pos rfl, if_pos rfl]
    by_cases h1 : v > 1114111
    · rw [if_pos h1, if_pos h1]
    · rw [if_neg h1, if_neg h1, odd_f v k (by omega) (by omega), ref_Skeleton v k hk, spans_odd, ← flat_wide, within_flat v pWide k (by simp [pWide]; omega) (by decide)]
      simp only [Option.bind_some]
      have hge := odd_ge v
      by_cases h2 : v > 31 ∧ v < 127
      · obtain ⟨n, hn⟩ : ∃ n : Nat, v = (n : Int) + 32 := ⟨(v - 32).toNat, by omega⟩
        obtain ⟨p1, p2, p3⟩ := plain_low n (by omega)
        rw [class_Skeleton.sk, if_pos h2, hn, p1, p2, p3, if_neg (show ¬ (0 : Int) > 0 by omega), if_pos rfl, if_neg (show ¬ (false = true) by simp)]
      · rw [if_neg h2]
        by_cases h3 : clsL oddT v = 0
        · rw [if_pos h3, if_neg (show ¬ clsL oddT v > 0 by omega)]
          by_cases h4 : class_Skeleton.v v = v
          · rw [if_pos h4, if_pos h4]
            generalize (pWide.any fun p => decide (p.1 ≤ v ∧ v ≤ p.2)) = c
            cases c <;> rfl
          · rw [if_neg h4, if_neg h4]
        · rw [if_neg h3, if_pos (show clsL oddT v > 0 by omega)]
  · rw [decide_eq_false hr]; rfl
end Go.Proofs.Ytdhnjkagmbfoaaa.P
