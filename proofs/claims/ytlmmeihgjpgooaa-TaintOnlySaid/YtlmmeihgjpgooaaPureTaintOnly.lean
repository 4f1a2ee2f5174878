/- What the filter keeps is counted as the law counts it; so are the ends. -/
import Derived.Test.YtlmmeihgjpgooaaPdactyllaw43TaintOnly
import Derived.Test.YtlmmeihgjpgooaaPtaint
namespace Go.Proofs.Ytlmmeihgjpgooaa.Pure
open Go.RowKit Go.Proofs.Ytlmmeihgjpgooaa.P Go.Proofs.YtlmmeihgjpgooaaW.PrintWords Go.Proofs.YtlmmeihgjpgooaaW.PrintLast
set_option linter.unusedVariables false
set_option linter.unusedSimpArgs false
theorem w64 (i : Int) (h0 : -9223372036854775808 ≤ i) (h1 : i ≤ 9223372036854775807) : wrap64 i = i := by unfold wrap64; omega
abbrev Sg := S46
def isEnd (x : Sg) : Bool := decide (x.f1 = 2) && (decide (x.f0 = 10) || decide (x.f0 = 13))
def endsTo (l : List Sg) (n : Nat) : List Int := ((List.range n).filter fun i => (l[i]?).any isEnd).map fun i => ((i : Nat) : Int)
theorem endsTo_succ {l : List Sg} {n : Nat} {x : Sg} (h : l[n]? = some x) : endsTo l (n + 1) = endsTo l n ++ (if isEnd x = true then [(n : Int)] else []) := by
  unfold endsTo
  rw [List.range_succ, List.filter_append, List.map_append]
  congr 1
  cases hx : isEnd x <;> simp [h, hx]
theorem endsTo_len (l : List Sg) (n : Nat) : (endsTo l n).length ≤ n := by
  unfold endsTo
  rw [List.length_map]
  exact Nat.le_trans (List.length_filter_le _ _) (by simp)
theorem endsTo_pre (l : List Sg) (n m : Nat) (h : n ≤ m) (hm : m ≤ l.length) : ∃ t, endsTo l m = endsTo l n ++ t := by
  induction h with
  | refl => exact ⟨[], by simp⟩
  | @step m _ ih =>
    obtain ⟨t, ht⟩ := ih (by omega)
    have hg : l[m]? = some l[m] := List.getElem?_eq_getElem (by omega)
    rw [endsTo_succ hg, ht]
    exact ⟨_, List.append_assoc _ _ _⟩
theorem rdT_at {l : List Sg} {i : Nat} (h : i < l.length) : rd_T46 l (i : Int) = l[i] := by
  simp [rd_T46, h]
theorem rd_at {l : List Int} {i : Nat} (h : i < l.length) : rd l (i : Int) = l[i] := by
  simp [rd, h]
theorem ends_l0 (l : List Sg) (hl : l.length ≤ 100) : ∀ (d i k : Nat), l.length - i = d → i ≤ l.length → d < k → taint_Ends.l0 k (endsTo l i) l (l.length : Int) (i : Int) = some (endsTo l l.length)
  | 0, i, k, hd, hi, hk => by
    obtain ⟨k, rfl⟩ : ∃ m, k = m + 1 := ⟨k - 1, by omega⟩
    have : i = l.length := by omega
    subst this
    simp only [taint_Ends.l0]
    rw [if_neg (by omega)]
  | d + 1, i, k, hd, hi, hk => by
    obtain ⟨k, rfl⟩ : ∃ m, k = m + 1 := ⟨k - 1, by omega⟩
    have hlt : i < l.length := by omega
    have ih := ends_l0 l hl d (i + 1) k (by omega) (by omega) (by omega)
    have hs := endsTo_succ (List.getElem?_eq_getElem hlt)
    have hn := endsTo_len l i
    simp only [taint_Ends.l0]
    rw [if_pos (by omega), if_pos (by omega), if_pos (by omega), rdT_at hlt, w64 _ (by omega) (by omega), show (i : Int) + 1 = ((i + 1 : Nat) : Int) by omega, if_pos (show (endsTo l i).length < 17592186044416 by omega)]
    generalize l[i] = x at hs
    by_cases h1 : x.f1 = 2
    · rw [if_pos h1]
      by_cases h2 : x.f0 = 10
      · have hx : isEnd x = true := by simp [isEnd, h1, h2]
        rw [if_pos h2]
        rw [hx, if_pos rfl] at hs
        rw [← hs]; exact ih
      · rw [if_neg h2]
        by_cases h3 : x.f0 = 13
        · have hx : isEnd x = true := by simp [isEnd, h1, h3]
          rw [if_pos h3]
          rw [hx, if_pos rfl] at hs
          rw [← hs]; exact ih
        · have hx : isEnd x = false := by simp [isEnd, h2, h3]
          rw [if_neg h3]
          rw [hx, if_neg (by decide), List.append_nil] at hs
          rw [← hs]; exact ih
    · have hx : isEnd x = false := by simp [isEnd, h1]
      rw [if_neg h1]
      rw [hx, if_neg (by decide), List.append_nil] at hs
      rw [← hs]; exact ih
section
variable (l0 : List Sg) (l1 : List Int) (h0 : l0.length ≤ 100) (h1 : l1.length ≤ 20)
abbrev kept (l0 : List Sg) (l1 : List Int) : List Sg := l0.filter fun x => !(!(l1.contains x.f1))
abbrev keptTo (l0 : List Sg) (l1 : List Int) (i : Nat) : List Sg := (l0.take i).filter fun x => !(!(l1.contains x.f1))
theorem kept_at {l0 : List Sg} {l1 : List Int} {i : Nat} (hi : i < l0.length) : ∃ t, kept l0 l1 = keptTo l0 l1 i ++ ((if l1.contains l0[i].f1 = true then [l0[i]] else []) ++ t) ∧ keptTo l0 l1 (i + 1) = keptTo l0 l1 i ++ (if l1.contains l0[i].f1 = true then [l0[i]] else []) := by
  refine ⟨(l0.drop (i + 1)).filter fun x => !(!(l1.contains x.f1)), ?_, ?_⟩
  · have : l0 = l0.take i ++ (l0[i] :: l0.drop (i + 1)) := by rw [← List.drop_eq_getElem_cons hi, List.take_append_drop]
    conv => lhs; unfold kept; rw [this]
    rw [List.filter_append, List.filter_cons]
    cases l1.contains l0[i].f1 <;> rfl
  · unfold keptTo
    rw [List.take_add_one, List.getElem?_eq_getElem hi, List.filter_append]
    congr 1
    simp only [Option.toList_some, List.filter_cons, List.filter_nil]
    cases l1.contains l0[i].f1 <;> rfl
include h0 h1
theorem taint_all : ∀ (d : Nat),
    (∀ (i k : Nat), l0.length - i = d → i ≤ l0.length → d * 40 + 8 ≤ k → dactyllaw43_TaintOnly.l0 k l0 l1 (kept l0 l1) (endsTo l0 l0.length) ((keptTo l0 l1 i).length : Int) ((endsTo l0 i).length : Int) (i : Int) = some true) := by
  intro d
  induction d with
  | zero =>
    intro i k hd hi hk
    obtain ⟨k, rfl⟩ : ∃ m, k = m + 1 := ⟨k - 1, by omega⟩
    have : i = l0.length := by omega
    subst this
    simp only [dactyllaw43_TaintOnly.l0]
    rw [if_neg (by omega)]
    simp only [dactyllaw43_awake.f, Option.bind_some, if_true]
    rw [if_pos (by unfold keptTo kept; rw [List.take_length])]
    simp
  | succ d ih =>
    intro i k hd hi hk
    obtain ⟨k, rfl⟩ : ∃ m, k = m + 1 := ⟨k - 1, by omega⟩
    have hlt : i < l0.length := by omega
    have hg : l0[i]? = some l0[i] := List.getElem?_eq_getElem hlt
    simp only [dactyllaw43_TaintOnly.l0]
    rw [if_pos (by omega)]
    -- behind the ends
    have j4 : ∀ (k kk : Nat), d * 40 + 9 ≤ k → kk = (keptTo l0 l1 (i + 1)).length → dactyllaw43_TaintOnly.j3 (k + 1) l0 l1 (kept l0 l1) (endsTo l0 l0.length) (kk : Int) ((endsTo l0 i).length : Int) (i : Int) = some true := by
      intro k kk hk hkk
      obtain ⟨k, rfl⟩ : ∃ m, k = m + 1 := ⟨k - 1, by omega⟩
      have hs := endsTo_succ hg
      have hle := endsTo_len l0 i
      obtain ⟨t, ht⟩ := endsTo_pre l0 (i + 1) l0.length (by omega) (Nat.le_refl _)
      have ih' := ih (i + 1) k (by omega) (by omega) (by omega)
      have yes : isEnd l0[i] = true → dactyllaw43_TaintOnly.j4 (k + 1) l0 l1 (kept l0 l1) (endsTo l0 l0.length) (kk : Int) ((endsTo l0 i).length : Int) (i : Int) true = some true := by
        intro hx
        rw [hx, if_pos rfl] at hs
        have hlen : (endsTo l0 i).length < (endsTo l0 l0.length).length := by rw [ht, hs]; simp
        have hat : rd (endsTo l0 l0.length) ((endsTo l0 i).length : Int) = (i : Int) := by
          rw [rd_at hlen]
          simp only [ht, hs]
          simp
        simp only [dactyllaw43_TaintOnly.j4]
        rw [if_pos trivial, if_neg (by omega), if_pos (by omega), if_pos (by omega), hat, if_pos rfl, w64 _ (by omega) (by omega), w64 _ (by omega) (by omega)]
        rw [hs] at ih'
        rw [hkk]
        have e1 : ((endsTo l0 i).length : Int) + 1 = ((endsTo l0 i ++ [(i : Int)]).length : Int) := by simp
        rw [e1, show (i : Int) + 1 = ((i + 1 : Nat) : Int) by omega]; exact ih'
      have no : isEnd l0[i] = false → dactyllaw43_TaintOnly.j4 (k + 1) l0 l1 (kept l0 l1) (endsTo l0 l0.length) (kk : Int) ((endsTo l0 i).length : Int) (i : Int) false = some true := by
        intro hx
        rw [hx, if_neg (by decide), List.append_nil] at hs
        simp only [dactyllaw43_TaintOnly.j4]
        rw [if_neg (by decide), w64 _ (by omega) (by omega), hkk, show (i : Int) + 1 = ((i + 1 : Nat) : Int) by omega, ← hs]
        exact ih'
      simp only [dactyllaw43_TaintOnly.j3]
      rw [if_pos (by omega), if_pos (by omega), rdT_at hlt]
      by_cases h1 : l0[i].f1 = 2
      · rw [if_pos h1]
        by_cases h2 : l0[i].f0 = 10
        · rw [if_pos h2]; exact yes (by simp [isEnd, h1, h2])
        · rw [if_neg h2]
          by_cases h3 : l0[i].f0 = 13
          · rw [show (l0[i].f0 == 13) = true by simp [h3]]; exact yes (by simp [isEnd, h1, h3])
          · rw [show (l0[i].f0 == 13) = false by simp [h3]]; exact no (by simp [isEnd, h2, h3])
      · rw [if_neg h1]; exact no (by simp [isEnd, h1])
    -- the labels
    have l1s : ∀ (e j k : Nat) (b : Bool), l1.length - j = e → j ≤ l1.length → d * 40 + 12 + e ≤ k → b = (l1.take j).contains l0[i].f1 → dactyllaw43_TaintOnly.l1 k l0 l1 (kept l0 l1) (endsTo l0 l0.length) ((keptTo l0 l1 i).length : Int) ((endsTo l0 i).length : Int) (i : Int) b (j : Int) = some true := by
      intro e
      induction e with
      | zero =>
        intro j k b he hj hk hb
        obtain ⟨k, rfl⟩ : ∃ m, k = m + 2 := ⟨k - 2, by omega⟩
        have : j = l1.length := by omega
        subst this
        rw [List.take_length] at hb
        subst hb
        obtain ⟨t, h1, h2⟩ := kept_at (l0 := l0) (l1 := l1) hlt
        have hkl : (keptTo l0 l1 i).length ≤ i := Nat.le_trans (List.length_filter_le _ _) (by rw [List.length_take]; omega)
        simp only [dactyllaw43_TaintOnly.l1]
        rw [if_neg (by omega)]
        cases hc : l1.contains l0[i].f1 with
        | false =>
          rw [if_neg (by decide)]
          rw [hc, if_neg (by decide), List.append_nil] at h2
          exact j4 k _ (by omega) (by rw [h2])
        | true =>
          rw [hc, if_pos rfl] at h1 h2
          have hlen : (keptTo l0 l1 i).length < (kept l0 l1).length := by rw [h1]; simp
          have hat : rd_T46 (kept l0 l1) ((keptTo l0 l1 i).length : Int) = l0[i] := by
            rw [rdT_at hlen]
            simp only [h1]
            simp
          rw [if_pos rfl, if_neg (by omega), if_pos (by omega), if_pos (by omega), if_pos (by omega), if_pos (by omega), hat, rdT_at hlt]
          rw [if_neg (by simp), w64 _ (by omega) (by omega)]
          have e1 : ((keptTo l0 l1 i).length : Int) + 1 = (((keptTo l0 l1 i).length + 1 : Nat) : Int) := by omega
          rw [e1]
          exact j4 k _ (by omega) (by rw [h2]; simp)
      | succ e ihe =>
        intro j k b he hj hk hb
        obtain ⟨k, rfl⟩ : ∃ m, k = m + 1 := ⟨k - 1, by omega⟩
        have hjl : j < l1.length := by omega
        have hnext : ((l1.take (j + 1)).contains l0[i].f1) = ((l1.take j).contains l0[i].f1 || (l1[j] == l0[i].f1)) := by
          rw [List.take_add_one, List.getElem?_eq_getElem hjl]
          simp only [Option.toList_some, List.contains_eq_mem, List.mem_append, List.mem_singleton, Bool.decide_or]
          congr 1
          by_cases q : l0[i].f1 = l1[j] <;> simp [q]
          intro h; exact absurd h.symm q
        simp only [dactyllaw43_TaintOnly.l1]
        rw [if_pos (by omega)]
        cases b with
        | true =>
          rw [if_pos rfl, w64 _ (by omega) (by omega), show (j : Int) + 1 = ((j + 1 : Nat) : Int) by omega]
          exact ihe (j + 1) k true (by omega) (by omega) (by omega) (by rw [hnext, ← hb]; rfl)
        | false =>
          rw [if_neg (by decide), if_pos (by omega), if_pos (by omega), if_pos (by omega), rdT_at hlt, rd_at hjl, w64 _ (by omega) (by omega), show (j : Int) + 1 = ((j + 1 : Nat) : Int) by omega]
          exact ihe (j + 1) k _ (by omega) (by omega) (by omega) (by rw [hnext, ← hb]; rfl)
    exact l1s l1.length 0 k false (by omega) (by omega) (by omega) (by simp)
end
theorem TaintOnly : dactyllaw43_TaintOnly.Pure := by
  intro l0 l1 _ _
  obtain ⟨k, hk⟩ : ∃ k : Nat, 9999 ≤ k := ⟨_, Nat.le_refl _⟩
  refine ⟨k + 1, ?_⟩
  have aw : dactyllaw43_TaintOnly.j0 (k + 1) l0 l1 true = some true := rfl
  unfold dactyllaw43_TaintOnly.f
  by_cases h0 : (l0.length : Int) > 100
  · rw [if_pos h0]; exact aw
  · rw [if_neg h0]
    by_cases h1 : (l1.length : Int) > 20
    · rw [decide_eq_true h1]; exact aw
    · rw [decide_eq_false h1]
      simp only [dactyllaw43_TaintOnly.j0]
      rw [if_neg (by decide)]
      have hf : taint_Only.f l0 l1 = some (kept l0 l1) := by unfold taint_Only.f; rw [if_pos ⟨by omega, by omega⟩]
      have he : taint_Ends.f k l0 = some (endsTo l0 l0.length) := ends_l0 l0 (by omega) l0.length 0 k (by omega) (by omega) (by omega)
      rw [hf, he]
      simp only [Option.bind_some]
      exact taint_all l0 l1 (by omega) (by omega) l0.length 0 k (by omega) (by omega) (by omega)

end Go.Proofs.Ytlmmeihgjpgooaa.Pure
