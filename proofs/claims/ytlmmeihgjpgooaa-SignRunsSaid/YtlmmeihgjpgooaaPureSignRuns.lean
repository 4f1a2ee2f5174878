/- The runs of any signs: each of one label, none beside one of the same, all signs in one of them. -/
import Derived.Test.YtlmmeihgjpgooaaPdactyllaw04SignRuns
namespace Go.Proofs.Ytlmmeihgjpgooaa.Pure
open Go.RowKit Go.Proofs.Ytlmmeihgjpgooaa.P Go.Proofs.YtlmmeihgjpgooaaW.PrintWords Go.Proofs.YtlmmeihgjpgooaaW.PrintLast
set_option linter.unusedVariables false
set_option linter.unusedSimpArgs false
theorem wrap_small (i : Int) (h0 : -9223372036854775808 ≤ i) (h1 : i ≤ 9223372036854775807) : wrap64 i = i := by unfold wrap64; omega
/-- Runs that tell the first m signs. -/
inductive Cov (l : List S46) : List S44 → Nat → Prop
  | nil : Cov l [] 0
  | snoc (o : List S44) (a b : Nat) (v : Int) : Cov l o a → a < b → b ≤ l.length → (∀ i : Nat, a ≤ i → i < b → (rd_T46 l (i : Int)).f1 = v) → (∀ y, o.getLast? = some y → y.f0 ≠ v) → Cov l (o ++ [⟨v, (a : Int), (b : Int)⟩]) b
theorem Cov.le {l : List S46} {o : List S44} {m : Nat} (h : Cov l o m) : m ≤ l.length ∧ o.length ≤ m := by
  induction h with
  | nil => simp
  | snoc o a b v h1 h2 h3 h4 h5 ih => simp only [List.length_append, List.length_cons, List.length_nil]; omega
def ends (o : List S44) : Int := match o.getLast? with
  | some x => x.f2
  | none => 0
theorem Cov.ends {l : List S46} {o : List S44} {m : Nat} (h : Cov l o m) : Pure.ends o = (m : Int) := by
  cases h with
  | nil => rfl
  | snoc o a b v h1 h2 h3 h4 h5 => simp [Pure.ends]
/-- What is so of every run. -/
theorem Cov.each {l : List S46} {o : List S44} {m : Nat} (h : Cov l o m) : ∀ pre x post, o = pre ++ x :: post → ∃ a b : Nat, x.f1 = (a : Int) ∧ x.f2 = (b : Int) ∧ Pure.ends pre = (a : Int) ∧ a < b ∧ b ≤ l.length ∧ (∀ i : Nat, a ≤ i → i < b → (rd_T46 l (i : Int)).f1 = x.f0) ∧ (∀ y, pre.getLast? = some y → y.f0 ≠ x.f0) := by
  induction h with
  | nil => intro pre x post h; simp at h
  | snoc o a b v h1 h2 h3 h4 h5 ih =>
    intro pre x post h
    rcases List.eq_nil_or_concat post with rfl | ⟨post', z, rfl⟩
    · have := List.append_inj' h rfl
      obtain ⟨rfl, h⟩ := this
      simp at h
      subst h
      exact ⟨a, b, rfl, rfl, h1.ends, h2, h3, h4, h5⟩
    · rw [show pre ++ x :: (post'.concat z) = (pre ++ x :: post') ++ [z] by simp] at h
      exact ih pre x post' (List.append_inj' h rfl).1
theorem rdR (pre post : List S44) (x : S44) : rd_T44 (pre ++ x :: post) (pre.length : Int) = x := by simp [rd_T44]
/-- What Runs answers. -/
theorem runs_loop (l : List S46) (hl : l.length ≤ 100) : ∀ (n i : Nat) (o : List S44), l.length - i = n → Cov l o i → ∃ r, Cov l r l.length ∧ Ev (fun k => sign_Runs.l0 k o l (l.length : Int) (i : Int)) r := by
  intro n
  induction n with
  | zero =>
    intro i o hn hc
    have : i = l.length := by have := hc.le; omega
    subst this
    exact ⟨o, hc, Ev.step (f := fun _ => some o) (fun k => by simp only [sign_Runs.l0]; rw [if_neg (by omega)]) (Ev.now _)⟩
  | succ n ih =>
    intro i o hn hc
    have hi : i < l.length := by omega
    have hol := hc.le
    have w1 : wrap64 ((i : Int) + 1) = ((i + 1 : Nat) : Int) := by rw [wrap_small _ (by omega) (by omega)]; omega
    rcases List.eq_nil_or_concat o with rfl | ⟨o', z, rfl⟩
    · have hc' := Cov.snoc [] i (i + 1) (rd_T46 l (i : Int)).f1 hc (by omega) (by omega) (fun j h1 h2 => by rw [show j = i by omega]) (fun y hy => by simp at hy)
      obtain ⟨r, hr, he⟩ := ih (i + 1) _ (by omega) hc'
      refine ⟨r, hr, Ev.step (fun k => ?_) he⟩
      simp only [sign_Runs.l0]
      rw [if_pos (by omega), if_pos (by omega), if_pos (by omega), if_neg (by simp), if_pos (by simp), w1]
    · rw [List.concat_eq_append] at hc ⊢
      have hlen : (o' ++ [z]).length = o'.length + 1 := by simp
      rw [List.concat_eq_append] at hol
      have w2 : wrap64 (((o' ++ [z]).length : Int) - 1) = (o'.length : Int) := by rw [wrap_small _ (by omega) (by omega)]; omega
      by_cases hv : z.f0 = (rd_T46 l (i : Int)).f1
      · have hc' : Cov l (o' ++ [⟨z.f0, z.f1, ((i + 1 : Nat) : Int)⟩]) (i + 1) := by
          generalize hq : o' ++ [z] = q at hc
          cases hc with
          | nil => simp at hq
          | snoc o2 a b v h1 h2 h3 h4 h5 =>
            have := List.append_inj' hq rfl
            obtain ⟨rfl, h⟩ := this
            simp at h
            subst h
            exact Cov.snoc o' a (i + 1) v h1 (by omega) (by omega) (fun j g1 g2 => by
              rcases Nat.lt_or_ge j i with g | g
              · exact h4 j g1 g
              · rw [show j = i by omega]; exact hv.symm) h5
        obtain ⟨r, hr, he⟩ := ih (i + 1) _ (by omega) hc'
        refine ⟨r, hr, Ev.step (fun k => ?_) he⟩
        simp only [sign_Runs.l0]
        rw [if_pos (by omega), if_pos (by omega), if_pos (by omega), if_pos (by omega), w2, if_pos (by omega), if_pos (by omega), rdR o' [] z, if_pos hv, w1]
        simp
      · have hc' := Cov.snoc (o' ++ [z]) i (i + 1) (rd_T46 l (i : Int)).f1 hc (by omega) (by omega) (fun j h1 h2 => by rw [show j = i by omega]) (fun y hy => by simp at hy; subst hy; exact hv)
        obtain ⟨r, hr, he⟩ := ih (i + 1) _ (by omega) hc'
        refine ⟨r, hr, Ev.step (fun k => ?_) he⟩
        simp only [sign_Runs.l0]
        rw [if_pos (by omega), if_pos (by omega), if_pos (by omega), if_pos (by omega), w2, if_pos (by omega), if_pos (by omega), rdR o' [] z, if_neg hv, if_pos (by omega), w1]
/-- The law's inner loop. -/
theorem inner (l : List S46) (hl : l.length ≤ 100) (r : List S44) (j : Nat) (hj : j < r.length) (hr : r.length ≤ 100) (b : Nat) (hb : (rd_T44 r (j : Int)).f2 = (b : Int)) (hbl : b ≤ l.length) (res : Bool)
    (next : Ev (fun k => dactyllaw04_SignRuns.l0 k l r (b : Int) ((j + 1 : Nat) : Int)) res) : ∀ (n a : Nat), b - a = n → a ≤ b → (∀ i : Nat, a ≤ i → i < b → (rd_T46 l (i : Int)).f1 = (rd_T44 r (j : Int)).f0) → Ev (fun k => dactyllaw04_SignRuns.l1 k l r (a : Int) (j : Int)) res := by
  intro n
  induction n with
  | zero =>
    intro a hn ha hv
    have : a = b := by omega
    subst this
    refine Ev.step (fun k => ?_) next
    simp only [dactyllaw04_SignRuns.l1]
    rw [if_pos (by omega), if_pos (by omega), hb, if_neg (by omega), wrap_small ((j : Int) + 1) (by omega) (by omega)]
    rfl
  | succ n ih =>
    intro a hn ha hv
    refine Ev.step (fun k => ?_) (ih (a + 1) (by omega) (by omega) (fun i h1 h2 => hv i (by omega) h2))
    simp only [dactyllaw04_SignRuns.l1]
    rw [if_pos (by omega), if_pos (by omega), hb, if_pos (by omega), if_pos (by omega), if_pos (by omega), if_pos (hv a (by omega) (by omega)), wrap_small ((a : Int) + 1) (by omega) (by omega)]
    rfl
theorem outer (l : List S46) (hl : l.length ≤ 100) (r : List S44) (hc : Cov l r l.length) : ∀ (post pre : List S44), r = pre ++ post → Ev (fun k => dactyllaw04_SignRuns.l0 k l r (ends pre) (pre.length : Int)) true := by
  intro post
  have hrl := hc.le
  induction post with
  | nil =>
    intro pre hp
    rw [List.append_nil] at hp
    subst hp
    refine Ev.step (f := fun _ => some true) (fun k => ?_) (Ev.now _)
    simp only [dactyllaw04_SignRuns.l0]
    rw [if_neg (by omega), hc.ends]
    simp [dactyllaw04_awake.f]
  | cons x post ih =>
    intro pre hp
    obtain ⟨a, b, h1, h2, h3, h4, h5, h6, h7⟩ := hc.each pre x post hp
    have hlen : r.length = pre.length + post.length + 1 := by rw [hp]; simp; omega
    have hx : rd_T44 r (pre.length : Int) = x := by rw [hp]; exact rdR pre post x
    have next := ih (pre ++ [x]) (by rw [hp]; simp)
    rw [show ends (pre ++ [x]) = (b : Int) by simp [ends, h2], show (pre ++ [x]).length = pre.length + 1 by simp] at next
    have hin := inner l hl r pre.length (by omega) (by omega) b (by rw [hx, h2]) h5 true next (b - a) a rfl (by omega) (fun i g1 g2 => by rw [hx]; exact h6 i g1 g2)
    have hj : Ev (fun k => dactyllaw04_SignRuns.j1 k l r (a : Int) (pre.length : Int) false) true := Ev.step (fun k => by simp only [dactyllaw04_SignRuns.j1]; rw [if_neg (by simp)]) hin
    rw [h3]
    refine Ev.step (fun k => ?_) hj
    simp only [dactyllaw04_SignRuns.l0]
    rw [if_pos (by omega), if_pos (by omega), hx, h1, h2, if_pos rfl, if_neg (by omega), if_neg (by omega)]
    rcases List.eq_nil_or_concat pre with hq | ⟨pre', y, hq⟩
    · rw [if_neg (by rw [hq]; simp)]
    · rw [List.concat_eq_append] at hq
      have hpl : pre.length = pre'.length + 1 := by rw [hq]; simp
      have w : wrap64 ((pre.length : Int) - 1) = (pre'.length : Int) := by rw [wrap_small _ (by omega) (by omega)]; omega
      have hy : rd_T44 r (pre'.length : Int) = y := by rw [hp, hq, List.append_assoc]; exact rdR pre' _ y
      have hne : (y.f0 == x.f0) = false := by
        have := h7 y (by rw [hq]; simp)
        simpa using this
      rw [if_pos (by omega), w, if_pos (by omega), if_pos (by omega), hy, hne]
theorem SignRuns : dactyllaw04_SignRuns.Pure := by
  intro l h
  by_cases hl : (l.length : Int) > 100
  · exact ⟨0, by unfold dactyllaw04_SignRuns.f; rw [if_pos hl]; rfl⟩
  · obtain ⟨r, hc, hr⟩ := runs_loop l (by omega) l.length 0 [] rfl Cov.nil
    have ho := outer l (by omega) r hc r [] rfl
    refine Ev.rounds (Ev.congr (f := fun k => (sign_Runs.f k l).bind fun t => dactyllaw04_SignRuns.l0 k l t 0 0) (fun k => ?_) (Ev.bind (a := r) hr ho))
    unfold dactyllaw04_SignRuns.f
    rw [if_neg hl]

end Go.Proofs.Ytlmmeihgjpgooaa.Pure
