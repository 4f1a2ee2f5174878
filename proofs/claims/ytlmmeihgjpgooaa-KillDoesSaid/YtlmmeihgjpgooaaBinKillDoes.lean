/- The law KillDoes, over what comes in. -/
import Derived.Test.YtlmmeihgjpgooaaAX
import Derived.Test.YtlmmeihgjpgooaaBlawKillDoes
set_option linter.unusedVariables false
set_option linter.unusedSimpArgs false
set_option maxRecDepth 10000
set_option maxHeartbeats 4000000
namespace Go.Proofs.Ytlmmeihgjpgooaa.AM.B
open Go Go.RowKit
abbrev layCall : Lay (Int × List Sign) := layPair (layFlat fun n => [.int .i64 n]) (laySl 46 2 (layFlat encS))
theorem mono_58 : (layCall).mono := by
  intro H H' x cs hs h
  obtain ⟨c1, c2, rfl, h1, h2⟩ := h
  exact ⟨c1, c2, rfl, h1, laySl_mono (layFlat_mono _) _ _ _ _ hs h2⟩
theorem rdA_58 : RdA Try.prog 58 2 layCall (fun x => (Lit.int .i64 x.1).wf = true ∧ x.2.length * 16 ≤ 140737488351232 ∧ ∀ y ∈ x.2, (Lit.int .i64 y.f0).wf = true ∧ (Lit.int .i64 y.f1).wf = true) :=
  rdA_struct Try.underlying58 (by kernel_rfl) (rdAL_cons rfl (by kernel_rfl) (layFlat_mono _) (rdA_int und_3) (rdAL_one rfl (by kernel_rfl) (rdA_slice (B := 16) und_22 (by kernel_rfl) (by kernel_rfl) (by decide) (layFlat_mono _) rdA_46)))
theorem calls_of {H : Hyp} : ∀ {xs : List (Int × List Sign)} {css : List (List Cell)}, Lay2 layCall H xs css → ∃ ps : List CallP, ps.length = xs.length ∧ ps.flatMap encP = css.flatten ∧ ∀ (i : Nat) (d : CallP) (x : Int × List Sign), ps[i]? = some d → xs[i]? = some x → d.1 = x.1 ∧ Sl H 46 2 d.2 x.2.length (x.2.flatMap encS)
  | _, _, .nil => ⟨[], rfl, rfl, fun i d x h => by simp at h⟩
  | _, _, .cons (x := x) h t => by
    obtain ⟨ps, h1, h2, h3⟩ := calls_of t
    obtain ⟨c1, c2, rfl, e1, e2⟩ := h
    obtain ⟨c, rfl, hsl⟩ := laySl_flat e2
    simp only [layFlat] at e1
    subst e1
    refine ⟨(x.1, c) :: ps, by simp [h1], by simp [encP, h2], ?_⟩
    intro i d y hd hy
    match i with
    | 0 =>
      simp at hd hy
      subst hd; subst hy
      exact ⟨rfl, hsl⟩
    | i + 1 => exact h3 i d y (by simpa using hd) (by simpa using hy)
theorem KillDoes_in {H : Hyp} {l0 : Int} {l1 : List (Int × List Sign)} {cs0 cs1 : List Cell} (h0 : layFlat (fun n => [.int .i64 n]) H l0 cs0) (h1 : laySl 58 2 layCall H l1 cs1)
    (g0 : (Lit.int .i64 l0).wf = true) (g1 : l1.length * 32 ≤ 140737488351232 ∧ ∀ x ∈ l1, (Lit.int .i64 x.1).wf = true ∧ x.2.length * 16 ≤ 140737488351232 ∧ ∀ y ∈ x.2, (Lit.int .i64 y.f0).wf = true ∧ (Lit.int .i64 y.f1).wf = true) :
    ∃ c0 c1, cs0 = [c0] ∧ cs1 = [c1] ∧ CallW Try.prog Xs 10 [.one (.c c0), .one (.c c1)] H (fun v _ => v = vB true) := by
  obtain ⟨c1, css, rfl, hs, h2, hn⟩ := h1
  obtain ⟨ps, hp1, hp2, hp3⟩ := calls_of h2
  refine ⟨.int .i64 l0, c1, h0, rfl, KillDoes_law (ps := ps) (ls := l1.map (·.2)) ?_ (by rw [List.length_map]; exact hp1) ?_⟩
  · rw [hp1, hp2]; exact hs
  · intro i d x hd hx
    rw [List.getElem?_map] at hx
    obtain ⟨y, hy, rfl⟩ := Option.map_eq_some_iff.1 hx
    exact (hp3 i d y hd hy).2
end Go.Proofs.Ytlmmeihgjpgooaa.AM.B
