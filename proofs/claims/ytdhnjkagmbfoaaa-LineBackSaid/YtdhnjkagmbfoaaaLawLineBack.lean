/- The row of the law LineBack: over the model, by the abstract machine. -/
import Derived.Test.YtdhnjkagmbfoaaaRows
import Derived.Test.YtdhnjkagmbfoaaaBAwakeLineBack
import Derived.Test.YtdhnjkagmbfoaaaBinLineBack
import Derived.WalkKit
import Derived.ProofKit
import Derived.OpenShut
import Derived.ShutString
import Derived.ChangeOld
import Derived.Below
import Derived.SizedLaws
namespace Go.Proofs.Ytdhnjkagmbfoaaa.lineBack
open Go.ChangeShapes Go.WideShapes Go.ChangeAt Go.RowKit Go.Proofs.Ytdhnjkagmbfoaaa.AM Go.Proofs.Ytdhnjkagmbfoaaa.AM.B
open Go.ChangeMaps (open_string shut_string)
set_option linter.unusedVariables false
theorem own : ownKnob Try.prog.godebug = none := by kernel_rfl
theorem laidOut : laidOutB Try.prog = true := by kernel_rfl
set_option maxRecDepth 100000 in
theorem lifted (os : Os) (started : os.Started) (H : Type) (enc : TypeId × Value → H) :
    ReturnsInHanded {} Try.checked os 4 .any (Rows.lineBackSpec.pre6 enc Try.prog Try.f4 Rows.lineBackRow.domain false) (Rows.lineBackSpec.post enc Try.prog Try.f4 false true false false) := by
  refine returnsInHanded_of_change_sized (C := Try.checked) own started (by kernel_rfl) Try.func4
    (ChangeSpec.witness6 (enc := enc) (C := Try.checked) false ⟨#[], #[.agg #[.slice none 0 0, .int .i64 0], .agg #[.int .i64 0, .int .i64 0, .int .i64 0]], []⟩ 8 (by kernel_rfl) (by kernel_rfl) (by kernel_rfl) (by kernel_rfl)) ?_
  intro W base args ds gs before hval0 hW hcnd hsz0 _
  have hsz : (DataW.weightsEach Try.prog (Try.f4.params.toList ++ Rows.lineBackSpec.plain.varTypes Try.prog) (ds ++ gs)).all (· ≤ reachBytes) = true := hsz0
  have hval : ∀ (j : Nat) t v, Try.f4.params[j]? = some t → args[j]? = some v → Value.okWide Try.prog W .any base t v := hval0
  have hW' := hW
  obtain ⟨p, q, hA0, hV, rfl, hfz, hnd⟩ := hW
  have hA : DataW.TrodAll enc Try.prog W 0 (fun _ => true) true Try.f4.params.toList args.toList ds p := hA0
  rw [Try.params4] at hA hval hsz
  obtain ⟨v0, vs0, d0, ds0, p0, q0, hargs, rfl, rfl, h0, r0⟩ := trodAll_cons hA
  obtain ⟨v1, vs1, d1, ds1, p1, q1, rfl, rfl, rfl, h1, r1⟩ := trodAll_cons r0
  obtain ⟨rfl, rfl, rfl⟩ := trodAll_nil r1
  obtain rfl : args = #[v0, v1] := by cases args; simp_all
  obtain ⟨rfl, rfl⟩ := trodVars_none hV
  have in_ := inW_start W
  obtain ⟨a0, rfl, sz0⟩ := okWide_struct Try.underlying24 (hval 0 24 v0 rfl rfl)
  have k0 := h0
  have lt0 : ∀ x ∈ p0, x.block < W.heap.size := by obtain ⟨m, hm⟩ := k0; exact DataW.trod_lt m _ _ _ hm
  obtain ⟨fuel0, hf0⟩ := h0
  obtain ⟨l0, μ0, s0, N0, cs0, sub0, in0, co0, len0_, lay0, g0⟩ := rdA_24 hf0 in_
  clear in_
  have in_ := in0
  replace g0 := g0 (weights_of_eachA hsz (j := 0) (t := 24) rfl rfl)
  obtain ⟨a1, rfl, sz1⟩ := okWide_struct Try.underlying31 (hval 1 31 v1 rfl rfl)
  have k1 := h1
  have lt1 : ∀ x ∈ p1, x.block < W.heap.size := by obtain ⟨m, hm⟩ := k1; exact DataW.trod_lt m _ _ _ hm
  obtain ⟨fuel1, hf1⟩ := h1
  obtain ⟨l1, μ1, s1, N1, cs1, sub1, in1, co1, len1_, lay1, g1⟩ := rdA_31 hf1 in_
  clear in_
  have in_ := in1
  replace g1 := g1 (weights_of_eachA hsz (j := 1) (t := 31) rfl rfl)
  have lay0' := mono_24 _ (N1 ++ (N0 ++ [])) _ _ (fun y hy => (List.mem_append_right _ hy)) lay0
  have co0' := concs_mono sub1 co0
  have lay1' := lay1
  have co1' := co1
  obtain hcall := LineBack_in lay0' lay1' g0 g1
  have x0 : V.conc μ1 (.one (.agg cs0)) = some (.agg a0) := by show (concs _ _).map _ = _; rw [co0']; rfl
  have x1 : V.conc μ1 (.one (.agg cs1)) = some (.agg a1) := by show (concs _ _).map _ = _; rw [co1']; rfl
  try clear hA0 hval0 hsz0 hsz
  have hrun := true_of_call Go.Proofs.Ytdhnjkagmbfoaaa.P.am_mixed (Xs_ok.at_ _) Go.Proofs.Ytdhnjkagmbfoaaa.P.am_names (fun _ => rfl) in_ (vals := [_, _]) (concVs_cons.2 ⟨_, _, (show V.conc μ1 (.one (.agg cs0)) = some _ from x0), (concVs_cons.2 ⟨_, _, (show V.conc μ1 (.one (.agg cs1)) = some _ from x1), rfl, rfl⟩), rfl⟩) hcall
  refine hrun.mono fun e W' ⟨he, bel⟩ => ?_
  subst he
  exact ⟨_, rfl, _, _, _, [], _, [], hW', trodAll_mk1 (shut_bool Try.underlying4 _), (trodAll_cons_mk (Below.trod laidOut (by kernel_rfl) (of_decide_eq_true (by kernel_rfl)) k0 bel lt0) (trodAll_cons_mk (Below.trod laidOut (by kernel_rfl) (of_decide_eq_true (by kernel_rfl)) k1 bel lt1) trodAll_mk0)), rfl, bel.frame _, fun h => by cases h⟩
theorem over : Rows.lineBackRow.holds Try.pinned (OpenSpec.ofChange Rows.lineBackSpec) :=
  OpenClaim.holds_of_wide 4 Try.f4 rfl rfl rfl rfl rfl rfl rfl ⟨rfl, rfl, rfl, rfl, rfl⟩ rfl rfl rfl rfl rfl (by kernel_rfl) Try.func4 (by kernel_rfl)
    (of_decide_eq_true (by kernel_rfl)) (by unfold Func.isWrapper; first | (rw [if_pos (by decide +kernel)]; kernel_rfl) | (rw [if_neg (by decide +kernel)]; exact ⟨rfl, rfl⟩))
    (fun os started H enc _ => lifted os started H enc)
theorem proved : Rows.LineBackSaid := over
#print axioms proved
end Go.Proofs.Ytdhnjkagmbfoaaa.lineBack
namespace Go.Proofs.Ytdhnjkagmbfoaaa
/-- The row, under a short name, for the claim. -/
theorem lineBack_holds : Rows.LineBackSaid := lineBack.proved
end Go.Proofs.Ytdhnjkagmbfoaaa
