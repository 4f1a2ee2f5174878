/- The row of the law StatNearest: over the model, by the abstract machine. -/
import Derived.Test.YtpkdncjopbbbhaaRows
import Derived.Test.YtpkdncjopbbbhaaBAwakeStatNearest
import Derived.Test.YtpkdncjopbbbhaaBinStatNearest
import Derived.WalkKit
import Derived.ProofKit
import Derived.OpenShut
import Derived.ShutString
import Derived.ChangeOld
import Derived.Below
import Derived.SizedLaws
namespace Go.Proofs.Ytpkdncjopbbbhaa.statNearest
open Go.ChangeShapes Go.WideShapes Go.ChangeAt Go.RowKit Go.Proofs.Ytpkdncjopbbbhaa.AM Go.Proofs.Ytpkdncjopbbbhaa.AM.B
open Go.ChangeMaps (open_string shut_string)
set_option linter.unusedVariables false
theorem own : ownKnob Try.prog.godebug = none := by kernel_rfl
theorem laidOut : laidOutB Try.prog = true := by kernel_rfl
set_option maxRecDepth 100000 in
theorem lifted (os : Os) (started : os.Started) (H : Type) (enc : TypeId × Value → H) :
    ReturnsInHanded {} Try.checked os 4 .any (Rows.statNearestSpec.pre6 enc Try.prog Try.f4 Rows.statNearestRow.domain false) (Rows.statNearestSpec.post enc Try.prog Try.f4 false true false false) := by
  refine returnsInHanded_of_change_sized (C := Try.checked) own started (by kernel_rfl) Try.func4
    (ChangeSpec.witness6 (enc := enc) (C := Try.checked) false ⟨#[], #[.slice none 0 0, .slice none 0 0], []⟩ 8 (by kernel_rfl) (by kernel_rfl) (by kernel_rfl) (by kernel_rfl)) ?_
  intro W base args ds gs before hval0 hW hcnd hsz0 _
  have hsz : (DataW.weightsEach Try.prog (Try.f4.params.toList ++ Rows.statNearestSpec.plain.varTypes Try.prog) (ds ++ gs)).all (· ≤ reachBytes) = true := hsz0
  have hval : ∀ (j : Nat) t v, Try.f4.params[j]? = some t → args[j]? = some v → Value.okWide Try.prog W .any base t v := hval0
  have hW' := hW
  obtain ⟨p, q, hA0, hV, rfl, hfz, hnd⟩ := hW
  have hA : DataW.TrodAll enc Try.prog W 0 (fun _ => true) true Try.f4.params.toList args.toList ds p := hA0
  rw [Try.params4] at hA hval hsz
  obtain ⟨v0, vs0, d0, ds0, p0, q0, hargs, rfl, rfl, h0, r0⟩ := trodAll_cons hA
  obtain ⟨v1, vs1, d1, ds1, p1, q1, rfl, rfl, rfl, h1, r1⟩ := trodAll_cons r0
  obtain ⟨rfl, rfl, rfl⟩ := trodAll_nil r1
  obtain rfl : args = #[v0, v1] := by cases args; simp_all
  obtain ⟨rfl, rfl⟩ := trodVars_none hV
  have in_ := inW_start W
  obtain ⟨a0, len0, cap0, rfl⟩ := okWide_slice Try.underlying22 (hval 0 22 v0 rfl rfl)
  have k0 := h0
  have lt0 : ∀ x ∈ p0, x.block < W.heap.size := by obtain ⟨m, hm⟩ := k0; exact DataW.trod_lt m _ _ _ hm
  obtain ⟨fuel0, hf0⟩ := h0
  obtain ⟨l0, μ0, s0, N0, cs0, sub0, in0, co0, len0_, lay0, g0⟩ := (rdA_slice (B := 16) und_22 (by kernel_rfl) (by kernel_rfl) (by decide) (layFlat_mono _) rdA_43) hf0 in_
  clear in_
  have in_ := in0
  replace g0 := g0 (weights_of_eachA hsz (j := 0) (t := 22) rfl rfl)
  obtain ⟨a1, len1, cap1, rfl⟩ := okWide_slice Try.underlying34 (hval 1 34 v1 rfl rfl)
  have k1 := h1
  have lt1 : ∀ x ∈ p1, x.block < W.heap.size := by obtain ⟨m, hm⟩ := k1; exact DataW.trod_lt m _ _ _ hm
  obtain ⟨fuel1, hf1⟩ := h1
  obtain ⟨l1, μ1, s1, N1, cs1, sub1, in1, co1, len1_, lay1, g1⟩ := (rdA_slice (B := 24) und_34 (by kernel_rfl) (by kernel_rfl) (by decide) (laySl_mono (layFlat_mono _)) (rdA_slice (B := 16) und_22 (by kernel_rfl) (by kernel_rfl) (by decide) (layFlat_mono _) rdA_43)) hf1 in_
  clear in_
  have in_ := in1
  replace g1 := g1 (weights_of_eachA hsz (j := 1) (t := 34) rfl rfl)
  have lay0' := (laySl_mono (layFlat_mono _)) _ (N1 ++ (N0 ++ [])) _ _ (fun y hy => (List.mem_append_right _ hy)) lay0
  have co0' := concs_mono sub1 co0
  have lay1' := lay1
  have co1' := co1
  obtain ⟨c0, c1, e0, e1, hcall⟩ := StatNearest_in lay0' lay1' g0 g1
  rw [e0] at co0'
  obtain ⟨u0, w0, x0⟩ := concs_single co0'
  simp only [Value.cells, List.cons.injEq, and_true] at w0
  subst w0
  rw [e1] at co1'
  obtain ⟨u1, w1, x1⟩ := concs_single co1'
  simp only [Value.cells, List.cons.injEq, and_true] at w1
  subst w1
  try clear hA0 hval0 hsz0 hsz
  have hrun := true_of_call Go.Proofs.Ytpkdncjopbbbhaa.P.am_mixed (Xs_ok.at_ _) Go.Proofs.Ytpkdncjopbbbhaa.P.am_names (fun _ => rfl) in_ (vals := [_, _]) (concVs_cons.2 ⟨_, _, (show V.conc μ1 (.one (.c c0)) = some _ from x0), (concVs_cons.2 ⟨_, _, (show V.conc μ1 (.one (.c c1)) = some _ from x1), rfl, rfl⟩), rfl⟩) hcall
  refine hrun.mono fun e W' ⟨he, bel⟩ => ?_
  subst he
  exact ⟨_, rfl, _, _, _, [], _, [], hW', trodAll_mk1 (shut_bool Try.underlying4 _), (trodAll_cons_mk (Below.trod laidOut (by kernel_rfl) (of_decide_eq_true (by kernel_rfl)) k0 bel lt0) (trodAll_cons_mk (Below.trod laidOut (by kernel_rfl) (of_decide_eq_true (by kernel_rfl)) k1 bel lt1) trodAll_mk0)), rfl, bel.frame _, fun h => by cases h⟩
theorem over : Rows.statNearestRow.holds Try.pinned (OpenSpec.ofChange Rows.statNearestSpec) :=
  OpenClaim.holds_of_wide 4 Try.f4 rfl rfl rfl rfl rfl rfl rfl ⟨rfl, rfl, rfl, rfl, rfl⟩ rfl rfl rfl rfl rfl (by kernel_rfl) Try.func4 (by kernel_rfl)
    (of_decide_eq_true (by kernel_rfl)) (by unfold Func.isWrapper; first | (rw [if_pos (by decide +kernel)]; kernel_rfl) | (rw [if_neg (by decide +kernel)]; exact ⟨rfl, rfl⟩))
    (fun os started H enc _ => lifted os started H enc)
theorem proved : Rows.StatNearestSaid := over
#print axioms proved
end Go.Proofs.Ytpkdncjopbbbhaa.statNearest
namespace Go.Proofs.Ytpkdncjopbbbhaa
/-- The row, under a short name, for the claim. -/
theorem statNearest_holds : Rows.StatNearestSaid := statNearest.proved
end Go.Proofs.Ytpkdncjopbbbhaa
