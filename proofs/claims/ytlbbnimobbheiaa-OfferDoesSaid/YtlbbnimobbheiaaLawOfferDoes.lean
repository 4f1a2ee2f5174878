/- The row of the law OfferDoes: over the model, by the abstract machine. -/
import Derived.Test.YtlbbnimobbheiaaRows
import Derived.Test.YtlbbnimobbheiaaBAwakeOfferDoes
import Derived.Test.YtlbbnimobbheiaaBinOfferDoes
import Derived.WalkKit
import Derived.ProofKit
import Derived.OpenShut
import Derived.ShutString
import Derived.ChangeOld
import Derived.Below
import Derived.SizedLaws
namespace Go.Proofs.Ytlbbnimobbheiaa.offerDoes
open Go.ChangeShapes Go.WideShapes Go.ChangeAt Go.RowKit Go.Proofs.Ytlbbnimobbheiaa.AM Go.Proofs.Ytlbbnimobbheiaa.AM.B
open Go.ChangeMaps (open_string shut_string)
set_option linter.unusedVariables false
theorem own : ownKnob Try.prog.godebug = none := by kernel_rfl
theorem laidOut : laidOutB Try.prog = true := by kernel_rfl
set_option maxRecDepth 100000 in
theorem lifted (os : Os) (started : os.Started) (H : Type) (enc : TypeId × Value → H) :
    ReturnsInHanded {} Try.checked os 3 .any (Rows.offerDoesSpec.pre6 enc Try.prog Try.f3 Rows.offerDoesRow.domain false) (Rows.offerDoesSpec.post enc Try.prog Try.f3 false true false false) := by
  refine returnsInHanded_of_change_sized (C := Try.checked) own started (by kernel_rfl) Try.func3
    (ChangeSpec.witness6 (enc := enc) (C := Try.checked) false ⟨#[], #[.agg #[.slice none 0 0, .int .i64 0], .slice none 0 0, .slice none 0 0], []⟩ 8 (by kernel_rfl) (by kernel_rfl) (by kernel_rfl) (by kernel_rfl)) ?_
  intro W base args ds gs before hval0 hW hcnd hsz0 _
  have hsz : (DataW.weightsEach Try.prog (Try.f3.params.toList ++ Rows.offerDoesSpec.plain.varTypes Try.prog) (ds ++ gs)).all (· ≤ reachBytes) = true := hsz0
  have hval : ∀ (j : Nat) t v, Try.f3.params[j]? = some t → args[j]? = some v → Value.okWide Try.prog W .any base t v := hval0
  have hW' := hW
  obtain ⟨p, q, hA0, hV, rfl, hfz, hnd⟩ := hW
  have hA : DataW.TrodAll enc Try.prog W 0 (fun _ => true) true Try.f3.params.toList args.toList ds p := hA0
  rw [Try.params3] at hA hval hsz
  obtain ⟨v0, vs0, d0, ds0, p0, q0, hargs, rfl, rfl, h0, r0⟩ := trodAll_cons hA
  obtain ⟨v1, vs1, d1, ds1, p1, q1, rfl, rfl, rfl, h1, r1⟩ := trodAll_cons r0
  obtain ⟨v2, vs2, d2, ds2, p2, q2, rfl, rfl, rfl, h2, r2⟩ := trodAll_cons r1
  obtain ⟨rfl, rfl, rfl⟩ := trodAll_nil r2
  obtain rfl : args = #[v0, v1, v2] := by cases args; simp_all
  obtain ⟨rfl, rfl⟩ := trodVars_none hV
  have in_ := inW_start W
  obtain ⟨a0, rfl, sz0⟩ := okWide_struct Try.underlying24 (hval 0 24 v0 rfl rfl)
  have k0 := h0
  have lt0 : ∀ x ∈ p0, x.block < W.heap.size := by obtain ⟨m, hm⟩ := k0; exact DataW.trod_lt m _ _ _ hm
  obtain ⟨fuel0, hf0⟩ := h0
  obtain ⟨l0, μ0, s0, N0, cs0, sub0, in0, co0, len0_, lay0, g0⟩ := rdA_24 hf0 in_
  clear in_
  have in_ := in0
  replace g0 := g0 (weights_of_eachA hsz (j := 0) (t := 24) rfl rfl)
  obtain ⟨a1, len1, cap1, rfl⟩ := okWide_slice Try.underlying25 (hval 1 25 v1 rfl rfl)
  have k1 := h1
  have lt1 : ∀ x ∈ p1, x.block < W.heap.size := by obtain ⟨m, hm⟩ := k1; exact DataW.trod_lt m _ _ _ hm
  obtain ⟨fuel1, hf1⟩ := h1
  obtain ⟨l1, μ1, s1, N1, cs1, sub1, in1, co1, len1_, lay1, g1⟩ := (rdA_slice (B := 24) und_25 (by kernel_rfl) (by kernel_rfl) (by decide) (laySl_mono (layFlat_mono _)) (rdA_slice (B := 16) und_22 (by kernel_rfl) (by kernel_rfl) (by decide) (layFlat_mono _) rdA_47)) hf1 in_
  clear in_
  have in_ := in1
  replace g1 := g1 (weights_of_eachA hsz (j := 1) (t := 25) rfl rfl)
  obtain ⟨a2, len2, cap2, rfl⟩ := okWide_slice Try.underlying26 (hval 2 26 v2 rfl rfl)
  have k2 := h2
  have lt2 : ∀ x ∈ p2, x.block < W.heap.size := by obtain ⟨m, hm⟩ := k2; exact DataW.trod_lt m _ _ _ hm
  obtain ⟨fuel2, hf2⟩ := h2
  obtain ⟨l2, μ2, s2, N2, cs2, sub2, in2, co2, len2_, lay2, g2⟩ := (rdA_slice (B := 1) und_26 (by kernel_rfl) (by kernel_rfl) (by decide) (layFlat_mono _) (rdA_bool und_4)) hf2 in_
  clear in_
  have in_ := in2
  replace g2 := g2 (weights_of_eachA hsz (j := 2) (t := 26) rfl rfl)
  have lay0' := mono_24 _ (N2 ++ (N1 ++ (N0 ++ []))) _ _ (fun y hy => (List.mem_append_right _ (List.mem_append_right _ hy))) lay0
  have co0' := concs_mono (sub1.trans sub2) co0
  have lay1' := (laySl_mono (laySl_mono (layFlat_mono _))) _ (N2 ++ (N1 ++ (N0 ++ []))) _ _ (fun y hy => (List.mem_append_right _ hy)) lay1
  have co1' := concs_mono sub2 co1
  have lay2' := lay2
  have co2' := co2
  obtain ⟨c1, c2, e1, e2, hcall⟩ := OfferDoes_in lay0' lay1' lay2' g0 g1 g2
  have x0 : V.conc μ2 (.one (.agg cs0)) = some (.agg a0) := by show (concs _ _).map _ = _; rw [co0']; rfl
  rw [e1] at co1'
  obtain ⟨u1, w1, x1⟩ := concs_single co1'
  simp only [Value.cells, List.cons.injEq, and_true] at w1
  subst w1
  rw [e2] at co2'
  obtain ⟨u2, w2, x2⟩ := concs_single co2'
  simp only [Value.cells, List.cons.injEq, and_true] at w2
  subst w2
  try clear hA0 hval0 hsz0 hsz
  have hrun := true_of_call Go.Proofs.Ytlbbnimobbheiaa.P.am_mixed (Xs_ok.at_ _) Go.Proofs.Ytlbbnimobbheiaa.P.am_names (fun _ => rfl) in_ (vals := [_, _, _]) (concVs_cons.2 ⟨_, _, (show V.conc μ2 (.one (.agg cs0)) = some _ from x0), (concVs_cons.2 ⟨_, _, (show V.conc μ2 (.one (.c c1)) = some _ from x1), (concVs_cons.2 ⟨_, _, (show V.conc μ2 (.one (.c c2)) = some _ from x2), rfl, rfl⟩), rfl⟩), rfl⟩) hcall
  refine hrun.mono fun e W' ⟨he, bel⟩ => ?_
  subst he
  exact ⟨_, rfl, _, _, _, [], _, [], hW', trodAll_mk1 (shut_bool Try.underlying4 _), (trodAll_cons_mk (Below.trod laidOut (by kernel_rfl) (of_decide_eq_true (by kernel_rfl)) k0 bel lt0) (trodAll_cons_mk (Below.trod laidOut (by kernel_rfl) (of_decide_eq_true (by kernel_rfl)) k1 bel lt1) (trodAll_cons_mk (Below.trod laidOut (by kernel_rfl) (of_decide_eq_true (by kernel_rfl)) k2 bel lt2) trodAll_mk0))), rfl, bel.frame _, fun h => by cases h⟩
theorem over : Rows.offerDoesRow.holds Try.pinned (OpenSpec.ofChange Rows.offerDoesSpec) :=
  OpenClaim.holds_of_wide 3 Try.f3 rfl rfl rfl rfl rfl rfl rfl ⟨rfl, rfl, rfl, rfl, rfl⟩ rfl rfl rfl rfl rfl (by kernel_rfl) Try.func3 (by kernel_rfl)
    (of_decide_eq_true (by kernel_rfl)) (by unfold Func.isWrapper; first | (rw [if_pos (by decide +kernel)]; kernel_rfl) | (rw [if_neg (by decide +kernel)]; exact ⟨rfl, rfl⟩))
    (fun os started H enc _ => lifted os started H enc)
theorem proved : Rows.OfferDoesSaid := over
#print axioms proved
end Go.Proofs.Ytlbbnimobbheiaa.offerDoes
namespace Go.Proofs.Ytlbbnimobbheiaa
/-- The row, under a short name, for the claim. -/
theorem offerDoes_holds : Rows.OfferDoesSaid := offerDoes.proved
end Go.Proofs.Ytlbbnimobbheiaa
