/- The row of the law HistBounds: over the model, by the abstract machine. -/
import Derived.Test.YtajhjfgoefhdnaaRows
import Derived.Test.YtajhjfgoefhdnaaBAwakeHistBounds
import Derived.Test.YtajhjfgoefhdnaaBinHistBounds
import Derived.WalkKit
import Derived.ProofKit
import Derived.OpenShut
import Derived.ShutString
import Derived.ChangeOld
import Derived.Below
import Derived.SizedLaws
namespace Go.Proofs.Ytajhjfgoefhdnaa.histBounds
open Go.ChangeShapes Go.WideShapes Go.ChangeAt Go.RowKit Go.Proofs.Ytajhjfgoefhdnaa.AM Go.Proofs.Ytajhjfgoefhdnaa.AM.B
open Go.ChangeMaps (open_string shut_string)
set_option linter.unusedVariables false
theorem own : ownKnob Try.prog.godebug = none := by kernel_rfl
theorem laidOut : laidOutB Try.prog = true := by kernel_rfl
set_option maxRecDepth 100000 in
theorem lifted (os : Os) (started : os.Started) (H : Type) (enc : TypeId × Value → H) :
    ReturnsInHanded {} Try.checked os 3 .any (Rows.histBoundsSpec.pre6 enc Try.prog Try.f3 Rows.histBoundsRow.domain false) (Rows.histBoundsSpec.post enc Try.prog Try.f3 false true false false) := by
  refine returnsInHanded_of_change_sized (C := Try.checked) own started (by kernel_rfl) Try.func3
    (ChangeSpec.witness6 (enc := enc) (C := Try.checked) false ⟨#[], #[.slice none 0 0, .int .u8 0, .int .u8 0], []⟩ 8 (by kernel_rfl) (by kernel_rfl) (by kernel_rfl) (by kernel_rfl)) ?_
  intro W base args ds gs before hval0 hW hcnd hsz0 _
  have hsz : (DataW.weightsEach Try.prog (Try.f3.params.toList ++ Rows.histBoundsSpec.plain.varTypes Try.prog) (ds ++ gs)).all (· ≤ reachBytes) = true := hsz0
  have hval : ∀ (j : Nat) t v, Try.f3.params[j]? = some t → args[j]? = some v → Value.okWide Try.prog W .any base t v := hval0
  have hW' := hW
  obtain ⟨p, q, hA0, hV, rfl, hfz, hnd⟩ := hW
  have hA : DataW.TrodAll enc Try.prog W 0 (fun _ => true) true Try.f3.params.toList args.toList ds p := hA0
  rw [Try.params3] at hA hval hsz
  obtain ⟨v0, vs0, d0, ds0, p0, q0, hargs, rfl, rfl, h0, r0⟩ := trodAll_cons hA
  obtain ⟨v1, vs1, d1, ds1, p1, q1, rfl, rfl, rfl, h1, r1⟩ := trodAll_cons r0
  obtain ⟨v2, vs2, d2, ds2, p2, q2, rfl, rfl, rfl, h2, r2⟩ := trodAll_cons r1
  obtain ⟨rfl, rfl, rfl⟩ := trodAll_nil r2
  obtain rfl : args = #[v0, v1, v2] := by cases args; simp_all
  obtain ⟨rfl, rfl⟩ := trodVars_none hV
  have in_ := inW_start W
  obtain ⟨a0, len0, cap0, rfl⟩ := okWide_slice Try.underlying22 (hval 0 22 v0 rfl rfl)
  have k0 := h0
  have lt0 : ∀ x ∈ p0, x.block < W.heap.size := by obtain ⟨m, hm⟩ := k0; exact DataW.trod_lt m _ _ _ hm
  obtain ⟨fuel0, hf0⟩ := h0
  obtain ⟨l0, μ0, s0, N0, cs0, sub0, in0, co0, len0_, lay0, g0⟩ := (rdA_slice (B := 24) und_22 (by kernel_rfl) (by kernel_rfl) (by decide) (laySl_mono (layFlat_mono _)) (rdA_slice (B := 16) und_28 (by kernel_rfl) (by kernel_rfl) (by decide) (layFlat_mono _) rdA_46)) hf0 in_
  clear in_
  have in_ := in0
  replace g0 := g0 (weights_of_eachA hsz (j := 0) (t := 22) rfl rfl)
  obtain ⟨l1, rfl, rfl, rfl, g1⟩ := open_int Try.underlying5 (hval 1 5 v1 rfl rfl) h1
  obtain ⟨l2, rfl, rfl, rfl, g2⟩ := open_int Try.underlying5 (hval 2 5 v2 rfl rfl) h2
  have lay0' := lay0
  have co0' := co0
  obtain ⟨c0, c1, c2, e0, e1, e2, hcall⟩ := HistBounds_in lay0' (rfl : layFlat (fun n => [.int .u8 n]) _ l1 _) (rfl : layFlat (fun n => [.int .u8 n]) _ l2 _) g0 g1 g2
  rw [e0] at co0'
  obtain ⟨u0, w0, x0⟩ := concs_single co0'
  simp only [Value.cells, List.cons.injEq, and_true] at w0
  subst w0
  obtain rfl := (List.cons.inj e1).1
  obtain rfl := (List.cons.inj e2).1
  try clear hA0 hval0 hsz0 hsz
  have hrun := true_of_call Go.Proofs.Ytajhjfgoefhdnaa.P.am_mixed (Xs_ok.at_ _) Go.Proofs.Ytajhjfgoefhdnaa.P.am_names (fun _ => rfl) in_ (vals := [_, _, _]) (concVs_cons.2 ⟨_, _, (show V.conc μ0 (.one (.c c0)) = some _ from x0), (concVs_cons.2 ⟨_, _, rfl, (concVs_cons.2 ⟨_, _, rfl, rfl, rfl⟩), rfl⟩), rfl⟩) hcall
  refine hrun.mono fun e W' ⟨he, bel⟩ => ?_
  subst he
  exact ⟨_, rfl, _, _, _, [], _, [], hW', trodAll_mk1 (shut_bool Try.underlying4 _), (trodAll_cons_mk (Below.trod laidOut (by kernel_rfl) (of_decide_eq_true (by kernel_rfl)) k0 bel lt0) (trodAll_cons_mk (shut_int Try.underlying5 g1) (trodAll_cons_mk (shut_int Try.underlying5 g2) trodAll_mk0))), rfl, bel.frame _, fun h => by cases h⟩
theorem over : Rows.histBoundsRow.holds Try.pinned (OpenSpec.ofChange Rows.histBoundsSpec) :=
  OpenClaim.holds_of_wide 3 Try.f3 rfl rfl rfl rfl rfl rfl rfl ⟨rfl, rfl, rfl, rfl, rfl⟩ rfl rfl rfl rfl rfl (by kernel_rfl) Try.func3 (by kernel_rfl)
    (of_decide_eq_true (by kernel_rfl)) (by unfold Func.isWrapper; first | (rw [if_pos (by decide +kernel)]; kernel_rfl) | (rw [if_neg (by decide +kernel)]; exact ⟨rfl, rfl⟩))
    (fun os started H enc _ => lifted os started H enc)
theorem proved : Rows.HistBoundsSaid := over
#print axioms proved
end Go.Proofs.Ytajhjfgoefhdnaa.histBounds
namespace Go.Proofs.Ytajhjfgoefhdnaa
/-- The row, under a short name, for the claim. -/
theorem histBounds_holds : Rows.HistBoundsSaid := histBounds.proved
end Go.Proofs.Ytajhjfgoefhdnaa
