/- Machine side of the laws of this seat: each Go function as a plain Lean function, and its contract over the model; written by a program of this session (gprint.py) round the kit's print. Not trusted: Lean checks it. -/
import Derived.Test.YtlmmeihgjpgooaaP0
import Derived.Test.YtlmmeihgjpgooaaPEq44
import Derived.Test.YtlmmeihgjpgooaaPEq46
import Derived.Test.YtlmmeihgjpgooaaPsign
namespace Go.Proofs.Ytlmmeihgjpgooaa.P
open Go.RowKit Go.Proofs.YtlmmeihgjpgooaaW.PrintWords Go.Proofs.YtlmmeihgjpgooaaW.PrintLast Go.Proofs.YtlmmeihgjpgooaaW.PrintMore
attribute [local go_sem] max2_int min2_int max_two min_two max_three min_three max_four min_four   -- for this text's walks alone
set_option linter.unusedVariables false
set_option linter.unusedSimpArgs false

/-! ### dactyllaw04_awake: function 31 -/
def dactyllaw04_awake.f : Option Bool := some true
theorem aw04_of : sign_Of.f 10 2 (⟨#[195, 169, 98]⟩ : ByteArray) = some [⟨233, 2⟩, ⟨98, 2⟩] := by kernel_rfl
theorem aw04_of0 : sign_Of.f 10 0 (⟨#[195, 169, 98]⟩ : ByteArray) = some [⟨233, 0⟩, ⟨98, 0⟩] := by kernel_rfl
theorem aw04_runs : sign_Runs.f 10 [⟨233, 2⟩, ⟨98, 2⟩, ⟨99, 0⟩] = some [⟨2, 0, 2⟩, ⟨0, 2, 3⟩] := by kernel_rfl
theorem aw04_text : sign_Text.f 10 [⟨233, 2⟩, ⟨98, 2⟩] = some (⟨#[195, 169, 98]⟩ : ByteArray) := by kernel_rfl
theorem aw04_find : sign_Find.f [⟨233, 2⟩, ⟨98, 2⟩] [⟨98, 2⟩] 0 = some 1 := by kernel_rfl
theorem aw04_back : sign_Back.f [⟨233, 2⟩, ⟨98, 2⟩] [⟨98, 2⟩] 9 = some 1 := by kernel_rfl
theorem aw04_strange : sign_Strange.f 233 2 = some true := by kernel_rfl
theorem aw04_check : sign_Check.f [⟨233, 2⟩, ⟨98, 2⟩] = some 0 := by kernel_rfl
theorem aw04_with : sign_With.f 10 [⟨233, 2⟩, ⟨98, 2⟩] 0 = some [⟨233, 0⟩, ⟨98, 0⟩] := by kernel_rfl
theorem aw04_same : sign_Same.f 10 [⟨233, 0⟩, ⟨98, 0⟩] [⟨233, 0⟩, ⟨98, 0⟩] = some true := by kernel_rfl
theorem aw04_values : sign_Values.f 10 [⟨233, 2⟩, ⟨98, 2⟩] = some [233, 98] := by kernel_rfl
theorem aw04_right : sign_Right.f 233 2 = some true := by kernel_rfl
attribute [local go_sem high] eqA46 eqA44
set_option maxHeartbeats 8000000 in
set_option maxRecDepth 100000 in
theorem dactyllaw04_awake.calls (r : Bool) (w : World) (h : dactyllaw04_awake.f = some r) :
    Calls Try.prog 31 #[] w fun e w' => e = .returned (.bool r) ∧ Below w.heap.size w w' := by
  obtain rfl : true = r := Option.some.inj h
  have hu46 := Try.underlying46
  have hu44 := Try.underlying44
  obtain ⟨i0, hi0, hz0, hz1, hz2⟩ := info_parts info46
  go_enter Try.func31, Try.ntmps31
  go_wp2_with fail
  refine (sign_Of.calls 10 2 _ _ _ aw04_of).mono ?_
  rintro e w1 ⟨v1, rfl, HO, hb⟩
  obtain ⟨A, c, rfl, hc, HC⟩ := Kd.R_reads HO
  have HO1 := Aside0.mk HO
  have HB1 := Aside0.mk hb
  clear HO HC hb
  go_wp2_with (at_builtin; refine R_append_keep k46 (w0 := w) w.heap.size rfl (.tmp 4) (.tmp 6) 22 46 (.agg #[.int .i64 0, .int .i64 0]) 16 rfl Try.underlying22 info46 rfl (by decide) (by omega) A c [⟨233, 2⟩, ⟨98, 2⟩] ⟨99, 0⟩ [.int .i64 99, .int .i64 0] (fun _ => True) (fun _ => False) rfl (by first | (go_simp; done) | (go_simp; rfl)) ?aP (fun _ hk => hk.elim) ?aF ?aO ?aB ?aS ?aL ?_)
  case aP => exact k46_mkM _ _ _ _
  case aF => exact fun _ _ => trivial
  case aO => exact HO1.out
  case aB => exact HB1.out
  case aS => exact HB1.out.size
  case aL => simp
  intro v2 w2 HO2 HL2' HB2'
  obtain ⟨A2, c2, rfl, hc2, HC2⟩ := Kd.R_reads HO2
  have HL2 := Aside0.mk HL2'
  have HB2 := Aside0.mk HB2'
  clear HO1 HB1 HL2' HB2' HO2
  go_wp2_with fail
  refine (sign_Runs.calls 10 A2 c2 [⟨233, 2⟩, ⟨98, 2⟩, ⟨99, 0⟩] _ w2 HC2 hc2 aw04_runs).mono ?_
  rintro e w3 ⟨v3, rfl, HO3, hb⟩
  have HB3 := Aside0.mk (below_then HB2.out HB2.out.size hb)
  have HL3 := Aside0.mk (Kd.C_below HL2.out hb)
  obtain ⟨A3, c3, rfl, hc3, HC3⟩ := Kd.R_reads HO3
  obtain ⟨ad, rfl, q0, q1⟩ := at_T46 HL3.out 0 (by omega) (by decide)
  obtain ⟨ad3, rfl, r0, r1, r2⟩ := at_T44 HC3 0 (by omega) (by decide)
  rw [show ((0 : Int)).toNat = 0 from rfl, show 0 * 2 = 0 from rfl, Addr.add_zero'] at q0 q1
  rw [show ((0 : Int)).toNat = 0 from rfl, show 0 * 3 = 0 from rfl, Addr.add_zero'] at r0 r1 r2
  replace q0 : w3.cell? ad = some (.int .i64 233) := q0
  replace q1 : w3.cell? ⟨ad.block, ad.off + 1, none⟩ = some (.int .i64 2) := q1
  replace r0 : w3.cell? ad3 = some (.int .i64 2) := r0
  replace r1 : w3.cell? ⟨ad3.block, ad3.off + 1, none⟩ = some (.int .i64 0) := r1
  replace r2 : w3.cell? ⟨ad3.block, ad3.off + 2, none⟩ = some (.int .i64 2) := r2
  clear hb HB2 HL2 HC2 HO3 HC3
  have hcut := cut_from 22 46 .i64 Try.underlying22 hi0 2 hz1 (some ad) 2 c 1 (by omega) (by omega)
  have HD3 : Aside0 (∀ W, Below w3.heap.size w3 W → Kd.C k46 W (if c = 1 then some ad else Option.map (fun x => x.add (1 * 2)) (some ad)) 1 [⟨98, 2⟩]) := ⟨fun W hW => Kd.C_drop (m := 1) (c := c) (Kd.C_below HL3.out hW) (by decide) hc⟩
  replace hcut : ∀ W : World, (Instr.slice 22 (.slice (some ad) 2 c) (some (.int .i64 1)) none none).run Try.prog W = .ok (.slice (if c = 1 then some ad else Option.map (fun x => x.add (1 * 2)) (some ad)) 1 (c - 1)) W := hcut
  have hc1 : 1 ≤ c - 1 := by have : 2 ≤ c := hc; omega
  generalize (if c = 1 then some ad else Option.map (fun x => x.add (1 * 2)) (some ad)) = AA at *
  have HW3 := Aside0.mk (Below.refl w3.heap.size w3)
  go_wp2_with fail
  refine (sign_Text.calls 10 (some ad) c [⟨233, 2⟩, ⟨98, 2⟩] _ w3 HL3.out hc aw04_text).mono ?_
  rintro e w4 ⟨rfl, hb⟩
  have hb := (show Below _ _ w4 from by first | exact hb | exact hb.below)
  have HB4 := Aside0.mk (below_then HB3.out HB3.out.size hb)
  have HL4 := Aside0.mk (Kd.C_below HL3.out hb)
  have q0 := pw_cell_below hb q0
  have q1 := pw_cell_below hb q1
  have r0 := pw_cell_below hb r0
  have r1 := pw_cell_below hb r1
  have r2 := pw_cell_below hb r2
  have HW4 := Aside0.mk (below_then HW3.out HW3.out.size hb)
  clear hb HB3 HL3
  go_wp2_with fail
  refine (sign_Find.calls (some ad) c [⟨233, 2⟩, ⟨98, 2⟩] AA (c - 1) [⟨98, 2⟩] 0 1 w4 HL4.out hc (HD3.out _ HW4.out) hc1 aw04_find).mono ?_
  rintro e w5 ⟨rfl, hb⟩
  have hb := (show Below _ _ w5 from by first | exact hb | exact hb.below)
  have HB5 := Aside0.mk (below_then HB4.out HB4.out.size hb)
  have HL5 := Aside0.mk (Kd.C_below HL4.out hb)
  have q0 := pw_cell_below hb q0
  have q1 := pw_cell_below hb q1
  have HW5 := Aside0.mk (below_then HW4.out HW4.out.size hb)
  clear hb HB4 HL4
  go_wp2_with fail
  refine (sign_Back.calls (some ad) c [⟨233, 2⟩, ⟨98, 2⟩] AA (c - 1) [⟨98, 2⟩] 9 1 w5 HL5.out hc (HD3.out _ HW5.out) hc1 aw04_back).mono ?_
  rintro e w6 ⟨rfl, hb⟩
  have hb := (show Below _ _ w6 from by first | exact hb | exact hb.below)
  have HB6 := Aside0.mk (below_then HB5.out HB5.out.size hb)
  have HL6 := Aside0.mk (Kd.C_below HL5.out hb)
  have q0 := pw_cell_below hb q0
  have q1 := pw_cell_below hb q1
  clear hb HB5 HL5
  go_wp2_with fail
  refine (sign_Strange.calls 233 2 true w6 aw04_strange).mono ?_
  rintro e w7 ⟨rfl, hb⟩
  have hb := (show Below _ _ w7 from by first | exact hb | exact hb.below)
  have HB7 := Aside0.mk (below_then HB6.out HB6.out.size hb)
  have HL7 := Aside0.mk (Kd.C_below HL6.out hb)
  have q0 := pw_cell_below hb q0
  have q1 := pw_cell_below hb q1
  clear hb HB6 HL6
  go_wp2_with fail
  refine (sign_Check.calls (some ad) c [⟨233, 2⟩, ⟨98, 2⟩] 0 w7 HL7.out hc aw04_check).mono ?_
  rintro e w8 ⟨rfl, hb⟩
  have hb := (show Below _ _ w8 from by first | exact hb | exact hb.below)
  have HB8 := Aside0.mk (below_then HB7.out HB7.out.size hb)
  have HL8 := Aside0.mk (Kd.C_below HL7.out hb)
  have q0 := pw_cell_below hb q0
  have q1 := pw_cell_below hb q1
  clear hb HB7 HL7
  go_wp2_with fail
  refine (sign_With.calls 10 (some ad) c [⟨233, 2⟩, ⟨98, 2⟩] 0 _ w8 HL8.out hc aw04_with).mono ?_
  rintro e w9 ⟨v9, rfl, HO9, hb⟩
  have hb := (show Below _ _ w9 from by first | exact hb | exact hb.below)
  have HB9 := Aside0.mk (below_then HB8.out HB8.out.size hb)
  have HL9 := Aside0.mk (Kd.C_below HL8.out hb)
  have q0 := pw_cell_below hb q0
  have q1 := pw_cell_below hb q1
  obtain ⟨A9, c9, rfl, hc9, HC9⟩ := Kd.R_reads HO9
  clear hb HB8 HL8
  go_wp2_with fail
  refine (sign_Of.calls 10 0 _ _ w9 aw04_of0).mono ?_
  rintro e w10 ⟨v10, rfl, HO10, hb⟩
  have hb := (show Below _ _ w10 from by first | exact hb | exact hb.below)
  have HB10 := Aside0.mk (below_then HB9.out HB9.out.size hb)
  have HL10 := Aside0.mk (Kd.C_below HL9.out hb)
  have q0 := pw_cell_below hb q0
  have q1 := pw_cell_below hb q1
  obtain ⟨A10, c10, rfl, hc10, HC10⟩ := Kd.R_reads HO10
  have HC9 := Kd.C_below HC9 hb
  clear hb HB9 HL9
  go_wp2_with fail
  refine (sign_Same.calls 10 A9 c9 [⟨233, 0⟩, ⟨98, 0⟩] A10 c10 [⟨233, 0⟩, ⟨98, 0⟩] true w10 HC9 hc9 HC10 hc10 aw04_same).mono ?_
  rintro e w11 ⟨rfl, hb⟩
  have hb := (show Below _ _ w11 from by first | exact hb | exact hb.below)
  have HB11 := Aside0.mk (below_then HB10.out HB10.out.size hb)
  have HL11 := Aside0.mk (Kd.C_below HL10.out hb)
  have q0 := pw_cell_below hb q0
  have q1 := pw_cell_below hb q1
  clear hb HB10 HL10
  go_wp2_with fail
  refine (sign_Values.calls 10 (some ad) c [⟨233, 2⟩, ⟨98, 2⟩] _ w11 HL11.out hc aw04_values).mono ?_
  rintro e w12 ⟨v12, rfl, HO12, hb⟩
  have hb := (show Below _ _ w12 from by first | exact hb | exact hb.below)
  have HB12 := Aside0.mk (below_then HB11.out HB11.out.size hb)
  have HL12 := Aside0.mk (Kd.C_below HL11.out hb)
  have q0 := pw_cell_below hb q0
  have q1 := pw_cell_below hb q1
  obtain ⟨A12, c12, rfl, hc12, HC12⟩ := Kd.R_reads HO12
  clear hb HB11 HL11
  go_wp2_with fail
  refine (sign_Right.calls 233 2 true w12 aw04_right).mono ?_
  rintro e w13 ⟨rfl, hb⟩
  have hb := (show Below _ _ w13 from by first | exact hb | exact hb.below)
  have HB13 := Aside0.mk (below_then HB12.out HB12.out.size hb)
  have HL13 := Aside0.mk (Kd.C_below HL12.out hb)
  have q0 := pw_cell_below hb q0
  have q1 := pw_cell_below hb q1
  clear hb HB12 HL12
  go_wp2
  go_ret
  exact ⟨rfl, HB13.out⟩

end Go.Proofs.Ytlmmeihgjpgooaa.P
