/- The bytes of one value, over the abstract machine. -/
import Derived.Test.YtaoocfkadjcbkaaDoorAX
import Derived.Test.YtaoocfkadjcbkaaDoorBrights
import Derived.Lib.RuneBytes
set_option linter.unusedVariables false
set_option linter.unusedSimpArgs false
set_option maxRecDepth 10000
set_option maxHeartbeats 4000000
namespace Go.Proofs.YtaoocfkadjcbkaaDoor.AM.B
open Go Go.RowKit
def encU8 (x : Int) : List Cell := [.int .u8 x]
def bsOf (l : List Int) : ByteArray := ⟨(l.map fun n => UInt8.ofNat n.toNat).toArray⟩
theorem bytesOf_enc : ∀ (l : List Int), bytesOfCells (l.flatMap encU8) = some (l.map fun n => UInt8.ofNat n.toNat)
  | [] => rfl
  | x :: l => by
    have := bytesOf_enc l
    simp only [List.flatMap_cons, encU8, List.cons_append, List.nil_append, bytesOfCells]
    rw [this]; rfl
section
variable {P : Program} {X : Spec} {q : Bool} {d : Option Nat} {ty : Nat} {pos : String} {af : Array Edge} {g : Option (Nat × Bool)} {e : Env} {H : Hyp} {K : V → Hyp → Prop}
/-- Bytes as a text. -/
theorem op_bytesStr {src dst te : Nat} {x : Operand} {c : Cell} {l : List Int} {N : Hyp} (hs : P.underlying src = some (.slice te)) (he : P.underlying te = some (.int .u8)) (hd : P.underlying dst = some .string)
    (hx : evE e x = some (.one (.c c))) (h : Own te 1 c (l.flatMap encU8) N) (hN : ∀ x ∈ N, x ∈ H) (k : K (vS (bsOf l)) H) : OpW P X q ⟨d, .convert src dst x, ty, pos, af, g⟩ e H K := by
  intro fr s h1 h2
  refine ⟨0, _, s, H, ?_, h2, k, fun _ _ => rfl⟩
  have hlen : (l.flatMap encU8).length = l.length * 1 := flatMap_len (enc := encU8) (fun _ => rfl) l
  have hS := h.sl (H := H) (by decide) hlen hN
  have hE := hS.elems h2 l.length (Nat.le_refl _)
  have hE2 : (l.flatMap encU8).take (l.length * 1) = l.flatMap encU8 := by rw [← hlen, List.take_length]
  rw [hE2] at hE
  cases hc : c with
  | nils =>
    subst hc
    have hl : l.flatMap encU8 = [] := by simpa [elemsA] using hE.symm
    have hl2 : l = [] := by
      cases l with
      | nil => rfl
      | cons a l => simp [encU8] at hl
    subst hl2
    simp only [opRun, evC h1 hx, xBytesToString, hs, hd, he]; rfl
  | sl b off len cap =>
    subst hc
    have hln : len = l.length := by have := hS.len; simpa [lenA] using this
    subst hln
    simp only [elemsA, Option.getD_some, Nat.mul_one] at hE
    simp only [opRun, evC h1 hx, xBytesToString, hs, hd, he, hE, bytesOf_enc]; rfl
  | _ => subst hc; cases h
theorem op_shr {t ty' : Nat} {x y : Operand} {k yk : IntKind} {a b c : Int} (hx : evE e x = some (.one (.c (.int k a)))) (hy : evE e y = some (.one (.c (.int yk b)))) (h0 : 0 ≤ b) (h1 : b ≤ k.bits) (hc : a / 2 ^ b.toNat = c)
    (h : K (.one (.c (.int k c))) H) : OpW P X q ⟨d, .binOp .shr t x y ty', ty, pos, af, g⟩ e H K :=
  op_bin hx hy rfl rfl rfl (eqGuard_plain (a := .int k a) (b := .int yk b) rfl rfl) (v := .int k c) (by rw [Go.binOp_shr, Go.shift_shr k yk a b h0 h1, hc]; rfl) rfl h
theorem op_band {t ty' : Nat} {x y : Operand} {k : IntKind} {a b c : Int} (hx : evE e x = some (.one (.c (.int k a)))) (hy : evE e y = some (.one (.c (.int k b)))) (hc : bits .and k a b = c)
    (h : K (.one (.c (.int k c))) H) : OpW P X q ⟨d, .binOp .and t x y ty', ty, pos, af, g⟩ e H K :=
  op_int hx hy (v := .int k c) (by rw [Go.binOp_and, Go.intBits_and, hc]; rfl) rfl h
theorem op_bor {t ty' : Nat} {x y : Operand} {k : IntKind} {a b c : Int} (hx : evE e x = some (.one (.c (.int k a)))) (hy : evE e y = some (.one (.c (.int k b)))) (hc : bits .or k a b = c)
    (h : K (.one (.c (.int k c))) H) : OpW P X q ⟨d, .binOp .or t x y ty', ty, pos, af, g⟩ e H K :=
  op_int hx hy (v := .int k c) (by rw [Go.binOp_or, Go.intBits_or, hc]; rfl) rfl h
end
theorem bnd_nat {p : Int → Prop} {m : Nat} (h : ∀ n : Nat, n < m → p n) (z : Int) (h0 : 0 ≤ z) (h1 : z < m) : p z := by
  have := h z.toNat (by omega)
  rwa [Int.toNat_of_nonneg h0] at this
theorem b_or128 (z : Int) (h0 : 0 ≤ z) (h1 : z < 64) : bits .or .u8 128 z = 128 + z := bnd_nat (p := fun z => bits .or .u8 128 z = 128 + z) (m := 64) (by decide +kernel) z h0 h1
theorem b_or192 (z : Int) (h0 : 0 ≤ z) (h1 : z < 32) : bits .or .u8 192 z = 192 + z := bnd_nat (p := fun z => bits .or .u8 192 z = 192 + z) (m := 32) (by decide +kernel) z h0 h1
theorem b_or224 (z : Int) (h0 : 0 ≤ z) (h1 : z < 16) : bits .or .u8 224 z = 224 + z := bnd_nat (p := fun z => bits .or .u8 224 z = 224 + z) (m := 16) (by decide +kernel) z h0 h1
theorem b_or240 (z : Int) (h0 : 0 ≤ z) (h1 : z < 8) : bits .or .u8 240 z = 240 + z := bnd_nat (p := fun z => bits .or .u8 240 z = 240 + z) (m := 8) (by decide +kernel) z h0 h1
theorem b_and63 (z : Int) (h0 : 0 ≤ z) (h1 : z < 256) : bits .and .u8 z 63 = z % 64 := bnd_nat (p := fun z => bits .and .u8 z 63 = z % 64) (m := 256) (by decide +kernel) z h0 h1
theorem w_u8 (n : Int) : IntKind.wrap .u8 n = n % 256 := by simp [IntKind.wrap, IntKind.bits, IntKind.signed]
theorem w_u32 (n : Int) (h0 : 0 ≤ n) (h1 : n ≤ 4294967295) : IntKind.wrap .u32 n = n := by simp [IntKind.wrap, IntKind.bits, IntKind.signed]; omega
theorem w_i32 (n : Int) (h0 : 0 ≤ n) (h1 : n ≤ 2147483647) : IntKind.wrap .i32 n = n := by simp [IntKind.wrap, IntKind.bits, IntKind.signed]; omega
theorem appendRuneNonASCII_w {H : Hyp} {K : V → Hyp → Prop} {c : Cell} {l : List Int} {N : Hyp} {v : Int} (h : Own 5 1 c (l.flatMap encU8) N) (hl : l.length ≤ 100000) (hv : 128 ≤ v) (hv2 : v < 55296 ∨ 57343 < v) (hv3 : v ≤ 1114111)
    (k : ∀ c' N', Own 5 1 c' ((l ++ Lib.encodeRuneZ v).flatMap encU8) N' → K (.one (.c c')) (N' ++ H)) : CallW Tryd.prog Xs 28 [.one (.c c), .one (.c (.int .i32 v))] (N ++ H) K := by
  refine call_of (n := 78) (fun _ => rfl) Tryd.func28 rfl rfl ?_
  refine w_seq ?_
  refine w_region ?_
  refine w_o rfl rfl rfl (op_assign rfl ?_)
  refine w_end ?_
  refine seq_normal ?_
  refine w_seq ?_
  refine w_region ?_
  refine w_o rfl rfl rfl (op_move rfl ?_)
  refine w_o rfl rfl rfl (op_convi und_21 und_40 rfl (w_u32 v (by omega) (by omega)) ?_)
  refine w_o rfl rfl rfl (op_assign rfl ?_)
  refine w_end ?_
  refine seq_normal ?_
  refine w_block ?_
  refine w_seq ?_
  refine w_region ?_
  refine w_o rfl rfl rfl (op_move rfl ?_)
  refine w_o rfl rfl rfl (op_le rfl rfl ?_)
  refine w_o rfl rfl rfl (op_assign rfl ?_)
  refine w_end ?_
  refine seq_normal ?_
  first | refine w_cond rfl (fun hI1 => ?_) (fun hI1 => ?_) | refine w_condB rfl (fun hI1 => ?_) (fun hI1 => ?_)
  · refine w_seq ?_
    refine w_region ?_
    refine w_o rfl rfl rfl (op_move rfl ?_)
    refine w_o rfl rfl rfl (op_move rfl ?_)
    refine w_o rfl rfl rfl (op_shr rfl rfl (by decide) (by decide) rfl ?_)
    refine w_o rfl rfl rfl (op_convi und_21 und_5 rfl (c := v / 64) (by rw [w_u8]; show (v / 64) % 256 = _; omega) ?_)
    refine w_o rfl rfl rfl (op_bor rfl rfl (b_or192 (v / 64) (by omega) (by omega)) ?_)
    refine w_o rfl rfl rfl (op_move rfl ?_)
    refine w_o rfl rfl rfl (op_convi und_21 und_5 rfl (w_u8 v) ?_)
    refine w_o rfl rfl rfl (op_band rfl rfl (c := v % 64) (by rw [b_and63 _ (by omega) (by omega)]; omega) ?_)
    refine w_o rfl rfl rfl (op_bor rfl rfl (b_or128 (v % 64) (by omega) (by omega)) ?_)
    refine w_o rfl rfl rfl (op_buildSlice rfl (bsl_36 _ _ _ (rfl : _ = some [_, _]) rfl (by decide)) fun b23 => ?_)
    refine w_o rfl rfl rfl (op_appendT (xs := l) (ys := Lib.encodeRuneZ v) (enc := encU8) elm_36 inf_5 zer_5 (by decide) und_36 rfl rfl h (fun _ => rfl) (by (repeat (first | exact PickL.front _ _ | exact PickL.nil _ | apply PickL.skip | apply PickL.skipL)); first | done | fail) (by rw [Lib.encodeRuneZ_two (by omega) (by omega)]; exact Sl.of_row (List.Mem.head _) rfl) (by rw [Lib.encodeRuneZ_two (by omega) (by omega)]; simp only [List.length_cons, List.length_nil]; omega) fun c24 N24 h24 => ?_)
    refine w_o rfl rfl rfl (op_assign rfl ?_)
    refine w_end ?_
    refine seq_normal ?_
    refine w_ret ?_
    refine block_ret ?_
    exact ret_ret rfl sel_ (k _ _ h24)
  · refine w_seq ?_
    refine w_seq ?_
    refine w_region ?_
    refine w_o rfl rfl rfl (op_move rfl ?_)
    refine w_o rfl rfl rfl (op_lt rfl rfl ?_)
    refine w_o rfl rfl rfl (op_assign rfl ?_)
    refine w_end ?_
    refine seq_normal ?_
    first | refine w_cond rfl (fun hI2 => ?_) (fun hI2 => ?_) | refine w_condB rfl (fun hI2 => ?_) (fun hI2 => ?_)
    · try (exfalso; omega)
      all_goals
        refine w_skip ?_
        refine seq_normal ?_
        first | refine w_cond rfl (fun hI3 => ?_) (fun hI3 => ?_) | refine w_condB rfl (fun hI3 => ?_) (fun hI3 => ?_)
        · try (exfalso; omega)
          all_goals
            refine w_seq ?_
            refine w_region ?_
            refine w_o rfl rfl rfl (op_move rfl ?_)
            refine w_o rfl rfl rfl (op_move rfl ?_)
            refine w_o rfl rfl rfl (op_shr rfl rfl (by decide) (by decide) rfl ?_)
            refine w_o rfl rfl rfl (op_convi und_21 und_5 rfl (c := v / 4096) (by rw [w_u8]; show (v / 4096) % 256 = _; omega) ?_)
            refine w_o rfl rfl rfl (op_bor rfl rfl (b_or224 (v / 4096) (by omega) (by omega)) ?_)
            refine w_o rfl rfl rfl (op_move rfl ?_)
            refine w_o rfl rfl rfl (op_shr rfl rfl (by decide) (by decide) rfl ?_)
            refine w_o rfl rfl rfl (op_convi und_21 und_5 rfl (c := v / 64 % 256) (by rw [w_u8]; rfl) ?_)
            refine w_o rfl rfl rfl (op_band rfl rfl (c := v / 64 % 64) (by rw [b_and63 _ (by omega) (by omega)]; omega) ?_)
            refine w_o rfl rfl rfl (op_bor rfl rfl (b_or128 (v / 64 % 64) (by omega) (by omega)) ?_)
            refine w_o rfl rfl rfl (op_move rfl ?_)
            refine w_o rfl rfl rfl (op_convi und_21 und_5 rfl (w_u8 v) ?_)
            refine w_o rfl rfl rfl (op_band rfl rfl (c := v % 64) (by rw [b_and63 _ (by omega) (by omega)]; omega) ?_)
            refine w_o rfl rfl rfl (op_bor rfl rfl (b_or128 (v % 64) (by omega) (by omega)) ?_)
            refine w_o rfl rfl rfl (op_buildSlice rfl (bsl_36 _ _ _ (rfl : _ = some [_, _, _]) rfl (by decide)) fun b48 => ?_)
            refine w_o rfl rfl rfl (op_appendT (xs := l) (ys := Lib.encodeRuneZ v) (enc := encU8) elm_36 inf_5 zer_5 (by decide) und_36 rfl rfl h (fun _ => rfl) (by (repeat (first | exact PickL.front _ _ | exact PickL.nil _ | apply PickL.skip | apply PickL.skipL)); first | done | fail) (by rw [Lib.encodeRuneZ_three (by omega)]; exact Sl.of_row (List.Mem.head _) rfl) (by rw [Lib.encodeRuneZ_three (by omega)]; simp only [List.length_cons, List.length_nil]; omega) fun c49 N49 h49 => ?_)
            refine w_o rfl rfl rfl (op_assign rfl ?_)
            refine w_end ?_
            refine seq_normal ?_
            refine w_ret ?_
            refine block_ret ?_
            exact ret_ret rfl sel_ (k _ _ h49)
        · try (exfalso; omega)
          all_goals
            refine w_seq ?_
            refine w_region ?_
            refine w_o rfl rfl rfl (op_move rfl ?_)
            refine w_o rfl rfl rfl (op_gt rfl rfl ?_)
            refine w_o rfl rfl rfl (op_move rfl ?_)
            first | refine w_known (t := 53) rfl (fun g53 => ?_) (fun g53 => ?_) | refine w_knownB (t := 53) rfl (fun g53 => ?_) (fun g53 => ?_)
            · refine w_og rfl rfl rfl rfl rfl (op_move rfl ?_)
              refine w_og rfl rfl rfl rfl rfl (op_le rfl rfl ?_)
              refine w_o rfl rfl rfl (op_pick rfl rfl rfl ?_)
              refine w_o rfl rfl rfl (op_assign rfl ?_)
              refine w_end ?_
              refine seq_normal ?_
              refine w_condY rfl (by omega) ?_
              refine w_seq ?_
              refine w_region ?_
              refine w_o rfl rfl rfl (op_move rfl ?_)
              refine w_o rfl rfl rfl (op_move rfl ?_)
              refine w_o rfl rfl rfl (op_shr rfl rfl (by decide) (by decide) rfl ?_)
              refine w_o rfl rfl rfl (op_convi und_21 und_5 rfl (c := v / 262144) (by rw [w_u8]; show (v / 262144) % 256 = _; omega) ?_)
              refine w_o rfl rfl rfl (op_bor rfl rfl (b_or240 (v / 262144) (by omega) (by omega)) ?_)
              refine w_o rfl rfl rfl (op_move rfl ?_)
              refine w_o rfl rfl rfl (op_shr rfl rfl (by decide) (by decide) rfl ?_)
              refine w_o rfl rfl rfl (op_convi und_21 und_5 rfl (c := v / 4096 % 256) (by rw [w_u8]; rfl) ?_)
              refine w_o rfl rfl rfl (op_band rfl rfl (c := v / 4096 % 64) (by rw [b_and63 _ (by omega) (by omega)]; omega) ?_)
              refine w_o rfl rfl rfl (op_bor rfl rfl (b_or128 (v / 4096 % 64) (by omega) (by omega)) ?_)
              refine w_o rfl rfl rfl (op_move rfl ?_)
              refine w_o rfl rfl rfl (op_shr rfl rfl (by decide) (by decide) rfl ?_)
              refine w_o rfl rfl rfl (op_convi und_21 und_5 rfl (c := v / 64 % 256) (by rw [w_u8]; rfl) ?_)
              refine w_o rfl rfl rfl (op_band rfl rfl (c := v / 64 % 64) (by rw [b_and63 _ (by omega) (by omega)]; omega) ?_)
              refine w_o rfl rfl rfl (op_bor rfl rfl (b_or128 (v / 64 % 64) (by omega) (by omega)) ?_)
              refine w_o rfl rfl rfl (op_move rfl ?_)
              refine w_o rfl rfl rfl (op_convi und_21 und_5 rfl (w_u8 v) ?_)
              refine w_o rfl rfl rfl (op_band rfl rfl (c := v % 64) (by rw [b_and63 _ (by omega) (by omega)]; omega) ?_)
              refine w_o rfl rfl rfl (op_bor rfl rfl (b_or128 (v % 64) (by omega) (by omega)) ?_)
              refine w_o rfl rfl rfl (op_buildSlice rfl (bsl_36 _ _ _ (rfl : _ = some [_, _, _, _]) rfl (by decide)) fun b76 => ?_)
              refine w_o rfl rfl rfl (op_appendT (xs := l) (ys := Lib.encodeRuneZ v) (enc := encU8) elm_36 inf_5 zer_5 (by decide) und_36 rfl rfl h (fun _ => rfl) (by (repeat (first | exact PickL.front _ _ | exact PickL.nil _ | apply PickL.skip | apply PickL.skipL)); first | done | fail) (by rw [Lib.encodeRuneZ_four (by omega) (by omega)]; exact Sl.of_row (List.Mem.head _) rfl) (by rw [Lib.encodeRuneZ_four (by omega) (by omega)]; simp only [List.length_cons, List.length_nil]; omega) fun c77 N77 h77 => ?_)
              refine w_o rfl rfl rfl (op_assign rfl ?_)
              refine w_end ?_
              refine seq_normal ?_
              refine w_ret ?_
              refine block_ret ?_
              exact ret_ret rfl sel_ (k _ _ h77)
            · exfalso; omega --closed
    · try (exfalso; omega)
      all_goals
        refine w_region ?_
        refine w_o rfl rfl rfl (op_move rfl ?_)
        refine w_o rfl rfl rfl (op_lt rfl rfl ?_)
        refine w_o rfl rfl rfl (op_move rfl ?_)
        first | refine w_known (t := 30) rfl (fun g30 => ?_) (fun g30 => ?_) | refine w_knownB (t := 30) rfl (fun g30 => ?_) (fun g30 => ?_)
        · refine w_og rfl rfl rfl rfl rfl (op_move rfl ?_)
          refine w_og rfl rfl rfl rfl rfl (op_le rfl rfl ?_)
          refine w_o rfl rfl rfl (op_pick rfl rfl rfl ?_)
          refine w_o rfl rfl rfl (op_assign rfl ?_)
          refine w_end ?_
          refine seq_normal ?_
          first | refine w_cond rfl (fun hI3 => ?_) (fun hI3 => ?_) | refine w_condB rfl (fun hI3 => ?_) (fun hI3 => ?_)
          · try (exfalso; omega)
            all_goals
              refine w_seq ?_
              refine w_region ?_
              refine w_o rfl rfl rfl (op_move rfl ?_)
              refine w_o rfl rfl rfl (op_move rfl ?_)
              refine w_o rfl rfl rfl (op_shr rfl rfl (by decide) (by decide) rfl ?_)
              refine w_o rfl rfl rfl (op_convi und_21 und_5 rfl (c := v / 4096) (by rw [w_u8]; show (v / 4096) % 256 = _; omega) ?_)
              refine w_o rfl rfl rfl (op_bor rfl rfl (b_or224 (v / 4096) (by omega) (by omega)) ?_)
              refine w_o rfl rfl rfl (op_move rfl ?_)
              refine w_o rfl rfl rfl (op_shr rfl rfl (by decide) (by decide) rfl ?_)
              refine w_o rfl rfl rfl (op_convi und_21 und_5 rfl (c := v / 64 % 256) (by rw [w_u8]; rfl) ?_)
              refine w_o rfl rfl rfl (op_band rfl rfl (c := v / 64 % 64) (by rw [b_and63 _ (by omega) (by omega)]; omega) ?_)
              refine w_o rfl rfl rfl (op_bor rfl rfl (b_or128 (v / 64 % 64) (by omega) (by omega)) ?_)
              refine w_o rfl rfl rfl (op_move rfl ?_)
              refine w_o rfl rfl rfl (op_convi und_21 und_5 rfl (w_u8 v) ?_)
              refine w_o rfl rfl rfl (op_band rfl rfl (c := v % 64) (by rw [b_and63 _ (by omega) (by omega)]; omega) ?_)
              refine w_o rfl rfl rfl (op_bor rfl rfl (b_or128 (v % 64) (by omega) (by omega)) ?_)
              refine w_o rfl rfl rfl (op_buildSlice rfl (bsl_36 _ _ _ (rfl : _ = some [_, _, _]) rfl (by decide)) fun b48 => ?_)
              refine w_o rfl rfl rfl (op_appendT (xs := l) (ys := Lib.encodeRuneZ v) (enc := encU8) elm_36 inf_5 zer_5 (by decide) und_36 rfl rfl h (fun _ => rfl) (by (repeat (first | exact PickL.front _ _ | exact PickL.nil _ | apply PickL.skip | apply PickL.skipL)); first | done | fail) (by rw [Lib.encodeRuneZ_three (by omega)]; exact Sl.of_row (List.Mem.head _) rfl) (by rw [Lib.encodeRuneZ_three (by omega)]; simp only [List.length_cons, List.length_nil]; omega) fun c49 N49 h49 => ?_)
              refine w_o rfl rfl rfl (op_assign rfl ?_)
              refine w_end ?_
              refine seq_normal ?_
              refine w_ret ?_
              refine block_ret ?_
              exact ret_ret rfl sel_ (k _ _ h49)
          · try (exfalso; omega)
            all_goals
              refine w_seq ?_
              refine w_region ?_
              refine w_o rfl rfl rfl (op_move rfl ?_)
              refine w_o rfl rfl rfl (op_gt rfl rfl ?_)
              refine w_o rfl rfl rfl (op_move rfl ?_)
              first | refine w_known (t := 53) rfl (fun g53 => ?_) (fun g53 => ?_) | refine w_knownB (t := 53) rfl (fun g53 => ?_) (fun g53 => ?_)
              · refine w_og rfl rfl rfl rfl rfl (op_move rfl ?_)
                refine w_og rfl rfl rfl rfl rfl (op_le rfl rfl ?_)
                refine w_o rfl rfl rfl (op_pick rfl rfl rfl ?_)
                refine w_o rfl rfl rfl (op_assign rfl ?_)
                refine w_end ?_
                refine seq_normal ?_
                refine w_condY rfl (by omega) ?_
                refine w_seq ?_
                refine w_region ?_
                refine w_o rfl rfl rfl (op_move rfl ?_)
                refine w_o rfl rfl rfl (op_move rfl ?_)
                refine w_o rfl rfl rfl (op_shr rfl rfl (by decide) (by decide) rfl ?_)
                refine w_o rfl rfl rfl (op_convi und_21 und_5 rfl (c := v / 262144) (by rw [w_u8]; show (v / 262144) % 256 = _; omega) ?_)
                refine w_o rfl rfl rfl (op_bor rfl rfl (b_or240 (v / 262144) (by omega) (by omega)) ?_)
                refine w_o rfl rfl rfl (op_move rfl ?_)
                refine w_o rfl rfl rfl (op_shr rfl rfl (by decide) (by decide) rfl ?_)
                refine w_o rfl rfl rfl (op_convi und_21 und_5 rfl (c := v / 4096 % 256) (by rw [w_u8]; rfl) ?_)
                refine w_o rfl rfl rfl (op_band rfl rfl (c := v / 4096 % 64) (by rw [b_and63 _ (by omega) (by omega)]; omega) ?_)
                refine w_o rfl rfl rfl (op_bor rfl rfl (b_or128 (v / 4096 % 64) (by omega) (by omega)) ?_)
                refine w_o rfl rfl rfl (op_move rfl ?_)
                refine w_o rfl rfl rfl (op_shr rfl rfl (by decide) (by decide) rfl ?_)
                refine w_o rfl rfl rfl (op_convi und_21 und_5 rfl (c := v / 64 % 256) (by rw [w_u8]; rfl) ?_)
                refine w_o rfl rfl rfl (op_band rfl rfl (c := v / 64 % 64) (by rw [b_and63 _ (by omega) (by omega)]; omega) ?_)
                refine w_o rfl rfl rfl (op_bor rfl rfl (b_or128 (v / 64 % 64) (by omega) (by omega)) ?_)
                refine w_o rfl rfl rfl (op_move rfl ?_)
                refine w_o rfl rfl rfl (op_convi und_21 und_5 rfl (w_u8 v) ?_)
                refine w_o rfl rfl rfl (op_band rfl rfl (c := v % 64) (by rw [b_and63 _ (by omega) (by omega)]; omega) ?_)
                refine w_o rfl rfl rfl (op_bor rfl rfl (b_or128 (v % 64) (by omega) (by omega)) ?_)
                refine w_o rfl rfl rfl (op_buildSlice rfl (bsl_36 _ _ _ (rfl : _ = some [_, _, _, _]) rfl (by decide)) fun b76 => ?_)
                refine w_o rfl rfl rfl (op_appendT (xs := l) (ys := Lib.encodeRuneZ v) (enc := encU8) elm_36 inf_5 zer_5 (by decide) und_36 rfl rfl h (fun _ => rfl) (by (repeat (first | exact PickL.front _ _ | exact PickL.nil _ | apply PickL.skip | apply PickL.skipL)); first | done | fail) (by rw [Lib.encodeRuneZ_four (by omega) (by omega)]; exact Sl.of_row (List.Mem.head _) rfl) (by rw [Lib.encodeRuneZ_four (by omega) (by omega)]; simp only [List.length_cons, List.length_nil]; omega) fun c77 N77 h77 => ?_)
                refine w_o rfl rfl rfl (op_assign rfl ?_)
                refine w_end ?_
                refine seq_normal ?_
                refine w_ret ?_
                refine block_ret ?_
                exact ret_ret rfl sel_ (k _ _ h77)
              · exfalso; omega --closed
        · exfalso; omega --closed
theorem AppendRune_w {H : Hyp} {K : V → Hyp → Prop} {c : Cell} {l : List Int} {N : Hyp} {v : Int} (h : Own 5 1 c (l.flatMap encU8) N) (hl : l.length ≤ 100000) (hv : 0 ≤ v) (hv2 : v < 55296 ∨ 57343 < v) (hv3 : v ≤ 1114111)
    (k : ∀ c' N', Own 5 1 c' ((l ++ Lib.encodeRuneZ v).flatMap encU8) N' → K (.one (.c c')) (N' ++ H)) : CallW Tryd.prog Xs 22 [.one (.c c), .one (.c (.int .i32 v))] (N ++ H) K := by
  refine call_of (n := 16) (fun _ => rfl) Tryd.func22 rfl rfl ?_
  refine w_seq ?_
  refine w_region ?_
  refine w_o rfl rfl rfl (op_assign rfl ?_)
  refine w_end ?_
  refine seq_normal ?_
  refine w_seq ?_
  refine w_seq ?_
  refine w_region ?_
  refine w_o rfl rfl rfl (op_move rfl ?_)
  refine w_o rfl rfl rfl (op_convi und_21 und_40 rfl (w_u32 v (by omega) (by omega)) ?_)
  refine w_o rfl rfl rfl (op_le rfl rfl ?_)
  refine w_end ?_
  refine seq_normal ?_
  first | refine w_cond rfl (fun hI1 => ?_) (fun hI1 => ?_) | refine w_condB rfl (fun hI1 => ?_) (fun hI1 => ?_)
  · refine w_seq ?_
    refine w_region ?_
    refine w_o rfl rfl rfl (op_move rfl ?_)
    refine w_o rfl rfl rfl (op_move rfl ?_)
    refine w_o rfl rfl rfl (op_convi und_21 und_5 rfl (c := v) (by rw [w_u8]; omega) ?_)
    refine w_o rfl rfl rfl (op_buildSlice rfl (bsl_36 _ _ _ (rfl : _ = some [_]) rfl (by decide)) fun b11 => ?_)
    refine w_o rfl rfl rfl (op_append1 (xs := l) (enc := encU8) (z0 := v) elm_36 inf_5 zer_5 (by decide) und_36 rfl rfl h (fun _ => rfl) (by (repeat (first | exact PickL.front _ _ | exact PickL.nil _ | apply PickL.skip | apply PickL.skipL)); first | done | fail) rfl (by omega) fun c12 N12 h12 => ?_)
    refine w_o rfl rfl rfl (op_assign rfl ?_)
    refine w_end ?_
    refine seq_normal ?_
    refine w_ret ?_
    refine seq_ret ?_
    rw [show [v] = Lib.encodeRuneZ v from (Lib.encodeRuneZ_one hv (by omega)).symm] at h12
    exact ret_ret rfl sel_ (k _ _ h12)
  · refine w_skip ?_
    refine seq_normal ?_
    refine w_seq ?_
    refine w_region ?_
    refine w_o rfl rfl rfl (op_move rfl ?_)
    refine w_o rfl rfl rfl (op_move rfl ?_)
    refine w_o rfl rfl rfl (op_call rfl rfl rfl ?_)
    refine appendRuneNonASCII_w h hl (by omega) hv2 hv3 fun c15 N15 h15 => ?_
    refine w_o rfl rfl rfl (op_assign rfl ?_)
    refine w_end ?_
    refine seq_normal ?_
    refine w_ret ?_
    exact ret_ret rfl sel_ (k _ _ h15)
/-- A value's bytes; none: it may not be. -/
def encL (v : Int) : List Int := if pointV v then Lib.encodeRuneZ v else if rightV v then [v - 1114112] else []
end Go.Proofs.YtaoocfkadjcbkaaDoor.AM.B
