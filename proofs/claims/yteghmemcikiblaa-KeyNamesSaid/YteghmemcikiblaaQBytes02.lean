/- A value's bytes, as the reference tells them. -/
import Derived.Test.YteghmemcikiblaaQHexes
import Derived.Test.YteghmemcikiblaaPdactylref02
import Derived.Test.YteghmemcikiblaaPLibUtf8
namespace Go.Proofs.Yteghmemcikiblaa.P
open Go.RowKit Go.Proofs.Yteghmemcikiblaa.P Go.Proofs.YteghmemcikiblaaW.PrintWords Go.Proofs.YteghmemcikiblaaW.PrintLast
set_option linter.unusedVariables false
set_option linter.unusedSimpArgs false
theorem hx_bytes (v : Int) (h : 0 ≤ v ∧ v < 55296 ∨ 57343 < v ∧ v ≤ 1114111) : dactylref02_Bytes.f v = some (strOfNums (Lib.encodeRuneZ v)) := by
  unfold dactylref02_Bytes.f Lib.encodeRuneZ
  have d64 : Int.tdiv v 64 = v / 64 := Int.tdiv_eq_ediv_of_nonneg (by omega)
  have d4 : Int.tdiv v 4096 = v / 4096 := Int.tdiv_eq_ediv_of_nonneg (by omega)
  have d26 : Int.tdiv v 262144 = v / 262144 := Int.tdiv_eq_ediv_of_nonneg (by omega)
  have m64 : Int.tmod v 64 = v % 64 := Int.tmod_eq_emod_of_nonneg (by omega)
  rw [d64, d4, d26, m64]
  have w1 : wrap64 (v / 64) = v / 64 := hx_w64 _ (by omega) (by omega)
  have w2 : wrap64 (v / 4096) = v / 4096 := hx_w64 _ (by omega) (by omega)
  have w3 : wrap64 (v / 262144) = v / 262144 := hx_w64 _ (by omega) (by omega)
  rw [w1, w2, w3]
  clear w1 w2 w3
  have m1 : Int.tmod (v / 64) 64 = v / 64 % 64 := Int.tmod_eq_emod_of_nonneg (by omega)
  have m2 : Int.tmod (v / 4096) 64 = v / 4096 % 64 := Int.tmod_eq_emod_of_nonneg (by omega)
  rw [m1, m2]
  by_cases c1 : v < 128
  · rw [if_pos c1, if_pos (show 0 ≤ v ∧ v ≤ 127 by omega), show v % 256 = v by omega]
  · rw [if_neg c1, if_neg (show ¬ (0 ≤ v ∧ v ≤ 127) by omega)]
    have x1 : wrap64 (128 + v % 64) % 256 = 128 + v % 64 := by rw [hx_w64 _ (by omega) (by omega)]; omega
    have x2 : wrap64 (128 + v / 64 % 64) % 256 = 128 + v / 64 % 64 := by rw [hx_w64 _ (by omega) (by omega)]; omega
    have x3 : wrap64 (128 + v / 4096 % 64) % 256 = 128 + v / 4096 % 64 := by rw [hx_w64 _ (by omega) (by omega)]; omega
    by_cases c2 : v < 2048
    · have x4 : wrap64 (192 + v / 64) % 256 = 192 + v / 64 := by rw [hx_w64 _ (by omega) (by omega)]; omega
      rw [if_pos c2, if_pos (show 128 ≤ v ∧ v ≤ 2047 by omega), x1, x4]
    · rw [if_neg c2, if_neg (show ¬ (128 ≤ v ∧ v ≤ 2047) by omega)]
      by_cases c3 : v < 65536
      · have x4 : wrap64 (224 + v / 4096) % 256 = 224 + v / 4096 := by rw [hx_w64 _ (by omega) (by omega)]; omega
        rw [if_pos c3, if_pos (show (2048 ≤ v ∧ v < 55296) ∨ (57343 < v ∧ v ≤ 65535) by omega), x1, x2, x4]
      · have x4 : wrap64 (240 + v / 262144) % 256 = 240 + v / 262144 := by rw [hx_w64 _ (by omega) (by omega)]; omega
        rw [if_neg c3, if_neg (show ¬ ((2048 ≤ v ∧ v < 55296) ∨ (57343 < v ∧ v ≤ 65535)) by omega), if_pos (show v ≤ 1114111 by omega), if_pos (show 65536 ≤ v ∧ v ≤ 1114111 by omega), x1, x2, x3, x4]
theorem hx_bytes2 (v : Int) (h : 1114240 ≤ v ∧ v ≤ 1114367) : dactylref02_Bytes.f v = some (strOfNums [v - 1114112]) := by
  unfold dactylref02_Bytes.f
  have x : wrap64 (v - 1114112) % 256 = v - 1114112 := by rw [hx_w64 _ (by omega) (by omega)]; omega
  rw [if_neg (by omega), if_neg (by omega), if_neg (by omega), if_neg (by omega), x]
end Go.Proofs.Yteghmemcikiblaa.P
