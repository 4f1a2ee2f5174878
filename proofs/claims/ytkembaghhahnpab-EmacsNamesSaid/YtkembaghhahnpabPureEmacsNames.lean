/- The name of any command, and back; the command of any name. -/
import Derived.Test.YtkembaghhahnpabPdactyllaw27EmacsNames
import Derived.Test.YtkembaghhahnpabPemacs
import Derived.Test.YtkembaghhahnpabPemacstab
import Derived.Test.YtkembaghhahnpabPLibIndex
namespace Go.Proofs.Ytkembaghhahnpab.Pure
open Go.RowKit Go.Proofs.Ytkembaghhahnpab.P Go.Proofs.YtkembaghhahnpabW.PrintWords Go.Proofs.YtkembaghhahnpabW.PrintLast
set_option linter.unusedVariables false
set_option linter.unusedSimpArgs false
theorem wrap_sm (i : Int) (h0 : -9223372036854775808 ≤ i) (h1 : i ≤ 9223372036854775807) : wrap64 i = i := by unfold wrap64; omega
theorem idx_some (N : List ByteArray) (s : ByteArray) (hN : N.length ≤ 1000) : ∀ (d k i : Nat), N.length - i = d → i ≤ N.length → d < k → ∃ r, slices_Index_string_string.l0 k N s (N.length : Int) (i : Int) = some r ∧ (r = -1 ∨ (0 ≤ r ∧ r < N.length ∧ s.toList = (rdOf ByteArray.empty N r).toList)) := by
  intro d
  induction d with
  | zero =>
    intro k i hd hi hk
    obtain ⟨k, rfl⟩ : ∃ m, k = m + 1 := ⟨k - 1, by omega⟩
    refine ⟨-1, ?_, .inl rfl⟩
    simp only [slices_Index_string_string.l0]
    rw [if_neg (by omega)]
  | succ d ih =>
    intro k i hd hi hk
    obtain ⟨k, rfl⟩ : ∃ m, k = m + 1 := ⟨k - 1, by omega⟩
    have c1 : (i : Int) < (N.length : Int) := by omega
    have c2 : (0 : Int) ≤ (i : Int) := by omega
    simp only [slices_Index_string_string.l0]
    rw [if_pos c1, if_pos c2, if_pos c1]
    by_cases q : s.toList = (rdOf ByteArray.empty N (i : Int)).toList
    · rw [if_pos q]; exact ⟨i, rfl, .inr ⟨c2, c1, q⟩⟩
    · rw [if_neg q, show wrap64 ((i : Int) + 1) = ((i + 1 : Nat) : Int) by rw [wrap_sm _ (by omega) (by omega)]; omega]
      exact ih k (i + 1) (by omega) (by omega) (by omega)
def names : List ByteArray := (emacs_names.f).getD []
theorem names_eq : emacs_names.f = some names := rfl
theorem names_len : names.length = 42 := by decide +kernel
theorem names_back : ∀ c : Nat, c < 42 → emacs_Parse.f 60 (rdOf ByteArray.empty names (c : Int)) = some ((c : Int), 0) := by decide +kernel
theorem parse_some (s : ByteArray) : ∃ r, emacs_Parse.f 60 s = some r ∧ (r = (0, 6) ∨ (0 ≤ r.1 ∧ r.1 < 42 ∧ r.2 = 0 ∧ s.toList = (rdOf ByteArray.empty names r.1).toList)) := by
  obtain ⟨r, h, hr⟩ := idx_some names s (by rw [names_len]; omega) 42 60 0 (by rw [names_len]) (by omega) (by omega)
  unfold emacs_Parse.f slices_Index_string_string.f
  rw [names_eq]
  simp only [Option.bind_some]
  rw [show ((0 : Nat) : Int) = 0 from rfl] at h
  rw [h]
  simp only [Option.bind_some]
  rw [names_len] at hr
  rcases hr with rfl | ⟨h0, h1, h2⟩
  · exact ⟨_, rfl, .inl rfl⟩
  · rw [if_neg (by omega)]; exact ⟨_, rfl, .inr ⟨h0, h1, rfl, h2⟩⟩
theorem name_in (c : Int) (h0 : 0 ≤ c) (h1 : c < 42) : emacs_Name.f c = some (rdOf ByteArray.empty names c, 0) := by
  unfold emacs_Name.f
  rw [names_eq]
  simp only [Option.bind_some, names_len]
  rw [if_neg (by omega), if_neg (by omega), if_pos h0, if_pos (by omega)]
theorem name_out (c : Int) (h : c < 0 ∨ 41 < c) : emacs_Name.f c = some (⟨#[]⟩, 3) := by
  unfold emacs_Name.f
  rw [names_eq]
  simp only [Option.bind_some, names_len]
  by_cases h0 : c < 0
  · rw [if_pos h0]
  · rw [if_neg h0, if_pos (by omega)]
theorem nil_list : (⟨#[]⟩ : ByteArray).toList = [] := by decide +kernel
theorem tail_out (c : Int) (h : c < 0 ∨ 41 < c) : dactyllaw27_EmacsNames.j0 60 c ⟨#[]⟩ 3 = some true := by
  simp only [dactyllaw27_EmacsNames.j0, dactyllaw27_EmacsNames.j1, dactyllaw27_awake.f, Option.bind_some]
  by_cases h0 : c < 0
  · rw [if_pos h0, if_pos trivial, if_pos trivial, if_pos nil_list]; rfl
  · rw [if_neg h0, if_pos (by simp; omega), if_pos trivial, if_pos nil_list]; rfl
theorem tail_in (c : Int) (h0 : 0 ≤ c) (h1 : c < 42) : dactyllaw27_EmacsNames.j0 62 c (rdOf ByteArray.empty names c) 0 = some true := by
  have hb := names_back c.toNat (by omega)
  rw [show ((c.toNat : Nat) : Int) = c by omega] at hb
  simp only [dactyllaw27_EmacsNames.j0, dactyllaw27_EmacsNames.j1, dactyllaw27_awake.f, Option.bind_some, hb]
  rw [if_neg (by omega), if_neg (by simp; omega)]
  simp
theorem tail_any (c : Int) (p : ByteArray × Int) (h : emacs_Name.f c = some p) : dactyllaw27_EmacsNames.j0 62 c p.1 p.2 = some true := by
  by_cases hc : 0 ≤ c ∧ c < 42
  · rw [name_in c hc.1 hc.2] at h; cases h; exact tail_in c hc.1 hc.2
  · rw [name_out c (by omega)] at h; cases h
    exact (dactyllaw27_EmacsNames.mono_l 61).1 _ _ _ _ ((dactyllaw27_EmacsNames.mono_l 60).1 _ _ _ _ (tail_out c (by omega)))
theorem EmacsNames : dactyllaw27_EmacsNames.Pure := by
  intro c s hc hs
  refine ⟨62, ?_⟩
  unfold dactyllaw27_EmacsNames.f
  by_cases h100 : (s.size : Int) > 100
  · rw [if_pos h100]; rfl
  · rw [if_neg h100]
    obtain ⟨p, hp⟩ : ∃ p, emacs_Name.f c = some p := by
      by_cases h : 0 ≤ c ∧ c < 42
      · exact ⟨_, name_in c h.1 h.2⟩
      · exact ⟨_, name_out c (by omega)⟩
    obtain ⟨r, hr, hcase⟩ := parse_some s
    have hr' : emacs_Parse.f 62 s = some r := at_rounds (emacs_Parse.mono s) (by omega) hr
    rw [hp, hr']
    simp only [Option.bind_some]
    rcases hcase with rfl | ⟨h0, h1, h2, h3⟩
    · simp only
      rw [if_neg (by omega), if_pos trivial, if_pos trivial]
      exact tail_any c p hp
    · rw [if_pos h2, name_in r.1 h0 h1]
      simp only [Option.bind_some]
      rw [if_pos h3.symm]
      exact tail_any c p hp

end Go.Proofs.Ytkembaghhahnpab.Pure
