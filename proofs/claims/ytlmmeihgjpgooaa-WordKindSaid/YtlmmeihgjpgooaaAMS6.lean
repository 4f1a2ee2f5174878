/- The abstract machine's operations, more: cutting, appending, copying, texts. -/
import Derived.Test.YtlmmeihgjpgooaaAMS5
set_option linter.unusedSimpArgs false
set_option linter.unusedVariables false
namespace Go.Proofs.Ytlmmeihgjpgooaa.AM
open Go Go.RowKit
section
variable {P : Program} {w0 w : World} {μ : Map} {s : St}

def BoundIs (ov : Option Value) (d n : Nat) : Prop := (ov = none ∧ n = d) ∨ ∃ k, ov = some (.int k (n : Int))
theorem boundA_is {fr : List V} {a : Act} (h : FrRel μ fr a.tmps) {x : Option Operand} {d n : Nat} (e : boundA fr x d = some n) : BoundIs (x.map a.eval) d n := by
  cases x with
  | none => simp only [boundA, Option.some.injEq] at e; exact .inl ⟨rfl, e.symm⟩
  | some o =>
    simp only [boundA] at e
    split at e
    · rename_i k i hc
      split at e
      · cases e
        have := evalC_conc h hc
        simp only [Cell.conc, Option.some.injEq] at this
        refine .inr ⟨k, ?_⟩
        simp only [Option.map_some, ← this]
        congr 2; omega
      · cases e
    · cases e
theorem bounds_run (isS : Bool) {lo hi : Option Value} {len cap l h : Nat} (hlo : BoundIs lo 0 l) (hhi : BoundIs hi len h) (h1 : l ≤ h) (h2 : h ≤ cap) (w : World) : (Instr.sliceBounds isS len cap lo hi none).run P w = .ok (l, h, cap) w := by
  rcases hlo with ⟨rfl, rfl⟩ | ⟨k, rfl⟩ <;> rcases hhi with ⟨rfl, rfl⟩ | ⟨k', rfl⟩ <;>
    simp [Instr.sliceBounds, Instr.sliceBound, asIntOf, h1, h2]
theorem bounds3_run (isS : Bool) {lo : Option Value} {len cap l h m : Nat} {k k' : IntKind} (hlo : BoundIs lo 0 l) (h1 : l ≤ h) (h2 : h ≤ m) (h3 : m ≤ cap) (w : World) : (Instr.sliceBounds isS len cap lo (some (.int k (h : Int))) (some (.int k' (m : Int)))).run P w = .ok (l, h, m) w := by
  rcases hlo with ⟨rfl, rfl⟩ | ⟨k, rfl⟩ <;> simp [Instr.sliceBounds, Instr.sliceBound, asIntOf, h1, h2, h3]
/-- The bound of a third index: there is none, or both high and it are told. -/
def MaxIs (hi : Option Value) (h : Nat) (mv : Option Value) (mx : Option Nat) : Prop :=
  (mv = none ∧ mx = none) ∨ ∃ (k k' : IntKind) (m : Nat), hi = some (.int k (h : Int)) ∧ mv = some (.int k' (m : Int)) ∧ mx = some m
theorem capKnown_le (h : Rel w0 μ s w) {b off len n : Nat} {cap : Cap} {l : Loc} (hl : μ b = some l) (hk : capKnown s b off len n cap = true) : len ≤ capAt l cap := by
  cases cap with
  | fix c => simpa [capKnown, capAt] using hk
  | lim d =>
    simp only [capKnown] at hk
    split at hk
    · rename_i cells ty esz fam ver ho
      simp only [Bool.and_eq_true, decide_eq_true_eq] at hk
      obtain ⟨⟨⟨h1, h2⟩, h3⟩, h4⟩ := hk
      have hB := famlt h hl ho
      have hc := hB.hcap
      subst h1; subst h2
      have : (d + len) * esz ≤ l.cap * esz := by rw [Nat.add_mul]; omega
      have := Nat.le_of_mul_le_mul_right this h3
      simp only [capAt]; omega
    · cases hk
theorem xSlice_sim (h : Rel w0 μ s w) {t : TypeId} {c : Cell} {x : Value} (hc : c.conc μ = some x) {lo hi mv : Option Value} {l hh : Nat} {mx : Option Nat} {v : V} {s' : St}
    (hlo : BoundIs lo 0 l) (hhi : ∀ len, (lenA c = some len ∨ (∃ b off e, c = .ptr b off ∧ P.underlying t = some (.array len e))) → BoundIs hi len hh) (hmx : MaxIs hi hh mv mx) (hx : xSlice P s t c l hh mx = some (v, s')) (hstr : ∀ b, c ≠ .str b) :
    VRes w0 μ v s' ((Instr.sliceAt t x lo hi mv).run P w) := by
  unfold xSlice at hx
  split at hx
  · -- nil
    split at hx
    · rename_i hz
      obtain ⟨rfl, rfl, hm⟩ := hz
      simp only [Option.map_eq_some_iff, Prod.mk.injEq] at hx
      obtain ⟨n, hen, rfl, rfl⟩ := hx
      obtain ⟨e, he, hn⟩ := Option.bind_eq_some_iff.1 hen
      simp only [Cell.conc, Option.some.injEq] at hc
      subst hc
      have hb := hhi 0 (.inl rfl)
      refine ⟨μ, .slice none 0 0, w, Sub.refl _, rfl, h, ?_⟩
      rcases hmx with ⟨rfl, rfl⟩ | ⟨k, k', m, rfl, rfl, rfl⟩
      · have := bounds_run (P := P) true hlo hb (Nat.le_refl _) (Nat.le_refl _) w
        simp only [Instr.sliceAt, Sem.run_bind, run_underlying (elemT_spec he), Result.andThen_ok, Instr.slice, this, run_sizeOf' hn, Sem.run_pure]
        rfl
      · simp at hm; subst hm
        have := bounds3_run (P := P) true (len := 0) (cap := 0) (k := k) (k' := k') hlo (Nat.le_refl _) (Nat.le_refl _) (Nat.le_refl _) w
        simp only [Instr.sliceAt, Sem.run_bind, run_underlying (elemT_spec he), Result.andThen_ok, Instr.slice, this, run_sizeOf' hn, Sem.run_pure]
        rfl
    · cases hx
  · -- a slice
    rename_i b off len cap
    obtain ⟨L, hL, rfl⟩ := conc_sl hc
    have hb := hhi len (.inl rfl)
    split at hx
    · rename_i e he
      split at hx
      · rename_i n hn
        split at hx
        · rename_i hle
          split at hx
          · rename_i m
            split at hx
            · rename_i hm
              cases hx
              rcases hmx with ⟨_, q⟩ | ⟨k, k', m', rfl, rfl, q⟩
              · cases q
              · cases q
                have hcap := capKnown_le h hL hm.2.2
                have := bounds3_run (P := P) true (len := len) (cap := capAt L cap) (k := k) (k' := k') hlo hle.1 hm.1 (Nat.le_trans hm.2.1 hcap) w
                refine ⟨μ, .slice (some ⟨L.blk, L.sh + (if m = l then off else off + l * n), none⟩) (hh - l) (m - l), w, Sub.refl _, by simp [V.conc, V1.conc, Cell.conc, hL], h, ?_⟩
                simp only [Instr.sliceAt, Sem.run_bind, run_underlying (elemT_spec he), Result.andThen_ok, Instr.slice, this, run_sizeOf' hn, Sem.run_pure]
                congr 2
                split
                · rfl
                · simp [Addr.add_lit, Nat.add_assoc]
            · cases hx
          · have hmv : mv = none := by
              rcases hmx with ⟨q, _⟩ | ⟨k, k', m', _, _, q⟩
              · exact q
              · cases q
            subst hmv
            split at hx
            · rename_i c0
              split at hx
              · rename_i hcc
                cases hx
                have := bounds_run (P := P) true (cap := c0) hlo hb hle.1 hcc w
                refine ⟨μ, .slice (some ⟨L.blk, L.sh + (if c0 = l then off else off + l * n), none⟩) (hh - l) (c0 - l), w, Sub.refl _, by simp [V.conc, V1.conc, Cell.conc, hL], h, ?_⟩
                simp only [Instr.sliceAt, capAt, Sem.run_bind, run_underlying (elemT_spec he), Result.andThen_ok, Instr.slice, this, run_sizeOf' hn, Sem.run_pure]
                congr 2
                split
                · rfl
                · simp [Addr.add_lit, Nat.add_assoc]
              · cases hx
            · rename_i d
              split at hx
              · rename_i cells ty esz fam ver ho
                split at hx
                · rename_i hchk
                  have hcap : len ≤ L.cap - d := by
                    have := capKnown_le (w0 := w0) (w := w) (cap := .lim d) (off := off) (len := len) (n := n) h hL (by simp [capKnown, ho, hchk.1, hchk.2.1, hchk.2.2.1]; have := hchk.2.2.2; rw [← hchk.1]; exact this)
                    simpa [capAt] using this
                  have hbr := bounds_run (P := P) true (cap := L.cap - d) hlo hb hle.1 (by omega) w
                  split at hx
                  · rename_i hpos
                    cases hx
                    have hadr : (if L.cap - d = l then some (⟨L.blk, L.sh + off, none⟩ : Addr) else Option.map (fun y : Addr => y.add (l * n)) (some ⟨L.blk, L.sh + off, none⟩)) = some ⟨L.blk, L.sh + (off + l * n), none⟩ := by
                      split
                      · have : l = 0 := by omega
                        subst this; simp
                      · simp [Addr.add_lit, Nat.add_assoc]
                    refine ⟨μ, .slice (some ⟨L.blk, L.sh + (off + l * n), none⟩) (hh - l) (L.cap - (d + l)), w, Sub.refl _, by simp [V.conc, V1.conc, Cell.conc, hL], h, ?_⟩
                    simp only [Instr.sliceAt, capAt, Sem.run_bind, run_underlying (elemT_spec he), Result.andThen_ok, Instr.slice, hbr, run_sizeOf' hn, Sem.run_pure, hadr, Nat.sub_sub]
                  · rename_i hpos
                    split at hx
                    · rename_i hp
                      cases hx
                      have hll : l = len := by omega
                      have hhl : hh = l := by omega
                      subst hll; subst hhl
                      by_cases hce : L.cap - d = hh
                      · refine ⟨_, .slice (some ⟨L.blk, L.sh + off, none⟩) 0 0, w, sub_upd ⟨L.blk, L.sh + off, 0⟩ h.fresh, by simp [V.conc, V1.conc, Cell.conc, upd_self], h.empty hL ho hp ⟨L.blk, L.sh + off, 0⟩ rfl (by have := hchk.2.2.2; simp only; omega), ?_⟩
                        rw [hce] at hbr
                        simp only [Instr.sliceAt, capAt, hce, Sem.run_bind, run_underlying (elemT_spec he), Result.andThen_ok, Instr.slice, hbr, run_sizeOf' hn, Sem.run_pure, if_true, Nat.sub_self]
                      · refine ⟨_, .slice (some ⟨L.blk, L.sh + off + hh * n, none⟩) 0 (L.cap - d - hh), w, sub_upd ⟨L.blk, L.sh + off + hh * n, L.cap - d - hh⟩ h.fresh, by simp [V.conc, V1.conc, Cell.conc, upd_self], h.empty hL ho hp ⟨L.blk, L.sh + off + hh * n, L.cap - d - hh⟩ rfl (by have := hchk.2.2.2; simp only; omega), ?_⟩
                        simp only [Instr.sliceAt, capAt, Sem.run_bind, run_underlying (elemT_spec he), Result.andThen_ok, Instr.slice, hbr, run_sizeOf' hn, Sem.run_pure, hce, if_false, Nat.sub_self, Option.map_some, Addr.add_lit]
                    · cases hx
                · cases hx
              · cases hx
        · cases hx
      · cases hx
    · cases hx
  · -- an array behind a pointer
    rename_i b off
    obtain ⟨L, hL, rfl⟩ := conc_ptr hc
    split at hx
    · rename_i n e hu
      split at hx
      · rename_i m hm
        split at hx
        · rename_i hle
          cases hx
          obtain ⟨h1, h2, rfl⟩ := hle
          have hmv : mv = none := by
            rcases hmx with ⟨q, _⟩ | ⟨k, k', m', _, _, q⟩
            · exact q
            · cases q
          subst hmv
          have hb := hhi n (.inr ⟨b, off, e, rfl, hu⟩)
          have hbr := bounds_run (P := P) false (cap := n) hlo hb h1 h2 w
          refine ⟨μ, .slice (some ⟨L.blk, L.sh + (if n = l then off else off + l * m), none⟩) (hh - l) (n - l), w, Sub.refl _, by simp [V.conc, V1.conc, Cell.conc, hL], h, ?_⟩
          simp only [Instr.sliceAt, Sem.run_bind, run_underlying hu, Result.andThen_ok, Instr.sureAddr, Sem.run_pure, hbr, run_sizeOf' hm]
          congr 3
          split
          · rfl
          · simp [Addr.add_lit, Nat.add_assoc]
        · cases hx
      · cases hx
    · cases hx
  · cases hx
end
end Go.Proofs.Ytlmmeihgjpgooaa.AM
