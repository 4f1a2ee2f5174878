/- The abstract machine's operations, more: appending, copying, texts. -/
import Derived.Test.YtlmmeihgjpgooaaAMS6
set_option linter.unusedSimpArgs false
set_option linter.unusedVariables false
namespace Go.Proofs.Ytlmmeihgjpgooaa.AM
open Go Go.RowKit
section
variable {P : Program} {w0 w : World} {μ : Map} {s : St}

/-- What is appended, in worlds with the cells of this one. -/
def AppArg (P : Program) (w : World) (ats : Array TypeId) (e : TypeId) (i : TypeInfo) (z y : Value) (n : Nat) (nv : Array Value) : Prop :=
  ∃ u du, ats[1]? = some u ∧ P.underlying u = some du ∧
    ((((∃ e', du = .slice e') ∨ du = .string) ∧ (Builtin.lenOf y).run P w = .ok n w ∧ (∀ w' : World, w'.heap = w.heap → (Builtin.firstCells i.size n y).run P w' = .ok nv w')) ∨
     ((∃ k, du = .int k) ∧ y = .int .i64 (n : Int) ∧ n ≤ 16777216 ∧ n * i.bytes ≤ 16777216 ∧ nv = Builtin.zeroCells z.cells n ∧ 0 < i.size))
theorem zeroCells_zero (z : Array Value) : Builtin.zeroCells z 0 = #[] := by simp [Builtin.zeroCells, Array.range_zero']
theorem zeroCells_empty (z : Array Value) (n : Nat) (h : n * z.size = 0) : Builtin.zeroCells z n = #[] := by simp [Builtin.zeroCells, h, Array.range_zero']
set_option maxRecDepth 20000 in
theorem append_room {ats : Array TypeId} {t0 e ty : TypeId} {i : TypeInfo} {z y : Value} {n : Nat} {nv : Array Value} (h0 : ats[0]? = some t0) (ht : P.underlying t0 = some (.slice e)) (hi : P.info? e = some i) (hz : i.zero = some z)
    (ha : AppArg P w ats e i z y n nv) (base : Option Addr) (l c : Nat) (hroom : l + n ≤ c) :
    (Builtin.append_ ats ty #[.slice base l c, y]).run P w = match base with
      | some a => ((storeCells (a.add (l * i.size)) nv.toList).run P w).andThen fun _ w => .ok (.slice base (l + n) c) w
      | none => .ok (.slice base (l + n) c) w := by
  obtain ⟨u, du, hu, hdu, ⟨hne, hlen, hf⟩ | ⟨⟨k, rfl⟩, rfl, hn1, hn2, rfl, hzs⟩⟩ := ha
  · have hf' := hf w rfl
    clear hf
    rcases hne with ⟨e', rfl⟩ | rfl
    · cases base
      · (simp only [Builtin.append_, h0, hu]; simp [run_underlying ht, run_underlying hdu, sizeOf, typeInfo, hi, hlen, hroom, hf']; done)
      · (simp only [Builtin.append_, h0, hu]; simp [run_underlying ht, run_underlying hdu, sizeOf, typeInfo, hi, hlen, hroom, hf']; done)
    · cases base
      · (simp only [Builtin.append_, h0, hu]; simp [run_underlying ht, run_underlying hdu, sizeOf, typeInfo, hi, hlen, hroom, hf']; done)
      · (simp only [Builtin.append_, h0, hu]; simp [run_underlying ht, run_underlying hdu, sizeOf, typeInfo, hi, hlen, hroom, hf']; done)
  · have hw : IntKind.i64.wrap ((n : Nat) : Int) = n := IntWalk.i64_in _ (by omega)
    have h2 : ¬ (281474976710656 < ((n : Nat) : Int) * (i.bytes : Int)) := by
      have h3 : ((n : Nat) : Int) * (i.bytes : Int) ≤ 16777216 := by rw [← Int.natCast_mul]; omega
      omega
    have h1 : ¬ ((n : Int) < 0) := by omega
    have hs0 : ¬ i.size = 0 := by omega
    have hw0 : IntKind.i64.wrap 0 = 0 := IntWalk.i64_in _ (by omega)
    by_cases hn0 : n = 0
    · subst hn0
      have hroom' : l ≤ c := by omega
      cases base <;> simp [Builtin.append_, hroom', h0, hu, run_underlying ht, run_underlying hdu, sizeOf, typeInfo, hi, asInt, asIntOf, hw0, hroom, zeroCells_zero]
    · have hns : ¬ n * i.size = 0 := by have := Nat.mul_pos (show 0 < n by omega) hzs; omega
      cases base <;> simp [Builtin.append_, h0, hu, run_underlying ht, run_underlying hdu, sizeOf, typeInfo, hi, asInt, asIntOf, hw, h1, h2, hroom, hns, zeroValue, hz]
set_option maxRecDepth 20000 in
theorem append_grow {ats : Array TypeId} {t0 e ty : TypeId} {i : TypeInfo} {z y : Value} {n : Nat} {nv : Array Value} (h0 : ats[0]? = some t0) (ht : P.underlying t0 = some (.slice e)) (hi : P.info? e = some i) (hz : i.zero = some z)
    (ha : AppArg P w ats e i z y n nv) (base : Option Addr) (l c : Nat) (hroom : c < l + n) (hfit : (l + n) * i.bytes ≤ 16777216) (hb : 0 < i.bytes)
    {ov : Array Value} (ho : ∀ w' : World, w'.heap = w.heap → (Builtin.firstCells i.size l (.slice base l c)).run P w' = .ok ov w') :
    (Builtin.append_ ats ty #[.slice base l c, y]).run P w =
      .ok (.slice (some ⟨w.heap.size, 0, none⟩) (l + n) (grownCap w (l + n) c e)) (w.drew.alloc (.cells (ov ++ nv ++ Builtin.zeroCells z.cells (grownCap w (l + n) c e - (l + n))) e)) := by
  have hsm : l + n ≤ 16777216 := Nat.le_trans (Nat.le_mul_of_pos_right _ hb) hfit
  have hnot : ¬ (l + n ≤ c) := by omega
  have h63 : ¬ (9223372036854775807 < ((l : Int) + (n : Int))) := by omega
  have h48 : ¬ (281474976710656 < Builtin.nextslicecap (l + n) c * i.bytes) := by have := growslice_fits (bytes := i.bytes) hroom (by omega); omega
  obtain ⟨u, du, hu, hdu, ⟨hne, hlen, hf⟩ | ⟨⟨k, rfl⟩, rfl, hn1, hn2, rfl, hzs⟩⟩ := ha
  · have hf' := hf w.drew rfl
    have ho' := ho w.drew rfl
    clear hf ho
    rcases hne with ⟨e', rfl⟩ | rfl
    · (simp only [Builtin.append_, h0, hu]; simp [run_underlying ht, run_underlying hdu, sizeOf, typeInfo, hi, hlen, hnot, h63, h48, Question.forced, hf', ho', zeroValue, hz, newRow, grownCap]; done)
    · (simp only [Builtin.append_, h0, hu]; simp [run_underlying ht, run_underlying hdu, sizeOf, typeInfo, hi, hlen, hnot, h63, h48, Question.forced, hf', ho', zeroValue, hz, newRow, grownCap]; done)
  · have hw : IntKind.i64.wrap ((n : Nat) : Int) = n := IntWalk.i64_in _ (by omega)
    have h2 : ¬ (281474976710656 < ((n : Nat) : Int) * (i.bytes : Int)) := by
      have h3 : ((n : Nat) : Int) * (i.bytes : Int) ≤ 16777216 := by rw [← Int.natCast_mul]; omega
      omega
    have h1 : ¬ ((n : Int) < 0) := by omega
    have hs0 : ¬ i.size = 0 := by omega
    have hw0 : IntKind.i64.wrap 0 = 0 := IntWalk.i64_in _ (by omega)
    by_cases hn0 : n = 0
    · subst hn0
      have hnot' : ¬ l ≤ c := by omega
      have hnot2 : c < l := by omega
      have h63' : ¬ (9223372036854775807 < (l : Int)) := by omega
      have h48' : ¬ (281474976710656 < Builtin.nextslicecap l c * i.bytes) := by simpa using h48
      simp [Builtin.append_, hnot', hnot2, h63', h48', h0, hu, run_underlying ht, run_underlying hdu, sizeOf, typeInfo, hi, asInt, asIntOf, hw0, hnot, h63, h48, Question.forced, ho w.drew rfl, zeroValue, hz, newRow, grownCap, zeroCells_zero]
    · have hns : ¬ n * i.size = 0 := by have := Nat.mul_pos (show 0 < n by omega) hzs; omega
      simp [Builtin.append_, h0, hu, run_underlying ht, run_underlying hdu, sizeOf, typeInfo, hi, asInt, asIntOf, hw, h1, h2, hnot, h63, h48, Question.forced, hns, ho w.drew rfl, zeroValue, hz, newRow, grownCap]
/-- The cells of a slice, or a text, as the model reads them. -/
theorem elems_sim (h : Rel w0 μ s w) {c : Cell} {y : Value} (hc : c.conc μ = some y) {size n : Nat} {k : Option Nat} (hn : lenA c = some n) (hk : k.getD n ≤ n) {cs : List Cell} (he : elemsA s size k c = some cs) :
    (Builtin.lenOf y).run P w = .ok n w ∧ ∃ vs, concs μ cs = some vs ∧ ∀ w' : World, w'.heap = w.heap → (Builtin.firstCells size (k.getD n) y).run P w' = .ok vs.toArray w' := by
  cases c with
  | nils =>
    simp only [lenA, Option.some.injEq] at hn; subst hn
    simp only [Cell.conc, Option.some.injEq] at hc; subst hc
    simp only [elemsA, Option.some.injEq] at he; subst he
    exact ⟨rfl, [], rfl, fun w' _ => rfl⟩
  | sl b off len cap =>
    simp only [lenA, Option.some.injEq] at hn; subst hn
    obtain ⟨l, hl, rfl⟩ := conc_sl hc
    simp only [elemsA] at he
    obtain ⟨vs, q1, q2, q3⟩ := h.read he hl
    refine ⟨rfl, vs, q1, fun w' hw => ?_⟩
    have := run_loadCells_list (P := P) w' ⟨l.blk, l.sh + off, none⟩ vs (fun j v hj => by
      have := q3 j v hj
      simpa [World.cell?, hw] using this)
    rw [q2] at this
    simp [Builtin.firstCells, this]
  | str t =>
    simp only [lenA, Option.some.injEq] at hn; subst hn
    simp only [Cell.conc, Option.some.injEq] at hc; subst hc
    simp only [elemsA, Option.some.injEq] at he; subst he
    refine ⟨rfl, ((t.extract 0 (k.getD t.size)).data.toList).map (fun b => Value.int .u8 b.toNat), ?_, fun w' _ => ?_⟩
    · generalize (t.extract 0 (k.getD t.size)).data.toList = l
      induction l with
      | nil => rfl
      | cons a l ih => exact concs_cons.2 ⟨_, _, rfl, ih, rfl⟩
    · simp only [Builtin.firstCells, Sem.run_pure]
      congr 1
      apply Array.ext'
      simp
  | _ => simp [lenA] at hn
end
end Go.Proofs.Ytlmmeihgjpgooaa.AM
