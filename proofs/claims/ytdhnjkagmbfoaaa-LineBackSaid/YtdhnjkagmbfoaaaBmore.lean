/- More rules: min, max, a value of an array. -/
import Derived.Test.YtdhnjkagmbfoaaaAX
import Derived.Test.YtdhnjkagmbfoaaaP0
set_option linter.unusedVariables false
set_option linter.unusedSimpArgs false
set_option maxRecDepth 10000
set_option maxHeartbeats 4000000
namespace Go.Proofs.Ytdhnjkagmbfoaaa.AM.B
open Go Go.RowKit
section
variable {P : Program} {X : Spec} {q : Bool} {d : Option Nat} {ty : Nat} {pos : String} {af : Array Edge} {g : Option (Nat × Bool)} {e : Env} {H : Hyp} {K : V → Hyp → Prop}
theorem op_min {x y : Operand} {a b : Int} {ats : List TypeId} (hx : evE e x = some (vI a)) (hy : evE e y = some (vI b)) (k : K (vI (min a b)) H) : OpW P X q ⟨d, .call ⟨.builtin .min, ⟨[x, y]⟩, ⟨ats⟩⟩, ty, pos, af, g⟩ e H K := by
  intro fr s h1 h2
  refine ⟨0, _, s, H, ?_, h2, k, fun _ _ => rfl⟩
  have sa := scalar_of h1 hx (v := .int .i64 a) rfl
  have sb := scalar_of h1 hy (v := .int .i64 b) rfl
  simp only [opRun]
  unfold pureOp
  have hm : min a b = if b < a then b else a := by simp only [Int.min_def]; split <;> split <;> omega
  have ho : (Op.call ⟨.builtin .min, ⟨[x, y]⟩, ⟨ats⟩⟩).operands.toList = [x, y] := rfl
  rw [if_pos (by rw [ho]; simp [sa, sb])]
  have : pure? P (execOp (fun x => (scalarOf fr x).getD undef) ⟨d, .call ⟨.builtin .min, ⟨[x, y]⟩, ⟨ats⟩⟩, ty, pos, af, g⟩) = some (.value (.int .i64 (min a b))) := by
    have hr : resolve (fun x => (scalarOf fr x).getD undef) ⟨.builtin .min, ⟨[x, y]⟩, ⟨ats⟩⟩ ty = Pure.pure { target := .builtin .min ⟨ats⟩ ty ((⟨[x, y]⟩ : Array Operand).map fun | .const _ => true | _ => false), args := #[.int .i64 a, .int .i64 b] } := by
      simp [resolve, sa, sb]; rfl
    show pure? P (resolve _ _ _ >>= fun d => invoke d.target d.args) = _
    rw [hr, hm]; rfl
  rw [this]; rfl
theorem op_max {x y : Operand} {a b : Int} {ats : List TypeId} (hx : evE e x = some (vI a)) (hy : evE e y = some (vI b)) (k : K (vI (max a b)) H) : OpW P X q ⟨d, .call ⟨.builtin .max, ⟨[x, y]⟩, ⟨ats⟩⟩, ty, pos, af, g⟩ e H K := by
  intro fr s h1 h2
  refine ⟨0, _, s, H, ?_, h2, k, fun _ _ => rfl⟩
  have sa := scalar_of h1 hx (v := .int .i64 a) rfl
  have sb := scalar_of h1 hy (v := .int .i64 b) rfl
  simp only [opRun]
  unfold pureOp
  have hm : max a b = if b > a then b else a := by simp only [Int.max_def]; split <;> split <;> omega
  have ho : (Op.call ⟨.builtin .max, ⟨[x, y]⟩, ⟨ats⟩⟩).operands.toList = [x, y] := rfl
  rw [if_pos (by rw [ho]; simp [sa, sb])]
  have : pure? P (execOp (fun x => (scalarOf fr x).getD undef) ⟨d, .call ⟨.builtin .max, ⟨[x, y]⟩, ⟨ats⟩⟩, ty, pos, af, g⟩) = some (.value (.int .i64 (max a b))) := by
    have hr : resolve (fun x => (scalarOf fr x).getD undef) ⟨.builtin .max, ⟨[x, y]⟩, ⟨ats⟩⟩ ty = Pure.pure { target := .builtin .max ⟨ats⟩ ty ((⟨[x, y]⟩ : Array Operand).map fun | .const _ => true | _ => false), args := #[.int .i64 a, .int .i64 b] } := by
      simp [resolve, sa, sb]; rfl
    show pure? P (resolve _ _ _ >>= fun d => invoke d.target d.args) = _
    rw [hr, hm]; rfl
  rw [this]; rfl
end
end Go.Proofs.Ytdhnjkagmbfoaaa.AM.B
