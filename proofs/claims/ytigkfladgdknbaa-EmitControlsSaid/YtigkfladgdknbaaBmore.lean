/- More rules: min, max, a value of an array. -/
import Derived.Test.YtigkfladgdknbaaAX
import Derived.Test.YtigkfladgdknbaaP0
set_option linter.unusedVariables false
set_option linter.unusedSimpArgs false
set_option maxRecDepth 10000
set_option maxHeartbeats 4000000
namespace Go.Proofs.Ytigkfladgdknbaa.AM.B
open Go Go.RowKit
section
variable {P : Program} {X : Spec} {q : Bool} {d : Option Nat} {ty : Nat} {pos : String} {af : Array Edge} {g : Option (Nat × Bool)} {e : Env} {H : Hyp} {K : V → Hyp → Prop}
theorem op_min {x y : Operand} {a b : Int} {ats : List TypeId} (hx : evE e x = some (vI a)) (hy : evE e y = some (vI b)) (k : K (vI (min a b)) H) : OpW P X q ⟨d, .call ⟨.builtin .min, ⟨[x, y]⟩, ⟨ats⟩⟩, ty, pos, af, g⟩ e H K := by
  intro fr s h1 h2
  refine ⟨0, _, s, H, ?_, h2, k, fun _ _ => rfl⟩
  have sa := scalar_of h1 hx (v := .int .i64 a) rfl
  have sb := scalar_of h1 hy (v := .int .i64 b) rfl
  simp only [opRun]
  unfold pureOp
  have hm : min a b = if b < a then b else a := by simp only [Int.min_def]; split <;> split <;> omega
  have ho : (Op.call ⟨.builtin .min, ⟨[x, y]⟩, ⟨ats⟩⟩).operands.toList = [x, y] := rfl
  rw [if_pos (by rw [ho]; simp [sa, sb])]
  have : pure? P (execOp (fun x => (scalarOf fr x).getD undef) ⟨d, .call ⟨.builtin .min, ⟨[x, y]⟩, ⟨ats⟩⟩, ty, pos, af, g⟩) = some (.value (.int .i64 (min a b))) := by
    have hr : resolve (fun x => (scalarOf fr x).getD undef) ⟨.builtin .min, ⟨[x, y]⟩, ⟨ats⟩⟩ ty = Pure.pure { target := .builtin .min ⟨ats⟩ ty ((⟨[x, y]⟩ : Array Operand).map fun | .const _ => true | _ => false), args := #[.int .i64 a, .int .i64 b] } := by
      simp [resolve, sa, sb]; rfl
    show pure? P (resolve _ _ _ >>= fun d => invoke d.target d.args) = _
    rw [hr, hm]; rfl
  rw [this]; rfl
theorem op_max {x y : Operand} {a b : Int} {ats : List TypeId} (hx : evE e x = some (vI a)) (hy : evE e y = some (vI b)) (k : K (vI (max a b)) H) : OpW P X q ⟨d, .call ⟨.builtin .max, ⟨[x, y]⟩, ⟨ats⟩⟩, ty, pos, af, g⟩ e H K := by
  intro fr s h1 h2
  refine ⟨0, _, s, H, ?_, h2, k, fun _ _ => rfl⟩
  have sa := scalar_of h1 hx (v := .int .i64 a) rfl
  have sb := scalar_of h1 hy (v := .int .i64 b) rfl
  simp only [opRun]
  unfold pureOp
  have hm : max a b = if b > a then b else a := by simp only [Int.max_def]; split <;> split <;> omega
  have ho : (Op.call ⟨.builtin .max, ⟨[x, y]⟩, ⟨ats⟩⟩).operands.toList = [x, y] := rfl
  rw [if_pos (by rw [ho]; simp [sa, sb])]
  have : pure? P (execOp (fun x => (scalarOf fr x).getD undef) ⟨d, .call ⟨.builtin .max, ⟨[x, y]⟩, ⟨ats⟩⟩, ty, pos, af, g⟩) = some (.value (.int .i64 (max a b))) := by
    have hr : resolve (fun x => (scalarOf fr x).getD undef) ⟨.builtin .max, ⟨[x, y]⟩, ⟨ats⟩⟩ ty = Pure.pure { target := .builtin .max ⟨ats⟩ ty ((⟨[x, y]⟩ : Array Operand).map fun | .const _ => true | _ => false), args := #[.int .i64 a, .int .i64 b] } := by
      simp [resolve, sa, sb]; rfl
    show pure? P (resolve _ _ _ >>= fun d => invoke d.target d.args) = _
    rw [hr, hm]; rfl
  rw [this]; rfl
/-- A value of an array of single cells. -/
theorem op_indexA {t te m : Nat} {x y : Operand} {cs : List Cell} {vs : List Value} {k0 : IntKind} {i : Int} {v : Value} {c : Cell} (hu : P.underlying t = some (.array m te)) (ha : aggT P te = some false) (hz : pure? P (sizeOf te) = some 1) (hx : evE e x = some (.one (.agg cs))) (hy : evE e y = some (.one (.c (.int k0 i)))) (hc : concs nowhere cs = some vs)
    (h1 : 0 ≤ i) (h2 : i < m) (hv : vs[i.toNat]? = some v) (hr : ofV v = some (.one (.c c))) (h : K (.one (.c c)) H) : OpW P X q ⟨d, .index t x y, ty, pos, af, g⟩ e H K := by
  intro fr s q1 q2
  refine ⟨0, _, s, H, ?_, q2, h, fun _ _ => rfl⟩
  have sa := scalar_of q1 hx (v := .agg vs.toArray) (by show (concs nowhere cs).map _ = _; rw [hc]; rfl)
  have sb := scalar_of q1 hy (v := .int k0 i) rfl
  simp only [opRun]
  unfold pureOp
  rw [if_pos (by simp [Op.operands, sa, sb])]
  have : pure? P (execOp (fun x => (scalarOf fr x).getD undef) ⟨d, .index t x y, ty, pos, af, g⟩) = some (.value v) := by
    simp only [execOp, sa, sb, Option.getD_some, pure?_bind', Instr.index, asIntOf, pure?_und hu, Option.bind_some, pure?_pure]
    rw [if_pos ⟨h1, h2⟩]
    simp only [pure?_bind', hz, Option.bind_some, Nat.mul_one]
    rw [pure?_part ha (by rw [List.getElem?_toArray]; exact hv)]; rfl
  rw [this]; simp only [hr]; rfl
end
end Go.Proofs.Ytigkfladgdknbaa.AM.B
