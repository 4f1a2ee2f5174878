/- The bytes of one value, over the abstract machine. -/
import Derived.Test.YtigkfladgdknbaaAX
import Derived.Test.YtigkfladgdknbaaBrights
import Derived.Lib.RuneBytes
set_option linter.unusedVariables false
set_option linter.unusedSimpArgs false
set_option maxRecDepth 10000
set_option maxHeartbeats 4000000
namespace Go.Proofs.Ytigkfladgdknbaa.AM.B
open Go Go.RowKit
section
variable {P : Program} {X : Spec} {q : Bool} {d : Option Nat} {ty : Nat} {pos : String} {af : Array Edge} {g : Option (Nat × Bool)} {e : Env} {H : Hyp} {K : V → Hyp → Prop}
theorem op_shr {t ty' : Nat} {x y : Operand} {k yk : IntKind} {a b c : Int} (hx : evE e x = some (.one (.c (.int k a)))) (hy : evE e y = some (.one (.c (.int yk b)))) (h0 : 0 ≤ b) (h1 : b ≤ k.bits) (hc : a / 2 ^ b.toNat = c)
    (h : K (.one (.c (.int k c))) H) : OpW P X q ⟨d, .binOp .shr t x y ty', ty, pos, af, g⟩ e H K :=
  op_bin hx hy rfl rfl rfl (eqGuard_plain (a := .int k a) (b := .int yk b) rfl rfl) (v := .int k c) (by rw [Go.binOp_shr, Go.shift_shr k yk a b h0 h1, hc]; rfl) rfl h
theorem op_band {t ty' : Nat} {x y : Operand} {k : IntKind} {a b c : Int} (hx : evE e x = some (.one (.c (.int k a)))) (hy : evE e y = some (.one (.c (.int k b)))) (hc : bits .and k a b = c)
    (h : K (.one (.c (.int k c))) H) : OpW P X q ⟨d, .binOp .and t x y ty', ty, pos, af, g⟩ e H K :=
  op_int hx hy (v := .int k c) (by rw [Go.binOp_and, Go.intBits_and, hc]; rfl) rfl h
end
end Go.Proofs.Ytigkfladgdknbaa.AM.B
