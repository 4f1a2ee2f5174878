/- What the abstract machine asks of this seat's program. -/
import Derived.Test.YtigkfladgdknbaaProg
import Derived.Test.YtigkfladgdknbaaAMS
import Derived.Laws.Externs
namespace Go.Proofs.Ytigkfladgdknbaa.P
set_option maxRecDepth 1000000
theorem am_names : AM.PlainNames Try.prog := AM.plainNames_of (by decide +kernel)
theorem am_mixed : Try.prog.follows .mixedOrders = true := by decide +kernel
theorem am_idx (s : ByteArray) (c : Int) (w : World) : (callFunc 79 #[.string s, .int .u8 c]).run Try.prog w = .ok (.value (.int .i64 (firstIdx s c.toNat.toUInt8))) w := by
  rw [run_callFunc_extern (fn := Try.f79) Try.func79 (by kernel_rfl) rfl (by kernel_rfl) (e := Extern.BytealgIndexByte.indexByte) (by kernel_rfl), run_indexByte_string]
  rfl
def am_spec : AM.Spec := fun f vals => if f = 79 then match vals with
  | [.string s, .int .u8 c] => some (.int .i64 (firstIdx s c.toNat.toUInt8))
  | _ => none else none
theorem am_spec_ok : AM.SpecOK Try.prog am_spec := by
  intro f vals r h
  unfold am_spec at h
  split at h
  · rename_i e; subst e
    split at h
    · cases h; exact .inr fun w => am_idx _ _ w
    · cases h
  · cases h
end Go.Proofs.Ytigkfladgdknbaa.P
