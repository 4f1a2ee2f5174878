/- What key's functions that read a name answer: some key. -/
import Derived.Test.YteghmemcikiblaaAX
import Derived.Test.YteghmemcikiblaaBkey
import Derived.Test.YteghmemcikiblaaBstrs
set_option linter.unusedVariables false
set_option linter.unusedSimpArgs false
set_option maxRecDepth 10000
set_option maxHeartbeats 4000000
namespace Go.Proofs.Yteghmemcikiblaa.AM.B
open Go Go.RowKit
def guessP (s : ByteArray) (n : NamedS) : Bool := decide (n.f2 = s)
theorem guess1_w {H : Hyp} {K : V → Hyp → Prop} {s : ByteArray} {n : NamedS} {b : Nat} (hb : El H b 0 [.str s]) (k : K (vB (guessP s n)) H) : CallW Try.prog Xs 33 [.one (.agg (encN n)), ptrV b 0] H K := by
  refine call_of (n := 8) (fun _ => rfl) Try.func33 rfl rfl ?_
  refine w_seq ?_
  refine w_region ?_
  refine w_o rfl rfl rfl (op_box rfl fun b2 => ?_)
  refine w_o rfl rfl rfl (op_assign rfl ?_)
  refine w_end ?_
  refine seq_normal ?_
  refine w_seq ?_
  refine w_region ?_
  refine w_o rfl rfl rfl (op_fieldAddr fa_40_2 rfl ?_)
  refine w_o rfl rfl rfl (op_loadF agg_9 rfl el_ rfl ?_)
  refine w_o rfl rfl rfl (op_load1 agg_9 rfl el_ ?_)
  refine w_o rfl rfl rfl (op_streq rfl rfl ?_)
  refine w_o rfl rfl rfl (op_assign rfl ?_)
  refine w_end ?_
  refine seq_normal ?_
  refine w_ret ?_
  exact ret_ret rfl sel_ k
end Go.Proofs.Yteghmemcikiblaa.AM.B
