/- What the abstract machine is told, with the facts. -/
import Derived.Test.YtkembaghhahnpabGF0
import Derived.Test.YtkembaghhahnpabGF1
import Derived.Test.YtkembaghhahnpabGF2
import Derived.Test.YtkembaghhahnpabGF3
import Derived.Test.YtkembaghhahnpabGF4
import Derived.Test.YtkembaghhahnpabGF5
namespace Go.Proofs.Ytkembaghhahnpab.P
def fx_spec : AM.Spec := AM.withFacts 77 ((((((((((fx0 ++ fx1) ++ fx2) ++ fx3) ++ fx4) ++ fx5) ++ fx6) ++ fx7) ++ fx8) ++ fx9) ++ fx10) am_spec
theorem fx_spec_ok : AM.SpecOK Try.prog fx_spec := AM.withFacts_ok am_mixed am_spec_ok am_names (AM.factsOK_append (AM.factsOK_append (AM.factsOK_append (AM.factsOK_append (AM.factsOK_append (AM.factsOK_append (AM.factsOK_append (AM.factsOK_append (AM.factsOK_append (AM.factsOK_append fx0_ok fx1_ok) fx2_ok) fx3_ok) fx4_ok) fx5_ok) fx6_ok) fx7_ok) fx8_ok) fx9_ok) fx10_ok)
end Go.Proofs.Ytkembaghhahnpab.P
