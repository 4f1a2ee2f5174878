/- What key.Parse answers on some names: closed runs. -/
import Derived.Test.YtkembaghhahnpabGAm
namespace Go.Proofs.Ytkembaghhahnpab.P
set_option maxRecDepth 1000000
def fx10 : AM.FactTab := [([68, 69, 76, 69, 84, 69], .tuple #[.agg #[.int .i64 13, .int .i64 0, .string ⟨#[]⟩, .bool false], .int .i64 0]), ([80, 71, 85, 80], .tuple #[.agg #[.int .i64 14, .int .i64 0, .string ⟨#[]⟩, .bool false], .int .i64 0]), ([80, 71, 68, 78], .tuple #[.agg #[.int .i64 14, .int .i64 1, .string ⟨#[]⟩, .bool false], .int .i64 0])]
theorem fx10_ok : AM.factsOK Try.prog am_spec 100000 77 fx10 = true := by decide +kernel
end Go.Proofs.Ytkembaghhahnpab.P
