/- What key.Parse answers on some names: closed runs. -/
import Derived.Test.YtkembaghhahnpabGAm
namespace Go.Proofs.Ytkembaghhahnpab.P
set_option maxRecDepth 1000000
def fx6 : AM.FactTab := [([77, 45, 108], .tuple #[.agg #[.int .i64 3, .int .i64 108, .string ⟨#[]⟩, .bool false], .int .i64 0]), ([77, 45, 99], .tuple #[.agg #[.int .i64 3, .int .i64 99, .string ⟨#[]⟩, .bool false], .int .i64 0]), ([77, 45, 60, 51, 67, 62], .tuple #[.agg #[.int .i64 3, .int .i64 60, .string ⟨#[]⟩, .bool false], .int .i64 0]), ([77, 45, 62], .tuple #[.agg #[.int .i64 3, .int .i64 62, .string ⟨#[]⟩, .bool false], .int .i64 0]), ([77, 45, 112], .tuple #[.agg #[.int .i64 3, .int .i64 112, .string ⟨#[]⟩, .bool false], .int .i64 0])]
theorem fx6_ok : AM.factsOK Try.prog am_spec 100000 77 fx6 = true := by decide +kernel
def fx7 : AM.FactTab := [([77, 45, 119], .tuple #[.agg #[.int .i64 3, .int .i64 119, .string ⟨#[]⟩, .bool false], .int .i64 0]), ([77, 45, 107], .tuple #[.agg #[.int .i64 3, .int .i64 107, .string ⟨#[]⟩, .bool false], .int .i64 0]), ([77, 45, 120], .tuple #[.agg #[.int .i64 3, .int .i64 120, .string ⟨#[]⟩, .bool false], .int .i64 0]), ([77, 45, 114], .tuple #[.agg #[.int .i64 3, .int .i64 114, .string ⟨#[]⟩, .bool false], .int .i64 0]), ([77, 45, 97], .tuple #[.agg #[.int .i64 3, .int .i64 97, .string ⟨#[]⟩, .bool false], .int .i64 0])]
theorem fx7_ok : AM.factsOK Try.prog am_spec 100000 77 fx7 = true := by decide +kernel
end Go.Proofs.Ytkembaghhahnpab.P
