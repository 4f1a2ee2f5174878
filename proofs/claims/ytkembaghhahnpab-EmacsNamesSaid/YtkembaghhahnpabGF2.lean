/- What key.Parse answers on some names: closed runs. -/
import Derived.Test.YtkembaghhahnpabGAm
namespace Go.Proofs.Ytkembaghhahnpab.P
set_option maxRecDepth 1000000
def fx4 : AM.FactTab := [([67, 45, 64], .tuple #[.agg #[.int .i64 2, .int .i64 0, .string ⟨#[]⟩, .bool false], .int .i64 0]), ([67, 45, 95], .tuple #[.agg #[.int .i64 2, .int .i64 31, .string ⟨#[]⟩, .bool false], .int .i64 0]), ([77, 45, 102], .tuple #[.agg #[.int .i64 3, .int .i64 102, .string ⟨#[]⟩, .bool false], .int .i64 0]), ([77, 45, 98], .tuple #[.agg #[.int .i64 3, .int .i64 98, .string ⟨#[]⟩, .bool false], .int .i64 0]), ([77, 45, 100], .tuple #[.agg #[.int .i64 3, .int .i64 100, .string ⟨#[]⟩, .bool false], .int .i64 0])]
theorem fx4_ok : AM.factsOK Try.prog am_spec 100000 77 fx4 = true := by decide +kernel
def fx5 : AM.FactTab := [([77, 45, 60, 55, 70, 62], .tuple #[.agg #[.int .i64 3, .int .i64 127, .string ⟨#[]⟩, .bool false], .int .i64 0]), ([77, 45, 67, 45, 104], .tuple #[.agg #[.int .i64 3, .int .i64 8, .string ⟨#[]⟩, .bool false], .int .i64 0]), ([77, 45, 121], .tuple #[.agg #[.int .i64 3, .int .i64 121, .string ⟨#[]⟩, .bool false], .int .i64 0]), ([77, 45, 116], .tuple #[.agg #[.int .i64 3, .int .i64 116, .string ⟨#[]⟩, .bool false], .int .i64 0]), ([77, 45, 117], .tuple #[.agg #[.int .i64 3, .int .i64 117, .string ⟨#[]⟩, .bool false], .int .i64 0])]
theorem fx5_ok : AM.factsOK Try.prog am_spec 100000 77 fx5 = true := by decide +kernel
end Go.Proofs.Ytkembaghhahnpab.P
