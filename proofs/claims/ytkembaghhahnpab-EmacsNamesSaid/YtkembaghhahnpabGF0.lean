/- What key.Parse answers on some names: closed runs. -/
import Derived.Test.YtkembaghhahnpabGAm
namespace Go.Proofs.Ytkembaghhahnpab.P
set_option maxRecDepth 1000000
def fx0 : AM.FactTab := [([67, 45, 97], .tuple #[.agg #[.int .i64 2, .int .i64 1, .string ⟨#[]⟩, .bool false], .int .i64 0]), ([67, 45, 98], .tuple #[.agg #[.int .i64 2, .int .i64 2, .string ⟨#[]⟩, .bool false], .int .i64 0]), ([67, 45, 99], .tuple #[.agg #[.int .i64 2, .int .i64 3, .string ⟨#[]⟩, .bool false], .int .i64 0]), ([67, 45, 100], .tuple #[.agg #[.int .i64 2, .int .i64 4, .string ⟨#[]⟩, .bool false], .int .i64 0]), ([67, 45, 101], .tuple #[.agg #[.int .i64 2, .int .i64 5, .string ⟨#[]⟩, .bool false], .int .i64 0])]
theorem fx0_ok : AM.factsOK Try.prog am_spec 100000 77 fx0 = true := by decide +kernel
def fx1 : AM.FactTab := [([67, 45, 102], .tuple #[.agg #[.int .i64 2, .int .i64 6, .string ⟨#[]⟩, .bool false], .int .i64 0]), ([67, 45, 103], .tuple #[.agg #[.int .i64 2, .int .i64 7, .string ⟨#[]⟩, .bool false], .int .i64 0]), ([67, 45, 104], .tuple #[.agg #[.int .i64 2, .int .i64 8, .string ⟨#[]⟩, .bool false], .int .i64 0]), ([67, 45, 105], .tuple #[.agg #[.int .i64 2, .int .i64 9, .string ⟨#[]⟩, .bool false], .int .i64 0]), ([67, 45, 107], .tuple #[.agg #[.int .i64 2, .int .i64 11, .string ⟨#[]⟩, .bool false], .int .i64 0])]
theorem fx1_ok : AM.factsOK Try.prog am_spec 100000 77 fx1 = true := by decide +kernel
end Go.Proofs.Ytkembaghhahnpab.P
