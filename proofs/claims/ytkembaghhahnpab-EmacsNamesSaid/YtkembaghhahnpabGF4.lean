/- What key.Parse answers on some names: closed runs. -/
import Derived.Test.YtkembaghhahnpabGAm
namespace Go.Proofs.Ytkembaghhahnpab.P
set_option maxRecDepth 1000000
def fx8 : AM.FactTab := [([82, 69, 84], .tuple #[.agg #[.int .i64 4, .int .i64 13, .string ⟨#[]⟩, .bool false], .int .i64 0]), ([76, 70, 68], .tuple #[.agg #[.int .i64 4, .int .i64 10, .string ⟨#[]⟩, .bool false], .int .i64 0]), ([69, 83, 67], .tuple #[.agg #[.int .i64 5, .int .i64 0, .string ⟨#[]⟩, .bool false], .int .i64 0]), ([68, 69, 76], .tuple #[.agg #[.int .i64 6, .int .i64 0, .string ⟨#[]⟩, .bool false], .int .i64 0]), ([85, 80], .tuple #[.agg #[.int .i64 7, .int .i64 0, .string ⟨#[]⟩, .bool false], .int .i64 0])]
theorem fx8_ok : AM.factsOK Try.prog am_spec 100000 77 fx8 = true := by decide +kernel
def fx9 : AM.FactTab := [([68, 79, 87, 78], .tuple #[.agg #[.int .i64 8, .int .i64 0, .string ⟨#[]⟩, .bool false], .int .i64 0]), ([82, 73, 71, 72, 84], .tuple #[.agg #[.int .i64 9, .int .i64 0, .string ⟨#[]⟩, .bool false], .int .i64 0]), ([76, 69, 70, 84], .tuple #[.agg #[.int .i64 10, .int .i64 0, .string ⟨#[]⟩, .bool false], .int .i64 0]), ([72, 79, 77, 69], .tuple #[.agg #[.int .i64 11, .int .i64 0, .string ⟨#[]⟩, .bool false], .int .i64 0]), ([69, 78, 68], .tuple #[.agg #[.int .i64 12, .int .i64 0, .string ⟨#[]⟩, .bool false], .int .i64 0])]
theorem fx9_ok : AM.factsOK Try.prog am_spec 100000 77 fx9 = true := by decide +kernel
end Go.Proofs.Ytkembaghhahnpab.P
