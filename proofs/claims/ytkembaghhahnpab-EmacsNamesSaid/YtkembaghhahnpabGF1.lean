/- What key.Parse answers on some names: closed runs. -/
import Derived.Test.YtkembaghhahnpabGAm
namespace Go.Proofs.Ytkembaghhahnpab.P
set_option maxRecDepth 1000000
def fx2 : AM.FactTab := [([67, 45, 108], .tuple #[.agg #[.int .i64 2, .int .i64 12, .string ⟨#[]⟩, .bool false], .int .i64 0]), ([67, 45, 110], .tuple #[.agg #[.int .i64 2, .int .i64 14, .string ⟨#[]⟩, .bool false], .int .i64 0]), ([67, 45, 112], .tuple #[.agg #[.int .i64 2, .int .i64 16, .string ⟨#[]⟩, .bool false], .int .i64 0]), ([67, 45, 113], .tuple #[.agg #[.int .i64 2, .int .i64 17, .string ⟨#[]⟩, .bool false], .int .i64 0]), ([67, 45, 114], .tuple #[.agg #[.int .i64 2, .int .i64 18, .string ⟨#[]⟩, .bool false], .int .i64 0])]
theorem fx2_ok : AM.factsOK Try.prog am_spec 100000 77 fx2 = true := by decide +kernel
def fx3 : AM.FactTab := [([67, 45, 116], .tuple #[.agg #[.int .i64 2, .int .i64 20, .string ⟨#[]⟩, .bool false], .int .i64 0]), ([67, 45, 117], .tuple #[.agg #[.int .i64 2, .int .i64 21, .string ⟨#[]⟩, .bool false], .int .i64 0]), ([67, 45, 118], .tuple #[.agg #[.int .i64 2, .int .i64 22, .string ⟨#[]⟩, .bool false], .int .i64 0]), ([67, 45, 119], .tuple #[.agg #[.int .i64 2, .int .i64 23, .string ⟨#[]⟩, .bool false], .int .i64 0]), ([67, 45, 121], .tuple #[.agg #[.int .i64 2, .int .i64 25, .string ⟨#[]⟩, .bool false], .int .i64 0])]
theorem fx3_ok : AM.factsOK Try.prog am_spec 100000 77 fx3 = true := by decide +kernel
end Go.Proofs.Ytkembaghhahnpab.P
