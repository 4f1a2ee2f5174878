/- What sign's functions answer, and its reference's. -/
import Derived.Test.YtpkdncjopbbbhaaAX
import Derived.Test.YtpkdncjopbbbhaaP0
set_option linter.unusedVariables false
set_option linter.unusedSimpArgs false
set_option maxRecDepth 10000
set_option maxHeartbeats 4000000
namespace Go.Proofs.Ytpkdncjopbbbhaa.AM.B
open Go Go.RowKit
abbrev Sign := Go.Proofs.Ytpkdncjopbbbhaa.P.S43
instance : DecidableEq Sign := fun a b => decidable_of_iff (a.f0 = b.f0 ∧ a.f1 = b.f1) ⟨fun h => by cases a; cases b; simp at h; simp [h.1, h.2], fun h => by rw [h]; exact ⟨rfl, rfl⟩⟩
def encS (x : Sign) : List Cell := [.int .i64 x.f0, .int .i64 x.f1]
theorem rdA_43 : RdA Try.prog 43 2 (layFlat encS) (fun x => (Lit.int .i64 x.f0).wf = true ∧ (Lit.int .i64 x.f1).wf = true) :=
  rdA_map (lay := layIso (layPair (layFlat fun n => [.int .i64 n]) (layFlat fun n => [.int .i64 n])) (fun x : Sign => (x.f0, x.f1))) (fun H x cs h => by
    obtain ⟨c1, c2, rfl, h1, h2⟩ := h
    simp only [layFlat] at h1 h2
    rw [h1, h2]; rfl) (fun _ h => h) (rdA_iso (fun x => ⟨x.1, x.2⟩) (fun _ => rfl) (rdA_struct Try.underlying43 (by kernel_rfl) (rdAL_cons rfl (by kernel_rfl) (layFlat_mono _) (rdA_int und_3) (rdAL_one rfl (by kernel_rfl) (rdA_int und_3)))))
end Go.Proofs.Ytpkdncjopbbbhaa.AM.B
