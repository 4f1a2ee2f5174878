/- Words of this seat over the print's own: rows laid as literals. -/
import Derived.Test.YtlmmeihgjpgooaaWWords
import Derived.Test.YtlmmeihgjpgooaaWLast
import Derived.Test.YtlmmeihgjpgooaaGBase
import Derived.Laws.Rows
namespace Go.Proofs.Ytlmmeihgjpgooaa.P
open Go.RowKit Go.Proofs.YtlmmeihgjpgooaaW.PrintWords Go.Proofs.YtlmmeihgjpgooaaW.PrintLast
set_option linter.unusedVariables false
set_option linter.unusedSimpArgs false

theorem reps_cons {α : Type} {R : α → List Value → Prop} {size : Nat} {p : α} {ps : List α} {c cs : List Value} (hp : R p c) (hc : c.length = size) (h : Reps R size ps cs) : Reps R size (p :: ps) (c ++ cs) := by
  refine ⟨by rw [List.length_append, h.1, hc, List.length_cons, Nat.succ_mul, Nat.add_comm], fun j q hq => ?_⟩
  cases j with
  | zero =>
    have : p = q := by simpa using hq
    subst this
    rw [Nat.zero_mul, List.drop_zero, ← hc, List.take_left]; exact hp
  | succ j =>
    have h2 := h.2 j q (by simpa using hq)
    rw [Nat.succ_mul, Nat.add_comm, ← hc, List.drop_append, List.drop_of_length_le (by omega), List.nil_append, show c.length + j * c.length - c.length = j * c.length by omega, hc]; exact h2
theorem C_lit {α : Type} (d : Kd α) {w : World} {b : Nat} {e : TypeId} {fr : Nat × Nat} {cells : Array Value} {xs : List α} (hb : w.heap[b]? = some (.cells cells e fr)) (h : Reps (d.K w) d.sz xs cells.toList) (hm : xs.length ≤ 9223372036854775807) :
    d.C w (some ⟨b, 0, none⟩) xs.length xs := by
  refine ⟨rfl, hm, fun _ => ⟨_, rfl, fun j p hj => ⟨_, d.K_len (h.2 j p hj), h.2 j p hj, fun i u hi => ?_⟩⟩⟩
  have hl := d.K_len (h.2 j p hj)
  have hi2 := (List.getElem?_eq_some_iff.1 hi).1
  rw [add_plain, cell_of_row w b _ cells e fr hb]
  rw [List.getElem?_take, if_pos (by omega), List.getElem?_drop] at hi
  simpa using hi
theorem heap_below {w w1 : World} (h : Below w.heap.size w w1) {g : Nat} {o : Obj} (hg : w.heap[g]? = some o) : w1.heap[g]? = some o := (h.block _ (blk_lt hg)).trans hg
end Go.Proofs.Ytlmmeihgjpgooaa.P
