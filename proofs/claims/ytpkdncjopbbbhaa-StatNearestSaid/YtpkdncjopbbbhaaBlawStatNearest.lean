/- The law StatNearest: it answers true, whatever comes in. -/
import Derived.Test.YtpkdncjopbbbhaaAX
import Derived.Test.YtpkdncjopbbbhaaBstat2
set_option linter.unusedVariables false
set_option linter.unusedSimpArgs false
set_option maxRecDepth 10000
set_option maxHeartbeats 4000000
namespace Go.Proofs.Ytpkdncjopbbbhaa.AM.B
open Go Go.RowKit
theorem StatNearest_law {H : Hyp} {c cl : Cell} {x : List Sign} {L : List (List Sign)} (h : Sl H 43 2 c x.length (x.flatMap encS)) (hL : KVs H L cl) (hLe : ∀ y ∈ L, y.length ≤ 8796093022208) : CallW Try.prog Xs 4 [.one (.c c), .one (.c cl)] H (fun v _ => v = vB true) := by
  have hL9 := hL
  obtain ⟨cs, g1, g2, g3⟩ := hL
  refine call_of (n := 96) (fun _ => rfl) Try.func4 rfl rfl ?_
  refine w_seq ?_
  refine w_region ?_
  refine w_o rfl rfl rfl (op_assign rfl ?_)
  refine w_end ?_
  refine seq_normal ?_
  refine w_seq ?_
  refine w_seq ?_
  refine w_region ?_
  refine w_o rfl rfl rfl (op_move rfl ?_)
  refine w_o rfl rfl rfl (op_lenC und_22 rfl h.lenC ?_)
  refine w_o rfl rfl rfl (op_gt rfl rfl ?_)
  refine w_o rfl rfl rfl (op_move rfl ?_)
  first | refine w_known (t := 12) rfl (fun g12 => ?_) (fun g12 => ?_) | refine w_knownB (t := 12) rfl (fun g12 => ?_) (fun g12 => ?_)
  · refine w_u rfl rfl rfl rfl rfl rfl ?_
    refine w_u rfl rfl rfl rfl rfl rfl ?_
    refine w_u rfl rfl rfl rfl rfl rfl ?_
    refine w_o rfl rfl rfl (op_pick rfl rfl rfl ?_)
    refine w_end ?_
    refine seq_normal ?_
    refine w_condT rfl ?_
    refine w_seq ?_
    refine w_region ?_
    refine w_o rfl rfl rfl (op_call rfl rfl rfl ?_)
    refine awake_w ?_
    refine w_o rfl rfl rfl (op_assign rfl ?_)
    refine w_end ?_
    refine seq_normal ?_
    refine w_ret ?_
    refine seq_ret ?_
    exact ret_ret rfl (.refl _) rfl
  · refine w_og rfl rfl rfl rfl rfl (op_move rfl ?_)
    refine w_og rfl rfl rfl rfl rfl (op_lenC und_34 rfl g1.lenC ?_)
    refine w_og rfl rfl rfl rfl rfl (op_gt rfl rfl ?_)
    refine w_o rfl rfl rfl (op_pick rfl rfl rfl ?_)
    refine w_end ?_
    refine seq_normal ?_
    first | refine w_cond rfl (fun hI1 => ?_) (fun hI1 => ?_) | refine w_condB rfl (fun hI1 => ?_) (fun hI1 => ?_)
    · refine w_seq ?_
      refine w_region ?_
      refine w_o rfl rfl rfl (op_call rfl rfl rfl ?_)
      refine awake_w ?_
      refine w_o rfl rfl rfl (op_assign rfl ?_)
      refine w_end ?_
      refine seq_normal ?_
      refine w_ret ?_
      refine seq_ret ?_
      exact ret_ret rfl (.refl _) rfl
    · refine w_skip ?_
      refine seq_normal ?_
      refine w_seq ?_
      refine w_region ?_
      refine w_o rfl rfl rfl (op_move rfl ?_)
      refine w_o rfl rfl rfl (op_move rfl ?_)
      refine w_o rfl rfl rfl (op_call rfl rfl rfl ?_)
      refine Nearest_w h hL9 (by omega) (by omega) hLe fun at_ ⟨best, hN⟩ => ?_
      refine w_o rfl rfl rfl (op_assign rfl ?_)
      refine w_end ?_
      refine seq_normal ?_
      refine w_seq ?_
      refine w_seq ?_
      refine w_region ?_
      refine w_o rfl rfl rfl (op_move rfl ?_)
      refine w_o rfl rfl rfl (op_lenC und_34 rfl g1.lenC ?_)
      refine w_o rfl rfl rfl (op_eq rfl rfl ?_)
      refine w_end ?_
      refine seq_normal ?_
      first | refine w_cond rfl (fun hI2 => ?_) (fun hI2 => ?_) | refine w_condB rfl (fun hI2 => ?_) (fun hI2 => ?_)
      · have hat : at_ = -1 := by
          rcases hN with ⟨_, q, _⟩ | ⟨n, w, _, q, _⟩
          · exact q
          · omega
        subst hat
        refine w_seq ?_
        refine w_region ?_
        refine w_o rfl rfl rfl (op_call rfl rfl rfl ?_)
        refine awake_w ?_
        refine w_o rfl rfl rfl (op_move rfl ?_)
        refine w_og rfl rfl rfl rfl rfl (op_move rfl ?_)
        refine w_og rfl rfl rfl rfl rfl (op_eq rfl rfl ?_)
        refine w_o rfl rfl rfl (op_pick rfl rfl rfl ?_)
        refine w_o rfl rfl rfl (op_assign rfl ?_)
        refine w_end ?_
        refine seq_normal ?_
        refine w_ret ?_
        refine seq_ret ?_
        exact ret_ret rfl (.refl _) rfl
      · obtain ⟨n, y, hat, hnl, hy, _, hmin⟩ : ∃ (n : Nat) (y : List Sign), at_ = (n : Int) ∧ n < L.length ∧ L[n]? = some y ∧ best = (dist x y : Int) ∧ ∀ (j : Nat) (z : List Sign), j < L.length → L[j]? = some z → dist x y ≤ dist x z ∧ (j < n → dist x y < dist x z) := by
          rcases hN with ⟨q, _, _⟩ | q
          · omega
          · exact q
        subst hat
        refine w_skip ?_
        refine seq_normal ?_
        refine w_seq ?_
        refine w_seq ?_
        refine w_region ?_
        refine w_o rfl rfl rfl (op_move rfl ?_)
        refine w_o rfl rfl rfl (op_lt rfl rfl ?_)
        refine w_o rfl rfl rfl (op_move rfl ?_)
        first | refine w_known (t := 31) rfl (fun g31 => ?_) (fun g31 => ?_) | refine w_knownB (t := 31) rfl (fun g31 => ?_) (fun g31 => ?_)
        · exact absurd g31 (by omega) --closed
        · refine w_og rfl rfl rfl rfl rfl (op_move rfl ?_)
          refine w_og rfl rfl rfl rfl rfl (op_move rfl ?_)
          refine w_og rfl rfl rfl rfl rfl (op_lenC und_34 rfl g1.lenC ?_)
          refine w_og rfl rfl rfl rfl rfl (op_ge rfl rfl ?_)
          refine w_o rfl rfl rfl (op_pick rfl rfl rfl ?_)
          refine w_o rfl rfl rfl (op_move rfl ?_)
          first | refine w_known (t := 37) rfl (fun g37 => ?_) (fun g37 => ?_) | refine w_knownB (t := 37) rfl (fun g37 => ?_) (fun g37 => ?_)
          · exact absurd g37 (by omega) --closed
          · refine w_og rfl rfl rfl rfl rfl (op_move rfl ?_)
            refine w_og rfl rfl rfl rfl rfl (op_move rfl ?_)
            refine w_og rfl rfl rfl rfl rfl (op_indexT (enc := encC) (xs := cs) (j := n) und_34 siz_22 rfl rfl g1 (fun _ => rfl) rfl (by omega) fun b40 o40 z40 h40 e40 => ?_)
            refine w_og rfl rfl rfl rfl rfl (op_load1 agg_22 rfl el_ ?_)
            refine w_og rfl rfl rfl rfl rfl (op_lenC und_22 rfl (g3 n z40 y h40 hy).lenC ?_)
            refine w_og rfl rfl rfl rfl rfl (op_gt rfl rfl ?_)
            refine w_o rfl rfl rfl (op_pick rfl rfl rfl ?_)
            refine w_end ?_
            refine seq_normal ?_
            first | refine w_cond rfl (fun hI3 => ?_) (fun hI3 => ?_) | refine w_condB rfl (fun hI3 => ?_) (fun hI3 => ?_)
            · refine w_seq ?_
              refine w_region ?_
              refine w_o rfl rfl rfl (op_move rfl ?_)
              refine w_o rfl rfl rfl (op_lenC und_34 rfl g1.lenC ?_)
              refine w_o rfl rfl rfl (op_gt rfl rfl ?_)
              refine w_o rfl rfl rfl (op_move rfl ?_)
              first | refine w_known (t := 48) rfl (fun g48 => ?_) (fun g48 => ?_) | refine w_knownB (t := 48) rfl (fun g48 => ?_) (fun g48 => ?_)
              · refine w_og rfl rfl rfl rfl rfl (op_move rfl ?_)
                refine w_og rfl rfl rfl rfl rfl (op_ge rfl rfl ?_)
                refine w_o rfl rfl rfl (op_pick rfl rfl rfl ?_)
                refine w_o rfl rfl rfl (op_move rfl ?_)
                first | refine w_known (t := 52) rfl (fun g52 => ?_) (fun g52 => ?_) | refine w_knownB (t := 52) rfl (fun g52 => ?_) (fun g52 => ?_)
                · refine w_og rfl rfl rfl rfl rfl (op_move rfl ?_)
                  refine w_og rfl rfl rfl rfl rfl (op_move rfl ?_)
                  refine w_og rfl rfl rfl rfl rfl (op_lenC und_34 rfl g1.lenC ?_)
                  refine w_og rfl rfl rfl rfl rfl (op_lt rfl rfl ?_)
                  refine w_o rfl rfl rfl (op_pick rfl rfl rfl ?_)
                  refine w_o rfl rfl rfl (op_assign rfl ?_)
                  refine w_end ?_
                  refine seq_normal ?_
                  refine w_ret ?_
                  refine seq_ret ?_
                  exact ret_bool rfl (.refl _) (decide_eq_true (by omega)) rfl
                · exact absurd (show ((n : Nat) : Int) ≥ 0 by omega) g52 --closed
              · exact absurd (show (cs.length : Int) > 0 by omega) g48 --closed
            · refine w_skip ?_
              refine seq_normal ?_
              refine w_seq ?_
              refine w_region ?_
              refine w_o rfl rfl rfl (op_move rfl ?_)
              refine w_o rfl rfl rfl (op_move rfl ?_)
              refine w_o rfl rfl rfl (op_move rfl ?_)
              refine w_o rfl rfl rfl (op_indexT (enc := encC) (xs := cs) (j := n) und_34 siz_22 rfl rfl g1 (fun _ => rfl) rfl (by omega) fun b61 o61 z61 h61 e61 => ?_)
              refine w_o rfl rfl rfl (op_load1 agg_22 rfl el_ ?_)
              refine w_o rfl rfl rfl (op_call rfl rfl rfl ?_)
              refine R41Distance_w h (fun y hy => hy) (g3 n z61 y h61 hy) (fun y hy => hy) (by omega) (by omega) ?_
              rw [show lev (valsS x) (valsS y) x.length y.length = dist x y from rfl]
              refine w_o rfl rfl rfl (op_assign rfl ?_)
              refine w_end ?_
              refine seq_normal ?_
              refine w_seq ?_
              refine w_seq ?_
              refine w_region ?_
              refine w_o rfl rfl rfl (op_assign rfl ?_)
              refine w_end ?_
              refine seq_normal ?_
              refine w_block ?_
              refine w_loop (fun q e H' => ∃ (i : Nat), i ≤ L.length ∧ q = L.length - i ∧ H = H' ∧ e = [(0, .one (.c c)), (1, .one (.c cl)), (5, vI (n : Nat)), (6, vI (dist x y : Nat)), (7, vI (i : Nat))]) ?_ ?_
              · exact ⟨_, _, _, ⟨0, Nat.zero_le _, rfl, rfl, rfl⟩, env_, sel_⟩
              · rintro q e H' ⟨i, hi, rfl, rfl, rfl⟩
                refine w_seq ?_
                refine w_seq ?_
                refine w_region ?_
                refine w_o rfl rfl rfl (op_move rfl ?_)
                refine w_o rfl rfl rfl (op_move rfl ?_)
                refine w_o rfl rfl rfl (op_lenC und_34 rfl g1.lenC ?_)
                refine w_o rfl rfl rfl (op_lt rfl rfl ?_)
                refine w_end ?_
                refine seq_normal ?_
                first | refine w_cond rfl (fun hI4 => ?_) (fun hI4 => ?_) | refine w_condB rfl (fun hI4 => ?_) (fun hI4 => ?_)
                · obtain ⟨z, hz⟩ : ∃ z, L[i]? = some z := ⟨_, List.getElem?_eq_getElem (by omega)⟩
                  have hm := hmin i z (by omega) hz
                  refine w_skip ?_
                  refine seq_normal ?_
                  refine w_seq ?_
                  refine w_block ?_
                  refine w_seq ?_
                  refine w_seq ?_
                  refine w_region ?_
                  refine w_o rfl rfl rfl (op_move rfl ?_)
                  refine w_o rfl rfl rfl (op_move rfl ?_)
                  refine w_o rfl rfl rfl (op_indexT (enc := encC) (xs := cs) (j := i) und_34 siz_22 rfl rfl g1 (fun _ => rfl) rfl (by omega) fun b72 o72 z72 h72 e72 => ?_)
                  refine w_o rfl rfl rfl (op_load1 agg_22 rfl el_ ?_)
                  refine w_o rfl rfl rfl (op_lenC und_22 rfl (g3 i z72 z h72 hz).lenC ?_)
                  refine w_o rfl rfl rfl (op_gt rfl rfl ?_)
                  refine w_end ?_
                  refine seq_normal ?_
                  first | refine w_cond rfl (fun hI5 => ?_) (fun hI5 => ?_) | refine w_condB rfl (fun hI5 => ?_) (fun hI5 => ?_)
                  · refine w_seq ?_
                    refine w_region ?_
                    refine w_o rfl rfl rfl (op_assign rfl ?_)
                    refine w_end ?_
                    refine seq_normal ?_
                    refine w_ret ?_
                    refine seq_ret ?_
                    refine block_ret ?_
                    refine seq_ret ?_
                    refine loop_ret ?_
                    refine block_ret ?_
                    refine seq_ret ?_
                    exact ret_ret rfl (.refl _) rfl
                  · refine w_skip ?_
                    refine seq_normal ?_
                    refine w_seq ?_
                    refine w_region ?_
                    refine w_o rfl rfl rfl (op_move rfl ?_)
                    refine w_o rfl rfl rfl (op_move rfl ?_)
                    refine w_o rfl rfl rfl (op_move rfl ?_)
                    refine w_o rfl rfl rfl (op_indexT (enc := encC) (xs := cs) (j := i) und_34 siz_22 rfl rfl g1 (fun _ => rfl) rfl (by omega) fun b79 o79 z79 h79 e79 => ?_)
                    refine w_o rfl rfl rfl (op_load1 agg_22 rfl el_ ?_)
                    refine w_o rfl rfl rfl (op_call rfl rfl rfl ?_)
                    refine R41Distance_w h (fun y hy => hy) (g3 i z79 z h79 hz) (fun y hy => hy) (by omega) (by omega) ?_
                    rw [show lev (valsS x) (valsS z) x.length z.length = dist x z from rfl]
                    refine w_o rfl rfl rfl (op_assign rfl ?_)
                    refine w_end ?_
                    refine seq_normal ?_
                    refine w_seq ?_
                    refine w_region ?_
                    refine w_o rfl rfl rfl (op_move rfl ?_)
                    refine w_o rfl rfl rfl (op_move rfl ?_)
                    refine w_o rfl rfl rfl (op_lt rfl rfl ?_)
                    refine w_o rfl rfl rfl (op_move rfl ?_)
                    first | refine w_known (t := 85) rfl (fun g85 => ?_) (fun g85 => ?_) | refine w_knownB (t := 85) rfl (fun g85 => ?_) (fun g85 => ?_)
                    · exact absurd g85 (by omega) --closed
                    · refine w_og rfl rfl rfl rfl rfl (op_move rfl ?_)
                      refine w_og rfl rfl rfl rfl rfl (op_move rfl ?_)
                      refine w_og rfl rfl rfl rfl rfl (op_lt rfl rfl ?_)
                      refine w_og rfl rfl rfl rfl rfl (op_move rfl ?_)
                      first | refine w_known (t := 89) rfl (fun g89 => ?_) (fun g89 => ?_) | refine w_knownB (t := 89) rfl (fun g89 => ?_) (fun g89 => ?_)
                      · refine w_og rfl rfl rfl rfl rfl (op_move rfl ?_)
                        refine w_og rfl rfl rfl rfl rfl (op_move rfl ?_)
                        refine w_og rfl rfl rfl rfl rfl (op_eq rfl rfl ?_)
                        refine w_og rfl rfl rfl rfl rfl (op_pick rfl rfl rfl ?_)
                        refine w_o rfl rfl rfl (op_pick rfl rfl rfl ?_)
                        refine w_end ?_
                        refine seq_normal ?_
                        refine w_condN rfl (by omega) ?_
                        refine w_skip ?_
                        refine block_normal ?_
                        refine seq_normal ?_
                        refine w_region ?_
                        refine w_o rfl rfl rfl (op_move rfl ?_)
                        refine w_o rfl rfl rfl (op_addi rfl rfl (by omega) (by omega) ?_)
                        refine w_o rfl rfl rfl (op_assign rfl ?_)
                        refine w_end ?_
                        exact loop_normal (k' := L.length - (i + 1)) (by omega) ⟨i + 1, by omega, rfl, rfl, rfl⟩ env_ sel_
                      · refine w_u rfl rfl rfl rfl rfl rfl ?_
                        refine w_u rfl rfl rfl rfl rfl rfl ?_
                        refine w_u rfl rfl rfl rfl rfl rfl ?_
                        refine w_og rfl rfl rfl rfl rfl (op_pick rfl rfl rfl ?_)
                        refine w_o rfl rfl rfl (op_pick rfl rfl rfl ?_)
                        refine w_end ?_
                        refine seq_normal ?_
                        refine w_condF rfl ?_
                        refine w_skip ?_
                        refine block_normal ?_
                        refine seq_normal ?_
                        refine w_region ?_
                        refine w_o rfl rfl rfl (op_move rfl ?_)
                        refine w_o rfl rfl rfl (op_addi rfl rfl (by omega) (by omega) ?_)
                        refine w_o rfl rfl rfl (op_assign rfl ?_)
                        refine w_end ?_
                        exact loop_normal (k' := L.length - (i + 1)) (by omega) ⟨i + 1, by omega, rfl, rfl, rfl⟩ env_ sel_
                · refine w_exit ?_
                  refine seq_exit ?_
                  refine loop_exit ?_
                  refine block_hit rfl ?_
                  refine seq_normal ?_
                  refine w_seq ?_
                  refine w_region ?_
                  refine w_o rfl rfl rfl (op_call rfl rfl rfl ?_)
                  refine awake_w ?_
                  refine w_o rfl rfl rfl (op_assign rfl ?_)
                  refine w_end ?_
                  refine seq_normal ?_
                  refine w_ret ?_
                  exact ret_ret rfl (.refl _) rfl
end Go.Proofs.Ytpkdncjopbbbhaa.AM.B
