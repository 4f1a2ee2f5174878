/- The law LineSwaps: it answers true, whatever comes in. -/
import Derived.Test.YtnlcmcooiodmmaaAX
import Derived.Test.YtnlcmcooiodmmaaBline2
set_option linter.unusedVariables false
set_option linter.unusedSimpArgs false
set_option maxRecDepth 10000
set_option maxHeartbeats 4000000
namespace Go.Proofs.Ytnlcmcooiodmmaa.AM.B
open Go Go.RowKit
theorem swwR_len (l : List Sign) (a : Int) : (swwR l a).length ≤ 5 * l.length := by
  unfold swwR
  split
  · unfold wordsL
    have m1 := seg_len l ((0 : Nat) : Int) (sS1 l a)
    have m2 := seg_len l (sS2 l a) (sE2 l a)
    have m3 := seg_len l (sE1 l a) (sS2 l a)
    have m4 := seg_len l (sS1 l a) (sE1 l a)
    have m5 := seg_len l (sE2 l a) ((l.length : Nat) : Int)
    simp only [List.length_append]
    omega
  · omega
theorem Light_w {H H1 : Hyp} {K : V → Hyp → Prop} {c : Cell} {l : List Sign} {a : Int} (h : Sl H1 47 2 c l.length (l.flatMap encS)) (hs : ∀ y ∈ H1, y ∈ H) (k : K (vB (decide ((l.length : Int) ≤ 100))) H) : CallW Try.prog Xs 26 [lineV c a] H K := by
  refine call_of (n := 7) (fun _ => rfl) Try.func26 rfl rfl ?_
  refine w_seq ?_
  refine w_region ?_
  refine w_o rfl rfl rfl (op_box rfl fun b1 => ?_)
  refine w_o rfl rfl rfl (op_assign rfl ?_)
  refine w_end ?_
  refine seq_normal ?_
  refine w_seq ?_
  refine w_region ?_
  refine w_o rfl rfl rfl (op_fieldAddr fa_24_0 rfl ?_)
  refine w_o rfl rfl rfl (op_loadF agg_22 rfl el_ rfl ?_)
  refine w_o rfl rfl rfl (op_lenC und_22 rfl h.lenC ?_)
  refine w_o rfl rfl rfl (op_le rfl rfl ?_)
  refine w_o rfl rfl rfl (op_assign rfl ?_)
  refine w_end ?_
  refine seq_normal ?_
  refine w_ret ?_
  exact ret_ret rfl sel_ k
theorem LineSwaps_law {H : Hyp} {c : Cell} {l : List Sign} {a : Int} (h : Sl H 47 2 c l.length (l.flatMap encS)) : CallW Try.prog Xs 6 [lineV c a] H (fun v _ => v = vB true) := by
  refine call_of (n := 61) (fun _ => rfl) Try.func6 rfl rfl ?_
  refine w_seq ?_
  refine w_region ?_
  refine w_o rfl rfl rfl (op_box rfl fun b1 => ?_)
  refine w_o rfl rfl rfl (op_assign rfl ?_)
  refine w_end ?_
  refine seq_normal ?_
  refine w_seq ?_
  refine w_seq ?_
  refine w_region ?_
  refine w_o rfl rfl rfl (op_loadA agg_24 siz_24 rfl rfl el_ ?_)
  refine w_o rfl rfl rfl (op_call rfl rfl rfl ?_)
  refine Light_w h subs_ ?_
  refine w_o rfl rfl rfl (op_not rfl ?_)
  refine w_o rfl rfl rfl (op_move rfl ?_)
  first | refine w_known (t := 14) rfl (fun g14 => ?_) (fun g14 => ?_) | refine w_knownB (t := 14) rfl (fun g14 => ?_) (fun g14 => ?_)
  · refine w_u rfl rfl rfl rfl rfl rfl ?_
    refine w_u rfl rfl rfl rfl rfl rfl ?_
    refine w_u rfl rfl rfl rfl rfl rfl ?_
    refine w_o rfl rfl rfl (op_pick rfl rfl rfl ?_)
    refine w_end ?_
    refine seq_normal ?_
    refine w_condT rfl ?_
    refine w_seq ?_
    refine w_region ?_
    refine w_o rfl rfl rfl (op_call rfl rfl rfl ?_)
    refine awake_w ?_
    refine w_o rfl rfl rfl (op_assign rfl ?_)
    refine w_end ?_
    refine seq_normal ?_
    refine w_ret ?_
    refine seq_ret ?_
    exact ret_ret rfl sel_ rfl
  · have hl : l.length ≤ 100 := by simp at g14; omega
    refine w_og rfl rfl rfl rfl rfl (op_loadA agg_24 siz_24 rfl rfl el_ ?_)
    refine w_og rfl rfl rfl rfl rfl (op_call rfl rfl rfl ?_)
    refine R17May_w h subs_ (by omega) ?_
    refine w_og rfl rfl rfl rfl rfl (op_not rfl ?_)
    refine w_o rfl rfl rfl (op_pick rfl rfl rfl ?_)
    refine w_end ?_
    refine seq_normal ?_
    first | refine w_cond rfl (fun hI1 => ?_) (fun hI1 => ?_) | refine w_condB rfl (fun hI1 => ?_) (fun hI1 => ?_)
    · refine w_seq ?_
      refine w_region ?_
      refine w_o rfl rfl rfl (op_call rfl rfl rfl ?_)
      refine awake_w ?_
      refine w_o rfl rfl rfl (op_assign rfl ?_)
      refine w_end ?_
      refine seq_normal ?_
      refine w_ret ?_
      refine seq_ret ?_
      exact ret_ret rfl sel_ rfl
    · have hr : rightL l a = true := by simpa using hI1
      refine w_skip ?_
      refine seq_normal ?_
      refine w_seq ?_
      refine w_region ?_
      refine w_o rfl rfl rfl (op_loadA agg_24 siz_24 rfl rfl el_ ?_)
      refine w_o rfl rfl rfl (op_call rfl rfl rfl ?_)
      refine Swap_w h subs_ (by omega) hr fun c1 N1 h1 => ?_
      refine w_o rfl rfl rfl (op_move rfl ?_)
      refine w_o rfl rfl rfl (op_extract rfl rfl ?_)
      refine w_o rfl rfl rfl (op_extract rfl rfl ?_)
      refine w_o rfl rfl rfl (op_alloc zer_24 fun b3 => ?_)
      refine w_on rfl rfl (op_store siz_24 rfl rfl rfl (by (repeat (first | exact Pick.head _ _ _ | apply Pick.tail | apply Pick.app)); first | done | fail) (Nat.le_of_ble_eq_true rfl) rfl ?_)
      refine w_o rfl rfl rfl (op_assign rfl ?_)
      refine w_end ?_
      refine seq_normal ?_
      refine w_seq ?_
      refine w_region ?_
      refine w_o rfl rfl rfl (op_loadA agg_24 siz_24 rfl rfl el_ ?_)
      refine w_o rfl rfl rfl (op_call rfl rfl rfl ?_)
      refine R17Swap_w h subs_ (by omega) hr fun c2 N2 h2 => ?_
      refine w_o rfl rfl rfl (op_move rfl ?_)
      refine w_o rfl rfl rfl (op_extract rfl rfl ?_)
      refine w_o rfl rfl rfl (op_extract rfl rfl ?_)
      refine w_o rfl rfl rfl (op_alloc zer_24 fun b5 => ?_)
      refine w_on rfl rfl (op_store siz_24 rfl rfl rfl (by (repeat (first | exact Pick.head _ _ _ | apply Pick.tail | apply Pick.app)); first | done | fail) (Nat.le_of_ble_eq_true rfl) rfl ?_)
      refine w_o rfl rfl rfl (op_assign rfl ?_)
      refine w_end ?_
      refine seq_normal ?_
      refine w_seq ?_
      refine w_region ?_
      refine w_o rfl rfl rfl (op_loadA agg_24 siz_24 rfl rfl el_ ?_)
      refine w_o rfl rfl rfl (op_call rfl rfl rfl ?_)
      refine SwapWords_w h subs_ (by omega) hr fun c3 N3 h3 => ?_
      refine w_o rfl rfl rfl (op_move rfl ?_)
      refine w_o rfl rfl rfl (op_extract rfl rfl ?_)
      refine w_o rfl rfl rfl (op_extract rfl rfl ?_)
      refine w_o rfl rfl rfl (op_alloc zer_24 fun b7 => ?_)
      refine w_on rfl rfl (op_store siz_24 rfl rfl rfl (by (repeat (first | exact Pick.head _ _ _ | apply Pick.tail | apply Pick.app)); first | done | fail) (Nat.le_of_ble_eq_true rfl) rfl ?_)
      refine w_o rfl rfl rfl (op_assign rfl ?_)
      refine w_end ?_
      refine seq_normal ?_
      refine w_seq ?_
      refine w_region ?_
      refine w_o rfl rfl rfl (op_loadA agg_24 siz_24 rfl rfl el_ ?_)
      refine w_o rfl rfl rfl (op_call rfl rfl rfl ?_)
      refine R17SwapWords_w h subs_ (by omega) hr fun c4 N4 h4 => ?_
      refine w_o rfl rfl rfl (op_move rfl ?_)
      refine w_o rfl rfl rfl (op_extract rfl rfl ?_)
      refine w_o rfl rfl rfl (op_extract rfl rfl ?_)
      refine w_o rfl rfl rfl (op_alloc zer_24 fun b9 => ?_)
      refine w_on rfl rfl (op_store siz_24 rfl rfl rfl (by (repeat (first | exact Pick.head _ _ _ | apply Pick.tail | apply Pick.app)); first | done | fail) (Nat.le_of_ble_eq_true rfl) rfl ?_)
      refine w_o rfl rfl rfl (op_assign rfl ?_)
      refine w_end ?_
      refine seq_normal ?_
      refine w_seq ?_
      refine w_region ?_
      refine w_o rfl rfl rfl (op_call rfl rfl rfl ?_)
      refine awake_w ?_
      refine w_o rfl rfl rfl (op_move rfl ?_)
      refine w_og rfl rfl rfl rfl rfl (op_move rfl ?_)
      refine w_og rfl rfl rfl rfl rfl (op_move rfl ?_)
      refine w_og rfl rfl rfl rfl rfl (op_booleq und_4 rfl rfl ?_)
      refine w_o rfl rfl rfl (op_pick rfl rfl rfl ?_)
      refine w_o rfl rfl rfl (op_move rfl ?_)
      first | refine w_known (t := 46) rfl (fun g46 => ?_) (fun g46 => ?_) | refine w_knownB (t := 46) rfl (fun g46 => ?_) (fun g46 => ?_)
      · refine w_og rfl rfl rfl rfl rfl (op_loadA agg_24 siz_24 rfl rfl el_ ?_)
        refine w_og rfl rfl rfl rfl rfl (op_loadA agg_24 siz_24 rfl rfl el_ ?_)
        refine w_og rfl rfl rfl rfl rfl (op_call rfl rfl rfl ?_)
        refine R16Same_w (l := swR l a) (l' := swR l a) (H2 := _) (h1.slT (fun _ => rfl) (by decide) (fun x hx => List.mem_append_left _ hx)) subs_ h2 subs_ (by rw [swR_len]; omega) ?_
        rw [decide_eq_true (⟨rfl, rfl⟩ : swA l a = swA l a ∧ swR l a = swR l a)]
        refine w_o rfl rfl rfl (op_pick rfl rfl rfl ?_)
        refine w_o rfl rfl rfl (op_move rfl ?_)
        refine w_og rfl rfl rfl rfl rfl (op_move rfl ?_)
        refine w_og rfl rfl rfl rfl rfl (op_move rfl ?_)
        refine w_og rfl rfl rfl rfl rfl (op_booleq und_4 rfl rfl ?_)
        refine w_o rfl rfl rfl (op_pick rfl rfl rfl ?_)
        refine w_o rfl rfl rfl (op_move rfl ?_)
        first | refine w_known (t := 56) rfl (fun g56 => ?_) (fun g56 => ?_) | refine w_knownB (t := 56) rfl (fun g56 => ?_) (fun g56 => ?_)
        · refine w_og rfl rfl rfl rfl rfl (op_loadA agg_24 siz_24 rfl rfl el_ ?_)
          refine w_og rfl rfl rfl rfl rfl (op_loadA agg_24 siz_24 rfl rfl el_ ?_)
          refine w_og rfl rfl rfl rfl rfl (op_call rfl rfl rfl ?_)
          have hll := swwR_len l a
          refine R16Same_w (l := swwR l a) (l' := swwR l a) (h3.slT (fun _ => rfl) (by decide) (fun x hx => List.mem_append_left _ hx)) subs_ h4 subs_ (by omega) ?_
          rw [decide_eq_true (⟨rfl, rfl⟩ : swwA l a = swwA l a ∧ swwR l a = swwR l a)]
          refine w_o rfl rfl rfl (op_pick rfl rfl rfl ?_)
          refine w_o rfl rfl rfl (op_assign rfl ?_)
          refine w_end ?_
          refine seq_normal ?_
          refine w_ret ?_
          exact ret_ret rfl sel_ rfl
        · exact absurd rfl g56 --closed
      · exact absurd rfl g46 --closed
end Go.Proofs.Ytnlcmcooiodmmaa.AM.B
