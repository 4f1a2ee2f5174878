/- What an offer rests on: values, labels, beginnings, lines that grow, where a word begins. -/
import Derived.Test.YtdhnjkagmbfoaaaAX
import Derived.Test.YtdhnjkagmbfoaaaBline2
set_option linter.unusedVariables false
set_option linter.unusedSimpArgs false
set_option maxRecDepth 10000
set_option maxHeartbeats 4000000
namespace Go.Proofs.Ytdhnjkagmbfoaaa.AM.B
open Go Go.RowKit
/-! ### Lines that grow -/
theorem places_w {H H1 : Hyp} {K : V → Hyp → Prop} {c : Cell} {l : List Sign} {a p q : Int} (h : Sl H1 39 2 c l.length (l.flatMap encS)) (hs : ∀ y ∈ H1, y ∈ H)
    (k : K (.tup [.c (.int .i64 (min (min (max p 0) (l.length : Nat)) (min (max q 0) (l.length : Nat)))), .c (.int .i64 (max (min (max p 0) (l.length : Nat)) (min (max q 0) (l.length : Nat))))]) H) : CallW Try.prog Xs 35 [lineV c a, vI p, vI q] H K := by
  refine call_of (n := 26) (fun _ => rfl) Try.func35 rfl rfl ?_
  refine w_seq ?_
  refine w_region ?_
  refine w_o rfl rfl rfl (op_box rfl fun b3 => ?_)
  refine w_o rfl rfl rfl (op_assign rfl ?_)
  refine w_o rfl rfl rfl (op_assign rfl ?_)
  refine w_end ?_
  refine seq_normal ?_
  refine w_seq ?_
  refine w_draw (by decide +kernel) (by decide +kernel) ?_
  refine w_d rfl rfl rfl (op_move rfl ?_)
  refine w_d rfl rfl rfl (op_max rfl rfl ?_)
  refine w_d rfl rfl rfl (op_fieldAddr fa_24_0 rfl ?_)
  refine w_d rfl rfl rfl (op_loadF agg_22 rfl el_ rfl ?_)
  refine w_d rfl rfl rfl (op_lenC und_22 rfl h.lenC ?_)
  refine w_d rfl rfl rfl (op_min rfl rfl ?_)
  refine w_d rfl rfl rfl (op_move rfl ?_)
  refine w_d rfl rfl rfl (op_max rfl rfl ?_)
  refine w_d rfl rfl rfl (op_fieldAddr fa_24_0 rfl ?_)
  refine w_d rfl rfl rfl (op_loadF agg_22 rfl el_ rfl ?_)
  refine w_d rfl rfl rfl (op_lenC und_22 rfl h.lenC ?_)
  refine w_d rfl rfl rfl (op_min rfl rfl ?_)
  refine w_d rfl rfl rfl (op_assign rfl ?_)
  refine w_d rfl rfl rfl (op_assign rfl ?_)
  refine w_end ?_
  refine seq_normal ?_
  refine w_seq ?_
  refine w_region ?_
  refine w_o rfl rfl rfl (op_move rfl ?_)
  refine w_o rfl rfl rfl (op_move rfl ?_)
  refine w_o rfl rfl rfl (op_min rfl rfl ?_)
  refine w_o rfl rfl rfl (op_move rfl ?_)
  refine w_o rfl rfl rfl (op_move rfl ?_)
  refine w_o rfl rfl rfl (op_max rfl rfl ?_)
  refine w_o rfl rfl rfl (op_assign rfl ?_)
  refine w_o rfl rfl rfl (op_assign rfl ?_)
  refine w_end ?_
  refine seq_normal ?_
  refine w_ret ?_
  exact ret_ret rfl sel_ k
def insV (l : List Sign) (a : Int) (w : List Sign) : List Sign := seg l ((0 : Nat) : Int) a ++ w ++ seg l a ((l.length : Nat) : Int)
theorem Insert_w {H H1 H2 : Hyp} {K : V → Hyp → Prop} {c cw : Cell} {l w : List Sign} {a : Int} (h : Sl H1 39 2 c l.length (l.flatMap encS)) (hs : ∀ y ∈ H1, y ∈ H) (hw : Sl H2 39 2 cw w.length (w.flatMap encS)) (hs2 : ∀ y ∈ H2, y ∈ H) (hl : l.length ≤ 1000) (hwl : w.length ≤ 100000) (ha : 0 ≤ a ∧ a ≤ l.length)
    (k : ∀ c' N, Own 39 2 c' ((insV l a w).flatMap encS) N → K (lineV c' (a + (w.length : Nat))) (N ++ H)) : CallW Try.prog Xs 17 [lineV c a, .one (.c cw)] H K := by
  have hH := h.sub hs
  have hW := hw.sub hs2
  have hpl : min (min (max a 0) ((l.length : Nat) : Int)) (min (max ((l.length : Nat) : Int) 0) ((l.length : Nat) : Int)) = a := by omega
  have m1 := seg_len l ((0 : Nat) : Int) a
  have m2 := seg_len l a ((l.length : Nat) : Int)
  refine call_of (n := 33) (fun _ => rfl) Try.func17 rfl rfl ?_
  refine w_seq ?_
  refine w_region ?_
  refine w_o rfl rfl rfl (op_box rfl fun b2 => ?_)
  refine w_o rfl rfl rfl (op_alloc zer_24 fun b4 => ?_)
  refine w_end ?_
  refine seq_normal ?_
  refine w_seq ?_
  refine w_region ?_
  refine w_o rfl rfl rfl (op_loadA agg_24 siz_24 rfl rfl el_ ?_)
  refine w_o rfl rfl rfl (op_fieldAddr fa_24_1 rfl ?_)
  refine w_o rfl rfl rfl (op_loadF agg_3 rfl el_ rfl ?_)
  refine w_o rfl rfl rfl (op_fieldAddr fa_24_0 rfl ?_)
  refine w_o rfl rfl rfl (op_loadF agg_22 rfl el_ rfl ?_)
  refine w_o rfl rfl rfl (op_lenC und_22 rfl h.lenC ?_)
  refine w_o rfl rfl rfl (op_call rfl rfl rfl ?_)
  refine places_w hH subs_ ?_
  rw [hpl]
  refine w_o rfl rfl rfl (op_move rfl ?_)
  refine w_o rfl rfl rfl (op_extract rfl rfl ?_)
  refine w_o rfl rfl rfl (op_extract rfl rfl ?_)
  refine w_o rfl rfl rfl (op_assign rfl ?_)
  refine w_o rfl rfl rfl (op_assign rfl ?_)
  refine w_end ?_
  refine seq_normal ?_
  refine w_seq ?_
  refine w_draw (by decide +kernel) (by decide +kernel) ?_
  refine w_d rfl rfl rfl (op_fieldAddr fa_24_0 rfl ?_)
  refine w_d rfl rfl rfl (op_loadF agg_22 rfl el_ rfl ?_)
  refine w_d rfl rfl rfl (op_move rfl ?_)
  refine w_d rfl rfl rfl (op_sliceU (enc := encS) (xs := l) elm_22 siz_39 (by decide) rfl hH subs_ (fun _ => rfl) rfl rfl (by omega) (by omega) (by omega) fun c20 h20 => ?_)
  refine w_d rfl rfl rfl (op_move rfl ?_)
  refine w_d rfl rfl rfl (op_fieldAddr fa_24_0 rfl ?_)
  refine w_d rfl rfl rfl (op_loadF agg_22 rfl el_ rfl ?_)
  refine w_d rfl rfl rfl (op_move rfl ?_)
  refine w_d rfl rfl rfl (op_sliceU (enc := encS) (xs := l) elm_22 siz_39 (by decide) rfl hH subs_ (fun _ => rfl) rfl rfl (by omega) (by omega) (by omega) fun c25 h25 => ?_)
  refine w_d rfl rfl rfl (op_buildSlice rfl (bsl_67 _ _ _ (rfl : _ = some [_, _, _]) rfl (by decide)) fun b26 => ?_)
  refine w_d rfl rfl rfl (op_call rfl rfl rfl ?_)
  refine ConcatS_w (cs := [c20, cw, c25]) (ll := [seg l ((0 : Nat) : Int) a, w, seg l a ((l.length : Nat) : Int)]) (Sl.of_row (own := true) mem_ rfl) (fun i c' l' x y => ?_) rfl (by simp) ?_ fun c27 N27 h27 => ?_
  · match i with
    | 0 => simp at x y; subst x; subst y; exact h20.cons.cons.cons
    | 1 => simp at x y; subst x; subst y; exact hW.cons.cons.cons
    | 2 => simp at x y; subst x; subst y; exact h25.cons.cons.cons
    | i + 3 => simp at x
  · simp only [List.flatten_cons, List.flatten_nil, List.length_append, List.length_nil]
    omega
  have e27 : [seg l ((0 : Nat) : Int) a, w, seg l a ((l.length : Nat) : Int)].flatten = insV l a w := by
    simp only [List.flatten_cons, List.flatten_nil, List.append_nil, insV, List.append_assoc]
  rw [e27] at h27
  refine w_d rfl rfl rfl (op_move rfl ?_)
  refine w_d rfl rfl rfl (op_move rfl ?_)
  refine w_d rfl rfl rfl (op_lenC und_22 rfl hw.lenC ?_)
  refine w_d rfl rfl rfl (op_addi rfl rfl (by omega) (by omega) ?_)
  refine w_d rfl rfl rfl (op_build rfl ((bld_24 _).trans (rfl : _ = some [_, _])) ?_)
  refine w_dn rfl rfl (op_store siz_24 rfl rfl rfl (by (repeat (first | exact Pick.head _ _ _ | apply Pick.tail | apply Pick.app)); first | done | fail) (Nat.le_of_ble_eq_true rfl) rfl ?_)
  refine w_end ?_
  refine seq_normal ?_
  refine w_ret ?_
  exact ret_cellA rfl agg_24 siz_24 (El.row mem_) rfl sel_ (k _ _ h27)
end Go.Proofs.Ytdhnjkagmbfoaaa.AM.B
