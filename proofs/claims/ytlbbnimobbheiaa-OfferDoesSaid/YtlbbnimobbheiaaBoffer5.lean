/- The line of an offer. -/
import Derived.Test.YtlbbnimobbheiaaAX
import Derived.Test.YtlbbnimobbheiaaBoffer4
set_option linter.unusedVariables false
set_option linter.unusedSimpArgs false
set_option maxRecDepth 10000
set_option maxHeartbeats 4000000
namespace Go.Proofs.Ytlbbnimobbheiaa.AM.B
open Go Go.RowKit
/-- With what the first ones begin. -/
def stemF (L : List (List Sign)) (i : Nat) : List Sign := (L.take i).foldl (fun c x => c.take (comN c x)) (L.headD [])
theorem stemF_succ {L : List (List Sign)} {i : Nat} {x : List Sign} (hx : L[i]? = some x) : stemF L (i + 1) = (stemF L i).take (comN (stemF L i) x) := by
  unfold stemF
  rw [List.take_add_one, hx, List.foldl_append]
  rfl
theorem stemF_len (L : List (List Sign)) : ∀ i, i ≤ L.length → (stemF L i).length ≤ (L.headD []).length
  | 0, _ => by unfold stemF; simp
  | i + 1, h => by
    have hx : L[i]? = some L[i] := List.getElem?_eq_getElem (by omega)
    rw [stemF_succ hx, List.length_take]
    have := stemF_len L i (by omega)
    omega
def chV (L : List (List Sign)) (hand : Int) : List Sign := if 0 ≤ hand then (L[hand.toNat]?).getD [] else stemF L L.length
section
variable {H : Hyp} {K : V → Hyp → Prop} {cx cw cl : Cell} {a hand : Int} {b : Nat} {L : List (List Sign)} {l w : List Sign}
theorem offLine_w (hb : (b, offRow cx a cw cl hand) ∈ H) (hL : KVo H L cl) (hX : Sl H 47 2 cx l.length (l.flatMap encS)) (hW : Sl H 47 2 cw w.length (w.flatMap encS)) (hl : l.length ≤ 1000) (ha : 0 ≤ a ∧ a ≤ l.length) (hLl : 1 ≤ L.length ∧ L.length ≤ 1000) (hLe : ∀ x ∈ L, x.length ≤ 10000) (hh : -1 ≤ hand ∧ hand < L.length) (hch : w.length ≤ (chV L hand).length)
    (k : ∀ c' N, Own 47 2 c' ((insV l a ((chV L hand).drop w.length)).flatMap encS) N → K (lineV c' (a + (((chV L hand).drop w.length).length : Nat))) (N ++ H)) : CallW Try.prog Xs 18 [ptrV b 0] H K := by
  obtain ⟨cs, g1, g2, g3⟩ := hL
  unfold offRow at hb
  obtain ⟨x0, hx0⟩ : ∃ x, L[0]? = some x := ⟨_, List.getElem?_eq_getElem (by omega)⟩
  have hd0 : L.headD [] = x0 := by
    cases L with
    | nil => simp at hx0
    | cons y ys => simpa using hx0
  have hx0l := hLe x0 (List.mem_of_getElem? hx0)
  refine call_of (n := 55) (fun _ => rfl) Try.func18 rfl rfl ?_
  refine w_seq ?_
  refine w_region ?_
  refine w_o rfl rfl rfl (op_alloc zer_24 fun b2 => ?_)
  refine w_end ?_
  refine seq_normal ?_
  refine w_seq ?_
  refine w_seq ?_
  refine w_region ?_
  refine w_o rfl rfl rfl (op_move rfl ?_)
  refine w_o rfl rfl rfl (op_nilEq rfl rfl rfl (by simp only [nilKind, und_29]) ?_)
  refine w_end ?_
  refine seq_normal ?_
  refine w_condF rfl ?_
  refine w_skip ?_
  refine seq_normal ?_
  refine w_seq ?_
  refine w_region ?_
  refine w_o rfl rfl rfl (op_move rfl ?_)
  refine w_o rfl rfl rfl (op_nilCheck rfl ?_)
  refine w_o rfl rfl rfl (op_fieldAddr fa_54_2 rfl ?_)
  refine w_o rfl rfl rfl (op_loadF agg_25 rfl el_ rfl ?_)
  refine w_o rfl rfl rfl (op_indexT (enc := encC) (xs := cs) (j := 0) und_25 siz_22 rfl rfl (g1.cons) (fun _ => rfl) rfl (by omega) fun b13 o13 z13 h13 e13 => ?_)
  refine w_o rfl rfl rfl (op_load1 agg_22 rfl el_ ?_)
  refine w_o rfl rfl rfl (op_assign rfl ?_)
  refine w_end ?_
  refine seq_normal ?_
  refine w_seq ?_
  refine w_seq ?_
  refine w_region ?_
  refine w_o rfl rfl rfl (op_move rfl ?_)
  refine w_o rfl rfl rfl (op_nilCheck rfl ?_)
  refine w_o rfl rfl rfl (op_fieldAddr fa_54_2 rfl ?_)
  refine w_o rfl rfl rfl (op_loadF agg_25 rfl el_ rfl ?_)
  refine w_o rfl rfl rfl (op_lenC und_25 rfl g1.lenC ?_)
  refine w_o rfl rfl rfl (op_move rfl ?_)
  refine w_end ?_
  refine seq_normal ?_
  refine w_block ?_
  refine w_loop (fun q e H' => ∃ (i : Nat) (c3 : Cell), i ≤ L.length ∧ q = L.length - i ∧ Sl H 47 2 c3 (stemF L i).length ((stemF L i).flatMap encS) ∧ H' = (b2, .row true 24 1 [.nils, .int .i64 0]) :: H ∧ e = [(0, ptrV b 0), (2, ptrV b2 0), (3, .one (.c c3)), (18, .one (.c cl)), (19, vI (cs.length : Nat)), (20, vI (i : Nat))]) ?_ ?_
  · exact ⟨_, _, _, ⟨0, z13, Nat.zero_le _, rfl, (by have := g3 0 z13 x0 h13 hx0; unfold stemF; rw [List.take_zero, List.foldl_nil, hd0]; exact this), rfl, rfl⟩, env_, sel_⟩
  · rintro q e H' ⟨i, c3, hi, rfl, hc3, rfl, rfl⟩
    have hsl := stemF_len L i hi
    rw [hd0] at hsl
    refine w_seq ?_
    refine w_region ?_
    refine w_o rfl rfl rfl (op_lt rfl rfl ?_)
    refine w_end ?_
    refine seq_normal ?_
    refine w_seq ?_
    first | refine w_cond rfl (fun hI2 => ?_) (fun hI2 => ?_) | refine w_condB rfl (fun hI2 => ?_) (fun hI2 => ?_)
    · obtain ⟨x, hx⟩ : ∃ x, L[i]? = some x := ⟨_, List.getElem?_eq_getElem (by omega)⟩
      have hxl := hLe x (List.mem_of_getElem? hx)
      refine w_skip ?_
      refine seq_normal ?_
      refine w_seq ?_
      refine w_block ?_
      refine w_seq ?_
      refine w_region ?_
      refine w_o rfl rfl rfl (op_indexT (enc := encC) (xs := cs) (j := i) und_25 siz_22 rfl rfl (g1.cons) (fun _ => rfl) rfl (by omega) fun b22 o22 z22 h22 e22 => ?_)
      refine w_o rfl rfl rfl (op_load1 agg_22 rfl el_ ?_)
      refine w_o rfl rfl rfl (op_assign rfl ?_)
      refine w_end ?_
      refine seq_normal ?_
      refine w_region ?_
      refine w_o rfl rfl rfl (op_move rfl ?_)
      refine w_o rfl rfl rfl (op_move rfl ?_)
      refine w_o rfl rfl rfl (op_call rfl rfl rfl ?_)
      refine common_w (H1 := H) (H2 := H) hc3 (fun y hy => List.Mem.tail _ hy) (g3 i z22 x h22 hx) (fun y hy => List.Mem.tail _ hy) (by omega) (by omega) fun d hd => ?_
      refine w_o rfl rfl rfl (op_assign rfl ?_)
      refine w_end ?_
      refine block_normal ?_
      refine seq_normal ?_
      refine w_region ?_
      refine w_o rfl rfl rfl (op_addi rfl rfl (by omega) (by omega) ?_)
      refine w_o rfl rfl rfl (op_move rfl ?_)
      refine w_end ?_
      rw [← stemF_succ hx] at hd
      exact loop_normal (k' := L.length - (i + 1)) (by omega) ⟨i + 1, d, by omega, rfl, hd, rfl, rfl⟩ env_ sel_
    · refine w_exit ?_
      refine seq_exit ?_
      refine loop_exit ?_
      refine block_hit rfl ?_
      refine seq_normal ?_
      refine w_seq ?_
      refine w_seq ?_
      refine w_region ?_
      refine w_o rfl rfl rfl (op_move rfl ?_)
      refine w_o rfl rfl rfl (op_nilCheck rfl ?_)
      refine w_o rfl rfl rfl (op_fieldAddr fa_54_3 rfl ?_)
      refine w_o rfl rfl rfl (op_loadF agg_3 rfl el_ rfl ?_)
      refine w_o rfl rfl rfl (op_ge rfl rfl ?_)
      refine w_end ?_
      refine seq_normal ?_
      first | refine w_cond rfl (fun hI3 => ?_) (fun hI3 => ?_) | refine w_condB rfl (fun hI3 => ?_) (fun hI3 => ?_)
      · obtain ⟨hn, hhn⟩ : ∃ n : Nat, hand = (n : Int) := ⟨hand.toNat, by omega⟩
        obtain ⟨x, hx⟩ : ∃ x, L[hn]? = some x := ⟨_, List.getElem?_eq_getElem (by omega)⟩
        have hc9 : chV L hand = x := by unfold chV; rw [if_pos (by omega), hhn, Int.toNat_natCast, hx]; rfl
        refine w_draw (by decide +kernel) (by decide +kernel) ?_
        refine w_d rfl rfl rfl (op_move rfl ?_)
        refine w_d rfl rfl rfl (op_nilCheck rfl ?_)
        refine w_d rfl rfl rfl (op_fieldAddr fa_54_2 rfl ?_)
        refine w_d rfl rfl rfl (op_loadF agg_25 rfl el_ rfl ?_)
        refine w_d rfl rfl rfl (op_move rfl ?_)
        refine w_d rfl rfl rfl (op_nilCheck rfl ?_)
        refine w_d rfl rfl rfl (op_fieldAddr fa_54_3 rfl ?_)
        refine w_d rfl rfl rfl (op_loadF agg_3 rfl el_ rfl ?_)
        refine w_d rfl rfl rfl (op_indexT (enc := encC) (xs := cs) (j := hn) und_25 siz_22 rfl rfl (g1.cons) (fun _ => rfl) hhn (by omega) fun b41 o41 z41 h41 e41 => ?_)
        refine w_d rfl rfl rfl (op_load1 agg_22 rfl el_ ?_)
        have hcl9 : (chV L hand).length ≤ 10000 := by rw [hc9]; exact hLe x (List.mem_of_getElem? hx)
        have hS9 : Sl H 47 2 z41 (chV L hand).length ((chV L hand).flatMap encS) := by rw [hc9]; exact g3 hn z41 x h41 hx
        refine w_d rfl rfl rfl (op_assign rfl ?_)
        refine w_end ?_
        refine seq_normal ?_
        refine w_seq ?_
        refine w_draw (by decide +kernel) (by decide +kernel) ?_
        refine w_d rfl rfl rfl (op_move rfl ?_)
        refine w_d rfl rfl rfl (op_nilCheck rfl ?_)
        refine w_d rfl rfl rfl (op_fieldAddr fa_54_0 rfl ?_)
        refine w_d rfl rfl rfl (op_loadFA agg_24 siz_24 rfl el_ (Nat.le_of_ble_eq_true rfl) rfl ?_)
        refine w_d rfl rfl rfl (op_move rfl ?_)
        refine w_d rfl rfl rfl (op_move rfl ?_)
        refine w_d rfl rfl rfl (op_nilCheck rfl ?_)
        refine w_d rfl rfl rfl (op_fieldAddr fa_54_1 rfl ?_)
        refine w_d rfl rfl rfl (op_loadF agg_22 rfl el_ rfl ?_)
        refine w_d rfl rfl rfl (op_lenC und_22 rfl hW.lenC ?_)
        refine w_d rfl rfl rfl (op_sliceU (enc := encS) (xs := chV L hand) elm_22 siz_47 (by decide) rfl hS9 (fun y hy => List.Mem.tail _ hy) (fun _ => rfl) rfl rfl (by omega) (by omega) (by omega) fun c53 h53 => ?_)
        have e53 : ((chV L hand).drop ((w.length : Nat) : Int).toNat).take ((((chV L hand).length : Nat) : Int).toNat - ((w.length : Nat) : Int).toNat) = (chV L hand).drop w.length := List.take_of_length_le (by rw [List.length_drop]; exact Nat.le_refl _)
        rw [e53] at h53
        refine w_d rfl rfl rfl (op_call rfl rfl rfl ?_)
        refine Insert_w hX (fun y hy => List.Mem.tail _ hy) h53 (fun y hy => List.Mem.tail _ hy) hl (by rw [List.length_drop]; omega) ha fun c54 N54 h54 => ?_
        refine w_dn rfl rfl (op_store siz_24 rfl rfl rfl (by (repeat (first | exact Pick.head _ _ _ | apply Pick.tail | apply Pick.app)); first | done | fail) (Nat.le_of_ble_eq_true rfl) rfl ?_)
        refine w_end ?_
        refine seq_normal ?_
        refine w_ret ?_
        exact ret_cellA rfl agg_24 siz_24 (El.row mem_) rfl sel_ (k _ _ h54)
      · have hc9 : chV L hand = stemF L i := by unfold chV; rw [if_neg (by omega), show L.length = i by omega]
        have hcl9 : (chV L hand).length ≤ 10000 := by rw [hc9]; omega
        have hS9 : Sl H 47 2 c3 (chV L hand).length ((chV L hand).flatMap encS) := by rw [hc9]; exact hc3
        refine w_skip ?_
        refine seq_normal ?_
        refine w_seq ?_
        refine w_draw (by decide +kernel) (by decide +kernel) ?_
        refine w_d rfl rfl rfl (op_move rfl ?_)
        refine w_d rfl rfl rfl (op_nilCheck rfl ?_)
        refine w_d rfl rfl rfl (op_fieldAddr fa_54_0 rfl ?_)
        refine w_d rfl rfl rfl (op_loadFA agg_24 siz_24 rfl el_ (Nat.le_of_ble_eq_true rfl) rfl ?_)
        refine w_d rfl rfl rfl (op_move rfl ?_)
        refine w_d rfl rfl rfl (op_move rfl ?_)
        refine w_d rfl rfl rfl (op_nilCheck rfl ?_)
        refine w_d rfl rfl rfl (op_fieldAddr fa_54_1 rfl ?_)
        refine w_d rfl rfl rfl (op_loadF agg_22 rfl el_ rfl ?_)
        refine w_d rfl rfl rfl (op_lenC und_22 rfl hW.lenC ?_)
        refine w_d rfl rfl rfl (op_sliceU (enc := encS) (xs := chV L hand) elm_22 siz_47 (by decide) rfl hS9 (fun y hy => List.Mem.tail _ hy) (fun _ => rfl) rfl rfl (by omega) (by omega) (by omega) fun c53 h53 => ?_)
        have e53 : ((chV L hand).drop ((w.length : Nat) : Int).toNat).take ((((chV L hand).length : Nat) : Int).toNat - ((w.length : Nat) : Int).toNat) = (chV L hand).drop w.length := List.take_of_length_le (by rw [List.length_drop]; exact Nat.le_refl _)
        rw [e53] at h53
        refine w_d rfl rfl rfl (op_call rfl rfl rfl ?_)
        refine Insert_w hX (fun y hy => List.Mem.tail _ hy) h53 (fun y hy => List.Mem.tail _ hy) hl (by rw [List.length_drop]; omega) ha fun c54 N54 h54 => ?_
        refine w_dn rfl rfl (op_store siz_24 rfl rfl rfl (by (repeat (first | exact Pick.head _ _ _ | apply Pick.tail | apply Pick.app)); first | done | fail) (Nat.le_of_ble_eq_true rfl) rfl ?_)
        refine w_end ?_
        refine seq_normal ?_
        refine w_ret ?_
        exact ret_cellA rfl agg_24 siz_24 (El.row mem_) rfl sel_ (k _ _ h54)
end
end Go.Proofs.Ytlbbnimobbheiaa.AM.B
