/- The document's line of an offer. -/
import Derived.Test.YtlbbnimobbheiaaAX
import Derived.Test.YtlbbnimobbheiaaBoffer6
set_option linter.unusedVariables false
set_option linter.unusedSimpArgs false
set_option maxRecDepth 10000
set_option maxHeartbeats 4000000
namespace Go.Proofs.Ytlbbnimobbheiaa.AM.B
open Go Go.RowKit
theorem stemF_eq {L : List (List Sign)} (i : Nat) (h : i ≤ L.length) : stemF L i = (L.headD []).take (stemF L i).length := by
  apply List.ext_getElem?
  intro j
  have hl := stemF_len L i h
  rcases Nat.lt_or_ge j (stemF L i).length with q | q
  · rw [List.getElem?_take, if_pos q]; exact stemF_pre i h j q
  · rw [List.getElem?_eq_none q, List.getElem?_eq_none (by rw [List.length_take]; omega)]
theorem R26Line_w {H H1 : Hyp} {K : V → Hyp → Prop} {cx cl : Cell} {l : List Sign} {a hand : Int} {L : List (List Sign)} {wl : Nat} (hX : Sl H 47 2 cx l.length (l.flatMap encS)) (hL : KVo H L cl) (hl : l.length ≤ 1000) (ha : 0 ≤ a ∧ a ≤ l.length) (hwl : a.toNat = wl + fromF l a.toNat) (hLl : 1 ≤ L.length ∧ L.length ≤ 1000) (hLe : ∀ x ∈ L, x.length ≤ 10000) (hh : -1 ≤ hand ∧ hand < L.length) (hch : wl ≤ (chV L hand).length)
    (k : ∀ c' N, Own 47 2 c' ((insV l a ((chV L hand).drop wl)).flatMap encS) N → K (lineV c' (a + (((chV L hand).drop wl).length : Nat))) (N ++ H)) : CallW Try.prog Xs 19 [lineV cx a, .one (.c cl), vI hand] H K := by
  have hKV := hL
  obtain ⟨cs, g1, g2, g3⟩ := hL
  obtain ⟨x0, hx0⟩ : ∃ x, L[0]? = some x := ⟨_, List.getElem?_eq_getElem (by omega)⟩
  have hd0 : L.headD [] = x0 := by
    cases L with
    | nil => simp at hx0
    | cons y ys => simpa using hx0
  have hx0l := hLe x0 (List.mem_of_getElem? hx0)
  have hsl := stemF_len L L.length (Nat.le_refl _)
  have hse := stemF_eq (L := L) L.length (Nat.le_refl _)
  rw [hd0] at hsl hse
  have hwi : a - ((fromF l a.toNat : Nat) : Int) = (wl : Int) := by omega
  refine call_of (n := 32) (fun _ => rfl) Try.func19 rfl rfl ?_
  refine w_seq ?_
  refine w_region ?_
  refine w_o rfl rfl rfl (op_box rfl fun b3 => ?_)
  refine w_o rfl rfl rfl (op_alloc zer_24 fun b6 => ?_)
  refine w_end ?_
  refine seq_normal ?_
  refine w_seq ?_
  refine w_drawF ((b3, .row true 24 1 [cx, .int .i64 a]) :: H) sel_ (by decide +kernel) (by decide +kernel) ?_
  refine f_b (guard_none rfl) rfl rfl rfl rfl (op_fieldAddr fa_24_1 rfl ?_)
  refine f_l (guard_none rfl) rfl rfl rfl sel_ (op_loadF agg_3 rfl el_ rfl rfl) ?_
  refine f_a (guard_none rfl) rfl rfl rfl (by decide +kernel) (op_loadA agg_24 siz_24 rfl rfl el_ ?_)
  refine f_m (guard_none rfl) rfl rfl rfl (op_call rfl rfl rfl ?_)
  refine R26From_w hX (fun y hy => List.Mem.tail _ (List.Mem.tail _ hy)) hl ha ?_
  refine ⟨sel_, ?_⟩
  refine f_b (guard_none rfl) rfl rfl rfl rfl (op_subi rfl rfl (by omega) (by omega) ?_)
  rw [hwi]
  refine f_b (guard_none rfl) rfl rfl rfl rfl (op_assign rfl ?_)
  refine f_end ?_
  refine seq_normal ?_
  refine w_seq ?_
  refine w_seq ?_
  refine w_region ?_
  refine w_o rfl rfl rfl (op_move rfl ?_)
  refine w_o rfl rfl rfl (op_lt rfl rfl ?_)
  refine w_end ?_
  refine seq_normal ?_
  first | refine w_cond rfl (fun hI1 => ?_) (fun hI1 => ?_) | refine w_condB rfl (fun hI1 => ?_) (fun hI1 => ?_)
  · have hc9 : chV L hand = stemF L L.length := by unfold chV; rw [if_neg (by omega)]
    rw [hc9] at k hch
    refine w_seq ?_
    refine w_drawF ((b6, .row true 24 1 [.nils, .int .i64 0]) :: (b3, .row true 24 1 [cx, .int .i64 a]) :: H) sel_ (by decide +kernel) (by decide +kernel) ?_
    refine f_l (guard_none rfl) rfl rfl rfl sel_ (op_loadA agg_24 siz_24 rfl rfl el_ rfl) ?_
    refine f_b (guard_none rfl) rfl rfl rfl rfl (op_move rfl ?_)
    refine f_b (guard_none rfl) rfl rfl rfl rfl (op_indexT (enc := encC) (xs := cs) (j := 0) und_25 siz_22 rfl rfl (g1.cons.cons) (fun _ => rfl) rfl (by omega) fun b17 o17 z17 h17 e17 => ?_)
    refine f_l (guard_none rfl) rfl rfl rfl sel_ (op_load1 agg_22 rfl el_ rfl) ?_
    refine f_b (guard_none rfl) rfl rfl rfl rfl (op_move rfl ?_)
    refine f_b (guard_none rfl) rfl rfl rfl rfl (op_move rfl ?_)
    refine f_m (guard_none rfl) rfl rfl rfl (op_call rfl rfl rfl ?_)
    refine R26Stem_w (hKV.sub fun y hy => List.Mem.tail _ (List.Mem.tail _ hy)) hLl hLe ?_
    refine ⟨sel_, ?_⟩
    refine f_sliceT (enc := encS) (xs := x0) (guard_none rfl) rfl rfl rfl sel_ elm_22 siz_47 (by decide) rfl (g3 0 z17 x0 h17 hx0) (fun y hy => List.Mem.tail _ (List.Mem.tail _ hy)) (fun _ => rfl) rfl rfl (by omega) (by omega) (by omega) fun c22 h22 => ?_
    have e22 : (x0.drop ((wl : Nat) : Int).toNat).take ((((stemF L L.length).length : Nat) : Int).toNat - ((wl : Nat) : Int).toNat) = (stemF L L.length).drop wl := by
      conv => rhs; rw [hse, List.drop_take]
      rfl
    rw [e22] at h22
    refine f_m (guard_none rfl) rfl rfl rfl (op_call rfl rfl rfl ?_)
    refine R16Insert_w hX (fun y hy => List.Mem.tail _ (List.Mem.tail _ hy)) h22 (fun y hy => List.Mem.tail _ (List.Mem.tail _ hy)) hl (by rw [List.length_drop]; omega) ha fun c23 N23 h23 => ?_
    refine ⟨sel_, ?_⟩
    refine f_wn (guard_none rfl) rfl rfl rfl (op_store siz_24 rfl rfl rfl (by (repeat (first | exact Pick.head _ _ _ | apply Pick.tail | apply Pick.app)); first | done | fail) (Nat.le_of_ble_eq_true rfl) rfl ?_)
    refine f_end ?_
    refine seq_normal ?_
    refine w_ret ?_
    refine seq_ret ?_
    exact ret_cellA rfl agg_24 siz_24 (El.row mem_) rfl sel_ (k _ _ h23)
  · obtain ⟨hn, hhn⟩ : ∃ n : Nat, hand = (n : Int) := ⟨hand.toNat, by omega⟩
    obtain ⟨x, hx⟩ : ∃ x, L[hn]? = some x := ⟨_, List.getElem?_eq_getElem (by omega)⟩
    have hc9 : chV L hand = x := by unfold chV; rw [if_pos (by omega), hhn, Int.toNat_natCast, hx]; rfl
    have hxl := hLe x (List.mem_of_getElem? hx)
    rw [hc9] at k hch
    refine w_skip ?_
    refine seq_normal ?_
    refine w_seq ?_
    refine w_draw (by decide +kernel) (by decide +kernel) ?_
    refine w_d rfl rfl rfl (op_loadA agg_24 siz_24 rfl rfl el_ ?_)
    refine w_d rfl rfl rfl (op_move rfl ?_)
    refine w_d rfl rfl rfl (op_move rfl ?_)
    refine w_d rfl rfl rfl (op_indexT (enc := encC) (xs := cs) (j := hn) und_25 siz_22 rfl rfl (g1.cons.cons) (fun _ => rfl) hhn (by omega) fun b27 o27 z27 h27 e27 => ?_)
    refine w_d rfl rfl rfl (op_load1 agg_22 rfl el_ ?_)
    refine w_d rfl rfl rfl (op_move rfl ?_)
    refine w_d rfl rfl rfl (op_sliceU (enc := encS) (xs := x) elm_22 siz_47 (by decide) rfl (g3 hn z27 x h27 hx) (fun y hy => List.Mem.tail _ (List.Mem.tail _ hy)) (fun _ => rfl) rfl rfl (by omega) (by omega) (by omega) fun c30 h30 => ?_)
    have e30 : (x.drop ((wl : Nat) : Int).toNat).take (((x.length : Nat) : Int).toNat - ((wl : Nat) : Int).toNat) = x.drop wl := List.take_of_length_le (by rw [List.length_drop]; exact Nat.le_refl _)
    rw [e30] at h30
    refine w_d rfl rfl rfl (op_call rfl rfl rfl ?_)
    refine R16Insert_w hX (fun y hy => List.Mem.tail _ (List.Mem.tail _ hy)) h30 (fun y hy => List.Mem.tail _ (List.Mem.tail _ hy)) hl (by rw [List.length_drop]; omega) ha fun c31 N31 h31 => ?_
    refine w_dn rfl rfl (op_store siz_24 rfl rfl rfl (by (repeat (first | exact Pick.head _ _ _ | apply Pick.tail | apply Pick.app)); first | done | fail) (Nat.le_of_ble_eq_true rfl) rfl ?_)
    refine w_end ?_
    refine seq_normal ?_
    refine w_ret ?_
    exact ret_cellA rfl agg_24 siz_24 (El.row mem_) rfl sel_ (k _ _ h31)
end Go.Proofs.Ytlbbnimobbheiaa.AM.B
