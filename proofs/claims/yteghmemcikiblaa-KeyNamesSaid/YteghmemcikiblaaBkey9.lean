/- What is guessed of a key's own name: that key. -/
import Derived.Test.YteghmemcikiblaaAX
import Derived.Test.YteghmemcikiblaaBkey8
set_option linter.unusedVariables false
set_option linter.unusedSimpArgs false
set_option maxRecDepth 10000
set_option maxHeartbeats 4000000
namespace Go.Proofs.Yteghmemcikiblaa.AM.B
open Go Go.RowKit
theorem laid_ge (L : Nat) : ∀ (m u : Nat) (s : ByteArray), L ≤ s.size + m → L ≤ (Go.Proofs.Yteghmemcikiblaa.P.laidL 16 (L : Int) m u s).size
  | 0, u, s, h => by unfold Go.Proofs.Yteghmemcikiblaa.P.laidL; omega
  | m + 1, u, s, h => by
    have hd := Go.Proofs.Yteghmemcikiblaa.P.digit_size (u % 16) (Nat.mod_lt _ (by omega))
    have hs : (Go.Proofs.Yteghmemcikiblaa.P.digitsB.extract (u % 16) (u % 16 + 1) ++ s).size = s.size + 1 := by rw [ByteArray.size_append, hd]; omega
    simp only [Go.Proofs.Yteghmemcikiblaa.P.laidL]
    split
    · exact laid_ge L m (u / 16) _ (by omega)
    · omega
theorem hex2_len (b : UInt8) : (hexL (b.toNat : Int) 2).length = 2 := by
  have hb := b.toNat_lt
  have h1 := (hex2 (b.toNat : Int) (by omega) (by omega)).2.2
  have h2 : 2 ≤ (hexT (b.toNat : Int) 2).size := by
    have := Go.Proofs.Yteghmemcikiblaa.P.hx_eq (b.toNat : Int) 2 (by decide) (by decide)
    simp only [show ((2 : Nat) : Int) = 2 from rfl] at this
    unfold hexT
    rw [this]
    exact laid_ge 2 81 _ ByteArray.empty (by omega)
  have h3 : (hexL (b.toNat : Int) 2).length = (hexT (b.toNat : Int) 2).size := rfl
  generalize (hexT (b.toNat : Int) 2).size = z at h1 h2 h3
  omega
theorem hex2_val (b : UInt8) : hexTo 0 (hexL (b.toNat : Int) 2) = (b.toNat : Int) ∧ ∀ x ∈ hexL (b.toNat : Int) 2, 0 ≤ digI x ∧ x ≠ 33 ∧ x ≠ 62 := by
  have hb := b.toNat_lt
  have h := hexL_val (b.toNat : Int) 2 (by omega) (by omega) (by decide) (by decide)
  simp only [show ((2 : Nat) : Int) = 2 from rfl] at h
  refine ⟨?_, h.2⟩
  rw [hexTo_val, h.1]; simp
def hexAll (l : List UInt8) : List UInt8 := l.flatMap fun b => hexL (b.toNat : Int) 2
theorem hexAll_len : ∀ l : List UInt8, (hexAll l).length = 2 * l.length
  | [] => rfl
  | b :: l => by
    have := hexAll_len l
    unfold hexAll at this ⊢
    rw [List.flatMap_cons, List.length_append, hex2_len, this, List.length_cons]; omega
theorem hexAll_at : ∀ {l : List UInt8} {j : Nat} {b : UInt8}, l[j]? = some b → ((hexAll l).drop (2 * j)).take 2 = hexL (b.toNat : Int) 2
  | [], j, b, h => by simp at h
  | a :: l, 0, b, h => by
    simp at h; subst h
    unfold hexAll
    rw [List.flatMap_cons, Nat.mul_zero, List.drop_zero, List.take_append_of_le_length (Nat.le_of_eq (hex2_len a).symm), List.take_of_length_le (Nat.le_of_eq (hex2_len a))]
  | a :: l, j + 1, b, h => by
    have := hexAll_at (l := l) (j := j) (b := b) (by simpa using h)
    unfold hexAll at this ⊢
    rw [List.flatMap_cons, show 2 * (j + 1) = (hexL (a.toNat : Int) 2).length + 2 * j by rw [hex2_len]; omega, List.drop_length_add_append]
    exact this
theorem hexAll_ne : ∀ {l : List UInt8}, ∀ x ∈ hexAll l, x ≠ 33
  | l, x, h => by
    unfold hexAll at h
    obtain ⟨b, _, hx⟩ := List.mem_flatMap.1 h
    exact ((hex2_val b).2 x hx).2.1
theorem keybytesX_w {H : Hyp} {K : V → Hyp → Prop} {s : ByteArray} {l : List UInt8} (hs : bl s = hexAll l) (hl : l.length ≤ 300) (k : K (vS ⟨l.toArray⟩) H) : CallW Try.prog Xs 36 [vS s] H K := by
  have hsz : s.size = 2 * l.length := by rw [bl_size, hs, hexAll_len]
  refine call_of (n := 30) (fun _ => rfl) Try.func36 rfl rfl ?_
  refine w_seq ?_
  refine w_region ?_
  refine w_o rfl rfl rfl (op_assign rfl ?_)
  refine w_end ?_
  refine seq_normal ?_
  refine w_seq ?_
  refine w_region ?_
  refine w_o rfl rfl rfl (op_assign rfl ?_)
  refine w_end ?_
  refine seq_normal ?_
  refine w_seq ?_
  refine w_seq ?_
  refine w_region ?_
  refine w_o rfl rfl rfl (op_assign rfl ?_)
  refine w_end ?_
  refine seq_normal ?_
  refine w_block ?_
  refine w_loop (fun m e H' => ∃ (j : Nat) (c : Cell) (N : Hyp), j ≤ l.length ∧ m = l.length - j ∧ Own 5 1 c (((l.take j).map fun b => (b.toNat : Int)).flatMap encU8) N ∧ H' = N ++ H ∧ e = [(0, vS s), (3, .one (.c c)), (4, vI ((2 * j : Nat) : Int))]) ?_ ?_
  · exact ⟨_, _, _, ⟨0, .nils, [], Nat.zero_le _, rfl, .nil, rfl, rfl⟩, env_, sel_⟩
  · rintro m e H' ⟨j, c, N, hj, rfl, hO, rfl, rfl⟩
    have hlen : ((l.take j).map fun b => (b.toNat : Int)).length ≤ 300 := by rw [List.length_map, List.length_take]; omega
    refine w_seq ?_
    refine w_seq ?_
    refine w_region ?_
    refine w_o rfl rfl rfl (op_move rfl ?_)
    refine w_o rfl rfl rfl (op_addi rfl rfl (by omega) (by omega) ?_)
    refine w_o rfl rfl rfl (op_move rfl ?_)
    refine w_o rfl rfl rfl (op_lenS und_9 rfl ?_)
    refine w_o rfl rfl rfl (op_lt rfl rfl ?_)
    refine w_end ?_
    refine seq_normal ?_
    first | refine w_cond rfl (fun hI1 => ?_) (fun hI1 => ?_) | refine w_condB rfl (fun hI1 => ?_) (fun hI1 => ?_)
    · have hj2 : j < l.length := by omega
      obtain ⟨b, hb⟩ : ∃ b, l[j]? = some b := ⟨_, List.getElem?_eq_getElem hj2⟩
      have hbt := b.toNat_lt
      have hat := hexAll_at hb
      have hv := hex2_val b
      have hl2 := hex2_len b
      refine w_skip ?_
      refine seq_normal ?_
      refine w_seq ?_
      refine w_block ?_
      refine w_seq ?_
      refine w_region ?_
      refine w_o rfl rfl rfl (op_move rfl ?_)
      refine w_o rfl rfl rfl (op_move rfl ?_)
      refine w_o rfl rfl rfl (op_move rfl ?_)
      refine w_o rfl rfl rfl (op_addi rfl rfl (by omega) (by omega) ?_)
      refine w_o rfl rfl rfl (op_sliceS und_9 rfl rfl rfl (by omega) (by omega) (by omega) ?_)
      refine w_o rfl rfl rfl (op_call rfl rfl rfl ?_)
      have hu : bl (s.extract ((2 * j : Nat) : Int).toNat (((2 * j : Nat) : Int) + 2).toNat) = hexL (b.toNat : Int) 2 := by
        rw [bl_ext, hs, show ((2 * j : Nat) : Int).toNat = 2 * j by omega, show (((2 * j : Nat) : Int) + 2).toNat = 2 * j + 2 by omega, Nat.add_sub_cancel_left]
        exact hat
      generalize s.extract ((2 * j : Nat) : Int).toNat (((2 * j : Nat) : Int) + 2).toNat = u at hu ⊢
      refine UnhexX_w (by rw [bl_size, hu, hl2]; decide) (by rw [bl_size, hu, hl2]; decide) (by intro x hx; have hx' : x ∈ bl u := hx; rw [hu] at hx'; exact (hv.2 x hx').1) ?_
      rw [show hexTo 0 u.data.toList = (b.toNat : Int) by show hexTo 0 (bl u) = _; rw [hu, hv.1]]
      refine w_o rfl rfl rfl (op_move rfl ?_)
      refine w_o rfl rfl rfl (op_extract rfl rfl ?_)
      refine w_o rfl rfl rfl (op_extract rfl rfl ?_)
      refine w_o rfl rfl rfl (op_assign rfl ?_)
      refine w_o rfl rfl rfl (op_assign rfl ?_)
      refine w_end ?_
      refine seq_normal ?_
      refine w_region ?_
      refine w_o rfl rfl rfl (op_move rfl ?_)
      refine w_o rfl rfl rfl (op_move rfl ?_)
      refine w_o rfl rfl rfl (op_convi und_3 und_5 rfl (c := (b.toNat : Int)) (by rw [w_u8]; omega) ?_)
      refine w_o rfl rfl rfl (op_buildSlice rfl (bsl_48 _ _ _ (rfl : _ = some [_]) rfl (by decide)) fun b26 => ?_)
      refine w_o rfl rfl rfl (op_append1 (xs := (l.take j).map fun b => (b.toNat : Int)) (enc := encU8) (z0 := (b.toNat : Int)) elm_48 inf_5 zer_5 (by decide) und_48 rfl rfl hO (fun _ => rfl) (by (repeat (first | exact PickL.front _ _ | exact PickL.nil _ | apply PickL.skip | apply PickL.skipL)); first | done | fail) rfl (by omega) fun c27 N27 h27 => ?_)
      refine w_o rfl rfl rfl (op_assign rfl ?_)
      refine w_end ?_
      refine block_normal ?_
      refine seq_normal ?_
      refine w_region ?_
      refine w_o rfl rfl rfl (op_move rfl ?_)
      refine w_o rfl rfl rfl (op_addi rfl rfl (by omega) (by omega) ?_)
      refine w_o rfl rfl rfl (op_assign rfl ?_)
      refine w_end ?_
      have e1 : ((l.take j).map fun b => (b.toNat : Int)) ++ [(b.toNat : Int)] = (l.take (j + 1)).map fun b => (b.toNat : Int) := by rw [List.take_add_one, hb, List.map_append]; rfl
      rw [e1] at h27
      exact loop_normal (k' := l.length - (j + 1)) (by omega) ⟨j + 1, c27, N27, by omega, rfl, h27, rfl, rfl⟩ (by rw [show ((2 * (j + 1) : Nat) : Int) = ((2 * j : Nat) : Int) + 2 by omega]; exact env_) sel_
    · have hj2 : j = l.length := by omega
      rw [hj2, List.take_length] at hO
      have hfin : bsOf (l.map fun b => (b.toNat : Int)) = ⟨l.toArray⟩ := by
        refine bl_inj ?_
        show (bsOf _).data.toList = l
        rw [bsOf_list, List.map_map]
        conv => rhs; rw [← List.map_id l]
        apply List.map_congr_left
        intro b _
        simp
      rw [← hfin] at k
      refine w_exit ?_
      refine seq_exit ?_
      refine loop_exit ?_
      refine block_hit rfl ?_
      refine seq_normal ?_
      refine w_seq ?_
      refine w_region ?_
      refine w_o rfl rfl rfl (op_move rfl ?_)
      refine w_o rfl rfl rfl (op_bytesStr und_48 und_5 und_9 rfl hO subs_ ?_)
      refine w_o rfl rfl rfl (op_assign rfl ?_)
      refine w_end ?_
      refine seq_normal ?_
      refine w_ret ?_
      exact ret_ret rfl sel_ k
theorem guessT_w {H : Hyp} {K : V → Hyp → Prop} {s : ByteArray} (h : tableV.any (guessP s) = true) (k : K (.one (.agg (encK ⟨(foundV (guessP s)).f0, (foundV (guessP s)).f1, ⟨#[]⟩, false⟩))) H) : CallW Try.prog Xs 24 [vS s] H K := by
  refine call_of (n := 53) (fun _ => rfl) Try.func24 rfl rfl ?_
  refine w_seq ?_
  refine w_region ?_
  refine w_o rfl rfl rfl (op_box rfl fun b1 => ?_)
  refine w_o rfl rfl rfl (op_alloc zer_23 fun b2 => ?_)
  refine w_end ?_
  refine seq_normal ?_
  refine w_seq ?_
  refine w_seq ?_
  refine w_region ?_
  refine w_o rfl rfl rfl (op_makeFunc rfl ?_)
  refine w_o rfl rfl rfl (op_call rfl rfl rfl ?_)
  refine find_w (p := guessP s) (caps := [(b1, 0)]) (fun n _ H0 K' hs k' => guess1_w (El.sel (El.row mem_) hs) k') ?_
  refine w_o rfl rfl rfl (op_move rfl ?_)
  refine w_o rfl rfl rfl (op_extract rfl rfl ?_)
  refine w_o rfl rfl rfl (op_extract rfl rfl ?_)
  refine w_o rfl rfl rfl (op_alloc zer_40 fun b3 => ?_)
  refine w_on rfl rfl (op_store siz_40 rfl rfl rfl (by (repeat (first | exact Pick.head _ _ _ | apply Pick.tail | apply Pick.app)); first | done | fail) (Nat.le_of_ble_eq_true rfl) rfl ?_)
  refine w_o rfl rfl rfl (op_assign rfl ?_)
  refine w_end ?_
  refine seq_normal ?_
  refine w_seq ?_
  refine w_region ?_
  refine w_o rfl rfl rfl (op_move rfl ?_)
  refine w_end ?_
  refine seq_normal ?_
  first | refine w_cond rfl (fun hI1 => ?_) (fun hI1 => ?_) | refine w_condB rfl (fun hI1 => ?_) (fun hI1 => ?_)
  · refine w_seq ?_
    refine w_region ?_
    refine w_o rfl rfl rfl (op_fieldAddr fa_40_0 rfl ?_)
    refine w_o rfl rfl rfl (op_loadF agg_3 rfl el_ rfl ?_)
    refine w_o rfl rfl rfl (op_fieldAddr fa_40_1 rfl ?_)
    refine w_o rfl rfl rfl (op_loadF agg_3 rfl el_ rfl ?_)
    refine w_o rfl rfl rfl (op_build rfl ((bld_23 _).trans (rfl : _ = some [_, _, _, _])) ?_)
    refine w_on rfl rfl (op_store siz_23 rfl rfl rfl (by (repeat (first | exact Pick.head _ _ _ | apply Pick.tail | apply Pick.app)); first | done | fail) (Nat.le_of_ble_eq_true rfl) rfl ?_)
    refine w_end ?_
    refine seq_normal ?_
    refine w_ret ?_
    refine seq_ret ?_
    exact ret_cellA rfl agg_23 siz_23 rfl el_ sel_ k
  · exfalso; rw [h] at hI1; cases hI1 --closed
theorem guessPaste_w {H : Hyp} {K : V → Hyp → Prop} {s : ByteArray} {l : List UInt8} {cut : Bool} (hs : bl s = 80 :: 45 :: (hexAll l ++ if cut then [33] else [])) (hl : l.length ≤ 300) (k : K (.one (.agg (encK ⟨15, 0, ⟨l.toArray⟩, cut⟩))) H) : CallW Try.prog Xs 24 [vS s] H K := by
  have hn := tab_none (.inr (.inr ⟨_, hs⟩))
  have hp := hasPre_yes (s := s) (p := ⟨#[80, 45]⟩) (r := hexAll l ++ if cut then [33] else []) hs
  have hsz : s.size ≤ 1000 := by
    have := hexAll_len l
    rw [bl_size, hs]
    simp only [List.length_cons, List.length_append]
    split <;> simp only [List.length_cons, List.length_nil] <;> omega
  refine call_of (n := 53) (fun _ => rfl) Try.func24 rfl rfl ?_
  refine w_seq ?_
  refine w_region ?_
  refine w_o rfl rfl rfl (op_box rfl fun b1 => ?_)
  refine w_o rfl rfl rfl (op_alloc zer_23 fun b2 => ?_)
  refine w_end ?_
  refine seq_normal ?_
  refine w_seq ?_
  refine w_seq ?_
  refine w_region ?_
  refine w_o rfl rfl rfl (op_makeFunc rfl ?_)
  refine w_o rfl rfl rfl (op_call rfl rfl rfl ?_)
  refine find_w (p := guessP s) (caps := [(b1, 0)]) (fun n _ H0 K' hs k' => guess1_w (El.sel (El.row mem_) hs) k') ?_
  refine w_o rfl rfl rfl (op_move rfl ?_)
  refine w_o rfl rfl rfl (op_extract rfl rfl ?_)
  refine w_o rfl rfl rfl (op_extract rfl rfl ?_)
  refine w_o rfl rfl rfl (op_alloc zer_40 fun b3 => ?_)
  refine w_on rfl rfl (op_store siz_40 rfl rfl rfl (by (repeat (first | exact Pick.head _ _ _ | apply Pick.tail | apply Pick.app)); first | done | fail) (Nat.le_of_ble_eq_true rfl) rfl ?_)
  refine w_o rfl rfl rfl (op_assign rfl ?_)
  refine w_end ?_
  refine seq_normal ?_
  refine w_seq ?_
  refine w_region ?_
  refine w_o rfl rfl rfl (op_move rfl ?_)
  refine w_end ?_
  refine seq_normal ?_
  first | refine w_cond rfl (fun hI1 => ?_) (fun hI1 => ?_) | refine w_condB rfl (fun hI1 => ?_) (fun hI1 => ?_)
  · exfalso; rw [hn] at hI1; cases hI1 --closed
  · refine w_skip ?_
    refine seq_normal ?_
    refine w_seq ?_
    refine w_seq ?_
    refine w_region ?_
    refine w_o rfl rfl rfl (op_load1 agg_9 rfl el_ ?_)
    refine w_o rfl rfl rfl (op_call rfl rfl rfl ?_)
    refine CutPrefix_w (by omega) (by decide) ?_
    rw [if_pos hp.1, hp.1]
    have hpl := hp.2
    generalize s.extract (ByteArray.size ⟨#[80, 45]⟩) s.size = t1 at hpl ⊢
    have ht1 : t1.size ≤ 1000 := by
      have := hexAll_len l
      rw [bl_size, hpl, List.length_append]
      split <;> simp only [List.length_cons, List.length_nil] <;> omega
    have hsf : hasSuf t1 ⟨#[33]⟩ = cut ∧ bl (if hasSuf t1 ⟨#[33]⟩ then t1.extract 0 (t1.size - ByteArray.size ⟨#[33]⟩) else t1) = hexAll l := by
      cases cut with
      | true =>
        have q := hasSuf_yes (s := t1) (p := ⟨#[33]⟩) (r := hexAll l) hpl
        exact ⟨q.1, by rw [if_pos q.1]; exact q.2⟩
      | false =>
        have hpl' : bl t1 = hexAll l := by rw [hpl]; simp
        have q := hasSuf_no (s := t1) (p := ⟨#[33]⟩) (x := 33) rfl (by rw [hpl']; exact hexAll_ne)
        exact ⟨q, by rw [q]; exact hpl'⟩
    refine w_o rfl rfl rfl (op_move rfl ?_)
    refine w_o rfl rfl rfl (op_extract rfl rfl ?_)
    refine w_o rfl rfl rfl (op_extract rfl rfl ?_)
    refine w_o rfl rfl rfl (op_assign rfl ?_)
    refine w_o rfl rfl rfl (op_assign rfl ?_)
    refine w_end ?_
    refine seq_normal ?_
    refine w_seq ?_
    refine w_region ?_
    refine w_o rfl rfl rfl (op_move rfl ?_)
    refine w_end ?_
    refine seq_normal ?_
    first | refine w_cond rfl (fun hI2 => ?_) (fun hI2 => ?_) | refine w_condB rfl (fun hI2 => ?_) (fun hI2 => ?_)
    · refine w_seq ?_
      refine w_region ?_
      refine w_o rfl rfl rfl (op_move rfl ?_)
      refine w_o rfl rfl rfl (op_call rfl rfl rfl ?_)
      refine CutSuffix_w (by omega) (by decide) ?_
      rw [hsf.1]
      have hs2 := hsf.2
      rw [hsf.1] at hs2
      generalize (if cut = true then t1.extract 0 (t1.size - ByteArray.size ⟨#[33]⟩) else t1) = t2 at hs2 ⊢
      refine w_o rfl rfl rfl (op_move rfl ?_)
      refine w_o rfl rfl rfl (op_extract rfl rfl ?_)
      refine w_o rfl rfl rfl (op_extract rfl rfl ?_)
      refine w_o rfl rfl rfl (op_assign rfl ?_)
      refine w_o rfl rfl rfl (op_assign rfl ?_)
      refine w_end ?_
      refine seq_normal ?_
      refine w_seq ?_
      refine w_region ?_
      refine w_o rfl rfl rfl (op_move rfl ?_)
      refine w_o rfl rfl rfl (op_call rfl rfl rfl ?_)
      refine keybytesX_w hs2 hl ?_
      refine w_o rfl rfl rfl (op_move rfl ?_)
      refine w_o rfl rfl rfl (op_build rfl ((bld_23 _).trans (rfl : _ = some [_, _, _, _])) ?_)
      refine w_on rfl rfl (op_store siz_23 rfl rfl rfl (by (repeat (first | exact Pick.head _ _ _ | apply Pick.tail | apply Pick.app)); first | done | fail) (Nat.le_of_ble_eq_true rfl) rfl ?_)
      refine w_end ?_
      refine seq_normal ?_
      refine w_ret ?_
      refine seq_ret ?_
      exact ret_cellA rfl agg_23 siz_23 rfl el_ sel_ k
    · cases hI2 --closed
theorem sign_head (v : Int) (h0 : 0 ≤ v) : (∃ x, bl (signV v) = [x]) ∨ (∃ a r, bl (signV v) = a :: r ∧ (a = 60 ∨ a = 67)) := by
  by_cases h1 : 32 < v ∧ v < 127 ∧ v ≠ 60
  · left; rw [signV_1 h1]; exact ⟨_, rfl⟩
  · right
    by_cases h2 : 32 ≤ v
    · exact ⟨60, _, signV_2 h1 h2, .inl rfl⟩
    · exact ⟨67, _, signV_3 (by omega) h0, .inr rfl⟩
theorem sign_noPre (v : Int) (h0 : 0 ≤ v) {s : ByteArray} (hs : bl s = bl (signV v)) (c : UInt8) (hc : c ≠ 60 ∧ c ≠ 67) : hasPre s ⟨#[c, 45]⟩ = false := by
  refine hasPre_no ?_
  rw [hs]
  rintro ⟨r, hr⟩
  rcases sign_head v h0 with ⟨x, e⟩ | ⟨a, q, e, ha⟩
  · rw [e] at hr
    have := congrArg List.length hr
    simp at this
    omega
  · rw [e] at hr
    have : c = a := (List.cons.inj hr).1
    rcases ha with rfl | rfl
    · exact hc.1 this
    · exact hc.2 this
theorem guessSign_w {H : Hyp} {K : V → Hyp → Prop} {s : ByteArray} {v : Int} (hs : bl s = bl (signV v)) (hv : controlV v = true ∨ (32 ≤ v ∧ v ≤ 2000000)) (k : K (.one (.agg (encK ⟨if v < 32 then 2 else 1, v, ⟨#[]⟩, false⟩))) H) : CallW Try.prog Xs 24 [vS s] H K := by
  have h0 : 0 ≤ v ∧ v ≤ 2000000 := by
    rcases hv with h | h
    · have := controlV_in h; omega
    · omega
  have hsz : s.size ≤ 8 := by
    have := signV_size h0.1 h0.2
    rw [bl_size, hs, ← bl_size]; exact this
  have hn : tableV.any (guessP s) = false := by
    rcases sign_head v h0.1 with ⟨x, e⟩ | ⟨a, q, e, ha⟩
    · exact tab_none (.inl ⟨x, by rw [hs, e]⟩)
    · exact tab_none (.inr (.inl ⟨a, q, by rw [hs, e], by rcases ha with h | h <;> simp [h]⟩))
  have hP := sign_noPre v h0.1 hs 80 (by decide)
  have hM := sign_noPre v h0.1 hs 77 (by decide)
  refine call_of (n := 53) (fun _ => rfl) Try.func24 rfl rfl ?_
  refine w_seq ?_
  refine w_region ?_
  refine w_o rfl rfl rfl (op_box rfl fun b1 => ?_)
  refine w_o rfl rfl rfl (op_alloc zer_23 fun b2 => ?_)
  refine w_end ?_
  refine seq_normal ?_
  refine w_seq ?_
  refine w_seq ?_
  refine w_region ?_
  refine w_o rfl rfl rfl (op_makeFunc rfl ?_)
  refine w_o rfl rfl rfl (op_call rfl rfl rfl ?_)
  refine find_w (p := guessP s) (caps := [(b1, 0)]) (fun n _ H0 K' hs k' => guess1_w (El.sel (El.row mem_) hs) k') ?_
  refine w_o rfl rfl rfl (op_move rfl ?_)
  refine w_o rfl rfl rfl (op_extract rfl rfl ?_)
  refine w_o rfl rfl rfl (op_extract rfl rfl ?_)
  refine w_o rfl rfl rfl (op_alloc zer_40 fun b3 => ?_)
  refine w_on rfl rfl (op_store siz_40 rfl rfl rfl (by (repeat (first | exact Pick.head _ _ _ | apply Pick.tail | apply Pick.app)); first | done | fail) (Nat.le_of_ble_eq_true rfl) rfl ?_)
  refine w_o rfl rfl rfl (op_assign rfl ?_)
  refine w_end ?_
  refine seq_normal ?_
  refine w_seq ?_
  refine w_region ?_
  refine w_o rfl rfl rfl (op_move rfl ?_)
  refine w_end ?_
  refine seq_normal ?_
  first | refine w_cond rfl (fun hI1 => ?_) (fun hI1 => ?_) | refine w_condB rfl (fun hI1 => ?_) (fun hI1 => ?_)
  · exfalso; rw [hn] at hI1; cases hI1 --closed
  · refine w_skip ?_
    refine seq_normal ?_
    refine w_seq ?_
    refine w_seq ?_
    refine w_region ?_
    refine w_o rfl rfl rfl (op_load1 agg_9 rfl el_ ?_)
    refine w_o rfl rfl rfl (op_call rfl rfl rfl ?_)
    refine CutPrefix_w (by omega) (by decide) ?_
    rw [hP]
    refine w_o rfl rfl rfl (op_move rfl ?_)
    refine w_o rfl rfl rfl (op_extract rfl rfl ?_)
    refine w_o rfl rfl rfl (op_extract rfl rfl ?_)
    refine w_o rfl rfl rfl (op_assign rfl ?_)
    refine w_o rfl rfl rfl (op_assign rfl ?_)
    refine w_end ?_
    refine seq_normal ?_
    refine w_seq ?_
    refine w_region ?_
    refine w_o rfl rfl rfl (op_move rfl ?_)
    refine w_end ?_
    refine seq_normal ?_
    first | refine w_cond rfl (fun hI2 => ?_) (fun hI2 => ?_) | refine w_condB rfl (fun hI2 => ?_) (fun hI2 => ?_)
    · cases hI2 --closed
    · refine w_skip ?_
      refine seq_normal ?_
      refine w_seq ?_
      refine w_region ?_
      refine w_o rfl rfl rfl (op_load1 agg_9 rfl el_ ?_)
      refine w_o rfl rfl rfl (op_call rfl rfl rfl ?_)
      refine CutPrefix_w (by omega) (by decide) ?_
      rw [hM]
      refine w_o rfl rfl rfl (op_move rfl ?_)
      refine w_o rfl rfl rfl (op_extract rfl rfl ?_)
      refine w_o rfl rfl rfl (op_extract rfl rfl ?_)
      refine w_o rfl rfl rfl (op_assign rfl ?_)
      refine w_o rfl rfl rfl (op_assign rfl ?_)
      refine w_end ?_
      refine seq_normal ?_
      refine w_seq ?_
      refine w_region ?_
      refine w_o rfl rfl rfl (op_move rfl ?_)
      refine w_o rfl rfl rfl (op_call rfl rfl rfl ?_)
      refine keyvalueX_w (s := s) hs hv ?_
      refine w_o rfl rfl rfl (op_move rfl ?_)
      refine w_o rfl rfl rfl (op_extract rfl rfl ?_)
      refine w_o rfl rfl rfl (op_extract rfl rfl ?_)
      refine w_o rfl rfl rfl (op_assign rfl ?_)
      refine w_o rfl rfl rfl (op_assign rfl ?_)
      refine w_end ?_
      refine seq_normal ?_
      refine w_seq ?_
      refine w_seq ?_
      refine w_region ?_
      refine w_o rfl rfl rfl (op_move rfl ?_)
      refine w_end ?_
      refine seq_normal ?_
      first | refine w_cond rfl (fun hI3 => ?_) (fun hI3 => ?_) | refine w_condB rfl (fun hI3 => ?_) (fun hI3 => ?_)
      · cases hI3 --closed
      · refine w_skip ?_
        refine seq_normal ?_
        refine w_seq ?_
        refine w_region ?_
        refine w_o rfl rfl rfl (op_move rfl ?_)
        refine w_o rfl rfl rfl (op_move rfl ?_)
        refine w_o rfl rfl rfl (op_build rfl ((bld_23 _).trans (rfl : _ = some [_, _, _, _])) ?_)
        refine w_on rfl rfl (op_store siz_23 rfl rfl rfl (by (repeat (first | exact Pick.head _ _ _ | apply Pick.tail | apply Pick.app)); first | done | fail) (Nat.le_of_ble_eq_true rfl) rfl ?_)
        refine w_end ?_
        refine seq_normal ?_
        refine w_ret ?_
        exact ret_cellA rfl agg_23 siz_23 rfl el_ sel_ k
theorem guessMeta_w {H : Hyp} {K : V → Hyp → Prop} {s : ByteArray} {v : Int} (hs : bl s = 77 :: 45 :: bl (signV v)) (hv : controlV v = true ∨ (32 ≤ v ∧ v ≤ 2000000)) (k : K (.one (.agg (encK ⟨3, v, ⟨#[]⟩, false⟩))) H) : CallW Try.prog Xs 24 [vS s] H K := by
  have h0 : 0 ≤ v ∧ v ≤ 2000000 := by
    rcases hv with h | h
    · have := controlV_in h; omega
    · omega
  have hsz : s.size ≤ 10 := by
    have := signV_size h0.1 h0.2
    rw [bl_size, hs]
    rw [bl_size] at this
    simp only [List.length_cons]; omega
  have hn : tableV.any (guessP s) = false := tab_none (.inr (.inl ⟨77, _, hs, .inr (.inr rfl)⟩))
  have hP : hasPre s ⟨#[80, 45]⟩ = false := by
    refine hasPre_no ?_
    rw [hs]
    rintro ⟨r, hr⟩
    exact absurd (List.cons.inj hr).1 (by decide)
  have hM := hasPre_yes (s := s) (p := ⟨#[77, 45]⟩) (r := bl (signV v)) hs
  refine call_of (n := 53) (fun _ => rfl) Try.func24 rfl rfl ?_
  refine w_seq ?_
  refine w_region ?_
  refine w_o rfl rfl rfl (op_box rfl fun b1 => ?_)
  refine w_o rfl rfl rfl (op_alloc zer_23 fun b2 => ?_)
  refine w_end ?_
  refine seq_normal ?_
  refine w_seq ?_
  refine w_seq ?_
  refine w_region ?_
  refine w_o rfl rfl rfl (op_makeFunc rfl ?_)
  refine w_o rfl rfl rfl (op_call rfl rfl rfl ?_)
  refine find_w (p := guessP s) (caps := [(b1, 0)]) (fun n _ H0 K' hs k' => guess1_w (El.sel (El.row mem_) hs) k') ?_
  refine w_o rfl rfl rfl (op_move rfl ?_)
  refine w_o rfl rfl rfl (op_extract rfl rfl ?_)
  refine w_o rfl rfl rfl (op_extract rfl rfl ?_)
  refine w_o rfl rfl rfl (op_alloc zer_40 fun b3 => ?_)
  refine w_on rfl rfl (op_store siz_40 rfl rfl rfl (by (repeat (first | exact Pick.head _ _ _ | apply Pick.tail | apply Pick.app)); first | done | fail) (Nat.le_of_ble_eq_true rfl) rfl ?_)
  refine w_o rfl rfl rfl (op_assign rfl ?_)
  refine w_end ?_
  refine seq_normal ?_
  refine w_seq ?_
  refine w_region ?_
  refine w_o rfl rfl rfl (op_move rfl ?_)
  refine w_end ?_
  refine seq_normal ?_
  first | refine w_cond rfl (fun hI1 => ?_) (fun hI1 => ?_) | refine w_condB rfl (fun hI1 => ?_) (fun hI1 => ?_)
  · exfalso; rw [hn] at hI1; cases hI1 --closed
  · refine w_skip ?_
    refine seq_normal ?_
    refine w_seq ?_
    refine w_seq ?_
    refine w_region ?_
    refine w_o rfl rfl rfl (op_load1 agg_9 rfl el_ ?_)
    refine w_o rfl rfl rfl (op_call rfl rfl rfl ?_)
    refine CutPrefix_w (by omega) (by decide) ?_
    rw [hP]
    refine w_o rfl rfl rfl (op_move rfl ?_)
    refine w_o rfl rfl rfl (op_extract rfl rfl ?_)
    refine w_o rfl rfl rfl (op_extract rfl rfl ?_)
    refine w_o rfl rfl rfl (op_assign rfl ?_)
    refine w_o rfl rfl rfl (op_assign rfl ?_)
    refine w_end ?_
    refine seq_normal ?_
    refine w_seq ?_
    refine w_region ?_
    refine w_o rfl rfl rfl (op_move rfl ?_)
    refine w_end ?_
    refine seq_normal ?_
    first | refine w_cond rfl (fun hI2 => ?_) (fun hI2 => ?_) | refine w_condB rfl (fun hI2 => ?_) (fun hI2 => ?_)
    · cases hI2 --closed
    · refine w_skip ?_
      refine seq_normal ?_
      refine w_seq ?_
      refine w_region ?_
      refine w_o rfl rfl rfl (op_load1 agg_9 rfl el_ ?_)
      refine w_o rfl rfl rfl (op_call rfl rfl rfl ?_)
      refine CutPrefix_w (by omega) (by decide) ?_
      rw [if_pos hM.1, hM.1]
      have hml := hM.2
      generalize s.extract (ByteArray.size ⟨#[77, 45]⟩) s.size = t3 at hml ⊢
      refine w_o rfl rfl rfl (op_move rfl ?_)
      refine w_o rfl rfl rfl (op_extract rfl rfl ?_)
      refine w_o rfl rfl rfl (op_extract rfl rfl ?_)
      refine w_o rfl rfl rfl (op_assign rfl ?_)
      refine w_o rfl rfl rfl (op_assign rfl ?_)
      refine w_end ?_
      refine seq_normal ?_
      refine w_seq ?_
      refine w_region ?_
      refine w_o rfl rfl rfl (op_move rfl ?_)
      refine w_o rfl rfl rfl (op_call rfl rfl rfl ?_)
      refine keyvalueX_w (s := t3) hml hv ?_
      refine w_o rfl rfl rfl (op_move rfl ?_)
      refine w_o rfl rfl rfl (op_extract rfl rfl ?_)
      refine w_o rfl rfl rfl (op_extract rfl rfl ?_)
      refine w_o rfl rfl rfl (op_assign rfl ?_)
      refine w_o rfl rfl rfl (op_assign rfl ?_)
      refine w_end ?_
      refine seq_normal ?_
      refine w_seq ?_
      refine w_seq ?_
      refine w_region ?_
      refine w_o rfl rfl rfl (op_move rfl ?_)
      refine w_end ?_
      refine seq_normal ?_
      first | refine w_cond rfl (fun hI3 => ?_) (fun hI3 => ?_) | refine w_condB rfl (fun hI3 => ?_) (fun hI3 => ?_)
      · refine w_region ?_
        refine w_o rfl rfl rfl (op_assign rfl ?_)
        refine w_end ?_
        refine seq_normal ?_
        refine w_seq ?_
        refine w_region ?_
        refine w_o rfl rfl rfl (op_move rfl ?_)
        refine w_o rfl rfl rfl (op_move rfl ?_)
        refine w_o rfl rfl rfl (op_build rfl ((bld_23 _).trans (rfl : _ = some [_, _, _, _])) ?_)
        refine w_on rfl rfl (op_store siz_23 rfl rfl rfl (by (repeat (first | exact Pick.head _ _ _ | apply Pick.tail | apply Pick.app)); first | done | fail) (Nat.le_of_ble_eq_true rfl) rfl ?_)
        refine w_end ?_
        refine seq_normal ?_
        refine w_ret ?_
        exact ret_cellA rfl agg_23 siz_23 rfl el_ sel_ k
      · cases hI3 --closed
end Go.Proofs.Yteghmemcikiblaa.AM.B
