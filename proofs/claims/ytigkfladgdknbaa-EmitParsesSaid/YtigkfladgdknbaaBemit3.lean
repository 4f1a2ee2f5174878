/- emit.Parse, walked, the rest. -/
import Derived.Test.YtigkfladgdknbaaAX
import Derived.Test.YtigkfladgdknbaaBemit2
set_option linter.unusedVariables false
set_option linter.unusedSimpArgs false
set_option maxRecDepth 10000
set_option maxHeartbeats 4000000
namespace Go.Proofs.Ytigkfladgdknbaa.AM.B
open Go Go.RowKit
theorem hasPre_iff (s t : ByteArray) : hasPre s t = true ↔ ∃ r, bl s = bl t ++ r := by
  simp only [hasPre, Bool.and_eq_true, decide_eq_true_eq]
  constructor
  · rintro ⟨h1, h2⟩
    refine ⟨(bl s).drop t.size, ?_⟩
    have e := bl_take s t.size h1
    rw [h2] at e
    rw [e, List.take_append_drop]
  · rintro ⟨r, h⟩
    have hsz := congrArg List.length h
    rw [List.length_append, bl_len, bl_len] at hsz
    refine ⟨by omega, bl_inj ?_⟩
    rw [bl_take s t.size (by omega), h, ← bl_len t, List.take_left]
theorem byteAt_0 {s : ByteArray} {x : UInt8} {r : List UInt8} (h : bl s = x :: r) : byteAt s 0 = (x.toNat : Int) := by
  unfold byteAt
  rw [show s.data.toList = x :: r from h]; rfl
theorem u8_of {x : UInt8} {n : Nat} (h : (x.toNat : Int) = n) (hn : n < 256) : x = UInt8.ofNat n := by
  have : x.toNat = n := by omega
  rw [← this, UInt8.ofNat_toNat]
theorem byteAt_n {s : ByteArray} {i : Nat} {x : UInt8} (h : (bl s)[i]? = some x) : byteAt s (i : Int) = (x.toNat : Int) := by
  unfold byteAt
  rw [show ((i : Nat) : Int).toNat = i by omega, h]; rfl
theorem one_w {H : Hyp} {K : V → Hyp → Prop} {s : ByteArray} (h0 : 0 < s.size) (hs : s.size ≤ 1000000) (k : ∀ o : OutS, (∀ o', heads (bl s) o' → o = o') → (∀ t, o.f0 = 0 → bl s = bytesL o ++ t → t = [] ∨ ∃ x r, t = x :: r ∧ x.toNat < 32) → o.f3.size ≤ s.size → K (.one (.agg (encO o))) H) : CallW Try.prog Xs 28 [vS s] H K := by
  obtain ⟨x0, r0, hx0⟩ : ∃ x r, bl s = x :: r := by
    cases h : bl s with
    | nil => exact absurd (bl_nil.1 h) (by omega)
    | cons x r => exact ⟨x, r, rfl⟩
  have hb0 := byteAt_0 hx0
  have first : ∀ o', heads (bl s) o' → (o'.f0 = 0 ∧ okB x0) ∨ (1 ≤ o'.f0 ∧ o'.f0 ≤ 5 ∧ x0 = 27 ∧ ∃ r, bl s = 27 :: 91 :: (escL o' ++ r)) ∨ (o' = ⟨6, 0, 0, ⟨#[]⟩⟩ ∧ x0 = 7) ∨ (o' = ⟨7, 0, 0, ⟨#[]⟩⟩ ∧ x0 = 13) ∨ (o' = ⟨8, 0, 0, ⟨#[]⟩⟩ ∧ x0 = 10) := by
    rintro o' ⟨r, e, hm, _⟩
    rcases head_of hm with ⟨q, y, t, ey, hy⟩ | ⟨q1, q2, ey⟩ | ⟨q, ey⟩ | ⟨q, ey⟩ | ⟨q, ey⟩
    all_goals rw [ey] at e; have hh := (List.cons.inj (hx0.symm.trans e)).1
    · exact .inl ⟨q, by rw [hh]; exact hy⟩
    · exact .inr (.inl ⟨q1, q2, hh, r, e⟩)
    · exact .inr (.inr (.inl ⟨q, hh⟩))
    · exact .inr (.inr (.inr (.inl ⟨q, hh⟩)))
    · exact .inr (.inr (.inr (.inr ⟨q, hh⟩)))
  refine call_of (n := 69) (fun _ => rfl) Try.func28 rfl rfl ?_
  refine w_seq ?_
  refine w_region ?_
  refine w_o rfl rfl rfl (op_alloc zer_31 fun b2 => ?_)
  refine w_end ?_
  refine seq_normal ?_
  refine w_seq ?_
  refine w_seq ?_
  refine w_region ?_
  refine w_o rfl rfl rfl (op_move rfl ?_)
  refine w_o rfl rfl rfl (op_indexS und_9 rfl rfl (by omega) (by omega) ?_)
  rw [hb0]
  refine w_end ?_
  refine seq_normal ?_
  refine w_block ?_
  refine w_seq ?_
  refine w_region ?_
  refine w_o rfl rfl rfl (op_eq rfl rfl ?_)
  refine w_o rfl rfl rfl (op_assign rfl ?_)
  refine w_end ?_
  refine seq_normal ?_
  first | refine w_cond rfl (fun hI1 => ?_) (fun hI1 => ?_) | refine w_condB rfl (fun hI1 => ?_) (fun hI1 => ?_)
  · refine w_seq ?_
    refine w_region ?_
    refine w_o rfl rfl rfl (op_build rfl ((bld_31 _).trans (rfl : _ = some [_, _, _, _])) ?_)
    refine w_on rfl rfl (op_store siz_31 rfl rfl rfl (by (repeat (first | exact Pick.head _ _ _ | apply Pick.tail | apply Pick.app)); first | done | fail) (Nat.le_of_ble_eq_true rfl) rfl ?_)
    refine w_end ?_
    refine seq_normal ?_
    refine w_ret ?_
    refine block_ret ?_
    refine seq_ret ?_
    have hx : x0 = 7 := u8_of hI1 (by decide)
    refine ret_cellA rfl agg_31 siz_31 (El.row mem_) rfl sel_ (k ⟨6, 0, 0, ⟨#[]⟩⟩ (fun o' ho => ?_) (fun _ q => absurd q (by decide)) (Nat.zero_le _))
    rcases first o' ho with ⟨_, q⟩ | ⟨_, _, q, _⟩ | ⟨q, _⟩ | ⟨_, q⟩ | ⟨_, q⟩ <;> first | exact q.symm | (exfalso; rw [hx] at q; revert q; first | decide | (unfold okB; decide))
  · refine w_seq ?_
    refine w_region ?_
    refine w_o rfl rfl rfl (op_eq rfl rfl ?_)
    refine w_o rfl rfl rfl (op_assign rfl ?_)
    refine w_end ?_
    refine seq_normal ?_
    first | refine w_cond rfl (fun hI2 => ?_) (fun hI2 => ?_) | refine w_condB rfl (fun hI2 => ?_) (fun hI2 => ?_)
    · refine w_seq ?_
      refine w_region ?_
      refine w_o rfl rfl rfl (op_build rfl ((bld_31 _).trans (rfl : _ = some [_, _, _, _])) ?_)
      refine w_on rfl rfl (op_store siz_31 rfl rfl rfl (by (repeat (first | exact Pick.head _ _ _ | apply Pick.tail | apply Pick.app)); first | done | fail) (Nat.le_of_ble_eq_true rfl) rfl ?_)
      refine w_end ?_
      refine seq_normal ?_
      refine w_ret ?_
      refine block_ret ?_
      refine seq_ret ?_
      have hx : x0 = 13 := u8_of hI2 (by decide)
      refine ret_cellA rfl agg_31 siz_31 (El.row mem_) rfl sel_ (k ⟨7, 0, 0, ⟨#[]⟩⟩ (fun o' ho => ?_) (fun _ q => absurd q (by decide)) (Nat.zero_le _))
      rcases first o' ho with ⟨_, q⟩ | ⟨_, _, q, _⟩ | ⟨_, q⟩ | ⟨q, _⟩ | ⟨_, q⟩ <;> first | exact q.symm | (exfalso; rw [hx] at q; revert q; first | decide | (unfold okB; decide))
    · refine w_seq ?_
      refine w_region ?_
      refine w_o rfl rfl rfl (op_eq rfl rfl ?_)
      refine w_o rfl rfl rfl (op_assign rfl ?_)
      refine w_end ?_
      refine seq_normal ?_
      first | refine w_cond rfl (fun hI3 => ?_) (fun hI3 => ?_) | refine w_condB rfl (fun hI3 => ?_) (fun hI3 => ?_)
      · refine w_seq ?_
        refine w_region ?_
        refine w_o rfl rfl rfl (op_build rfl ((bld_31 _).trans (rfl : _ = some [_, _, _, _])) ?_)
        refine w_on rfl rfl (op_store siz_31 rfl rfl rfl (by (repeat (first | exact Pick.head _ _ _ | apply Pick.tail | apply Pick.app)); first | done | fail) (Nat.le_of_ble_eq_true rfl) rfl ?_)
        refine w_end ?_
        refine seq_normal ?_
        refine w_ret ?_
        refine block_ret ?_
        refine seq_ret ?_
        have hx : x0 = 10 := u8_of hI3 (by decide)
        refine ret_cellA rfl agg_31 siz_31 (El.row mem_) rfl sel_ (k ⟨8, 0, 0, ⟨#[]⟩⟩ (fun o' ho => ?_) (fun _ q => absurd q (by decide)) (Nat.zero_le _))
        rcases first o' ho with ⟨_, q⟩ | ⟨_, _, q, _⟩ | ⟨_, q⟩ | ⟨_, q⟩ | ⟨q, _⟩ <;> first | exact q.symm | (exfalso; rw [hx] at q; revert q; first | decide | (unfold okB; decide))
      · have first2 : ∀ o', heads (bl s) o' → (o'.f0 = 0 ∧ okB x0) ∨ (1 ≤ o'.f0 ∧ o'.f0 ≤ 5 ∧ ∃ r, bl s = 27 :: 91 :: (escL o' ++ r)) := by
          intro o' ho
          rcases first o' ho with ⟨q1, q⟩ | ⟨q1, q2, q, q3⟩ | ⟨_, q⟩ | ⟨_, q⟩ | ⟨_, q⟩
          · exact .inl ⟨q1, q⟩
          · exact .inr ⟨q1, q2, q3⟩
          · exact absurd (show (x0.toNat : Int) = 7 by rw [q]; rfl) hI1
          · exact absurd (show (x0.toNat : Int) = 13 by rw [q]; rfl) hI2
          · exact absurd (show (x0.toNat : Int) = 10 by rw [q]; rfl) hI3
        refine w_skip ?_
        refine block_normal ?_
        refine seq_normal ?_
        refine w_seq ?_
        refine w_region ?_
        refine w_o rfl rfl rfl (op_move rfl ?_)
        refine w_o rfl rfl rfl (op_call rfl rfl rfl ?_)
        refine CutPrefix_w (by omega) (by decide) ?_
        have hpi := hasPre_iff s ⟨#[27, 91]⟩
        refine w_o rfl rfl rfl (op_move rfl ?_)
        refine w_o rfl rfl rfl (op_extract rfl rfl ?_)
        refine w_o rfl rfl rfl (op_extract rfl rfl ?_)
        refine w_o rfl rfl rfl (op_assign rfl ?_)
        refine w_o rfl rfl rfl (op_assign rfl ?_)
        refine w_end ?_
        refine seq_normal ?_
        refine w_seq ?_
        refine w_seq ?_
        refine w_region ?_
        refine w_o rfl rfl rfl (op_move rfl ?_)
        refine w_o rfl rfl rfl (op_not rfl ?_)
        refine w_end ?_
        refine seq_normal ?_
        first | refine w_cond rfl (fun hI4 => ?_) (fun hI4 => ?_) | refine w_condB rfl (fun hI4 => ?_) (fun hI4 => ?_)
        · have hnp : ¬ hasPre s ⟨#[27, 91]⟩ = true := by simpa using hI4
          refine w_seq ?_
          refine w_region ?_
          refine w_o rfl rfl rfl (op_move rfl ?_)
          refine w_o rfl rfl rfl (op_move rfl ?_)
          refine w_o rfl rfl rfl (op_call rfl rfl rfl ?_)
          refine size_w hs fun n hn hall hstop => ?_
          refine w_o rfl rfl rfl (op_sliceS und_9 rfl rfl rfl (by omega) (by omega) (by omega) ?_)
          refine w_o rfl rfl rfl (op_build rfl ((bld_31 _).trans (rfl : _ = some [_, _, _, _])) ?_)
          refine w_on rfl rfl (op_store siz_31 rfl rfl rfl (by (repeat (first | exact Pick.head _ _ _ | apply Pick.tail | apply Pick.app)); first | done | fail) (Nat.le_of_ble_eq_true rfl) rfl ?_)
          refine w_end ?_
          refine seq_normal ?_
          refine w_ret ?_
          refine seq_ret ?_
          have hbt : bl (s.extract 0 n) = (bl s).take n := bl_take s n hn
          refine ret_cellA rfl agg_31 siz_31 (El.row mem_) rfl sel_ (k ⟨0, 0, 0, s.extract 0 n⟩ (fun o' ho => ?_) (fun t _ ht => ?_) (by show (s.extract 0 n).size ≤ _; rw [ByteArray.size_extract]; omega))
          · rcases first2 o' ho with ⟨q, _⟩ | ⟨_, _, r, q⟩
            · obtain ⟨r, e, hm, hst⟩ := ho
              obtain ⟨n1, n2, n3, n4, n5, n6, n7, n8⟩ := may_num hm
              have e2 : (bl s).take n ++ (bl s).drop n = bytesL o' ++ r := by rw [List.take_append_drop]; exact e
              have e3 : (bl s).take n = bytesL o' := by
                refine span_stop (p := fun x => 32 ≤ x.toNat) hall (text_span hm q) ?_ (stop_span q hst) e2
                rcases hstop with z | ⟨x, r', z, hx⟩
                · exact .inl z
                · exact .inr ⟨x, r', z, by omega⟩
              rw [bytes_text q] at e3
              exact may_eta q.symm (n3 q).1.symm (n3 q).2.symm (bl_inj (hbt.trans e3))
            · exact absurd (hpi.2 ⟨_, q⟩) hnp
          · have e1 : bytesL ⟨0, 0, 0, s.extract 0 n⟩ = bl (s.extract 0 n) := bytes_text rfl
            rw [e1, hbt] at ht
            have : t = (bl s).drop n := by
              have e2 : (bl s).take n ++ (bl s).drop n = (bl s).take n ++ t := by rw [List.take_append_drop]; exact ht
              exact (List.append_cancel_left e2).symm
            rw [this]; exact hstop
        · have hpp : hasPre s ⟨#[27, 91]⟩ = true := by simpa using hI4
          obtain ⟨rt, hrt⟩ := hpi.1 hpp
          have hrt2 : bl s = 27 :: 91 :: rt := hrt
          have hx27 : x0 = 27 := (List.cons.inj (hx0.symm.trans hrt2)).1
          have first3 : ∀ o', heads (bl s) o' → mayO o' = true ∧ 1 ≤ o'.f0 ∧ o'.f0 ≤ 5 ∧ ∃ r, rt = escL o' ++ r := by
            intro o' ho
            rcases first2 o' ho with ⟨_, q⟩ | ⟨q1, q2, r, q⟩
            · exfalso; rw [hx27] at q; revert q; unfold okB; decide
            · rw [hrt2] at q
              obtain ⟨_, _, hmm, _⟩ := ho
              exact ⟨hmm, q1, q2, r, (List.cons.inj (List.cons.inj q).2).2⟩
          have htt : bl (if hasPre s ⟨#[27, 91]⟩ = true then s.extract (ByteArray.size ⟨#[27, 91]⟩) s.size else s) = rt := by
            rw [if_pos hpp]
            show bl (s.extract 2 s.size) = rt
            rw [bl_ext, hrt2]; rfl
          have htsz : (if hasPre s ⟨#[27, 91]⟩ = true then s.extract (ByteArray.size ⟨#[27, 91]⟩) s.size else s).size ≤ s.size := cutPre_size s ⟨#[27, 91]⟩
          generalize (if hasPre s ⟨#[27, 91]⟩ = true then s.extract (ByteArray.size ⟨#[27, 91]⟩) s.size else s) = t at *
          have htl : rt.length = t.size := by rw [← htt]; rfl
          refine w_skip ?_
          refine seq_normal ?_
          refine w_seq ?_
          refine w_region ?_
          refine w_o rfl rfl rfl (op_assign rfl ?_)
          refine w_end ?_
          refine seq_normal ?_
          refine w_cut (fun e H' => ∃ (i : Nat), i ≤ t.size ∧ (∀ x ∈ rt.take i, midB x) ∧ (∀ x, rt[i]? = some x → ¬ midB x) ∧ H' = (b2, .row true 31 1 (encO ⟨0, 0, 0, ⟨#[]⟩⟩)) :: H ∧ e = [(2, ptrV b2 0), (3, vS t), (5, vI (i : Nat))]) ?_ ?_
          · refine w_block ?_
            refine w_loop (fun m e H' => ∃ (i : Nat), i ≤ t.size ∧ (∀ x ∈ rt.take i, midB x) ∧ m = t.size - i ∧ H' = (b2, .row true 31 1 (encO ⟨0, 0, 0, ⟨#[]⟩⟩)) :: H ∧ e = [(2, ptrV b2 0), (3, vS t), (5, vI (i : Nat))]) ?_ ?_
            · exact ⟨_, _, _, ⟨0, Nat.zero_le _, fun x hx => absurd hx (by simp), rfl, rfl, rfl⟩, env_, sel_⟩
            · rintro m e H' ⟨i, hi, ha, rfl, rfl, rfl⟩
              refine w_seq ?_
              refine w_seq ?_
              refine w_region ?_
              refine w_o rfl rfl rfl (op_move rfl ?_)
              refine w_o rfl rfl rfl (op_move rfl ?_)
              refine w_o rfl rfl rfl (op_lenS und_9 rfl ?_)
              refine w_o rfl rfl rfl (op_lt rfl rfl ?_)
              have hbt : ∀ x, rt[i]? = some x → byteAt t (i : Int) = (x.toNat : Int) := fun x hx => byteAt_n (by rw [htt]; exact hx)
              refine w_o rfl rfl rfl (op_move rfl ?_)
              first | refine w_known (t := 33) rfl (fun g33 => ?_) (fun g33 => ?_) | refine w_knownB (t := 33) rfl (fun g33 => ?_) (fun g33 => ?_)
              · refine w_og rfl rfl rfl rfl rfl (op_move rfl ?_)
                refine w_og rfl rfl rfl rfl rfl (op_move rfl ?_)
                refine w_og rfl rfl rfl rfl rfl (op_indexS und_9 rfl rfl (by omega) (by omega) ?_)
                refine w_og rfl rfl rfl rfl rfl (op_ge rfl rfl ?_)
                refine w_og rfl rfl rfl rfl rfl (op_move rfl ?_)
                first | refine w_known (t := 38) rfl (fun g38 => ?_) (fun g38 => ?_) | refine w_knownB (t := 38) rfl (fun g38 => ?_) (fun g38 => ?_)
                · refine w_og rfl rfl rfl rfl rfl (op_move rfl ?_)
                  refine w_og rfl rfl rfl rfl rfl (op_move rfl ?_)
                  refine w_og rfl rfl rfl rfl rfl (op_indexS und_9 rfl rfl (by omega) (by omega) ?_)
                  refine w_og rfl rfl rfl rfl rfl (op_le rfl rfl ?_)
                  refine w_og rfl rfl rfl rfl rfl (op_pick rfl rfl rfl ?_)
                  refine w_og rfl rfl rfl rfl rfl (op_move rfl ?_)
                  first | refine w_known (t := 44) rfl (fun g44 => ?_) (fun g44 => ?_) | refine w_knownB (t := 44) rfl (fun g44 => ?_) (fun g44 => ?_)
                  · refine w_u rfl rfl rfl rfl rfl rfl ?_
                    refine w_u rfl rfl rfl rfl rfl rfl ?_
                    refine w_u rfl rfl rfl rfl rfl rfl ?_
                    refine w_u rfl rfl rfl rfl rfl rfl ?_
                    refine w_og rfl rfl rfl rfl rfl (op_pick rfl rfl rfl ?_)
                    refine w_og rfl rfl rfl rfl rfl (op_move rfl ?_)
                    refine w_u rfl rfl rfl rfl rfl rfl ?_
                    refine w_u rfl rfl rfl rfl rfl rfl ?_
                    refine w_u rfl rfl rfl rfl rfl rfl ?_
                    refine w_u rfl rfl rfl rfl rfl rfl ?_
                    refine w_og rfl rfl rfl rfl rfl (op_pick rfl rfl rfl ?_)
                    refine w_o rfl rfl rfl (op_pick rfl rfl rfl ?_)
                    refine w_end ?_
                    refine seq_normal ?_
                    refine w_condT rfl ?_
                    refine w_skip ?_
                    refine seq_normal ?_
                    refine w_block ?_
                    refine w_region ?_
                    refine w_o rfl rfl rfl (op_move rfl ?_)
                    refine w_o rfl rfl rfl (op_addi rfl rfl (by omega) (by omega) ?_)
                    refine w_o rfl rfl rfl (op_assign rfl ?_)
                    refine w_end ?_
                    refine block_normal ?_
                    obtain ⟨x, hx⟩ : ∃ x, rt[i]? = some x := ⟨_, List.getElem?_eq_getElem (show i < rt.length by omega)⟩
                    have hbx := hbt x hx
                    have hmx : midB x := by unfold midB; omega
                    exact loop_normal (k' := t.size - (i + 1)) (by omega) ⟨i + 1, by omega, (fun y hy => by
                      rw [List.take_add_one, hx] at hy
                      rcases List.mem_append.1 hy with q | q
                      · exact ha y q
                      · have : y = x := by simpa using q
                        rw [this]; exact hmx), rfl, rfl, rfl⟩ env_ sel_
                  · refine w_og rfl rfl rfl rfl rfl (op_move rfl ?_)
                    refine w_og rfl rfl rfl rfl rfl (op_move rfl ?_)
                    refine w_og rfl rfl rfl rfl rfl (op_indexS und_9 rfl rfl (by omega) (by omega) ?_)
                    refine w_og rfl rfl rfl rfl rfl (op_eq rfl rfl ?_)
                    refine w_og rfl rfl rfl rfl rfl (op_pick rfl rfl rfl ?_)
                    refine w_og rfl rfl rfl rfl rfl (op_move rfl ?_)
                    first | refine w_known (t := 50) rfl (fun g50 => ?_) (fun g50 => ?_) | refine w_knownB (t := 50) rfl (fun g50 => ?_) (fun g50 => ?_)
                    · refine w_u rfl rfl rfl rfl rfl rfl ?_
                      refine w_u rfl rfl rfl rfl rfl rfl ?_
                      refine w_u rfl rfl rfl rfl rfl rfl ?_
                      refine w_u rfl rfl rfl rfl rfl rfl ?_
                      refine w_og rfl rfl rfl rfl rfl (op_pick rfl rfl rfl ?_)
                      refine w_o rfl rfl rfl (op_pick rfl rfl rfl ?_)
                      refine w_end ?_
                      refine seq_normal ?_
                      refine w_condT rfl ?_
                      refine w_skip ?_
                      refine seq_normal ?_
                      refine w_block ?_
                      refine w_region ?_
                      refine w_o rfl rfl rfl (op_move rfl ?_)
                      refine w_o rfl rfl rfl (op_addi rfl rfl (by omega) (by omega) ?_)
                      refine w_o rfl rfl rfl (op_assign rfl ?_)
                      refine w_end ?_
                      refine block_normal ?_
                      obtain ⟨x, hx⟩ : ∃ x, rt[i]? = some x := ⟨_, List.getElem?_eq_getElem (show i < rt.length by omega)⟩
                      have hbx := hbt x hx
                      have hmx : midB x := by unfold midB; omega
                      exact loop_normal (k' := t.size - (i + 1)) (by omega) ⟨i + 1, by omega, (fun y hy => by
                        rw [List.take_add_one, hx] at hy
                        rcases List.mem_append.1 hy with q | q
                        · exact ha y q
                        · have : y = x := by simpa using q
                          rw [this]; exact hmx), rfl, rfl, rfl⟩ env_ sel_
                    · refine w_og rfl rfl rfl rfl rfl (op_move rfl ?_)
                      refine w_og rfl rfl rfl rfl rfl (op_move rfl ?_)
                      refine w_og rfl rfl rfl rfl rfl (op_indexS und_9 rfl rfl (by omega) (by omega) ?_)
                      refine w_og rfl rfl rfl rfl rfl (op_eq rfl rfl ?_)
                      refine w_og rfl rfl rfl rfl rfl (op_pick rfl rfl rfl ?_)
                      refine w_o rfl rfl rfl (op_pick rfl rfl rfl ?_)
                      refine w_end ?_
                      refine seq_normal ?_
                      first | refine w_cond rfl (fun hI5 => ?_) (fun hI5 => ?_) | refine w_condB rfl (fun hI5 => ?_) (fun hI5 => ?_)
                      · refine w_skip ?_
                        refine seq_normal ?_
                        refine w_block ?_
                        refine w_region ?_
                        refine w_o rfl rfl rfl (op_move rfl ?_)
                        refine w_o rfl rfl rfl (op_addi rfl rfl (by omega) (by omega) ?_)
                        refine w_o rfl rfl rfl (op_assign rfl ?_)
                        refine w_end ?_
                        refine block_normal ?_
                        obtain ⟨x, hx⟩ : ∃ x, rt[i]? = some x := ⟨_, List.getElem?_eq_getElem (show i < rt.length by omega)⟩
                        have hbx := hbt x hx
                        have hmx : midB x := by unfold midB; omega
                        exact loop_normal (k' := t.size - (i + 1)) (by omega) ⟨i + 1, by omega, (fun y hy => by
                          rw [List.take_add_one, hx] at hy
                          rcases List.mem_append.1 hy with q | q
                          · exact ha y q
                          · have : y = x := by simpa using q
                            rw [this]; exact hmx), rfl, rfl, rfl⟩ env_ sel_
                      · refine w_exit ?_
                        refine seq_exit ?_
                        refine loop_exit ?_
                        refine block_hit rfl ?_
                        refine mid_normal ⟨i, hi, ha, (fun x hx => ?_), rfl, rfl⟩ env_ sel_
                        have hlt : i < rt.length := (List.getElem?_eq_some_iff.1 hx).1
                        have hbx := hbt x hx
                        unfold midB
                        omega
                · refine w_u rfl rfl rfl rfl rfl rfl ?_
                  refine w_u rfl rfl rfl rfl rfl rfl ?_
                  refine w_u rfl rfl rfl rfl rfl rfl ?_
                  refine w_u rfl rfl rfl rfl rfl rfl ?_
                  refine w_og rfl rfl rfl rfl rfl (op_pick rfl rfl rfl ?_)
                  refine w_og rfl rfl rfl rfl rfl (op_move rfl ?_)
                  refine w_og rfl rfl rfl rfl rfl (op_move rfl ?_)
                  refine w_og rfl rfl rfl rfl rfl (op_move rfl ?_)
                  refine w_og rfl rfl rfl rfl rfl (op_indexS und_9 rfl rfl (by omega) (by omega) ?_)
                  refine w_og rfl rfl rfl rfl rfl (op_eq rfl rfl ?_)
                  refine w_og rfl rfl rfl rfl rfl (op_pick rfl rfl rfl ?_)
                  refine w_og rfl rfl rfl rfl rfl (op_move rfl ?_)
                  first | refine w_known (t := 50) rfl (fun g50 => ?_) (fun g50 => ?_) | refine w_knownB (t := 50) rfl (fun g50 => ?_) (fun g50 => ?_)
                  · refine w_u rfl rfl rfl rfl rfl rfl ?_
                    refine w_u rfl rfl rfl rfl rfl rfl ?_
                    refine w_u rfl rfl rfl rfl rfl rfl ?_
                    refine w_u rfl rfl rfl rfl rfl rfl ?_
                    refine w_og rfl rfl rfl rfl rfl (op_pick rfl rfl rfl ?_)
                    refine w_o rfl rfl rfl (op_pick rfl rfl rfl ?_)
                    refine w_end ?_
                    refine seq_normal ?_
                    refine w_condT rfl ?_
                    refine w_skip ?_
                    refine seq_normal ?_
                    refine w_block ?_
                    refine w_region ?_
                    refine w_o rfl rfl rfl (op_move rfl ?_)
                    refine w_o rfl rfl rfl (op_addi rfl rfl (by omega) (by omega) ?_)
                    refine w_o rfl rfl rfl (op_assign rfl ?_)
                    refine w_end ?_
                    refine block_normal ?_
                    obtain ⟨x, hx⟩ : ∃ x, rt[i]? = some x := ⟨_, List.getElem?_eq_getElem (show i < rt.length by omega)⟩
                    have hbx := hbt x hx
                    have hmx : midB x := by unfold midB; omega
                    exact loop_normal (k' := t.size - (i + 1)) (by omega) ⟨i + 1, by omega, (fun y hy => by
                      rw [List.take_add_one, hx] at hy
                      rcases List.mem_append.1 hy with q | q
                      · exact ha y q
                      · have : y = x := by simpa using q
                        rw [this]; exact hmx), rfl, rfl, rfl⟩ env_ sel_
                  · refine w_og rfl rfl rfl rfl rfl (op_move rfl ?_)
                    refine w_og rfl rfl rfl rfl rfl (op_move rfl ?_)
                    refine w_og rfl rfl rfl rfl rfl (op_indexS und_9 rfl rfl (by omega) (by omega) ?_)
                    refine w_og rfl rfl rfl rfl rfl (op_eq rfl rfl ?_)
                    refine w_og rfl rfl rfl rfl rfl (op_pick rfl rfl rfl ?_)
                    refine w_o rfl rfl rfl (op_pick rfl rfl rfl ?_)
                    refine w_end ?_
                    refine seq_normal ?_
                    first | refine w_cond rfl (fun hI5 => ?_) (fun hI5 => ?_) | refine w_condB rfl (fun hI5 => ?_) (fun hI5 => ?_)
                    · refine w_skip ?_
                      refine seq_normal ?_
                      refine w_block ?_
                      refine w_region ?_
                      refine w_o rfl rfl rfl (op_move rfl ?_)
                      refine w_o rfl rfl rfl (op_addi rfl rfl (by omega) (by omega) ?_)
                      refine w_o rfl rfl rfl (op_assign rfl ?_)
                      refine w_end ?_
                      refine block_normal ?_
                      obtain ⟨x, hx⟩ : ∃ x, rt[i]? = some x := ⟨_, List.getElem?_eq_getElem (show i < rt.length by omega)⟩
                      have hbx := hbt x hx
                      have hmx : midB x := by unfold midB; omega
                      exact loop_normal (k' := t.size - (i + 1)) (by omega) ⟨i + 1, by omega, (fun y hy => by
                        rw [List.take_add_one, hx] at hy
                        rcases List.mem_append.1 hy with q | q
                        · exact ha y q
                        · have : y = x := by simpa using q
                          rw [this]; exact hmx), rfl, rfl, rfl⟩ env_ sel_
                    · refine w_exit ?_
                      refine seq_exit ?_
                      refine loop_exit ?_
                      refine block_hit rfl ?_
                      refine mid_normal ⟨i, hi, ha, (fun x hx => ?_), rfl, rfl⟩ env_ sel_
                      have hlt : i < rt.length := (List.getElem?_eq_some_iff.1 hx).1
                      have hbx := hbt x hx
                      unfold midB
                      omega
              · refine w_u rfl rfl rfl rfl rfl rfl ?_
                refine w_u rfl rfl rfl rfl rfl rfl ?_
                refine w_u rfl rfl rfl rfl rfl rfl ?_
                refine w_u rfl rfl rfl rfl rfl rfl ?_
                refine w_u rfl rfl rfl rfl rfl rfl ?_
                refine w_u rfl rfl rfl rfl rfl rfl ?_
                refine w_u rfl rfl rfl rfl rfl rfl ?_
                refine w_u rfl rfl rfl rfl rfl rfl ?_
                refine w_u rfl rfl rfl rfl rfl rfl ?_
                refine w_u rfl rfl rfl rfl rfl rfl ?_
                refine w_u rfl rfl rfl rfl rfl rfl ?_
                refine w_u rfl rfl rfl rfl rfl rfl ?_
                refine w_u rfl rfl rfl rfl rfl rfl ?_
                refine w_u rfl rfl rfl rfl rfl rfl ?_
                refine w_u rfl rfl rfl rfl rfl rfl ?_
                refine w_u rfl rfl rfl rfl rfl rfl ?_
                refine w_u rfl rfl rfl rfl rfl rfl ?_
                refine w_u rfl rfl rfl rfl rfl rfl ?_
                refine w_u rfl rfl rfl rfl rfl rfl ?_
                refine w_u rfl rfl rfl rfl rfl rfl ?_
                refine w_u rfl rfl rfl rfl rfl rfl ?_
                refine w_u rfl rfl rfl rfl rfl rfl ?_
                refine w_o rfl rfl rfl (op_pick rfl rfl rfl ?_)
                refine w_end ?_
                refine seq_normal ?_
                refine w_condF rfl ?_
                refine w_exit ?_
                refine seq_exit ?_
                refine loop_exit ?_
                refine block_hit rfl ?_
                refine mid_normal ⟨i, hi, ha, (fun x hx => ?_), rfl, rfl⟩ env_ sel_
                have hlt : i < rt.length := (List.getElem?_eq_some_iff.1 hx).1
                have hbx := hbt x hx
                unfold midB
                omega
          · rintro e H' ⟨i, hi, ha, hno, rfl, rfl⟩
            refine w_seq ?_
            refine w_seq ?_
            refine w_region ?_
            refine w_o rfl rfl rfl (op_move rfl ?_)
            refine w_o rfl rfl rfl (op_move rfl ?_)
            refine w_o rfl rfl rfl (op_lenS und_9 rfl ?_)
            refine w_o rfl rfl rfl (op_eq rfl rfl ?_)
            refine w_end ?_
            refine seq_normal ?_
            first | refine w_cond rfl (fun hI6 => ?_) (fun hI6 => ?_) | refine w_condB rfl (fun hI6 => ?_) (fun hI6 => ?_)
            · refine w_seq ?_
              refine w_region ?_
              refine w_o rfl rfl rfl (op_build rfl ((bld_31 _).trans (rfl : _ = some [_, _, _, _])) ?_)
              refine w_on rfl rfl (op_store siz_31 rfl rfl rfl (by (repeat (first | exact Pick.head _ _ _ | apply Pick.tail | apply Pick.app)); first | done | fail) (Nat.le_of_ble_eq_true rfl) rfl ?_)
              refine w_end ?_
              refine seq_normal ?_
              refine w_ret ?_
              refine seq_ret ?_
              refine ret_cellA rfl agg_31 siz_31 (El.row mem_) rfl sel_ (k ⟨-1, 0, 0, ⟨#[]⟩⟩ (fun o' ho => ?_) (fun _ q => absurd q (by decide)) (Nat.zero_le _))
              obtain ⟨hm, h1, h5, r, q⟩ := first3 o' ho
              obtain ⟨b, f, e, hb, hc⟩ := esc_ok hm ⟨h1, h5⟩
              exfalso
              have hfm : ¬ midB f := fin_mid (by rcases hc with z | z | z | z | z | z <;> simp [z])
              refine hfm (ha f ?_)
              rw [show i = rt.length by omega, List.take_length, q, e]
              simp
            · have hlt : i < rt.length := by omega
              refine w_skip ?_
              refine seq_normal ?_
              refine w_seq ?_
              refine w_region ?_
              refine w_o rfl rfl rfl (op_move rfl ?_)
              refine w_o rfl rfl rfl (op_move rfl ?_)
              refine w_o rfl rfl rfl (op_addi rfl rfl (by omega) (by omega) ?_)
              refine w_o rfl rfl rfl (op_sliceS und_9 rfl rfl rfl (by omega) (by omega) (by omega) ?_)
              refine w_o rfl rfl rfl (op_call rfl rfl rfl ?_)
              have hpre : bl (t.extract 0 (i + 1)) = rt.take (i + 1) := by rw [← htt]; exact bl_take t (i + 1) (by omega)
              have hsz2 : (t.extract 0 (i + 1)).size = i + 1 := by rw [ByteArray.size_extract]; omega
              refine read_w (s := t.extract 0 (i + 1)) (by omega) (by omega) fun o ho hne hf3 => ?_
              refine w_on rfl rfl (op_store siz_31 rfl rfl rfl (by (repeat (first | exact Pick.head _ _ _ | apply Pick.tail | apply Pick.app)); first | done | fail) (Nat.le_of_ble_eq_true rfl) rfl ?_)
              refine w_end ?_
              refine seq_normal ?_
              refine w_ret ?_
              refine ret_cellA rfl agg_31 siz_31 (El.row mem_) rfl sel_ (k o (fun o' h' => ?_) (fun _ q => absurd q hne) (by rw [hf3]; exact Nat.zero_le _))
              obtain ⟨hm, h1, h5, r, q⟩ := first3 o' h'
              refine ho o' hm h1 h5 ?_
              obtain ⟨b, f, e, hb, hc⟩ := esc_ok hm ⟨h1, h5⟩
              have hfm : ¬ midB f := fin_mid (by rcases hc with z | z | z | z | z | z <;> simp [z])
              rw [hpre, e]
              rw [e, List.append_assoc] at q
              have hsp : rt.take i = b := by
                refine span_stop (p := midB) (r := rt.drop i) (t := [f] ++ r) ha hb ?_ (.inr ⟨f, r, rfl, hfm⟩) (by rw [List.take_append_drop]; exact q)
                exact .inr ⟨_, _, List.drop_eq_getElem_cons hlt, hno _ (List.getElem?_eq_getElem hlt)⟩
              have hix : rt[i]? = some f := by
                have hlb : b.length = i := by rw [← hsp, List.length_take]; omega
                rw [q, List.getElem?_append_right (by omega), hlb, Nat.sub_self]; rfl
              rw [List.take_add_one, hsp, hix]; rfl
theorem next_w {H : Hyp} {K : V → Hyp → Prop} {p1 p4 : Nat} {s : ByteArray} {c : Cell} {out : List OutS} {N : Hyp} (h0 : 0 < s.size) (hs : s.size ≤ 100000) (hO : Own 31 4 c (out.flatMap encO) N) (hlen : out.length ≤ 100000)
    (k1 : ∀ (o : OutS) (t : ByteArray) c' N', mayO o = true → bl s = bytesL o ++ bl t → (o.f0 = 0 → bl t = [] ∨ ∃ x r, bl t = x :: r ∧ x.toNat < 32) → Own 31 4 c' ((out ++ [o]).flatMap encO) N' → K (vB true) ((p1, .row true 9 1 [.str t]) :: (p4, .row true 22 1 [c']) :: (N' ++ H)))
    (k2 : ¬ (∃ o, heads (bl s) o) → K (vB false) ((p1, .row true 9 1 [.str s]) :: (p4, .row true 22 1 [c]) :: (N ++ H))) :
    CallW Try.prog Xs 27 [ptrV p1 0, ptrV p4 0] ((p1, .row true 9 1 [.str s]) :: (p4, .row true 22 1 [c]) :: (N ++ H)) K := by
  refine call_of (n := 33) (fun _ => rfl) Try.func27 rfl rfl ?_
  refine w_seq ?_
  refine w_region ?_
  refine w_o rfl rfl rfl (op_assign rfl ?_)
  refine w_end ?_
  refine seq_normal ?_
  refine w_seq ?_
  refine w_region ?_
  refine w_o rfl rfl rfl (op_load1 agg_9 rfl el_ ?_)
  refine w_o rfl rfl rfl (op_call rfl rfl rfl ?_)
  refine one_w h0 (by omega) fun o hhead hstop hf3 => ?_
  refine w_o rfl rfl rfl (op_alloc zer_31 fun b3 => ?_)
  refine w_on rfl rfl (op_store siz_31 rfl rfl rfl (by (repeat (first | exact Pick.head _ _ _ | apply Pick.tail | apply Pick.app)); first | done | fail) (Nat.le_of_ble_eq_true rfl) rfl ?_)
  refine w_end ?_
  refine seq_normal ?_
  refine w_seq ?_
  refine w_region ?_
  refine w_o rfl rfl rfl (op_loadA agg_31 siz_31 rfl rfl el_ ?_)
  refine w_o rfl rfl rfl (op_buildSlice rfl (bsl_22 _ _ _ (rfl : _ = some [_, _, _, _]) rfl (by decide)) fun b12 => ?_)
  refine w_o rfl rfl rfl (op_call rfl rfl rfl ?_)
  refine Text_w (l := [o]) (Sl.of_row mem_ rfl) (show 1 ≤ 100000 by decide) (fun x hx => by rw [List.mem_singleton.1 hx]; omega) (fun hall t ht => ?_) (fun hno => ?_)
  · have hm : mayO o = true := hall o (List.mem_cons_self ..)
    have htl : bl t = bytesL o := by rw [ht]; unfold textL; simp
    have hts : t.size ≤ 1000000 := by
      have e := congrArg List.length htl
      have h2 := bytesL_len hm
      rw [bl_len] at e
      omega
    refine w_o rfl rfl rfl (op_move rfl ?_)
    refine w_o rfl rfl rfl (op_extract rfl rfl ?_)
    refine w_o rfl rfl rfl (op_extract rfl rfl ?_)
    refine w_o rfl rfl rfl (op_assign rfl ?_)
    refine w_o rfl rfl rfl (op_assign rfl ?_)
    refine w_end ?_
    refine seq_normal ?_
    refine w_seq ?_
    refine w_region ?_
    refine w_o rfl rfl rfl (op_load1 agg_9 rfl el_ ?_)
    refine w_o rfl rfl rfl (op_move rfl ?_)
    refine w_o rfl rfl rfl (op_call rfl rfl rfl ?_)
    refine CutPrefix_w (by omega) (by first | omega | decide) ?_
    refine w_o rfl rfl rfl (op_move rfl ?_)
    refine w_o rfl rfl rfl (op_extract rfl rfl ?_)
    refine w_o rfl rfl rfl (op_extract rfl rfl ?_)
    refine w_o rfl rfl rfl (op_assign rfl ?_)
    refine w_o rfl rfl rfl (op_assign rfl ?_)
    refine w_end ?_
    refine seq_normal ?_
    refine w_seq ?_
    refine w_seq ?_
    refine w_region ?_
    refine w_o rfl rfl rfl (op_move rfl ?_)
    refine w_o rfl rfl rfl (op_ne rfl rfl ?_)
    refine w_o rfl rfl rfl (op_move rfl ?_)
    first | refine w_known (t := 24) rfl (fun g24 => ?_) (fun g24 => ?_) | refine w_knownB (t := 24) rfl (fun g24 => ?_) (fun g24 => ?_)
    · try (first | exact absurd rfl g24 | exact absurd (show (2 : Int) ≠ 0 by decide) g24)
      all_goals
        refine w_u rfl rfl rfl rfl rfl rfl ?_
        refine w_u rfl rfl rfl rfl rfl rfl ?_
        refine w_o rfl rfl rfl (op_pick rfl rfl rfl ?_)
        refine w_end ?_
        refine seq_normal ?_
        refine w_condT rfl ?_
        refine w_seq ?_
        refine w_region ?_
        refine w_o rfl rfl rfl (op_assign rfl ?_)
        refine w_end ?_
        refine seq_normal ?_
        refine w_ret ?_
        refine seq_ret ?_
        exact ret_ret rfl sel_ (k2 hnh)
    · try (first | exact absurd rfl g24 | exact absurd (show (2 : Int) ≠ 0 by decide) g24)
      all_goals
        refine w_og rfl rfl rfl rfl rfl (op_move rfl ?_)
        refine w_og rfl rfl rfl rfl rfl (op_not rfl ?_)
        refine w_o rfl rfl rfl (op_pick rfl rfl rfl ?_)
        refine w_end ?_
        refine seq_normal ?_
        first | refine w_cond rfl (fun hI1 => ?_) (fun hI1 => ?_) | refine w_condB rfl (fun hI1 => ?_) (fun hI1 => ?_)
        · have hnp : ¬ hasPre s t = true := by simpa using hI1
          have hnh : ¬ (∃ o, heads (bl s) o) := by
            rintro ⟨o', ho⟩
            have := hhead o' ho
            subst this
            obtain ⟨r, e, _, _⟩ := ho
            exact hnp ((hasPre_iff s t).2 ⟨r, by rw [htl]; exact e⟩)
          refine w_seq ?_
          refine w_region ?_
          refine w_o rfl rfl rfl (op_assign rfl ?_)
          refine w_end ?_
          refine seq_normal ?_
          refine w_ret ?_
          refine seq_ret ?_
          exact ret_ret rfl sel_ (k2 hnh)
        · have hpp : hasPre s t = true := by simpa using hI1
          have hcut : bl s = bytesL o ++ bl (s.extract t.size s.size) := by
            obtain ⟨r, hr⟩ := (hasPre_iff s t).1 hpp
            rw [bl_ext, ← bl_len t]
            conv => rhs; rw [hr]
            rw [List.drop_left, ← htl]; exact hr
          rw [if_pos hpp]
          refine w_skip ?_
          refine seq_normal ?_
          refine w_seq ?_
          refine w_region ?_
          refine w_o rfl rfl rfl (op_load1 agg_22 rfl el_ ?_)
          refine w_o rfl rfl rfl (op_loadA agg_31 siz_31 rfl rfl el_ ?_)
          refine w_o rfl rfl rfl (op_buildSlice rfl (bsl_22 _ _ _ (rfl : _ = some [_, _, _, _]) rfl (by decide)) fun b30 => ?_)
          refine w_o rfl rfl rfl (op_append1 (enc := encO) (z0 := o) elm_22 inf_31 zer_31 (by decide) und_22 rfl rfl hO (fun _ => rfl) (by (repeat (first | exact PickL.front _ _ | exact PickL.nil _ | apply PickL.skip | apply PickL.skipL)); first | done | fail) rfl (by omega) fun c31 N31 h31 => ?_)
          refine w_o rfl rfl rfl (op_move rfl ?_)
          refine w_on rfl rfl (op_store siz_22 rfl rfl rfl (by (repeat (first | exact Pick.head _ _ _ | apply Pick.tail | apply Pick.app)); first | done | fail) (Nat.le_of_ble_eq_true rfl) rfl ?_)
          refine w_on rfl rfl (op_store siz_9 rfl rfl rfl (by (repeat (first | exact Pick.head _ _ _ | apply Pick.tail | apply Pick.app)); first | done | fail) (Nat.le_of_ble_eq_true rfl) rfl ?_)
          refine w_end ?_
          refine seq_normal ?_
          refine w_seq ?_
          refine w_region ?_
          refine w_o rfl rfl rfl (op_assign rfl ?_)
          refine w_end ?_
          refine seq_normal ?_
          refine w_ret ?_
          exact ret_ret rfl sel_ (k1 o _ c31 N31 hm hcut (fun q => hstop _ q hcut) h31)
  · have hm : ¬ mayO o = true := fun q => hno fun x hx => by rw [List.mem_singleton.1 hx]; exact q
    have hnh : ¬ (∃ o, heads (bl s) o) := by
      rintro ⟨o', ho⟩
      rw [hhead o' ho] at hm
      obtain ⟨r, _, q, _⟩ := ho
      exact hm q
    refine w_o rfl rfl rfl (op_move rfl ?_)
    refine w_o rfl rfl rfl (op_extract rfl rfl ?_)
    refine w_o rfl rfl rfl (op_extract rfl rfl ?_)
    refine w_o rfl rfl rfl (op_assign rfl ?_)
    refine w_o rfl rfl rfl (op_assign rfl ?_)
    refine w_end ?_
    refine seq_normal ?_
    refine w_seq ?_
    refine w_region ?_
    refine w_o rfl rfl rfl (op_load1 agg_9 rfl el_ ?_)
    refine w_o rfl rfl rfl (op_move rfl ?_)
    refine w_o rfl rfl rfl (op_call rfl rfl rfl ?_)
    refine CutPrefix_w (by omega) (by first | omega | decide) ?_
    refine w_o rfl rfl rfl (op_move rfl ?_)
    refine w_o rfl rfl rfl (op_extract rfl rfl ?_)
    refine w_o rfl rfl rfl (op_extract rfl rfl ?_)
    refine w_o rfl rfl rfl (op_assign rfl ?_)
    refine w_o rfl rfl rfl (op_assign rfl ?_)
    refine w_end ?_
    refine seq_normal ?_
    refine w_seq ?_
    refine w_seq ?_
    refine w_region ?_
    refine w_o rfl rfl rfl (op_move rfl ?_)
    refine w_o rfl rfl rfl (op_ne rfl rfl ?_)
    refine w_o rfl rfl rfl (op_move rfl ?_)
    first | refine w_known (t := 24) rfl (fun g24 => ?_) (fun g24 => ?_) | refine w_knownB (t := 24) rfl (fun g24 => ?_) (fun g24 => ?_)
    · try (first | exact absurd rfl g24 | exact absurd (show (2 : Int) ≠ 0 by decide) g24)
      all_goals
        refine w_u rfl rfl rfl rfl rfl rfl ?_
        refine w_u rfl rfl rfl rfl rfl rfl ?_
        refine w_o rfl rfl rfl (op_pick rfl rfl rfl ?_)
        refine w_end ?_
        refine seq_normal ?_
        refine w_condT rfl ?_
        refine w_seq ?_
        refine w_region ?_
        refine w_o rfl rfl rfl (op_assign rfl ?_)
        refine w_end ?_
        refine seq_normal ?_
        refine w_ret ?_
        refine seq_ret ?_
        exact ret_ret rfl sel_ (k2 hnh)
    · try (first | exact absurd rfl g24 | exact absurd (show (2 : Int) ≠ 0 by decide) g24)
      all_goals
        refine w_og rfl rfl rfl rfl rfl (op_move rfl ?_)
        refine w_og rfl rfl rfl rfl rfl (op_not rfl ?_)
        refine w_o rfl rfl rfl (op_pick rfl rfl rfl ?_)
        refine w_end ?_
        refine seq_normal ?_
        first | refine w_cond rfl (fun hI1 => ?_) (fun hI1 => ?_) | refine w_condB rfl (fun hI1 => ?_) (fun hI1 => ?_)
        · have hnp : ¬ hasPre s t = true := by simpa using hI1
          have hnh : ¬ (∃ o, heads (bl s) o) := by
            rintro ⟨o', ho⟩
            have := hhead o' ho
            subst this
            obtain ⟨r, e, _, _⟩ := ho
            exact hnp ((hasPre_iff s t).2 ⟨r, by rw [htl]; exact e⟩)
          refine w_seq ?_
          refine w_region ?_
          refine w_o rfl rfl rfl (op_assign rfl ?_)
          refine w_end ?_
          refine seq_normal ?_
          refine w_ret ?_
          refine seq_ret ?_
          exact ret_ret rfl sel_ (k2 hnh)
        · have hpp : hasPre s t = true := by simpa using hI1
          have hcut : bl s = bytesL o ++ bl (s.extract t.size s.size) := by
            obtain ⟨r, hr⟩ := (hasPre_iff s t).1 hpp
            rw [bl_ext, ← bl_len t]
            conv => rhs; rw [hr]
            rw [List.drop_left, ← htl]; exact hr
          rw [if_pos hpp]
          refine w_skip ?_
          refine seq_normal ?_
          refine w_seq ?_
          refine w_region ?_
          refine w_o rfl rfl rfl (op_load1 agg_22 rfl el_ ?_)
          refine w_o rfl rfl rfl (op_loadA agg_31 siz_31 rfl rfl el_ ?_)
          refine w_o rfl rfl rfl (op_buildSlice rfl (bsl_22 _ _ _ (rfl : _ = some [_, _, _, _]) rfl (by decide)) fun b30 => ?_)
          refine w_o rfl rfl rfl (op_append1 (enc := encO) (z0 := o) elm_22 inf_31 zer_31 (by decide) und_22 rfl rfl hO (fun _ => rfl) (by (repeat (first | exact PickL.front _ _ | exact PickL.nil _ | apply PickL.skip | apply PickL.skipL)); first | done | fail) rfl (by omega) fun c31 N31 h31 => ?_)
          refine w_o rfl rfl rfl (op_move rfl ?_)
          refine w_on rfl rfl (op_store siz_22 rfl rfl rfl (by (repeat (first | exact Pick.head _ _ _ | apply Pick.tail | apply Pick.app)); first | done | fail) (Nat.le_of_ble_eq_true rfl) rfl ?_)
          refine w_on rfl rfl (op_store siz_9 rfl rfl rfl (by (repeat (first | exact Pick.head _ _ _ | apply Pick.tail | apply Pick.app)); first | done | fail) (Nat.le_of_ble_eq_true rfl) rfl ?_)
          refine w_end ?_
          refine seq_normal ?_
          refine w_seq ?_
          refine w_region ?_
          refine w_o rfl rfl rfl (op_assign rfl ?_)
          refine w_end ?_
          refine seq_normal ?_
          refine w_ret ?_
          exact ret_ret rfl sel_ (k1 o _ c31 N31 hm hcut (fun q => hstop _ q hcut) h31)
theorem Parse_w {H : Hyp} {K : V → Hyp → Prop} {s : ByteArray} (hs : s.size ≤ 100000)
    (k1 : ∀ (l : List OutS) c N, (∀ o ∈ l, mayO o = true) → textL l = bl s → canon l → l.length ≤ s.size → Own 31 4 c (l.flatMap encO) N → K (.tup [.c c, .c (.int .i64 0)]) (N ++ H)) (k2 : ¬ clean (bl s) → K (.tup [.c .nils, .c (.int .i64 6)]) H) :
    CallW Try.prog Xs 15 [vS s] H K := by
  refine call_of (n := 13) (fun _ => rfl) Try.func15 rfl rfl ?_
  refine w_seq ?_
  refine w_region ?_
  refine w_o rfl rfl rfl (op_box rfl fun b1 => ?_)
  refine w_o rfl rfl rfl (op_assign rfl ?_)
  refine w_o rfl rfl rfl (op_assign rfl ?_)
  refine w_end ?_
  refine seq_normal ?_
  refine w_seq ?_
  refine w_region ?_
  refine w_o rfl rfl rfl (op_alloc zer_22 fun b4 => ?_)
  refine w_end ?_
  refine seq_normal ?_
  refine w_seq ?_
  refine w_region ?_
  refine w_o rfl rfl rfl (op_makeFunc rfl ?_)
  refine w_o rfl rfl rfl (op_assign rfl ?_)
  refine w_end ?_
  refine seq_normal ?_
  refine w_seq ?_
  refine w_block ?_
  refine w_loop (fun m e H' => ∃ (t : ByteArray) (out : List OutS) (c : Cell) (N : Hyp), (∀ o ∈ out, mayO o = true) ∧ canon out ∧ stopL out (bl t) ∧ bl s = textL out ++ bl t ∧ out.length + t.size ≤ s.size ∧ m = t.size ∧ Own 31 4 c (out.flatMap encO) N ∧ H' = (b1, .row true 9 1 [.str t]) :: (b4, .row true 22 1 [c]) :: (N ++ H) ∧ e = [(1, ptrV b1 0), (4, ptrV b4 0), (5, .one (.c (.fn 27 [(b1, 0), (b4, 0)])))]) ?_ ?_
  · exact ⟨_, _, _, ⟨s, [], .nils, [], (fun o ho => by cases ho), trivial, (fun m y q => by simp at q), rfl, (by simp), rfl, .nil, rfl, rfl⟩, env_, sel_⟩
  · rintro m e H' ⟨t, out, c, N, hm, hc, hst, htx, hln, rfl, hO, rfl, rfl⟩
    refine w_seq ?_
    refine w_seq ?_
    refine w_region ?_
    refine w_o rfl rfl rfl (op_load1 agg_9 rfl el_ ?_)
    refine w_o rfl rfl rfl (op_strne rfl rfl ?_)
    refine w_end ?_
    refine seq_normal ?_
    first | refine w_cond rfl (fun hI1 => ?_) (fun hI1 => ?_) | refine w_condB rfl (fun hI1 => ?_) (fun hI1 => ?_)
    · have ht0 : 0 < t.size := by
        rcases Nat.eq_zero_or_pos t.size with q | q
        · exact absurd (empty_iff.2 (bl_nil.2 q)) hI1
        · exact q
      refine w_skip ?_
      refine seq_normal ?_
      refine w_block ?_
      refine w_seq ?_
      refine w_region ?_
      refine w_o rfl rfl rfl (op_move rfl ?_)
      refine w_o rfl rfl rfl (op_call rfl rfl rfl ?_)
      refine next_w ht0 (by omega) hO (by omega) (fun o t2 c2 N2 ho hcut hstop hO2 => ?_) (fun hno => ?_)
      · refine w_o rfl rfl rfl (op_not rfl ?_)
        refine w_end ?_
        refine seq_normal ?_
        first | refine w_cond rfl (fun hI2 => ?_) (fun hI2 => ?_) | refine w_condB rfl (fun hI2 => ?_) (fun hI2 => ?_)
        · try (cases hI2)
          all_goals
            refine w_seq ?_
            refine w_region ?_
            refine w_o rfl rfl rfl (op_assign rfl ?_)
            refine w_o rfl rfl rfl (op_assign rfl ?_)
            refine w_end ?_
            refine seq_normal ?_
            refine w_ret ?_
            refine block_ret ?_
            refine loop_ret ?_
            refine block_ret ?_
            refine seq_ret ?_
            refine ret_ret rfl sel_ (k2 fun hcl => hno ?_)
            exact rest_heads hm hc hst htx hcl fun q => by have := bl_nil.1 q; omega
        · try (cases hI2)
          all_goals
            refine w_skip ?_
            refine block_normal ?_
            obtain ⟨q1, q2, q3, q4⟩ := step_ok hm hc hst ho hcut hstop
            have hbn : 0 < (bytesL o).length := List.length_pos_iff.2 (bytes_ne ho)
            have hsz := congrArg List.length hcut
            rw [List.length_append, bl_len, bl_len] at hsz
            exact loop_normal (k' := t2.size) (by omega) ⟨t2, out ++ [o], c2, N2, q1, q2, q3, by rw [q4]; exact htx, by rw [List.length_append]; simp only [List.length_cons, List.length_nil]; omega, rfl, hO2, rfl, rfl⟩ env_ sel_
      · refine w_o rfl rfl rfl (op_not rfl ?_)
        refine w_end ?_
        refine seq_normal ?_
        first | refine w_cond rfl (fun hI2 => ?_) (fun hI2 => ?_) | refine w_condB rfl (fun hI2 => ?_) (fun hI2 => ?_)
        · try (cases hI2)
          all_goals
            refine w_seq ?_
            refine w_region ?_
            refine w_o rfl rfl rfl (op_assign rfl ?_)
            refine w_o rfl rfl rfl (op_assign rfl ?_)
            refine w_end ?_
            refine seq_normal ?_
            refine w_ret ?_
            refine block_ret ?_
            refine loop_ret ?_
            refine block_ret ?_
            refine seq_ret ?_
            refine ret_ret rfl sel_ (k2 fun hcl => hno ?_)
            exact rest_heads hm hc hst htx hcl fun q => by have := bl_nil.1 q; omega
        · try (cases hI2)
          all_goals
            refine w_skip ?_
            refine block_normal ?_
            obtain ⟨q1, q2, q3, q4⟩ := step_ok hm hc hst ho hcut hstop
            have hbn : 0 < (bytesL o).length := List.length_pos_iff.2 (bytes_ne ho)
            have hsz := congrArg List.length hcut
            rw [List.length_append, bl_len, bl_len] at hsz
            exact loop_normal (k' := t2.size) (by omega) ⟨t2, out ++ [o], c2, N2, q1, q2, q3, by rw [q4]; exact htx, by rw [List.length_append]; simp only [List.length_cons, List.length_nil]; omega, rfl, hO2, rfl, rfl⟩ env_ sel_
    · have hte : bl t = [] := empty_iff.1 (Classical.byContradiction fun q => hI1 q)
      rw [hte, List.append_nil] at htx
      refine w_exit ?_
      refine seq_exit ?_
      refine loop_exit ?_
      refine block_hit rfl ?_
      refine seq_normal ?_
      refine w_seq ?_
      refine w_region ?_
      refine w_o rfl rfl rfl (op_load1 agg_22 rfl el_ ?_)
      refine w_o rfl rfl rfl (op_assign rfl ?_)
      refine w_o rfl rfl rfl (op_assign rfl ?_)
      refine w_end ?_
      refine seq_normal ?_
      refine w_ret ?_
      exact ret_ret rfl sel_ (k1 out c N hm htx.symm hc (by omega) hO)
theorem Clean_w {H : Hyp} {K : V → Hyp → Prop} {s : ByteArray} (hs : s.size ≤ 100000) (k1 : clean (bl s) → K (vB true) H) (k2 : ¬ clean (bl s) → K (vB false) H) : CallW Try.prog Xs 20 [vS s] H K := by
  refine call_of (n := 12) (fun _ => rfl) Try.func20 rfl rfl ?_
  refine w_seq ?_
  refine w_region ?_
  refine w_o rfl rfl rfl (op_assign rfl ?_)
  refine w_end ?_
  refine seq_normal ?_
  refine w_seq ?_
  refine w_region ?_
  refine w_o rfl rfl rfl (op_move rfl ?_)
  refine w_o rfl rfl rfl (op_call rfl rfl rfl ?_)
  refine Parse_w hs (fun l c N h1 h2 h3 h4 h5 => ?_) (fun hno => ?_)
  · refine w_o rfl rfl rfl (op_move rfl ?_)
    refine w_o rfl rfl rfl (op_extract rfl rfl ?_)
    refine w_o rfl rfl rfl (op_extract rfl rfl ?_)
    refine w_o rfl rfl rfl (op_assign rfl ?_)
    refine w_o rfl rfl rfl (op_assign rfl ?_)
    refine w_end ?_
    refine seq_normal ?_
    refine w_seq ?_
    refine w_region ?_
    refine w_o rfl rfl rfl (op_move rfl ?_)
    refine w_o rfl rfl rfl (op_eq rfl rfl ?_)
    refine w_o rfl rfl rfl (op_assign rfl ?_)
    refine w_end ?_
    refine seq_normal ?_
    refine w_ret ?_
    first
      | exact ret_ret rfl sel_ (k1 ⟨l, h1, h2⟩)
      | exact ret_ret rfl sel_ (k2 hno)
  · refine w_o rfl rfl rfl (op_move rfl ?_)
    refine w_o rfl rfl rfl (op_extract rfl rfl ?_)
    refine w_o rfl rfl rfl (op_extract rfl rfl ?_)
    refine w_o rfl rfl rfl (op_assign rfl ?_)
    refine w_o rfl rfl rfl (op_assign rfl ?_)
    refine w_end ?_
    refine seq_normal ?_
    refine w_seq ?_
    refine w_region ?_
    refine w_o rfl rfl rfl (op_move rfl ?_)
    refine w_o rfl rfl rfl (op_eq rfl rfl ?_)
    refine w_o rfl rfl rfl (op_assign rfl ?_)
    refine w_end ?_
    refine seq_normal ?_
    refine w_ret ?_
    first
      | exact ret_ret rfl sel_ (k1 ⟨l, h1, h2⟩)
      | exact ret_ret rfl sel_ (k2 hno)
end Go.Proofs.Ytigkfladgdknbaa.AM.B
