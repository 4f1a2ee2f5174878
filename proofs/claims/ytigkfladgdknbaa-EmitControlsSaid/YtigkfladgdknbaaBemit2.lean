/- emit.Parse, walked: it reads the texts of the grammar, and no others. -/
import Derived.Test.YtigkfladgdknbaaAX
import Derived.Test.YtigkfladgdknbaaBemit
import Derived.Lib.Bytealg
set_option linter.unusedVariables false
set_option linter.unusedSimpArgs false
set_option maxRecDepth 10000
set_option maxHeartbeats 4000000
namespace Go.Proofs.Ytigkfladgdknbaa.AM.B
open Go Go.RowKit
theorem idx_at (c : UInt8) : ∀ (a b : List UInt8), c ∉ a → Lib.indexByte (a ++ c :: b) c = (a.length : Int)
  | [], b, _ => by simp [Lib.indexByte]
  | x :: a, b, h => by
    have hx : (x == c) = false := by
      rw [beq_eq_false_iff_ne]; rintro rfl; exact h (List.mem_cons_self ..)
    have ih := idx_at c a b fun q => h (List.mem_cons_of_mem _ q)
    simp only [List.cons_append, Lib.indexByte, hx, ih, List.length_cons, Bool.false_eq_true, if_false]
    rw [show (((a.length : Int)) == -1) = false by rw [beq_eq_false_iff_ne]; omega]
    simp
theorem idx_bnd (c : UInt8) : ∀ (l : List UInt8), -1 ≤ Lib.indexByte l c ∧ Lib.indexByte l c < (l.length : Int)
  | [] => by simp [Lib.indexByte]
  | x :: l => by
    have ih := idx_bnd c l
    simp only [Lib.indexByte, List.length_cons]
    split
    · omega
    · split
      · omega
      · omega
theorem bl_take (s : ByteArray) (p : Nat) (h : p ≤ s.size) : bl (s.extract 0 p) = (bl s).take p := by
  show (s.extract 0 p).data.toList = _
  rw [ByteArray.data_extract]
  simp [Array.toList_extract, List.extract]
theorem Index_w {H : Hyp} {K : V → Hyp → Prop} {s : ByteArray} {b : UInt8} (hs : s.size ≤ 1000000) (k : K (vI (Lib.indexByte (bl s) b)) H) : CallW Try.prog Xs 74 [vS s, vS ⟨#[b]⟩] H K := by
  refine call_of (n := 143) (fun _ => rfl) Try.func74 rfl rfl ?_
  refine w_seq ?_
  refine w_region ?_
  refine w_o rfl rfl rfl (op_assign rfl ?_)
  refine w_end ?_
  refine seq_normal ?_
  refine w_seq ?_
  refine w_region ?_
  refine w_o rfl rfl rfl (op_move rfl ?_)
  refine w_o rfl rfl rfl (op_lenS und_9 rfl ?_)
  refine w_o rfl rfl rfl (op_assign rfl ?_)
  refine w_end ?_
  refine seq_normal ?_
  refine w_seq ?_
  refine w_block ?_
  refine w_seq ?_
  refine w_region ?_
  refine w_o rfl rfl rfl (op_move rfl ?_)
  refine w_o rfl rfl rfl (op_eq rfl rfl ?_)
  refine w_o rfl rfl rfl (op_move rfl ?_)
  first | refine w_known (t := 19) rfl (fun g19 => ?_) (fun g19 => ?_) | refine w_knownB (t := 19) rfl (fun g19 => ?_) (fun g19 => ?_)
  · exact absurd g19 (show ¬ ((1 : Nat) : Int) = 0 by decide) --closed
  · refine w_og rfl rfl rfl rfl rfl (op_move rfl ?_)
    refine w_og rfl rfl rfl rfl rfl (op_move rfl ?_)
    refine w_og rfl rfl rfl rfl rfl (op_streq rfl rfl ?_)
    refine w_o rfl rfl rfl (op_pick rfl rfl rfl ?_)
    refine w_o rfl rfl rfl (op_assign rfl ?_)
    refine w_end ?_
    refine seq_normal ?_
    first | refine w_cond rfl (fun hI1 => ?_) (fun hI1 => ?_) | refine w_condB rfl (fun hI1 => ?_) (fun hI1 => ?_)
    · have e : s = ⟨#[b]⟩ := hI1.symm
      refine w_seq ?_
      refine w_region ?_
      refine w_o rfl rfl rfl (op_assign rfl ?_)
      refine w_end ?_
      refine seq_normal ?_
      refine w_ret ?_
      refine block_ret ?_
      refine seq_ret ?_
      rw [e, show Lib.indexByte (bl ⟨#[b]⟩) b = 0 by simp [bl, Lib.indexByte]] at k
      exact ret_ret rfl sel_ k
    · refine w_seq ?_
      refine w_region ?_
      refine w_o rfl rfl rfl (op_move rfl ?_)
      refine w_o rfl rfl rfl (op_eq rfl rfl ?_)
      refine w_o rfl rfl rfl (op_assign rfl ?_)
      refine w_end ?_
      refine seq_normal ?_
      refine w_condY rfl (rfl) ?_
      refine w_seq ?_
      refine w_region ?_
      refine w_o rfl rfl rfl (op_move rfl ?_)
      refine w_o rfl rfl rfl (op_move rfl ?_)
      refine w_o rfl rfl rfl (op_indexS und_9 rfl rfl (by omega) (by omega) ?_)
      refine w_o rfl rfl rfl (op_call rfl rfl rfl ?_)
      refine slIdx_w ?_
      rw [show (byteAt ⟨#[b]⟩ 0).toNat.toUInt8 = b from UInt8.ofNat_toNat, Lib.firstIdx_eq]
      refine w_o rfl rfl rfl (op_assign rfl ?_)
      refine w_end ?_
      refine seq_normal ?_
      refine w_ret ?_
      refine block_ret ?_
      refine seq_ret ?_
      exact ret_ret rfl sel_ k
theorem slCut_w {H : Hyp} {K : V → Hyp → Prop} {s : ByteArray} {b : UInt8} (hs : s.size ≤ 1000000) (k : ∀ x y f, x.size ≤ s.size → y.size ≤ s.size → (∀ a r, bl s = a ++ b :: r → b ∉ a → bl x = a ∧ bl y = r) → K (.tup [.c (.str x), .c (.str y), .c (.bool f)]) H) : CallW Try.prog Xs 66 [vS s, vS ⟨#[b]⟩] H K := by
  have hb := idx_bnd b (bl s)
  rw [bl_len] at hb
  refine call_of (n := 23) (fun _ => rfl) Try.func66 rfl rfl ?_
  refine w_seq ?_
  refine w_region ?_
  refine w_o rfl rfl rfl (op_assign rfl ?_)
  refine w_o rfl rfl rfl (op_assign rfl ?_)
  refine w_o rfl rfl rfl (op_assign rfl ?_)
  refine w_end ?_
  refine seq_normal ?_
  refine w_seq ?_
  refine w_seq ?_
  refine w_region ?_
  refine w_o rfl rfl rfl (op_move rfl ?_)
  refine w_o rfl rfl rfl (op_move rfl ?_)
  refine w_o rfl rfl rfl (op_call rfl rfl rfl ?_)
  refine Index_w hs ?_
  generalize hq : Lib.indexByte (bl s) b = q at hb
  refine w_o rfl rfl rfl (op_assign rfl ?_)
  refine w_end ?_
  refine seq_normal ?_
  refine w_seq ?_
  refine w_region ?_
  refine w_o rfl rfl rfl (op_move rfl ?_)
  refine w_o rfl rfl rfl (op_ge rfl rfl ?_)
  refine w_end ?_
  refine seq_normal ?_
  first | refine w_cond rfl (fun hI1 => ?_) (fun hI1 => ?_) | refine w_condB rfl (fun hI1 => ?_) (fun hI1 => ?_)
  · refine w_seq ?_
    refine w_draw (by decide +kernel) (by decide +kernel) ?_
    refine w_d rfl rfl rfl (op_move rfl ?_)
    refine w_d rfl rfl rfl (op_move rfl ?_)
    refine w_d rfl rfl rfl (op_sliceS und_9 rfl rfl rfl (by omega) (by omega) (by omega) ?_)
    refine w_d rfl rfl rfl (op_move rfl ?_)
    refine w_d rfl rfl rfl (op_move rfl ?_)
    refine w_d rfl rfl rfl (op_move rfl ?_)
    refine w_d rfl rfl rfl (op_lenS und_9 rfl ?_)
    refine w_d rfl rfl rfl (op_addi (b := 1) rfl rfl (by omega) (by omega) ?_)
    refine w_d rfl rfl rfl (op_sliceS und_9 rfl rfl rfl (by omega) (by omega) (by omega) ?_)
    refine w_d rfl rfl rfl (op_assign rfl ?_)
    refine w_d rfl rfl rfl (op_assign rfl ?_)
    refine w_d rfl rfl rfl (op_assign rfl ?_)
    refine w_end ?_
    refine seq_normal ?_
    refine w_ret ?_
    refine seq_ret ?_
    refine ret_ret rfl sel_ (k _ _ _ (by rw [ByteArray.size_extract]; omega) (by rw [ByteArray.size_extract]; omega) fun a r h hn => ?_)
    have e := idx_at b a r hn
    rw [← h, hq] at e
    subst e
    have e1 : ((a.length : Int)).toNat = a.length := by omega
    have e2 : ((a.length : Int) + 1).toNat = a.length + 1 := by omega
    have e3 : ((s.size : Int)).toNat = s.size := by omega
    have hsz := congrArg List.length h
    rw [bl_len, List.length_append, List.length_cons] at hsz
    refine ⟨?_, ?_⟩
    · exact (bl_take s a.length (by omega)).trans (by rw [h, List.take_left])
    · rw [e2, e3, bl_ext, h, show a.length + 1 = (a ++ [b]).length by simp, show a ++ b :: r = (a ++ [b]) ++ r by simp, List.drop_left]
  · refine w_skip ?_
    refine seq_normal ?_
    refine w_seq ?_
    refine w_region ?_
    refine w_o rfl rfl rfl (op_move rfl ?_)
    refine w_o rfl rfl rfl (op_assign rfl ?_)
    refine w_o rfl rfl rfl (op_assign rfl ?_)
    refine w_o rfl rfl rfl (op_assign rfl ?_)
    refine w_end ?_
    refine seq_normal ?_
    refine w_ret ?_
    refine ret_ret rfl sel_ (k _ _ _ (Nat.le_refl _) (Nat.zero_le _) fun a r h hn => ?_)
    have e := idx_at b a r hn
    rw [← h, hq] at e
    omega
theorem Cut_w {H : Hyp} {K : V → Hyp → Prop} {s : ByteArray} {b : UInt8} (hs : s.size ≤ 1000000) (k : ∀ x y f, x.size ≤ s.size → y.size ≤ s.size → (∀ a r, bl s = a ++ b :: r → b ∉ a → bl x = a ∧ bl y = r) → K (.tup [.c (.str x), .c (.str y), .c (.bool f)]) H) : CallW Try.prog Xs 54 [vS s, vS ⟨#[b]⟩] H K := by
  refine call_of (n := 13) (fun _ => rfl) Try.func54 rfl rfl ?_
  refine w_seq ?_
  refine w_region ?_
  refine w_o rfl rfl rfl (op_assign rfl ?_)
  refine w_o rfl rfl rfl (op_assign rfl ?_)
  refine w_o rfl rfl rfl (op_assign rfl ?_)
  refine w_end ?_
  refine seq_normal ?_
  refine w_seq ?_
  refine w_region ?_
  refine w_o rfl rfl rfl (op_move rfl ?_)
  refine w_o rfl rfl rfl (op_move rfl ?_)
  refine w_o rfl rfl rfl (op_call rfl rfl rfl ?_)
  refine slCut_w hs fun x y f h1 h2 h3 => ?_
  refine w_o rfl rfl rfl (op_extract rfl rfl ?_)
  refine w_o rfl rfl rfl (op_extract rfl rfl ?_)
  refine w_o rfl rfl rfl (op_extract rfl rfl ?_)
  refine w_o rfl rfl rfl (op_assign rfl ?_)
  refine w_o rfl rfl rfl (op_assign rfl ?_)
  refine w_o rfl rfl rfl (op_assign rfl ?_)
  refine w_end ?_
  refine seq_normal ?_
  refine w_ret ?_
  exact ret_ret rfl sel_ (k x y f h1 h2 h3)
/-- What stands behind a bracket, up to its last byte. -/
theorem byteAt_last {s : ByteArray} {b : List UInt8} {f : UInt8} (h : bl s = b ++ [f]) : byteAt s ((s.size : Int) - 1) = (f.toNat : Int) ∧ bl (s.extract 0 (s.size - 1)) = b := by
  have hsz := congrArg List.length h
  rw [bl_len, List.length_append] at hsz
  simp only [List.length_cons, List.length_nil] at hsz
  constructor
  · unfold byteAt
    rw [show ((s.size : Int) - 1).toNat = b.length by omega, show s.data.toList = b ++ [f] from h]
    simp
  · rw [bl_take s _ (by omega), h, show s.size - 1 = b.length by omega, List.take_left]
theorem read_w {H : Hyp} {K : V → Hyp → Prop} {s : ByteArray} (h0 : 0 < s.size) (hs : s.size ≤ 1000000) (k : ∀ o : OutS, (∀ o', mayO o' = true → 1 ≤ o'.f0 → o'.f0 ≤ 5 → bl s = escL o' → o = o') → o.f0 ≠ 0 → o.f3 = ⟨#[]⟩ → K (.one (.agg (encO o))) H) : CallW Try.prog Xs 44 [vS s] H K := by
  have hlast : ∀ o', mayO o' = true → 1 ≤ o'.f0 → o'.f0 ≤ 5 → bl s = escL o' → ∃ b f, bl (s.extract 0 (s.size - 1)) = b ∧ byteAt s ((s.size : Int) - 1) = (f.toNat : Int) ∧ escL o' = b ++ [f] ∧
      ((o'.f0 = 1 ∧ f = 72 ∧ b = decR o'.f1.toNat ++ 59 :: decR o'.f2.toNat) ∨ (o'.f0 = 2 ∧ f = 74) ∨ (o'.f0 = 3 ∧ f = 75) ∨ (o'.f0 = 4 ∧ f = 109) ∨ (o'.f0 = 5 ∧ o'.f1 = 0 ∧ f = 108) ∨ (o'.f0 = 5 ∧ o'.f1 = 1 ∧ f = 104)) := by
    intro o' hm h1 h5 he
    obtain ⟨b, f, e, _, hc⟩ := esc_ok hm ⟨h1, h5⟩
    obtain ⟨q1, q2⟩ := byteAt_last (he.trans e)
    exact ⟨b, f, q2, q1, e, hc⟩
  have hext : ((s.size : Int) - 1).toNat = s.size - 1 := by omega
  refine call_of (n := 68) (fun _ => rfl) Try.func44 rfl rfl ?_
  refine w_seq ?_
  refine w_region ?_
  refine w_o rfl rfl rfl (op_alloc zer_31 fun b2 => ?_)
  refine w_end ?_
  refine seq_normal ?_
  refine w_seq ?_
  refine w_region ?_
  refine w_o rfl rfl rfl (op_move rfl ?_)
  refine w_o rfl rfl rfl (op_move rfl ?_)
  refine w_o rfl rfl rfl (op_lenS und_9 rfl ?_)
  refine w_o rfl rfl rfl (op_subi rfl rfl (by omega) (by omega) ?_)
  refine w_o rfl rfl rfl (op_indexS und_9 rfl rfl (by omega) (by omega) ?_)
  refine w_o rfl rfl rfl (op_assign rfl ?_)
  refine w_end ?_
  refine seq_normal ?_
  refine w_seq ?_
  refine w_region ?_
  refine w_o rfl rfl rfl (op_move rfl ?_)
  refine w_o rfl rfl rfl (op_move rfl ?_)
  refine w_o rfl rfl rfl (op_lenS und_9 rfl ?_)
  refine w_o rfl rfl rfl (op_subi rfl rfl (by omega) (by omega) ?_)
  refine w_o rfl rfl rfl (op_sliceS und_9 rfl rfl rfl (by omega) (by omega) (by omega) ?_)
  rw [hext]
  refine w_o rfl rfl rfl (op_assign rfl ?_)
  refine w_end ?_
  refine seq_normal ?_
  refine w_seq ?_
  refine w_region ?_
  refine w_o rfl rfl rfl (op_move rfl ?_)
  refine w_o rfl rfl rfl (op_call rfl rfl rfl ?_)
  refine Cut_w (b := 59) (by rw [ByteArray.size_extract]; omega) fun xa xb xf hxa hxb hcut => ?_
  refine w_o rfl rfl rfl (op_move rfl ?_)
  refine w_o rfl rfl rfl (op_extract rfl rfl ?_)
  refine w_o rfl rfl rfl (op_extract rfl rfl ?_)
  refine w_o rfl rfl rfl (op_extract rfl rfl ?_)
  refine w_o rfl rfl rfl (op_assign rfl ?_)
  refine w_o rfl rfl rfl (op_assign rfl ?_)
  refine w_o rfl rfl rfl (op_assign rfl ?_)
  refine w_end ?_
  refine seq_normal ?_
  refine w_seq ?_
  refine w_region ?_
  refine w_o rfl rfl rfl (op_move rfl ?_)
  have hxs : xa.size ≤ s.size ∧ xb.size ≤ s.size := by rw [ByteArray.size_extract] at hxa hxb; omega
  refine w_o rfl rfl rfl (op_call rfl rfl rfl ?_)
  refine Undec_w (by omega) fun n e hn => ?_
  refine w_o rfl rfl rfl (op_move rfl ?_)
  refine w_o rfl rfl rfl (op_extract rfl rfl ?_)
  refine w_o rfl rfl rfl (op_extract rfl rfl ?_)
  refine w_o rfl rfl rfl (op_assign rfl ?_)
  refine w_o rfl rfl rfl (op_assign rfl ?_)
  refine w_end ?_
  refine seq_normal ?_
  refine w_seq ?_
  refine w_region ?_
  refine w_o rfl rfl rfl (op_move rfl ?_)
  refine w_o rfl rfl rfl (op_call rfl rfl rfl ?_)
  refine Undec_w (by omega) fun m e2 hm2 => ?_
  refine w_o rfl rfl rfl (op_move rfl ?_)
  refine w_o rfl rfl rfl (op_extract rfl rfl ?_)
  refine w_o rfl rfl rfl (op_extract rfl rfl ?_)
  refine w_o rfl rfl rfl (op_assign rfl ?_)
  refine w_o rfl rfl rfl (op_assign rfl ?_)
  refine w_end ?_
  refine seq_normal ?_
  refine w_seq ?_
  refine w_seq ?_
  refine w_region ?_
  refine w_o rfl rfl rfl (op_move rfl ?_)
  refine w_end ?_
  refine seq_normal ?_
  refine w_block ?_
  refine w_seq ?_
  refine w_region ?_
  refine w_o rfl rfl rfl (op_eq rfl rfl ?_)
  refine w_o rfl rfl rfl (op_assign rfl ?_)
  refine w_end ?_
  refine seq_normal ?_
  first | refine w_cond rfl (fun hI1 => ?_) (fun hI1 => ?_) | refine w_condB rfl (fun hI1 => ?_) (fun hI1 => ?_)
  · refine w_seq ?_
    refine w_region ?_
    refine w_o rfl rfl rfl (op_move rfl ?_)
    refine w_o rfl rfl rfl (op_move rfl ?_)
    refine w_o rfl rfl rfl (op_build rfl ((bld_31 _).trans (rfl : _ = some [_, _, _, _])) ?_)
    refine w_on rfl rfl (op_store siz_31 rfl rfl rfl (by (repeat (first | exact Pick.head _ _ _ | apply Pick.tail | apply Pick.app)); first | done | fail) (Nat.le_of_ble_eq_true rfl) rfl ?_)
    refine w_end ?_
    refine seq_normal ?_
    refine w_ret ?_
    refine block_ret ?_
    refine seq_ret ?_
    refine ret_cellA rfl agg_31 siz_31 (El.row mem_) rfl sel_ (k ⟨1, n, m, ⟨#[]⟩⟩ (fun o' hm h1 h5 he => ?_) (show (1 : Int) ≠ 0 by decide) rfl)
    obtain ⟨b, f, q1, q2, q3, hc⟩ := hlast o' hm h1 h5 he
    rw [q2] at hI1
    obtain ⟨n1, n2, n3, n4, n5, n6, n7, n8⟩ := may_num hm
    rcases hc with ⟨p0, p1, p2⟩ | ⟨_, p1⟩ | ⟨_, p1⟩ | ⟨_, p1⟩ | ⟨_, _, p1⟩ | ⟨_, _, p1⟩ <;> first | (exfalso; rw [p1] at hI1; revert hI1; decide) | skip
    have nd : (59 : UInt8) ∉ decR o'.f1.toNat := fun q => by have := decR_dig _ _ q; exact absurd this.2 (by decide)
    obtain ⟨c1, c2⟩ := hcut (decR o'.f1.toNat) (decR o'.f2.toNat) (q1.trans p2) nd
    have r1 := hn o'.f1.toNat (by omega) c1
    have r2 := hm2 o'.f2.toNat (by omega) c2
    exact may_eta (by show (1 : Int) = _; omega) (by show n = _; omega) (by show m = _; omega) (n8 (by omega)).symm
  · refine w_seq ?_
    refine w_region ?_
    refine w_o rfl rfl rfl (op_eq rfl rfl ?_)
    refine w_o rfl rfl rfl (op_assign rfl ?_)
    refine w_end ?_
    refine seq_normal ?_
    first | refine w_cond rfl (fun hI2 => ?_) (fun hI2 => ?_) | refine w_condB rfl (fun hI2 => ?_) (fun hI2 => ?_)
    · refine w_seq ?_
      refine w_region ?_
      refine w_o rfl rfl rfl (op_build rfl ((bld_31 _).trans (rfl : _ = some [_, _, _, _])) ?_)
      refine w_on rfl rfl (op_store siz_31 rfl rfl rfl (by (repeat (first | exact Pick.head _ _ _ | apply Pick.tail | apply Pick.app)); first | done | fail) (Nat.le_of_ble_eq_true rfl) rfl ?_)
      refine w_end ?_
      refine seq_normal ?_
      refine w_ret ?_
      refine block_ret ?_
      refine seq_ret ?_
      refine ret_cellA rfl agg_31 siz_31 (El.row mem_) rfl sel_ (k ⟨2, 0, 0, ⟨#[]⟩⟩ (fun o' hm h1 h5 he => ?_) (by decide) rfl)
      obtain ⟨b, f, q1, q2, q3, hc⟩ := hlast o' hm h1 h5 he
      rw [q2] at hI2
      obtain ⟨n1, n2, n3, n4, n5, n6, n7, n8⟩ := may_num hm
      rcases hc with ⟨p0, p1, p2⟩ | ⟨p0, p1⟩ | ⟨_, p1⟩ | ⟨_, p1⟩ | ⟨_, _, p1⟩ | ⟨_, _, p1⟩ <;> first | (exfalso; rw [p1] at hI2; revert hI2; decide) | skip
      exact may_eta p0.symm (n7 (.inl p0)).1.symm (n7 (.inl p0)).2.symm (n8 (by omega)).symm
    · refine w_seq ?_
      refine w_region ?_
      refine w_o rfl rfl rfl (op_eq rfl rfl ?_)
      refine w_o rfl rfl rfl (op_assign rfl ?_)
      refine w_end ?_
      refine seq_normal ?_
      first | refine w_cond rfl (fun hI3 => ?_) (fun hI3 => ?_) | refine w_condB rfl (fun hI3 => ?_) (fun hI3 => ?_)
      · refine w_seq ?_
        refine w_region ?_
        refine w_o rfl rfl rfl (op_build rfl ((bld_31 _).trans (rfl : _ = some [_, _, _, _])) ?_)
        refine w_on rfl rfl (op_store siz_31 rfl rfl rfl (by (repeat (first | exact Pick.head _ _ _ | apply Pick.tail | apply Pick.app)); first | done | fail) (Nat.le_of_ble_eq_true rfl) rfl ?_)
        refine w_end ?_
        refine seq_normal ?_
        refine w_ret ?_
        refine block_ret ?_
        refine seq_ret ?_
        refine ret_cellA rfl agg_31 siz_31 (El.row mem_) rfl sel_ (k ⟨3, 0, 0, ⟨#[]⟩⟩ (fun o' hm h1 h5 he => ?_) (by decide) rfl)
        obtain ⟨b, f, q1, q2, q3, hc⟩ := hlast o' hm h1 h5 he
        rw [q2] at hI3
        obtain ⟨n1, n2, n3, n4, n5, n6, n7, n8⟩ := may_num hm
        rcases hc with ⟨p0, p1, p2⟩ | ⟨p0, p1⟩ | ⟨p0, p1⟩ | ⟨_, p1⟩ | ⟨_, _, p1⟩ | ⟨_, _, p1⟩ <;> first | (exfalso; rw [p1] at hI3; revert hI3; decide) | skip
        exact may_eta p0.symm (n7 (.inr (.inl p0))).1.symm (n7 (.inr (.inl p0))).2.symm (n8 (by omega)).symm
      · refine w_seq ?_
        refine w_region ?_
        refine w_o rfl rfl rfl (op_eq rfl rfl ?_)
        refine w_o rfl rfl rfl (op_assign rfl ?_)
        refine w_end ?_
        refine seq_normal ?_
        first | refine w_cond rfl (fun hI4 => ?_) (fun hI4 => ?_) | refine w_condB rfl (fun hI4 => ?_) (fun hI4 => ?_)
        · refine w_seq ?_
          refine w_region ?_
          refine w_o rfl rfl rfl (op_build rfl ((bld_31 _).trans (rfl : _ = some [_, _, _, _])) ?_)
          refine w_on rfl rfl (op_store siz_31 rfl rfl rfl (by (repeat (first | exact Pick.head _ _ _ | apply Pick.tail | apply Pick.app)); first | done | fail) (Nat.le_of_ble_eq_true rfl) rfl ?_)
          refine w_end ?_
          refine seq_normal ?_
          refine w_ret ?_
          refine block_ret ?_
          refine seq_ret ?_
          refine ret_cellA rfl agg_31 siz_31 (El.row mem_) rfl sel_ (k ⟨5, 1, 0, ⟨#[]⟩⟩ (fun o' hm h1 h5 he => ?_) (by decide) rfl)
          obtain ⟨b, f, q1, q2, q3, hc⟩ := hlast o' hm h1 h5 he
          rw [q2] at hI4
          obtain ⟨n1, n2, n3, n4, n5, n6, n7, n8⟩ := may_num hm
          rcases hc with ⟨p0, p1, p2⟩ | ⟨p0, p1⟩ | ⟨p0, p1⟩ | ⟨_, p1⟩ | ⟨_, _, p1⟩ | ⟨p0, p2, p1⟩ <;> first | (exfalso; rw [p1] at hI4; revert hI4; decide) | skip
          exact may_eta p0.symm p2.symm (n6 p0).1.symm (n8 (by omega)).symm
        · refine w_seq ?_
          refine w_region ?_
          refine w_o rfl rfl rfl (op_eq rfl rfl ?_)
          refine w_o rfl rfl rfl (op_assign rfl ?_)
          refine w_end ?_
          refine seq_normal ?_
          first | refine w_cond rfl (fun hI5 => ?_) (fun hI5 => ?_) | refine w_condB rfl (fun hI5 => ?_) (fun hI5 => ?_)
          · refine w_seq ?_
            refine w_region ?_
            refine w_o rfl rfl rfl (op_build rfl ((bld_31 _).trans (rfl : _ = some [_, _, _, _])) ?_)
            refine w_on rfl rfl (op_store siz_31 rfl rfl rfl (by (repeat (first | exact Pick.head _ _ _ | apply Pick.tail | apply Pick.app)); first | done | fail) (Nat.le_of_ble_eq_true rfl) rfl ?_)
            refine w_end ?_
            refine seq_normal ?_
            refine w_ret ?_
            refine block_ret ?_
            refine seq_ret ?_
            refine ret_cellA rfl agg_31 siz_31 (El.row mem_) rfl sel_ (k ⟨5, 0, 0, ⟨#[]⟩⟩ (fun o' hm h1 h5 he => ?_) (by decide) rfl)
            obtain ⟨b, f, q1, q2, q3, hc⟩ := hlast o' hm h1 h5 he
            rw [q2] at hI5
            obtain ⟨n1, n2, n3, n4, n5, n6, n7, n8⟩ := may_num hm
            rcases hc with ⟨p0, p1, p2⟩ | ⟨p0, p1⟩ | ⟨p0, p1⟩ | ⟨_, p1⟩ | ⟨p0, p2, p1⟩ | ⟨_, _, p1⟩ <;> first | (exfalso; rw [p1] at hI5; revert hI5; decide) | skip
            exact may_eta p0.symm p2.symm (n6 p0).1.symm (n8 (by omega)).symm
          · have h4 : ∀ o', mayO o' = true → 1 ≤ o'.f0 → o'.f0 ≤ 5 → bl s = escL o' → o'.f0 = 4 := by
              intro o' hm h1 h5 he
              obtain ⟨b, f, q1, q2, q3, hc⟩ := hlast o' hm h1 h5 he
              rw [q2] at hI1 hI2 hI3 hI4 hI5
              rcases hc with ⟨p0, p1, p2⟩ | ⟨p0, p1⟩ | ⟨p0, p1⟩ | ⟨p0, p1⟩ | ⟨p0, p2, p1⟩ | ⟨p0, p2, p1⟩ <;> first | exact p0 | (exfalso; rw [p1] at hI1 hI2 hI3 hI4 hI5; revert hI1 hI2 hI3 hI4 hI5; decide)
            refine w_skip ?_
            refine block_normal ?_
            refine seq_normal ?_
            refine w_seq ?_
            refine w_seq ?_
            refine w_region ?_
            refine w_o rfl rfl rfl (op_move rfl ?_)
            refine w_end ?_
            refine seq_normal ?_
            refine w_block ?_
            refine w_loop (fun j e H' => ∃ (i : Nat), i ≤ 8 ∧ (∀ o', mayO o' = true → 1 ≤ o'.f0 → o'.f0 ≤ 5 → bl s = escL o' → (i : Int) ≤ o'.f1) ∧ j = 8 - i ∧ H' = (b2, .row true 31 1 (encO ⟨0, 0, 0, ⟨#[]⟩⟩)) :: H ∧ e = [(0, vS s), (2, ptrV b2 0), (57, vI (i : Nat))]) ?_ ?_
            · exact ⟨_, _, _, ⟨0, by decide, fun o' hm h1 h5 he => by have := (may_num hm).2.2.2.2.1 (h4 o' hm h1 h5 he); omega, rfl, rfl, rfl⟩, env_, sel_⟩
            · rintro j e H' ⟨i, hi, hle, rfl, rfl, rfl⟩
              refine w_seq ?_
              refine w_region ?_
              refine w_o rfl rfl rfl (op_lt rfl rfl ?_)
              refine w_end ?_
              refine seq_normal ?_
              refine w_seq ?_
              first | refine w_cond rfl (fun hI6 => ?_) (fun hI6 => ?_) | refine w_condB rfl (fun hI6 => ?_) (fun hI6 => ?_)
              · refine w_skip ?_
                refine seq_normal ?_
                refine w_seq ?_
                refine w_block ?_
                refine w_seq ?_
                refine w_region ?_
                refine w_o rfl rfl rfl (op_move rfl ?_)
                refine w_o rfl rfl rfl (op_assign rfl ?_)
                refine w_end ?_
                refine seq_normal ?_
                refine w_seq ?_
                refine w_region ?_
                refine w_o rfl rfl rfl (op_move rfl ?_)
                refine w_o rfl rfl rfl (op_call rfl rfl rfl ?_)
                refine looks_w (n := (i : Int)) (by omega) (by omega) fun t ht => ?_
                refine w_o rfl rfl rfl (op_move rfl ?_)
                refine w_o rfl rfl rfl (op_streq rfl rfl ?_)
                refine w_end ?_
                refine seq_normal ?_
                first | refine w_cond rfl (fun hI7 => ?_) (fun hI7 => ?_) | refine w_condB rfl (fun hI7 => ?_) (fun hI7 => ?_)
                · refine w_seq ?_
                  refine w_region ?_
                  refine w_o rfl rfl rfl (op_move rfl ?_)
                  refine w_o rfl rfl rfl (op_build rfl ((bld_31 _).trans (rfl : _ = some [_, _, _, _])) ?_)
                  refine w_on rfl rfl (op_store siz_31 rfl rfl rfl (by (repeat (first | exact Pick.head _ _ _ | apply Pick.tail | apply Pick.app)); first | done | fail) (Nat.le_of_ble_eq_true rfl) rfl ?_)
                  refine w_end ?_
                  refine seq_normal ?_
                  refine w_ret ?_
                  refine block_ret ?_
                  refine seq_ret ?_
                  refine loop_ret ?_
                  refine block_ret ?_
                  refine seq_ret ?_
                  refine ret_cellA rfl agg_31 siz_31 (El.row mem_) rfl sel_ (k ⟨4, i, 0, ⟨#[]⟩⟩ (fun o' hm h1 h5 he => ?_) (show (4 : Int) ≠ 0 by decide) rfl)
                  have p0 := h4 o' hm h1 h5 he
                  obtain ⟨n1, n2, n3, n4, n5, n6, n7, n8⟩ := may_num hm
                  have e1 : escL o' = looksB o'.f1 := by unfold escL; rw [if_neg (by omega), if_neg (by omega), if_neg (by omega), if_pos p0]
                  have e2 : looksB (i : Int) = looksB o'.f1 := by rw [← ht, hI7, he, e1]
                  have := looksB_inj (by omega) (by omega) (n5 p0).2.1 (n5 p0).2.2 e2
                  exact may_eta p0.symm this (n5 p0).1.symm (n8 (by omega)).symm
                · refine w_skip ?_
                  refine block_normal ?_
                  refine seq_normal ?_
                  refine w_region ?_
                  refine w_o rfl rfl rfl (op_addi rfl rfl (by omega) (by omega) ?_)
                  refine w_o rfl rfl rfl (op_move rfl ?_)
                  refine w_end ?_
                  refine loop_normal (k' := 8 - (i + 1)) (by omega) ⟨i + 1, by omega, fun o' hm h1 h5 he => ?_, rfl, rfl, rfl⟩ env_ sel_
                  have p0 := h4 o' hm h1 h5 he
                  have hl := hle o' hm h1 h5 he
                  have e1 : escL o' = looksB o'.f1 := by unfold escL; rw [if_neg (by omega), if_neg (by omega), if_neg (by omega), if_pos p0]
                  have hne : (i : Int) ≠ o'.f1 := fun q => hI7 (bl_inj (by rw [ht, he, e1, q]))
                  omega
              · refine w_exit ?_
                refine seq_exit ?_
                refine loop_exit ?_
                refine block_hit rfl ?_
                refine seq_normal ?_
                refine w_seq ?_
                refine w_region ?_
                refine w_o rfl rfl rfl (op_build rfl ((bld_31 _).trans (rfl : _ = some [_, _, _, _])) ?_)
                refine w_on rfl rfl (op_store siz_31 rfl rfl rfl (by (repeat (first | exact Pick.head _ _ _ | apply Pick.tail | apply Pick.app)); first | done | fail) (Nat.le_of_ble_eq_true rfl) rfl ?_)
                refine w_end ?_
                refine seq_normal ?_
                refine w_ret ?_
                refine ret_cellA rfl agg_31 siz_31 (El.row mem_) rfl sel_ (k ⟨-1, 0, 0, ⟨#[]⟩⟩ (fun o' hm h1 h5 he => ?_) (by decide) rfl)
                have p0 := h4 o' hm h1 h5 he
                have hl := hle o' hm h1 h5 he
                have := (may_num hm).2.2.2.2.1 p0
                omega
theorem size_w {H : Hyp} {K : V → Hyp → Prop} {s : ByteArray} (hs : s.size ≤ 1000000) (k : ∀ n : Nat, n ≤ s.size → (∀ x ∈ (bl s).take n, 32 ≤ x.toNat) → ((bl s).drop n = [] ∨ ∃ x r, (bl s).drop n = x :: r ∧ x.toNat < 32) → K (vI (n : Int)) H) : CallW Try.prog Xs 43 [vS s] H K := by
  refine call_of (n := 17) (fun _ => rfl) Try.func43 rfl rfl ?_
  refine w_seq ?_
  refine w_region ?_
  refine w_o rfl rfl rfl (op_assign rfl ?_)
  refine w_end ?_
  refine seq_normal ?_
  refine w_seq ?_
  refine w_region ?_
  refine w_o rfl rfl rfl (op_assign rfl ?_)
  refine w_end ?_
  refine seq_normal ?_
  refine w_seq ?_
  refine w_block ?_
  refine w_loop (fun m e H' => ∃ (i : Nat), i ≤ s.size ∧ (∀ x ∈ (bl s).take i, 32 ≤ x.toNat) ∧ m = s.size - i ∧ H = H' ∧ e = [(0, vS s), (3, vI (i : Nat))]) ?_ ?_
  · exact ⟨_, _, _, ⟨0, Nat.zero_le _, fun x hx => absurd hx (by simp), rfl, rfl, rfl⟩, env_, sel_⟩
  · rintro m e H' ⟨i, hi, ha, rfl, rfl, rfl⟩
    refine w_seq ?_
    refine w_seq ?_
    refine w_region ?_
    refine w_o rfl rfl rfl (op_move rfl ?_)
    refine w_o rfl rfl rfl (op_move rfl ?_)
    refine w_o rfl rfl rfl (op_lenS und_9 rfl ?_)
    refine w_o rfl rfl rfl (op_lt rfl rfl ?_)
    refine w_o rfl rfl rfl (op_move rfl ?_)
    have hbt : ∀ x, (bl s)[i]? = some x → byteAt s (i : Int) = (x.toNat : Int) := fun x hx => by
      unfold byteAt
      rw [show ((i : Nat) : Int).toNat = i by omega, hx]; rfl
    first | refine w_known (t := 8) rfl (fun g8 => ?_) (fun g8 => ?_) | refine w_knownB (t := 8) rfl (fun g8 => ?_) (fun g8 => ?_)
    · refine w_og rfl rfl rfl rfl rfl (op_move rfl ?_)
      refine w_og rfl rfl rfl rfl rfl (op_move rfl ?_)
      refine w_og rfl rfl rfl rfl rfl (op_indexS und_9 rfl rfl (by omega) (by omega) ?_)
      refine w_og rfl rfl rfl rfl rfl (op_ge rfl rfl ?_)
      refine w_o rfl rfl rfl (op_pick rfl rfl rfl ?_)
      refine w_end ?_
      refine seq_normal ?_
      first | refine w_cond rfl (fun hI1 => ?_) (fun hI1 => ?_) | refine w_condB rfl (fun hI1 => ?_) (fun hI1 => ?_)
      · refine w_skip ?_
        refine seq_normal ?_
        refine w_block ?_
        refine w_region ?_
        refine w_o rfl rfl rfl (op_move rfl ?_)
        refine w_o rfl rfl rfl (op_addi rfl rfl (by omega) (by omega) ?_)
        refine w_o rfl rfl rfl (op_assign rfl ?_)
        refine w_end ?_
        refine block_normal ?_
        obtain ⟨x, hx⟩ : ∃ x, (bl s)[i]? = some x := ⟨_, List.getElem?_eq_getElem (show i < (bl s).length by rw [bl_len]; omega)⟩
        have hbx := hbt x hx
        exact loop_normal (k' := s.size - (i + 1)) (by omega) ⟨i + 1, by omega, (fun y hy => by
          rw [List.take_add_one, hx] at hy
          rcases List.mem_append.1 hy with q | q
          · exact ha y q
          · have : y = x := by simpa using q
            rw [this]; omega), rfl, rfl, rfl⟩ env_ sel_
      · refine w_exit ?_
        refine seq_exit ?_
        refine loop_exit ?_
        refine block_hit rfl ?_
        refine seq_normal ?_
        refine w_seq ?_
        refine w_region ?_
        refine w_o rfl rfl rfl (op_move rfl ?_)
        refine w_o rfl rfl rfl (op_assign rfl ?_)
        refine w_end ?_
        refine seq_normal ?_
        refine w_ret ?_
        refine ret_ret rfl sel_ (k i hi ha ?_)
        rcases Nat.lt_or_ge i s.size with q | q
        · right
          have hl : i < (bl s).length := by rw [bl_len]; exact q
          refine ⟨(bl s)[i], (bl s).drop (i + 1), List.drop_eq_getElem_cons hl, ?_⟩
          have hbx := hbt _ (List.getElem?_eq_getElem hl)
          omega
        · left
          exact List.drop_of_length_le (show (bl s).length ≤ i by rw [bl_len]; exact q)
    · refine w_u rfl rfl rfl rfl rfl rfl ?_
      refine w_u rfl rfl rfl rfl rfl rfl ?_
      refine w_u rfl rfl rfl rfl rfl rfl ?_
      refine w_u rfl rfl rfl rfl rfl rfl ?_
      refine w_o rfl rfl rfl (op_pick rfl rfl rfl ?_)
      refine w_end ?_
      refine seq_normal ?_
      refine w_condF rfl ?_
      refine w_exit ?_
      refine seq_exit ?_
      refine loop_exit ?_
      refine block_hit rfl ?_
      refine seq_normal ?_
      refine w_seq ?_
      refine w_region ?_
      refine w_o rfl rfl rfl (op_move rfl ?_)
      refine w_o rfl rfl rfl (op_assign rfl ?_)
      refine w_end ?_
      refine seq_normal ?_
      refine w_ret ?_
      refine ret_ret rfl sel_ (k i hi ha ?_)
      rcases Nat.lt_or_ge i s.size with q | q
      · right
        have hl : i < (bl s).length := by rw [bl_len]; exact q
        refine ⟨(bl s)[i], (bl s).drop (i + 1), List.drop_eq_getElem_cons hl, ?_⟩
        have hbx := hbt _ (List.getElem?_eq_getElem hl)
        omega
      · left
        exact List.drop_of_length_le (show (bl s).length ≤ i by rw [bl_len]; exact q)
end Go.Proofs.Ytigkfladgdknbaa.AM.B
