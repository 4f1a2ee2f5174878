/- The law LineBack: it answers true, whatever comes in. -/
import Derived.Test.YtdhnjkagmbfoaaaAX
import Derived.Test.YtdhnjkagmbfoaaaBlback
set_option linter.unusedVariables false
set_option linter.unusedSimpArgs false
set_option maxRecDepth 10000
set_option maxHeartbeats 4000000
namespace Go.Proofs.Ytdhnjkagmbfoaaa.AM.B
open Go Go.RowKit
theorem seg_lo (l : List Sign) (a : Int) : seg l ((0 : Nat) : Int) a = l.take a.toNat := by
  unfold seg
  rw [show ((0 : Nat) : Int).toNat = 0 from rfl, List.drop_zero, Nat.sub_zero]
theorem seg_hi (l : List Sign) (a : Int) : seg l a ((l.length : Nat) : Int) = l.drop a.toNat := by
  unfold seg
  exact List.take_of_length_le (by rw [List.length_drop, Int.toNat_natCast]; exact Nat.le_refl _)
theorem cut_back {l : List Sign} {f t : Int} (h : 0 ≤ f ∧ f ≤ t ∧ t ≤ l.length) : insV (seg l ((0 : Nat) : Int) f ++ seg l t ((l.length : Nat) : Int)) f (seg l f t) = l := by
  unfold insV
  rw [seg_lo, seg_hi, seg_lo, seg_hi]
  have hlen : (l.take f.toNat).length = f.toNat := by rw [List.length_take]; omega
  rw [List.take_left' hlen, List.drop_left' hlen]
  unfold seg
  rw [List.append_assoc, show l.drop t.toNat = (l.drop f.toNat).drop (t.toNat - f.toNat) by rw [List.drop_drop]; congr 1; omega, List.take_append_drop, List.take_append_drop]
theorem Light_w {H H1 : Hyp} {K : V → Hyp → Prop} {c : Cell} {l : List Sign} {a : Int} (h : Sl H1 39 2 c l.length (l.flatMap encS)) (hs : ∀ y ∈ H1, y ∈ H) (k : K (vB (decide ((l.length : Int) ≤ 100))) H) : CallW Try.prog Xs 5 [lineV c a] H K := by
  refine call_of (n := 7) (fun _ => rfl) Try.func5 rfl rfl ?_
  refine w_seq ?_
  refine w_region ?_
  refine w_o rfl rfl rfl (op_box rfl fun b1 => ?_)
  refine w_o rfl rfl rfl (op_assign rfl ?_)
  refine w_end ?_
  refine seq_normal ?_
  refine w_seq ?_
  refine w_region ?_
  refine w_o rfl rfl rfl (op_fieldAddr fa_24_0 rfl ?_)
  refine w_o rfl rfl rfl (op_loadF agg_22 rfl el_ rfl ?_)
  refine w_o rfl rfl rfl (op_lenC und_22 rfl h.lenC ?_)
  refine w_o rfl rfl rfl (op_le rfl rfl ?_)
  refine w_o rfl rfl rfl (op_assign rfl ?_)
  refine w_end ?_
  refine seq_normal ?_
  refine w_ret ?_
  exact ret_ret rfl sel_ k
theorem right_f0 {l : List Sign} {a : Int} (h : rightL l a = true) : ∀ x ∈ l, 0 ≤ x.f0 ∧ x.f0 ≤ 2000000 := by
  intro x hx
  have h1 := List.all_eq_true.1 (of_decide_eq_true h).2.2 x hx
  simp only [rightS, rightV, pointV, Bool.and_eq_true, Bool.or_eq_true, decide_eq_true_eq] at h1
  omega
theorem up_in {v w : Int} (h : upV v = upV w) (hw : 0 ≤ w ∧ w ≤ 2000000) : -1000000000 ≤ v ∧ v ≤ 1000000000 := by
  unfold upV at h
  split at h <;> split at h <;> omega
theorem LineBack_law {H : Hyp} {c : Cell} {l : List Sign} {a qa qb qh : Int} (h : Sl H 39 2 c l.length (l.flatMap encS)) : CallW Try.prog Xs 4 [lineV c a, .one (.agg [.int .i64 qa, .int .i64 qb, .int .i64 qh])] H (fun v _ => v = vB true) := by
  refine call_of (n := 121) (fun _ => rfl) Try.func4 rfl rfl ?_
  refine w_seq ?_
  refine w_region ?_
  refine w_o rfl rfl rfl (op_box rfl fun b2 => ?_)
  refine w_o rfl rfl rfl (op_box rfl fun b3 => ?_)
  refine w_o rfl rfl rfl (op_assign rfl ?_)
  refine w_end ?_
  refine seq_normal ?_
  refine w_seq ?_
  refine w_seq ?_
  refine w_region ?_
  refine w_o rfl rfl rfl (op_loadA agg_24 siz_24 rfl rfl el_ ?_)
  refine w_o rfl rfl rfl (op_call rfl rfl rfl ?_)
  refine Light_w h subs_ ?_
  refine w_o rfl rfl rfl (op_not rfl ?_)
  refine w_o rfl rfl rfl (op_move rfl ?_)
  first | refine w_known (t := 14) rfl (fun g14 => ?_) (fun g14 => ?_) | refine w_knownB (t := 14) rfl (fun g14 => ?_) (fun g14 => ?_)
  · refine w_u rfl rfl rfl rfl rfl rfl ?_
    refine w_u rfl rfl rfl rfl rfl rfl ?_
    refine w_u rfl rfl rfl rfl rfl rfl ?_
    refine w_o rfl rfl rfl (op_pick rfl rfl rfl ?_)
    refine w_end ?_
    refine seq_normal ?_
    refine w_condT rfl ?_
    refine w_seq ?_
    refine w_region ?_
    refine w_o rfl rfl rfl (op_call rfl rfl rfl ?_)
    refine awake_w ?_
    refine w_o rfl rfl rfl (op_assign rfl ?_)
    refine w_end ?_
    refine seq_normal ?_
    refine w_ret ?_
    refine seq_ret ?_
    exact ret_ret rfl (.refl _) rfl
  · have hl : l.length ≤ 100 := by simp at g14; omega
    refine w_og rfl rfl rfl rfl rfl (op_loadA agg_24 siz_24 rfl rfl el_ ?_)
    refine w_og rfl rfl rfl rfl rfl (op_call rfl rfl rfl ?_)
    refine R17May_w h subs_ (by omega) ?_
    refine w_og rfl rfl rfl rfl rfl (op_not rfl ?_)
    refine w_o rfl rfl rfl (op_pick rfl rfl rfl ?_)
    refine w_end ?_
    refine seq_normal ?_
    first | refine w_cond rfl (fun hI1 => ?_) (fun hI1 => ?_) | refine w_condB rfl (fun hI1 => ?_) (fun hI1 => ?_)
    · refine w_seq ?_
      refine w_region ?_
      refine w_o rfl rfl rfl (op_call rfl rfl rfl ?_)
      refine awake_w ?_
      refine w_o rfl rfl rfl (op_assign rfl ?_)
      refine w_end ?_
      refine seq_normal ?_
      refine w_ret ?_
      refine seq_ret ?_
      exact ret_ret rfl (.refl _) rfl
    · have hr : rightL l a = true := by simpa using hI1
      have hf0 := right_f0 hr
      have hlp := lowP_in l.length qa qb
      have hm1 := seg_len l ((0 : Nat) : Int) (lowP l.length qa qb)
      have hm2 := seg_len l (highP l.length qa qb) ((l.length : Nat) : Int)
      have hm3 := seg_len l (lowP l.length qa qb) (highP l.length qa qb)
      have hcb := cut_back hlp
      have hfl : (seg l ((0 : Nat) : Int) (lowP l.length qa qb)).length = (lowP l.length qa qb).toNat := by rw [seg_lo, List.length_take]; omega
      refine w_skip ?_
      refine seq_normal ?_
      refine w_seq ?_
      refine w_drawV false (i := 6) (d := 5) (t := 24) ((b2, .row true 24 1 [c, .int .i64 a]) :: (b3, .row true 31 1 [.int .i64 qa, .int .i64 qb, .int .i64 qh]) :: H) sel_ (by decide +kernel) (by decide +kernel) zer_24 (by decide +kernel) (by decide +kernel) rfl (by decide +kernel) fun b5 => ?_
      refine f_b (guard_none rfl) rfl rfl rfl rfl (op_fieldAddr fa_24_0 rfl ?_)
      refine f_a (guard_none rfl) rfl rfl rfl (by decide +kernel) (op_loadF agg_22 rfl el_ rfl ?_)
      refine f_m (guard_none rfl) rfl rfl rfl (op_call rfl rfl rfl ?_)
      refine R04Join_w (l := l) (l' := []) (h.sub subs_) Sl.nil (by simp only [List.length_nil]; omega) fun c22 N22 h22 => ?_
      rw [List.append_nil] at h22
      refine ⟨sel_, ?_⟩
      refine f_b (guard_none rfl) rfl rfl rfl rfl (op_fieldAddr fa_24_1 rfl ?_)
      refine f_l (guard_none rfl) rfl rfl rfl sel_ (op_loadF agg_3 rfl el_ rfl rfl) ?_
      refine f_b (guard_none rfl) rfl rfl rfl rfl (op_build rfl ((bld_24 _).trans (rfl : _ = some [_, _])) ?_)
      refine f_b (guard_none rfl) rfl rfl rfl rfl (op_move rfl ?_)
      refine f_wn (guard_none rfl) rfl rfl rfl (op_store siz_24 rfl rfl rfl (by (repeat (first | exact Pick.head _ _ _ | apply Pick.tail | apply Pick.app)); first | done | fail) (Nat.le_of_ble_eq_true rfl) rfl ?_)
      refine f_end ?_
      refine seq_normal ?_
      refine w_seq ?_
      refine w_region ?_
      refine w_o rfl rfl rfl (op_loadA agg_24 siz_24 rfl rfl el_ ?_)
      refine w_o rfl rfl rfl (op_fieldAddr fa_31_0 rfl ?_)
      refine w_o rfl rfl rfl (op_loadF agg_3 rfl el_ rfl ?_)
      refine w_o rfl rfl rfl (op_fieldAddr fa_31_1 rfl ?_)
      refine w_o rfl rfl rfl (op_loadF agg_3 rfl el_ rfl ?_)
      refine w_o rfl rfl rfl (op_call rfl rfl rfl ?_)
      refine Cut_w h subs_ (by omega) fun c1 c2 N1 N2 at1 h1 h2 => ?_
      generalize hll : seg l ((0 : Nat) : Int) (lowP l.length qa qb) ++ seg l (highP l.length qa qb) ((l.length : Nat) : Int) = l1 at *
      have hl1 : l1.length ≤ 200 ∧ (lowP l.length qa qb).toNat ≤ l1.length := by rw [← hll, List.length_append]; omega
      refine w_o rfl rfl rfl (op_move rfl ?_)
      refine w_o rfl rfl rfl (op_extract rfl rfl ?_)
      refine w_o rfl rfl rfl (op_extract rfl rfl ?_)
      refine w_o rfl rfl rfl (op_alloc zer_24 fun b6 => ?_)
      refine w_on rfl rfl (op_store siz_24 rfl rfl rfl (by (repeat (first | exact Pick.head _ _ _ | apply Pick.tail | apply Pick.app)); first | done | fail) (Nat.le_of_ble_eq_true rfl) rfl ?_)
      refine w_o rfl rfl rfl (op_assign rfl ?_)
      refine w_end ?_
      refine seq_normal ?_
      refine w_seq ?_
      refine w_drawF ((b2, .row true 24 1 [c, .int .i64 a]) :: (b3, .row true 31 1 [.int .i64 qa, .int .i64 qb, .int .i64 qh]) :: H) sel_ (by decide +kernel) (by decide +kernel) ?_
      refine f_b (guard_none rfl) rfl rfl rfl rfl (op_fieldAddr fa_24_0 rfl ?_)
      refine f_a (guard_none rfl) rfl rfl rfl (by decide +kernel) (op_loadF agg_22 rfl el_ rfl ?_)
      refine f_b (guard_none rfl) rfl rfl rfl rfl (op_lenC und_22 rfl h.lenC ?_)
      refine f_b (guard_none rfl) rfl rfl rfl rfl (op_fieldAddr fa_31_0 rfl ?_)
      refine f_a (guard_none rfl) rfl rfl rfl (by decide +kernel) (op_loadF agg_3 rfl el_ rfl ?_)
      refine f_m (guard_none rfl) rfl rfl rfl (op_call rfl rfl rfl ?_)
      refine Place_w ?_
      refine ⟨sel_, ?_⟩
      refine f_b (guard_none rfl) rfl rfl rfl rfl (op_fieldAddr fa_24_0 rfl ?_)
      refine f_l (guard_none rfl) rfl rfl rfl sel_ (op_loadF agg_22 rfl el_ rfl rfl) ?_
      refine f_b (guard_none rfl) rfl rfl rfl rfl (op_lenC und_22 rfl h.lenC ?_)
      refine f_b (guard_none rfl) rfl rfl rfl rfl (op_fieldAddr fa_31_1 rfl ?_)
      refine f_l (guard_none rfl) rfl rfl rfl sel_ (op_loadF agg_3 rfl el_ rfl rfl) ?_
      refine f_m (guard_none rfl) rfl rfl rfl (op_call rfl rfl rfl ?_)
      refine Place_w ?_
      refine ⟨sel_, ?_⟩
      refine f_m (guard_none rfl) rfl rfl rfl (op_call rfl rfl rfl ?_)
      refine Low_w ?_
      rw [show min (min (max qa 0) ((l.length : Nat) : Int)) (min (max qb 0) ((l.length : Nat) : Int)) = lowP l.length qa qb from rfl]
      refine ⟨sel_, ?_⟩
      refine f_b (guard_none rfl) rfl rfl rfl rfl (op_fieldAddr fa_24_1 rfl ?_)
      refine f_wn (guard_none rfl) rfl rfl rfl (op_store siz_3 rfl rfl rfl (by (repeat (first | exact Pick.head _ _ _ | apply Pick.tail | apply Pick.app)); first | done | fail) (Nat.le_of_ble_eq_true rfl) rfl ?_)
      refine f_end ?_
      refine seq_normal ?_
      refine w_seq ?_
      refine w_region ?_
      refine w_o rfl rfl rfl (op_loadA agg_24 siz_24 rfl rfl el_ ?_)
      refine w_o rfl rfl rfl (op_move rfl ?_)
      refine w_o rfl rfl rfl (op_call rfl rfl rfl ?_)
      refine Insert_w (l := l1) (w := seg l (lowP l.length qa qb) (highP l.length qa qb)) (h1.slT (H := N1) (fun _ => rfl) (by decide) (fun _ q => q)) subs_ (h2.slT (H := N2) (fun _ => rfl) (by decide) (fun _ q => q)) subs_ (by omega) (by omega) (by omega) fun c51 N51 h51 => ?_
      rw [hcb] at h51
      refine w_o rfl rfl rfl (op_alloc zer_24 fun b8 => ?_)
      refine w_on rfl rfl (op_store siz_24 rfl rfl rfl (by (repeat (first | exact Pick.head _ _ _ | apply Pick.tail | apply Pick.app)); first | done | fail) (Nat.le_of_ble_eq_true rfl) rfl ?_)
      refine w_end ?_
      refine seq_normal ?_
      refine w_seq ?_
      refine w_region ?_
      refine w_o rfl rfl rfl (op_loadA agg_24 siz_24 rfl rfl el_ ?_)
      refine w_o rfl rfl rfl (op_fieldAddr fa_31_0 rfl ?_)
      refine w_o rfl rfl rfl (op_loadF agg_3 rfl el_ rfl ?_)
      refine w_o rfl rfl rfl (op_fieldAddr fa_31_2 rfl ?_)
      refine w_o rfl rfl rfl (op_loadF agg_3 rfl el_ rfl ?_)
      refine w_o rfl rfl rfl (op_call rfl rfl rfl ?_)
      refine Case_w h subs_ (by omega) (fun x hx => by have := hf0 x hx; omega) fun c57 N57 e57 r hO hal => ?_
      refine w_o rfl rfl rfl (op_alloc zer_24 fun b9 => ?_)
      refine w_on rfl rfl (op_store siz_24 rfl rfl rfl (by (repeat (first | exact Pick.head _ _ _ | apply Pick.tail | apply Pick.app)); first | done | fail) (Nat.le_of_ble_eq_true rfl) rfl ?_)
      refine w_end ?_
      refine seq_normal ?_
      refine w_seq ?_
      refine w_seq ?_
      refine w_region ?_
      refine w_o rfl rfl rfl (op_assign rfl ?_)
      refine w_end ?_
      refine seq_normal ?_
      refine w_block ?_
      refine w_loop (fun q e H' => ∃ (i : Nat), i ≤ l.length ∧ q = l.length - i ∧ (b9, .row true 24 1 [c57, .int .i64 e57]) :: (N57 ++ ((b8, .row true 24 1 [c51, .int .i64 (lowP l.length qa qb + ((seg l (lowP l.length qa qb) (highP l.length qa qb)).length : Nat))]) :: (N51 ++ ((b5, .row true 24 1 [c22, .int .i64 a]) :: (N22 ++ ((b2, .row true 24 1 [c, .int .i64 a]) :: H)))))) = H' ∧ e = [(2, ptrV b2 0), (5, ptrV b5 0), (8, ptrV b8 0), (9, ptrV b9 0), (10, vI (i : Nat))]) ?_ ?_
      · exact ⟨_, _, _, ⟨0, Nat.zero_le _, rfl, rfl, rfl⟩, env_, sel_⟩
      · rintro q e H' ⟨i, hi, rfl, rfl, rfl⟩
        have hR : Sl N57 39 2 c57 r.length (r.flatMap encS) := hO.slT (fun _ => rfl) (by decide) (fun _ q => q)
        have hrl := hal.1
        refine w_seq ?_
        refine w_seq ?_
        refine w_region ?_
        refine w_o rfl rfl rfl (op_move rfl ?_)
        refine w_o rfl rfl rfl (op_fieldAddr fa_24_0 rfl ?_)
        refine w_o rfl rfl rfl (op_loadF agg_22 rfl el_ rfl ?_)
        refine w_o rfl rfl rfl (op_lenC und_22 rfl h.lenC ?_)
        refine w_o rfl rfl rfl (op_lt rfl rfl ?_)
        refine w_end ?_
        refine seq_normal ?_
        first | refine w_cond rfl (fun hI2 => ?_) (fun hI2 => ?_) | refine w_condB rfl (fun hI2 => ?_) (fun hI2 => ?_)
        · obtain ⟨x, hx⟩ : ∃ x, l[i]? = some x := ⟨_, List.getElem?_eq_getElem (by omega)⟩
          obtain ⟨y, hy⟩ : ∃ y, r[i]? = some y := ⟨_, List.getElem?_eq_getElem (by omega)⟩
          have hxy := hal.2 i y x hy hx
          have hx0 := hf0 x (List.mem_of_getElem? hx)
          refine w_skip ?_
          refine seq_normal ?_
          refine w_seq ?_
          refine w_block ?_
          refine w_seq ?_
          refine w_drawF ((b9, .row true 24 1 [c57, .int .i64 e57]) :: (N57 ++ ((b8, .row true 24 1 [c51, .int .i64 (lowP l.length qa qb + ((seg l (lowP l.length qa qb) (highP l.length qa qb)).length : Nat))]) :: (N51 ++ ((b5, .row true 24 1 [c22, .int .i64 a]) :: (N22 ++ ((b2, .row true 24 1 [c, .int .i64 a]) :: H))))))) sel_ (by decide +kernel) (by decide +kernel) ?_
          refine f_b (guard_none rfl) rfl rfl rfl rfl (op_fieldAddr fa_24_0 rfl ?_)
          refine f_a (guard_none rfl) rfl rfl rfl (by decide +kernel) (op_loadF agg_22 rfl el_ rfl ?_)
          refine f_b (guard_none rfl) rfl rfl rfl rfl (op_lenC und_22 rfl hR.lenC ?_)
          refine f_b (guard_none rfl) rfl rfl rfl rfl (op_fieldAddr fa_24_0 rfl ?_)
          refine f_a (guard_none rfl) rfl rfl rfl (by decide +kernel) (op_loadF agg_22 rfl el_ rfl ?_)
          refine f_b (guard_none rfl) rfl rfl rfl rfl (op_lenC und_22 rfl h.lenC ?_)
          refine f_b (guard_none rfl) rfl rfl rfl rfl (op_ne rfl rfl ?_)
          refine f_b (guard_none rfl) rfl rfl rfl rfl (op_move rfl ?_)
          first | refine f_known (t := 72) rfl (fun g72 => ?_) (fun g72 => ?_) | refine f_knownB (t := 72) rfl (fun g72 => ?_) (fun g72 => ?_)
          · exact absurd g72 (by omega) --closed
          · refine f_b (guard_some rfl rfl rfl rfl) rfl rfl rfl rfl (op_fieldAddr fa_24_0 rfl ?_)
            refine f_a (guard_some rfl rfl rfl rfl) rfl rfl rfl (by decide +kernel) (op_loadF agg_22 rfl el_ rfl ?_)
            refine f_b (guard_some rfl rfl rfl rfl) rfl rfl rfl rfl (op_move rfl ?_)
            refine f_b (guard_some rfl rfl rfl rfl) rfl rfl rfl rfl (op_indexT (enc := encS) (xs := r) (j := i) und_22 siz_39 rfl rfl (hR.sub subs_) (fun _ => rfl) rfl (by omega) fun b76 o76 z76 h76 e76 => ?_)
            rw [hy] at h76
            cases h76
            refine f_b (guard_some rfl rfl rfl rfl) rfl rfl rfl rfl (op_fieldAddr fa_39_1 rfl ?_)
            refine f_a (guard_some rfl rfl rfl rfl) rfl rfl rfl (by decide +kernel) (op_loadF agg_3 rfl el_ rfl ?_)
            refine f_b (guard_some rfl rfl rfl rfl) rfl rfl rfl rfl (op_fieldAddr fa_24_0 rfl ?_)
            refine f_a (guard_some rfl rfl rfl rfl) rfl rfl rfl (by decide +kernel) (op_loadF agg_22 rfl el_ rfl ?_)
            refine f_b (guard_some rfl rfl rfl rfl) rfl rfl rfl rfl (op_move rfl ?_)
            refine f_b (guard_some rfl rfl rfl rfl) rfl rfl rfl rfl (op_indexT (enc := encS) (xs := l) (j := i) und_22 siz_39 rfl rfl (h.sub subs_) (fun _ => rfl) rfl (by omega) fun b82 o82 z82 h82 e82 => ?_)
            rw [hx] at h82
            cases h82
            refine f_b (guard_some rfl rfl rfl rfl) rfl rfl rfl rfl (op_fieldAddr fa_39_1 rfl ?_)
            refine f_a (guard_some rfl rfl rfl rfl) rfl rfl rfl (by decide +kernel) (op_loadF agg_3 rfl el_ rfl ?_)
            refine f_b (guard_some rfl rfl rfl rfl) rfl rfl rfl rfl (op_ne rfl rfl ?_)
            refine f_b (guard_none rfl) rfl rfl rfl rfl (op_pick rfl rfl rfl ?_)
            refine f_b (guard_none rfl) rfl rfl rfl rfl (op_move rfl ?_)
            first | refine f_known (t := 87) rfl (fun g87 => ?_) (fun g87 => ?_) | refine f_knownB (t := 87) rfl (fun g87 => ?_) (fun g87 => ?_)
            · exact absurd hxy.1 g87 --closed
            · refine f_b (guard_some rfl rfl rfl rfl) rfl rfl rfl rfl (op_fieldAddr fa_24_0 rfl ?_)
              refine f_a (guard_some rfl rfl rfl rfl) rfl rfl rfl (by decide +kernel) (op_loadF agg_22 rfl el_ rfl ?_)
              refine f_b (guard_some rfl rfl rfl rfl) rfl rfl rfl rfl (op_move rfl ?_)
              refine f_b (guard_some rfl rfl rfl rfl) rfl rfl rfl rfl (op_indexT (enc := encS) (xs := r) (j := i) und_22 siz_39 rfl rfl (hR.sub subs_) (fun _ => rfl) rfl (by omega) fun b91 o91 z91 h91 e91 => ?_)
              rw [hy] at h91
              cases h91
              refine f_b (guard_some rfl rfl rfl rfl) rfl rfl rfl rfl (op_fieldAddr fa_39_0 rfl ?_)
              refine f_a (guard_some rfl rfl rfl rfl) rfl rfl rfl (by decide +kernel) (op_loadF agg_3 rfl el_ rfl ?_)
              refine f_m (guard_some rfl rfl rfl rfl) rfl rfl rfl (op_call rfl rfl rfl ?_)
              refine Letter_w (up_in hxy.2 hx0) ?_
              refine ⟨sel_, ?_⟩
              refine f_b (guard_some rfl rfl rfl rfl) rfl rfl rfl rfl (op_fieldAddr fa_24_0 rfl ?_)
              refine f_l (guard_some rfl rfl rfl rfl) rfl rfl rfl sel_ (op_loadF agg_22 rfl el_ rfl rfl) ?_
              refine f_b (guard_some rfl rfl rfl rfl) rfl rfl rfl rfl (op_move rfl ?_)
              refine f_b (guard_some rfl rfl rfl rfl) rfl rfl rfl rfl (op_indexT (enc := encS) (xs := l) (j := i) und_22 siz_39 rfl rfl (h.sub subs_) (fun _ => rfl) rfl (by omega) fun b98 o98 z98 h98 e98 => ?_)
              rw [hx] at h98
              cases h98
              refine f_b (guard_some rfl rfl rfl rfl) rfl rfl rfl rfl (op_fieldAddr fa_39_0 rfl ?_)
              refine f_l (guard_some rfl rfl rfl rfl) rfl rfl rfl sel_ (op_loadF agg_3 rfl el_ rfl rfl) ?_
              refine f_m (guard_some rfl rfl rfl rfl) rfl rfl rfl (op_call rfl rfl rfl ?_)
              refine Letter_w (by omega) ?_
              refine ⟨sel_, ?_⟩
              refine f_b (guard_some rfl rfl rfl rfl) rfl rfl rfl rfl (op_ne rfl rfl ?_)
              refine f_b (guard_none rfl) rfl rfl rfl rfl (op_pick rfl rfl rfl ?_)
              refine f_end ?_
              refine seq_normal ?_
              refine w_condN rfl (fun q => q hxy.2) ?_
              refine w_skip ?_
              refine block_normal ?_
              refine seq_normal ?_
              refine w_region ?_
              refine w_o rfl rfl rfl (op_move rfl ?_)
              refine w_o rfl rfl rfl (op_addi rfl rfl (by omega) (by omega) ?_)
              refine w_o rfl rfl rfl (op_assign rfl ?_)
              refine w_end ?_
              exact loop_normal (k' := l.length - (i + 1)) (by omega) ⟨i + 1, by omega, rfl, rfl, rfl⟩ env_ sel_
        · refine w_exit ?_
          refine seq_exit ?_
          refine loop_exit ?_
          refine block_hit rfl ?_
          refine seq_normal ?_
          refine w_seq ?_
          refine w_region ?_
          refine w_o rfl rfl rfl (op_loadA agg_24 siz_24 rfl rfl el_ ?_)
          refine w_o rfl rfl rfl (op_call rfl rfl rfl ?_)
          refine Swap_w h subs_ (by omega) hr fun c105 N105 h105 => ?_
          refine w_end ?_
          refine seq_normal ?_
          refine w_seq ?_
          refine w_region ?_
          refine w_o rfl rfl rfl (op_loadA agg_24 siz_24 rfl rfl el_ ?_)
          refine w_o rfl rfl rfl (op_call rfl rfl rfl ?_)
          refine SwapWords_w h subs_ (by omega) hr fun c107 N107 h107 => ?_
          refine w_end ?_
          refine seq_normal ?_
          refine w_seq ?_
          refine w_region ?_
          refine w_o rfl rfl rfl (op_call rfl rfl rfl ?_)
          refine awake_w ?_
          refine w_o rfl rfl rfl (op_move rfl ?_)
          refine w_og rfl rfl rfl rfl rfl (op_fieldAddr fa_24_0 rfl ?_)
          refine w_og rfl rfl rfl rfl rfl (op_loadF agg_22 rfl el_ rfl ?_)
          refine w_og rfl rfl rfl rfl rfl (op_fieldAddr fa_24_0 rfl ?_)
          refine w_og rfl rfl rfl rfl rfl (op_loadF agg_22 rfl el_ rfl ?_)
          refine w_og rfl rfl rfl rfl rfl (op_call rfl rfl rfl ?_)
          refine R04Same_w (l := l) (l' := l) (h51.slT (fun _ => rfl) (by decide) subs_) (h.sub subs_) (by omega) ?_
          rw [decide_eq_true (rfl : l = l)]
          refine w_o rfl rfl rfl (op_pick rfl rfl rfl ?_)
          refine w_o rfl rfl rfl (op_move rfl ?_)
          refine w_og rfl rfl rfl rfl rfl (op_loadA agg_24 siz_24 rfl rfl el_ ?_)
          refine w_og rfl rfl rfl rfl rfl (op_loadA agg_24 siz_24 rfl rfl el_ ?_)
          refine w_og rfl rfl rfl rfl rfl (op_call rfl rfl rfl ?_)
          refine R16Same_w (l := l) (l' := l) h subs_ (h22.slT (H := N22) (fun _ => rfl) (by decide) (fun _ q => q)) subs_ (by omega) ?_
          rw [decide_eq_true (⟨rfl, rfl⟩ : a = a ∧ l = l)]
          refine w_o rfl rfl rfl (op_pick rfl rfl rfl ?_)
          refine w_o rfl rfl rfl (op_assign rfl ?_)
          refine w_end ?_
          refine seq_normal ?_
          refine w_ret ?_
          exact ret_ret rfl (.refl _) rfl
end Go.Proofs.Ytdhnjkagmbfoaaa.AM.B
