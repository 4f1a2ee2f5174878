/- What view.Text answers: the shown texts, one behind the other. -/
import Derived.Test.YtkmdofkajcehpaaAX
import Derived.Test.YtkmdofkajcehpaaBview
import Derived.Test.YtkmdofkajcehpaaButfenc
import Derived.Test.YtkmdofkajcehpaaQShowText
set_option linter.unusedVariables false
set_option linter.unusedSimpArgs false
set_option maxRecDepth 10000
set_option maxHeartbeats 4000000
namespace Go.Proofs.Ytkmdofkajcehpaa.AM.B
open Go Go.RowKit
/-- What a cell says. -/
def cellT (d : DC) : ByteArray := if d.f0 > 0 then bsOf (encL d.f0) else if d.f0 = 0 then ⟨#[32]⟩ else ⟨#[]⟩
def textC (l : List DC) : ByteArray := l.foldl (fun s d => s ++ cellT d) ⟨#[]⟩
theorem textC_take {l : List DC} {i : Nat} {d : DC} (h : l[i]? = some d) : textC (l.take (i + 1)) = textC (l.take i) ++ cellT d := by
  unfold textC; rw [List.take_add_one, h, List.foldl_append]; rfl
theorem encL_len (v : Int) : (encL v).length ≤ 4 := by
  unfold encL Lib.encodeRuneZ
  (repeat' split) <;> simp
theorem cellT_size (d : DC) : (cellT d).size ≤ 4 := by
  unfold cellT
  split
  · show (bsOf (encL d.f0)).data.toList.length ≤ 4
    rw [bsOf_list, List.length_map]; exact encL_len _
  · split <;> decide
theorem viewText_w {H : Hyp} {K : V → Hyp → Prop} {c : Cell} {l : List DC} (h : Sl H 100 5 c l.length (l.flatMap encD)) (hl : l.length ≤ 100000) (k : K (vS (textC l)) H) : CallW Try.prog Xs 41 [.one (.c c)] H K := by
  refine call_of (n := 30) (fun _ => rfl) Try.func41 rfl rfl ?_
  refine w_seq ?_
  refine w_region ?_
  refine w_o rfl rfl rfl (op_assign rfl ?_)
  refine w_end ?_
  refine seq_normal ?_
  refine w_seq ?_
  refine w_region ?_
  refine w_o rfl rfl rfl (op_assign rfl ?_)
  refine w_end ?_
  refine seq_normal ?_
  refine w_seq ?_
  refine w_seq ?_
  refine w_region ?_
  refine w_o rfl rfl rfl (op_move rfl ?_)
  refine w_o rfl rfl rfl (op_lenC und_24 rfl h.lenC ?_)
  refine w_o rfl rfl rfl (op_move rfl ?_)
  refine w_end ?_
  refine seq_normal ?_
  refine w_block ?_
  refine w_loop (fun m e H' => ∃ (i : Nat), i ≤ l.length ∧ m = l.length - i ∧ (textC (l.take i)).size ≤ 4 * i ∧ H = H' ∧ e = [(3, vS (textC (l.take i))), (6, .one (.c c)), (7, vI (l.length : Nat)), (8, vI (i : Nat))]) ?_ ?_
  · exact ⟨_, _, _, ⟨0, Nat.zero_le _, rfl, Nat.le_refl _, rfl, rfl⟩, env_, sel_⟩
  · rintro m e H' ⟨i, hi, rfl, hsz, rfl, rfl⟩
    refine w_seq ?_
    refine w_region ?_
    refine w_o rfl rfl rfl (op_lt rfl rfl ?_)
    refine w_end ?_
    refine seq_normal ?_
    refine w_seq ?_
    first | refine w_cond rfl (fun hI1 => ?_) (fun hI1 => ?_) | refine w_condB rfl (fun hI1 => ?_) (fun hI1 => ?_)
    · refine w_skip ?_
      refine seq_normal ?_
      refine w_seq ?_
      refine w_block ?_
      refine w_seq ?_
      refine w_region ?_
      refine w_o rfl rfl rfl (op_indexT (enc := encD) und_24 siz_100 rfl rfl h (fun _ => rfl) rfl (by omega) fun b10 o10 z10 h10 e10 => ?_)
      have ht := textC_take h10
      have hz := cellT_size z10
      have hsz2 : (textC (l.take (i + 1))).size ≤ 4 * (i + 1) := by rw [ht, ByteArray.size_append]; omega
      refine w_o rfl rfl rfl (op_loadA agg_100 siz_100 rfl rfl el_ ?_)
      refine w_o rfl rfl rfl (op_alloc zer_100 fun b5 => ?_)
      refine w_on rfl rfl (op_store siz_100 rfl rfl rfl (by (repeat (first | exact Pick.head _ _ _ | apply Pick.tail | apply Pick.app)); first | done | fail) (Nat.le_of_ble_eq_true rfl) rfl ?_)
      refine w_end ?_
      refine seq_normal ?_
      refine w_block ?_
      refine w_seq ?_
      refine w_region ?_
      refine w_o rfl rfl rfl (op_fieldAddr fa_100_0 rfl ?_)
      refine w_o rfl rfl rfl (op_loadF agg_3 rfl el_ rfl ?_)
      refine w_o rfl rfl rfl (op_gt rfl rfl ?_)
      refine w_o rfl rfl rfl (op_assign rfl ?_)
      refine w_end ?_
      refine seq_normal ?_
      first | refine w_cond rfl (fun hI2 => ?_) (fun hI2 => ?_) | refine w_condB rfl (fun hI2 => ?_) (fun hI2 => ?_)
      · have hc : cellT z10 = bsOf (encL z10.f0) := if_pos hI2
        rw [hc] at ht hz
        refine w_region ?_
        refine w_o rfl rfl rfl (op_move rfl ?_)
        refine w_o rfl rfl rfl (op_fieldAddr fa_100_0 rfl ?_)
        refine w_o rfl rfl rfl (op_loadF agg_3 rfl el_ rfl ?_)
        refine w_o rfl rfl rfl (op_buildSlice rfl (bsl_42 _ _ _ (rfl : _ = some [_]) rfl (by decide)) fun b19 => ?_)
        refine w_o rfl rfl rfl (op_call rfl rfl rfl ?_)
        refine Encode1_w (v := z10.f0) (Sl.of_row (List.Mem.head _) rfl) ?_
        refine w_o rfl rfl rfl (op_stradd rfl rfl (by omega) ?_)
        refine w_o rfl rfl rfl (op_assign rfl ?_)
        refine w_end ?_
        refine block_normal ?_
        refine block_normal ?_
        refine seq_normal ?_
        refine w_region ?_
        refine w_o rfl rfl rfl (op_addi rfl rfl (by omega) (by omega) ?_)
        refine w_o rfl rfl rfl (op_move rfl ?_)
        refine w_end ?_
        rw [ht] at hsz2
        exact loop_normal (k' := l.length - (i + 1)) (by omega) ⟨i + 1, by omega, rfl, by rw [ht]; exact hsz2, rfl, rfl⟩ (by rw [ht]; exact env_) sel_
      · refine w_seq ?_
        refine w_region ?_
        refine w_o rfl rfl rfl (op_fieldAddr fa_100_0 rfl ?_)
        refine w_o rfl rfl rfl (op_loadF agg_3 rfl el_ rfl ?_)
        refine w_o rfl rfl rfl (op_eq rfl rfl ?_)
        refine w_o rfl rfl rfl (op_assign rfl ?_)
        refine w_end ?_
        refine seq_normal ?_
        first | refine w_cond rfl (fun hI3 => ?_) (fun hI3 => ?_) | refine w_condB rfl (fun hI3 => ?_) (fun hI3 => ?_)
        · have hc : cellT z10 = ⟨#[32]⟩ := by unfold cellT; rw [if_neg hI2, if_pos hI3]
          rw [hc] at ht hz
          refine w_region ?_
          refine w_o rfl rfl rfl (op_move rfl ?_)
          refine w_o rfl rfl rfl (op_stradd rfl rfl (by omega) ?_)
          refine w_o rfl rfl rfl (op_assign rfl ?_)
          refine w_end ?_
          refine block_normal ?_
          refine block_normal ?_
          refine seq_normal ?_
          refine w_region ?_
          refine w_o rfl rfl rfl (op_addi rfl rfl (by omega) (by omega) ?_)
          refine w_o rfl rfl rfl (op_move rfl ?_)
          refine w_end ?_
          rw [ht] at hsz2
          exact loop_normal (k' := l.length - (i + 1)) (by omega) ⟨i + 1, by omega, rfl, by rw [ht]; exact hsz2, rfl, rfl⟩ (by rw [ht]; exact env_) sel_
        · have hc : cellT z10 = ⟨#[]⟩ := by unfold cellT; rw [if_neg hI2, if_neg hI3]
          rw [hc, show (textC (l.take i)) ++ (⟨#[]⟩ : ByteArray) = textC (l.take i) from ByteArray.append_empty] at ht
          refine w_skip ?_
          refine block_normal ?_
          refine block_normal ?_
          refine seq_normal ?_
          refine w_region ?_
          refine w_o rfl rfl rfl (op_addi rfl rfl (by omega) (by omega) ?_)
          refine w_o rfl rfl rfl (op_move rfl ?_)
          refine w_end ?_
          rw [ht] at hsz2
          exact loop_normal (k' := l.length - (i + 1)) (by omega) ⟨i + 1, by omega, rfl, by rw [ht]; exact hsz2, rfl, rfl⟩ (by rw [ht]; exact env_) sel_
    · refine w_exit ?_
      refine seq_exit ?_
      refine loop_exit ?_
      refine block_hit rfl ?_
      refine seq_normal ?_
      refine w_seq ?_
      refine w_region ?_
      refine w_o rfl rfl rfl (op_move rfl ?_)
      refine w_o rfl rfl rfl (op_assign rfl ?_)
      refine w_end ?_
      refine seq_normal ?_
      refine w_ret ?_
      have hi' : i = l.length := by omega
      subst hi'
      rw [List.take_length]
      exact ret_ret rfl sel_ k
/-! ### The texts, as lists -/
def cellL (d : DC) : List UInt8 := (cellT d).data.toList
theorem fold_list {α : Type} (f : α → ByteArray) : ∀ (l : List α) (s : ByteArray), (l.foldl (fun s x => s ++ f x) s).data.toList = s.data.toList ++ l.flatMap fun x => (f x).data.toList
  | [], s => by simp
  | x :: l, s => by rw [List.foldl_cons, fold_list f l, ByteArray.data_append, Array.toList_append, List.flatMap_cons, List.append_assoc]
theorem same_text {a b : ByteArray} (h : a.data.toList = b.data.toList) : a = b := by
  cases a; cases b; exact congrArg ByteArray.mk (Array.toList_inj.1 h)
theorem right_cls3 {x : Sign} (h : rightS x = true) : clsV x.f0 ≠ 0 := by
  have hw := Go.Proofs.Ytkmdofkajcehpaa.P.class_where x.f0
  simp only [rightS, rightV, pointV, Bool.and_eq_true, Bool.or_eq_true, decide_eq_true_eq] at h
  show Go.Proofs.Ytkmdofkajcehpaa.P.class_Of.v x.f0 ≠ 0
  omega
/-- A byte below 128 stands for itself. -/
theorem cellL_byte {d : DC} {b : UInt8} (h : d.f0 = (b.toNat : Int)) (h0 : 0 < b.toNat) (h1 : b.toNat < 128) : cellL d = [b] := by
  unfold cellL cellT
  rw [if_pos (by omega), h, bsOf_list]
  have hp : pointV (b.toNat : Int) = true := by simp only [pointV, decide_eq_true_eq]; omega
  unfold encL
  rw [if_pos hp, Lib.encodeRuneZ_one (by omega) (by omega)]
  simp
theorem danger_bytes (v : Int) (h : 3 < clsV v) : ∀ b ∈ (txtV v).data.toList, 0 < b.toNat ∧ b.toNat < 128 := by
  have hw := Go.Proofs.Ytkmdofkajcehpaa.P.class_where v
  show ∀ b ∈ (Go.Proofs.Ytkmdofkajcehpaa.P.showT v (Go.Proofs.Ytkmdofkajcehpaa.P.class_Of.v v)).data.toList, _
  have h' : 3 < Go.Proofs.Ytkmdofkajcehpaa.P.class_Of.v v := h
  clear h
  generalize Go.Proofs.Ytkmdofkajcehpaa.P.class_Of.v v = c at *
  rcases hw with ⟨rfl, _⟩ | ⟨hr, ⟨rfl, hv⟩ | ⟨hv, hc1, hc3⟩ | ⟨rfl, h0, h31⟩ | ⟨rfl, rfl⟩ | ⟨hv, h6, h11⟩⟩
  · omega
  · rw [Go.Proofs.Ytkmdofkajcehpaa.P.list12]
    intro x hx
    simp only [List.mem_cons] at hx
    rcases hx with rfl | rfl | hx
    · decide
    · decide
    · have := Go.Proofs.Ytkmdofkajcehpaa.P.hex_bytes (v - 1114112) 2 (by omega) (by omega) x hx; omega
  · omega
  · rw [Go.Proofs.Ytkmdofkajcehpaa.P.list4 v h0 h31]
    intro x hx
    simp only [List.mem_cons, List.not_mem_nil, or_false] at hx
    rcases hx with rfl | rfl
    · decide
    · rw [Go.Proofs.Ytkmdofkajcehpaa.P.u8_num _ (by omega)]; omega
  · rw [Go.Proofs.Ytkmdofkajcehpaa.P.list5]
    intro x hx
    simp only [List.mem_cons, List.not_mem_nil, or_false] at hx
    rcases hx with rfl | rfl <;> decide
  · rw [Go.Proofs.Ytkmdofkajcehpaa.P.listU v c h6 h11]
    intro x hx
    simp only [List.mem_cons, List.mem_append, List.not_mem_nil, or_false] at hx
    rcases hx with rfl | rfl | rfl | hx | rfl
    · decide
    · decide
    · decide
    · have := Go.Proofs.Ytkmdofkajcehpaa.P.hex_bytes v 4 (by omega) (by omega) x hx; omega
    · decide
theorem bytesC_text (x : Sign) (own : Int) (t : ByteArray) (ht : ∀ b ∈ t.data.toList, 0 < b.toNat ∧ b.toNat < 128) : ∀ n, n ≤ t.size → (bytesC x own t n).flatMap cellL = t.data.toList.take n
  | 0, _ => by simp [bytesC]
  | n + 1, hn => by
    have hn' : n < t.data.toList.length := hn
    rw [bytesC_succ, List.flatMap_append, bytesC_text x own t ht n (by omega), List.take_add_one, List.getElem?_eq_getElem hn']
    have hb := ht _ (List.getElem_mem hn')
    have e : (cellAt x own (byteAt t n) n).f0 = ((t.data.toList[n]).toNat : Int) := by
      show byteAt t n = _
      unfold byteAt
      rw [show ((n : Nat) : Int).toNat = n by omega, List.getElem?_eq_getElem hn']; rfl
    simp only [List.flatMap_cons, List.flatMap_nil, List.append_nil, Option.toList_some]
    rw [cellL_byte e hb.1 hb.2]
theorem cellsV_text {x : Sign} (own : Int) (h : rightS x = true) : (cellsV x own).flatMap cellL = (txtV x.f0).data.toList := by
  have h0 := right_cls3 h
  have h1 := clsV_ge x.f0
  by_cases h4 : 3 < clsV x.f0
  · rw [cellsV_4 h4, bytesC_text x own _ (danger_bytes _ h4) _ (Nat.le_refl _)]
    exact List.take_length
  · have hw := Go.Proofs.Ytkmdofkajcehpaa.P.class_where x.f0
    have hlow := Go.Proofs.Ytkmdofkajcehpaa.P.low_where x.f0
    have hP := Go.Proofs.Ytkmdofkajcehpaa.P.listP x.f0 (Go.Proofs.Ytkmdofkajcehpaa.P.class_Of.v x.f0)
    have hc1 : 1 ≤ Go.Proofs.Ytkmdofkajcehpaa.P.class_Of.v x.f0 := by show 1 ≤ clsV x.f0; omega
    have hc3 : Go.Proofs.Ytkmdofkajcehpaa.P.class_Of.v x.f0 ≤ 3 := by show clsV x.f0 ≤ 3; omega
    have hv : 0 ≤ x.f0 ∧ x.f0 ≤ 1114111 ∧ (x.f0 < 55296 ∨ 57343 < x.f0) := by omega
    have h32 := hlow hc1 hc3 hv.1
    have hT : txtV x.f0 = bsOf (Lib.encodeRuneZ x.f0) := by
      refine same_text ?_
      show (Go.Proofs.Ytkmdofkajcehpaa.P.showT x.f0 (Go.Proofs.Ytkmdofkajcehpaa.P.class_Of.v x.f0)).data.toList = _
      rw [hP hc1 hc3 hv.2.1, Go.strOfNums_data, bsOf_list]
    have hp : pointV x.f0 = true := by simp only [pointV, decide_eq_true_eq]; omega
    have hcell : ∀ k, cellL (cellAt x own x.f0 k) = (txtV x.f0).data.toList := by
      intro k
      unfold cellL cellT
      rw [if_pos (show (cellAt x own x.f0 k).f0 > 0 by show x.f0 > 0; omega), hT]
      show (bsOf (encL x.f0)).data.toList = _
      unfold encL; rw [if_pos hp]
    have : (clsV x.f0 = 1 ∨ clsV x.f0 = 3) ∨ clsV x.f0 = 2 := by omega
    rcases this with h | h
    · rw [cellsV_1 h]; simp only [List.flatMap_cons, List.flatMap_nil, List.append_nil]; exact hcell 0
    · rw [cellsV_2 h]
      have e2 : cellL (cellAt x own (-1) 1) = [] := by
        unfold cellL cellT
        rw [if_neg (show ¬ (cellAt x own (-1) 1).f0 > 0 by show ¬ (-1 : Int) > 0; omega), if_neg (show ¬ (cellAt x own (-1) 1).f0 = 0 by show ¬ (-1 : Int) = 0; omega)]
      simp only [List.flatMap_cons, List.flatMap_nil, List.append_nil, e2, hcell]
theorem promptC_text : ∀ {l : List Sign}, l.all rightS = true → (promptC l).flatMap cellL = l.flatMap fun x => (txtV x.f0).data.toList
  | [], _ => rfl
  | s :: l, h => by
    simp only [List.all_cons, Bool.and_eq_true] at h
    have := promptC_text h.2
    unfold promptC at this ⊢
    rw [List.flatMap_cons, List.flatMap_append, List.flatMap_cons, this, cellsV_text _ h.1]
theorem lineC_text : ∀ {i : Int} {l : List Sign}, l.all rightS = true → (lineC i l).flatMap cellL = l.flatMap fun x => (txtV x.f0).data.toList
  | _, [], _ => rfl
  | i, s :: l, h => by
    simp only [List.all_cons, Bool.and_eq_true] at h
    rw [lineC, List.flatMap_append, List.flatMap_cons, lineC_text h.2, cellsV_text _ h.1]
def textS (l : List Sign) : ByteArray := l.foldl (fun s x => s ++ txtV x.f0) ⟨#[]⟩
theorem textS_take {l : List Sign} {i : Nat} {d : Sign} (h : l[i]? = some d) : textS (l.take (i + 1)) = textS (l.take i) ++ txtV d.f0 := by
  unfold textS; rw [List.take_add_one, h, List.foldl_append]; rfl
theorem view_text {p l : List Sign} (hp : p.all rightS = true) (hl : l.all rightS = true) : textC (viewC p l) = textS (p ++ l) := by
  refine same_text ?_
  unfold textC textS viewC
  rw [fold_list, fold_list, List.flatMap_append, List.flatMap_append]
  show _ ++ ((promptC p).flatMap cellL ++ (lineC 0 l).flatMap cellL) = _
  rw [promptC_text hp, lineC_text hl]
theorem Join_w {H : Hyp} {K : V → Hyp → Prop} {c c' : Cell} {l l' : List Sign} (h : Sl H 23 2 c l.length (l.flatMap encS)) (h' : Sl H 23 2 c' l'.length (l'.flatMap encS)) (hl : l.length + l'.length ≤ 1000000)
    (k : ∀ c' N, Own 23 2 c' ((l ++ l').flatMap encS) N → K (.one (.c c')) (N ++ H)) : CallW Try.prog Xs 39 [.one (.c c), .one (.c c')] H K := by
  refine call_of (n := 10) (fun _ => rfl) Try.func39 rfl rfl ?_
  refine w_seq ?_
  refine w_region ?_
  refine w_o rfl rfl rfl (op_assign rfl ?_)
  refine w_end ?_
  refine seq_normal ?_
  refine w_seq ?_
  refine w_region ?_
  refine w_o rfl rfl rfl (op_buildSlice rfl (bsl_36 _ _ _ (rfl : _ = some []) rfl (by decide)) fun b5 => ?_)
  refine w_o rfl rfl rfl (op_move rfl ?_)
  refine w_o rfl rfl rfl (op_appendT (xs := []) (enc := encS) elm_36 inf_23 zer_23 (by decide) und_36 rfl rfl (.row _ 0 [] rfl) (fun _ => rfl) (PickL.front [_] _) (Sl.cons h) (by simp only [List.length_nil]; omega) fun c7 N7 h7 => ?_)
  refine w_o rfl rfl rfl (op_move rfl ?_)
  refine w_o rfl rfl rfl (op_appendT (xs := [] ++ l) (enc := encS) elm_36 inf_23 zer_23 (by decide) und_36 rfl rfl h7 (fun _ => rfl) (PickL.front _ _) (Sl.app h') (by simp only [List.nil_append]; omega) fun c9 N9 h9 => ?_)
  refine w_o rfl rfl rfl (op_assign rfl ?_)
  refine w_end ?_
  refine seq_normal ?_
  refine w_ret ?_
  exact ret_ret rfl (.refl _) (k _ _ h9)
end Go.Proofs.Ytkmdofkajcehpaa.AM.B
