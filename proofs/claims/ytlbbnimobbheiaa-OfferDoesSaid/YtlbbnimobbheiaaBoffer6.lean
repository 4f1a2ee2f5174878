/- With how many signs all begin: the document's answer; and its line. -/
import Derived.Test.YtlbbnimobbheiaaAX
import Derived.Test.YtlbbnimobbheiaaBoffer5
set_option linter.unusedVariables false
set_option linter.unusedSimpArgs false
set_option maxRecDepth 10000
set_option maxHeartbeats 4000000
namespace Go.Proofs.Ytlbbnimobbheiaa.AM.B
open Go Go.RowKit
theorem comN_ge {l l' : List Sign} {n : Nat} (h1 : n ≤ l.length) (h2 : n ≤ l'.length) (hp : ∀ j, j < n → l[j]? = l'[j]?) : n ≤ comN l l' := by
  rcases Nat.lt_or_ge (comN l l') n with h | h
  · exfalso
    have hc := comN_le l l'
    induction l generalizing l' n with
    | nil => simp at h1; omega
    | cons x xs ih =>
      cases l' with
      | nil => simp at h2; omega
      | cons y ys =>
        cases n with
        | zero => omega
        | succ n =>
          have h0 := hp 0 (by omega)
          simp at h0
          unfold comN at h
          rw [if_pos h0] at h
          exact ih (l' := ys) (n := n) (by simpa using h1) (by simpa using h2) (fun j hj => by simpa using hp (j + 1) (by omega)) (by omega) (comN_le xs ys)
  · exact h
theorem stemF_pre {L : List (List Sign)} : ∀ i, i ≤ L.length → ∀ j, j < (stemF L i).length → (stemF L i)[j]? = (L.headD [])[j]?
  | 0, _, j, _ => by unfold stemF; simp
  | i + 1, h, j, hj => by
    have hx : L[i]? = some L[i] := List.getElem?_eq_getElem (by omega)
    rw [stemF_succ hx] at hj ⊢
    rw [List.length_take] at hj
    rw [List.getElem?_take, if_pos (by omega)]
    exact stemF_pre i (by omega) j (by omega)
theorem stem_ge {L : List (List Sign)} {n : Nat} (h0 : n ≤ (L.headD []).length) (hn : ∀ x ∈ L, n ≤ x.length ∧ ∀ j, j < n → x[j]? = (L.headD [])[j]?) : ∀ i, i ≤ L.length → n ≤ (stemF L i).length
  | 0, _ => by unfold stemF; simpa using h0
  | i + 1, h => by
    have hx : L[i]? = some L[i] := List.getElem?_eq_getElem (by omega)
    have ih := stem_ge h0 hn i (by omega)
    obtain ⟨q1, q2⟩ := hn _ (List.mem_of_getElem? hx)
    rw [stemF_succ hx, List.length_take]
    have := comN_ge (l := stemF L i) (l' := L[i]) ih q1 (fun j hj => by rw [stemF_pre i (by omega) j (by omega), q2 j hj])
    omega
theorem stem_mono {L : List (List Sign)} (i : Nat) : ∀ k, i + k ≤ L.length → (stemF L (i + k)).length ≤ (stemF L i).length
  | 0, _ => Nat.le_refl _
  | k + 1, h => by
    have hx : L[i + k]? = some L[i + k] := List.getElem?_eq_getElem (by omega)
    rw [show i + (k + 1) = i + k + 1 by omega, stemF_succ hx, List.length_take]
    have := stem_mono (L := L) i k (by omega)
    omega
theorem stem_le {L : List (List Sign)} {n i : Nat} {x : List Sign} (hx : L[i]? = some x) (hd : ¬ x[n]? = (L.headD [])[n]?) : (stemF L L.length).length ≤ n := by
  have hi := (List.getElem?_eq_some_iff.1 hx).1
  have h1 : (stemF L (i + 1)).length ≤ n := by
    rw [stemF_succ hx, List.length_take]
    rcases Nat.lt_or_ge n (min (comN (stemF L i) x) (stemF L i).length) with h | h
    · exfalso
      have := (comN_le (stemF L i) x).2.2 n (by omega)
      rw [stemF_pre i (by omega) n (by omega)] at this
      exact hd this.symm
    · exact h
  have h2 := stem_mono (L := L) (i + 1) (L.length - (i + 1)) (by omega)
  rw [show i + 1 + (L.length - (i + 1)) = L.length by omega] at h2
  omega
theorem R26Stem_w {H : Hyp} {K : V → Hyp → Prop} {c : Cell} {L : List (List Sign)} (hL : KVo H L c) (hLl : 1 ≤ L.length ∧ L.length ≤ 1000) (hLe : ∀ x ∈ L, x.length ≤ 10000) (k : K (vI ((stemF L L.length).length : Nat)) H) : CallW Try.prog Xs 37 [.one (.c c)] H K := by
  obtain ⟨cs, g1, g2, g3⟩ := hL
  obtain ⟨x0, hx0⟩ : ∃ x, L[0]? = some x := ⟨_, List.getElem?_eq_getElem (by omega)⟩
  have hd0 : L.headD [] = x0 := by
    cases L with
    | nil => simp at hx0
    | cons y ys => simpa using hx0
  have hx0l := hLe x0 (List.mem_of_getElem? hx0)
  refine call_of (n := 44) (fun _ => rfl) Try.func37 rfl rfl ?_
  refine w_seq ?_
  refine w_region ?_
  refine w_o rfl rfl rfl (op_assign rfl ?_)
  refine w_end ?_
  refine seq_normal ?_
  refine w_seq ?_
  refine w_region ?_
  refine w_o rfl rfl rfl (op_assign rfl ?_)
  refine w_end ?_
  refine seq_normal ?_
  refine w_seq ?_
  refine w_block ?_
  refine w_loop (fun m e H' => ∃ (n : Nat), n ≤ x0.length ∧ m = x0.length - n ∧ (∀ x ∈ L, n ≤ x.length ∧ ∀ j, j < n → x[j]? = (L.headD [])[j]?) ∧ H = H' ∧ e = [(0, .one (.c c)), (3, vI (n : Nat))]) ?_ ?_
  · exact ⟨_, _, _, ⟨0, Nat.zero_le _, rfl, fun x _ => ⟨Nat.zero_le _, fun j hj => absurd hj (Nat.not_lt_zero _)⟩, rfl, rfl⟩, env_, sel_⟩
  · rintro m e H' ⟨n, hn, rfl, hP, rfl, rfl⟩
    have hge := stem_ge (L := L) (n := n) (by rw [hd0]; exact hn) hP L.length (Nat.le_refl _)
    refine w_seq ?_
    refine w_seq ?_
    refine w_region ?_
    refine w_o rfl rfl rfl (op_move rfl ?_)
    refine w_o rfl rfl rfl (op_move rfl ?_)
    refine w_o rfl rfl rfl (op_indexT (enc := encC) (xs := cs) (j := 0) und_25 siz_22 rfl rfl g1 (fun _ => rfl) rfl (by omega) fun b7 o7 z7 h7 e7 => ?_)
    refine w_o rfl rfl rfl (op_load1 agg_22 rfl el_ ?_)
    refine w_o rfl rfl rfl (op_lenC und_22 rfl (g3 0 z7 x0 h7 hx0).lenC ?_)
    refine w_o rfl rfl rfl (op_lt rfl rfl ?_)
    refine w_end ?_
    refine seq_normal ?_
    first | refine w_cond rfl (fun hI1 => ?_) (fun hI1 => ?_) | refine w_condB rfl (fun hI1 => ?_) (fun hI1 => ?_)
    · refine w_skip ?_
      refine seq_normal ?_
      refine w_block ?_
      refine w_seq ?_
      refine w_seq ?_
      refine w_region ?_
      refine w_o rfl rfl rfl (op_assign rfl ?_)
      refine w_end ?_
      refine seq_normal ?_
      refine w_block ?_
      refine w_loop (fun m e H' => ∃ (i : Nat), i ≤ L.length ∧ m = L.length - i ∧ (∀ (k : Nat) (x : List Sign), k < i → L[k]? = some x → n + 1 ≤ x.length ∧ x[n]? = x0[n]?) ∧ H = H' ∧ e = [(0, .one (.c c)), (3, vI (n : Nat)), (4, vI (i : Nat))]) ?_ ?_
      · exact ⟨_, _, _, ⟨0, Nat.zero_le _, rfl, fun k x hk => absurd hk (Nat.not_lt_zero _), rfl, rfl⟩, env_, sel_⟩
      · rintro m e H' ⟨i, hi, rfl, hQ, rfl, rfl⟩
        refine w_seq ?_
        refine w_seq ?_
        refine w_region ?_
        refine w_o rfl rfl rfl (op_move rfl ?_)
        refine w_o rfl rfl rfl (op_move rfl ?_)
        refine w_o rfl rfl rfl (op_lenC und_25 rfl g1.lenC ?_)
        refine w_o rfl rfl rfl (op_lt rfl rfl ?_)
        refine w_end ?_
        refine seq_normal ?_
        first | refine w_cond rfl (fun hI2 => ?_) (fun hI2 => ?_) | refine w_condB rfl (fun hI2 => ?_) (fun hI2 => ?_)
        · obtain ⟨x, hx⟩ : ∃ x, L[i]? = some x := ⟨_, List.getElem?_eq_getElem (by omega)⟩
          have hxl := hLe x (List.mem_of_getElem? hx)
          refine w_skip ?_
          refine seq_normal ?_
          refine w_seq ?_
          refine w_block ?_
          refine w_seq ?_
          refine w_draw (by decide +kernel) (by decide +kernel) ?_
          refine w_d rfl rfl rfl (op_move rfl ?_)
          refine w_d rfl rfl rfl (op_move rfl ?_)
          refine w_d rfl rfl rfl (op_move rfl ?_)
          refine w_d rfl rfl rfl (op_indexT (enc := encC) (xs := cs) (j := i) und_25 siz_22 rfl rfl g1 (fun _ => rfl) rfl (by omega) fun b20 o20 z20 h20 e20 => ?_)
          refine w_d rfl rfl rfl (op_load1 agg_22 rfl el_ ?_)
          refine w_d rfl rfl rfl (op_lenC und_22 rfl (g3 i z20 x h20 hx).lenC ?_)
          refine w_d rfl rfl rfl (op_ge rfl rfl ?_)
          refine w_d rfl rfl rfl (op_move rfl ?_)
          first | refine w_known (t := 24) rfl (fun g24 => ?_) (fun g24 => ?_) | refine w_knownB (t := 24) rfl (fun g24 => ?_) (fun g24 => ?_)
          · have hv9 : (stemF L L.length).length = n := Nat.le_antisymm (stem_le hx (by rw [hd0, List.getElem?_eq_none (by omega), List.getElem?_eq_getElem (by omega)]; exact fun q => by cases q)) hge
            refine w_u rfl rfl rfl rfl rfl rfl ?_
            refine w_u rfl rfl rfl rfl rfl rfl ?_
            refine w_u rfl rfl rfl rfl rfl rfl ?_
            refine w_u rfl rfl rfl rfl rfl rfl ?_
            refine w_u rfl rfl rfl rfl rfl rfl ?_
            refine w_u rfl rfl rfl rfl rfl rfl ?_
            refine w_u rfl rfl rfl rfl rfl rfl ?_
            refine w_u rfl rfl rfl rfl rfl rfl ?_
            refine w_u rfl rfl rfl rfl rfl rfl ?_
            refine w_u rfl rfl rfl rfl rfl rfl ?_
            refine w_u rfl rfl rfl rfl rfl rfl ?_
            refine w_u rfl rfl rfl rfl rfl rfl ?_
            refine w_u rfl rfl rfl rfl rfl rfl ?_
            refine w_u rfl rfl rfl rfl rfl rfl ?_
            refine w_d rfl rfl rfl (op_pick rfl rfl rfl ?_)
            refine w_end ?_
            refine seq_normal ?_
            refine w_condT rfl ?_
            refine w_seq ?_
            refine w_region ?_
            refine w_o rfl rfl rfl (op_move rfl ?_)
            refine w_o rfl rfl rfl (op_assign rfl ?_)
            refine w_end ?_
            refine seq_normal ?_
            refine w_ret ?_
            refine block_ret ?_
            refine seq_ret ?_
            refine loop_ret ?_
            refine block_ret ?_
            refine seq_ret ?_
            refine block_ret ?_
            refine loop_ret ?_
            refine block_ret ?_
            refine seq_ret ?_
            rw [hv9] at k
            exact ret_ret rfl sel_ k
          · refine w_dg rfl rfl rfl rfl rfl (op_move rfl ?_)
            refine w_dg rfl rfl rfl rfl rfl (op_move rfl ?_)
            refine w_dg rfl rfl rfl rfl rfl (op_indexT (enc := encC) (xs := cs) (j := i) und_25 siz_22 rfl rfl g1 (fun _ => rfl) rfl (by omega) fun b27 o27 z27 h27 e27 => ?_)
            refine w_dg rfl rfl rfl rfl rfl (op_load1 agg_22 rfl el_ ?_)
            refine w_dg rfl rfl rfl rfl rfl (op_move rfl ?_)
            refine w_dg rfl rfl rfl rfl rfl (op_indexT (enc := encS) (xs := x) (j := n) und_22 siz_47 rfl rfl (g3 i z27 x h27 hx) (fun _ => rfl) rfl (by omega) fun b30 o30 z30 h30 e30 => ?_)
            refine w_dg rfl rfl rfl rfl rfl (op_loadA agg_47 siz_47 rfl rfl el_ ?_)
            refine w_dg rfl rfl rfl rfl rfl (op_move rfl ?_)
            refine w_dg rfl rfl rfl rfl rfl (op_indexT (enc := encC) (xs := cs) (j := 0) und_25 siz_22 rfl rfl g1 (fun _ => rfl) rfl (by omega) fun b33 o33 z33 h33 e33 => ?_)
            refine w_dg rfl rfl rfl rfl rfl (op_load1 agg_22 rfl el_ ?_)
            refine w_dg rfl rfl rfl rfl rfl (op_move rfl ?_)
            refine w_dg rfl rfl rfl rfl rfl (op_indexT (enc := encS) (xs := x0) (j := n) und_22 siz_47 rfl rfl (g3 0 z33 x0 h33 hx0) (fun _ => rfl) rfl (by omega) fun b36 o36 z36 h36 e36 => ?_)
            refine w_dg rfl rfl rfl rfl rfl (op_loadA agg_47 siz_47 rfl rfl el_ ?_)
            refine w_dg rfl rfl rfl rfl rfl (op_nes_47 rfl rfl ?_)
            refine w_d rfl rfl rfl (op_pick rfl rfl rfl ?_)
            refine w_end ?_
            refine seq_normal ?_
            first | refine w_cond rfl (fun hI3 => ?_) (fun hI3 => ?_) | refine w_condB rfl (fun hI3 => ?_) (fun hI3 => ?_)
            · have hv9 : (stemF L L.length).length = n := Nat.le_antisymm (stem_le hx (by
                rw [hd0, h30, h36]
                intro q
                cases q
                simp at hI3)) hge
              refine w_seq ?_
              refine w_region ?_
              refine w_o rfl rfl rfl (op_move rfl ?_)
              refine w_o rfl rfl rfl (op_assign rfl ?_)
              refine w_end ?_
              refine seq_normal ?_
              refine w_ret ?_
              refine block_ret ?_
              refine seq_ret ?_
              refine loop_ret ?_
              refine block_ret ?_
              refine seq_ret ?_
              refine block_ret ?_
              refine loop_ret ?_
              refine block_ret ?_
              refine seq_ret ?_
              rw [hv9] at k
              exact ret_ret rfl sel_ k
            · refine w_skip ?_
              refine block_normal ?_
              refine seq_normal ?_
              refine w_region ?_
              refine w_o rfl rfl rfl (op_move rfl ?_)
              refine w_o rfl rfl rfl (op_addi rfl rfl (by omega) (by omega) ?_)
              refine w_o rfl rfl rfl (op_assign rfl ?_)
              refine w_end ?_
              refine loop_normal (k' := L.length - (i + 1)) (by omega) ⟨i + 1, by omega, rfl, ?_, rfl, rfl⟩ env_ sel_
              intro k' x' hk hx'
              by_cases e : k' = i
              · subst e
                rw [hx] at hx'; cases hx'
                refine ⟨by omega, ?_⟩
                have : z30 = z36 := by
                  simp only [Bool.not_eq_false', Bool.and_eq_true, beq_iff_eq] at hI3
                  cases z30; cases z36; simp at hI3; simp [hI3.1, hI3.2]
                rw [h30, h36, this]
              · exact hQ k' x' (by omega) hx'
        · refine w_exit ?_
          refine seq_exit ?_
          refine loop_exit ?_
          refine block_hit rfl ?_
          refine seq_normal ?_
          refine w_region ?_
          refine w_o rfl rfl rfl (op_move rfl ?_)
          refine w_o rfl rfl rfl (op_addi rfl rfl (by omega) (by omega) ?_)
          refine w_o rfl rfl rfl (op_assign rfl ?_)
          refine w_end ?_
          refine block_normal ?_
          refine loop_normal (k' := x0.length - (n + 1)) (by omega) ⟨n + 1, by omega, rfl, ?_, rfl, rfl⟩ env_ sel_
          intro x hx
          obtain ⟨i', hi'⟩ := List.getElem?_of_mem hx
          have hq := hQ i' x (by have := (List.getElem?_eq_some_iff.1 hi').1; omega) hi'
          refine ⟨hq.1, fun j hj => ?_⟩
          by_cases e : j = n
          · subst e; rw [hd0]; exact hq.2
          · exact (hP x hx).2 j (by omega)
    · refine w_exit ?_
      refine seq_exit ?_
      refine loop_exit ?_
      refine block_hit rfl ?_
      refine seq_normal ?_
      refine w_seq ?_
      refine w_region ?_
      refine w_o rfl rfl rfl (op_move rfl ?_)
      refine w_o rfl rfl rfl (op_assign rfl ?_)
      refine w_end ?_
      refine seq_normal ?_
      refine w_ret ?_
      have h1 := stemF_len L L.length (Nat.le_refl _)
      rw [hd0] at h1
      have hv9 : (stemF L L.length).length = n := by omega
      rw [hv9] at k
      exact ret_ret rfl sel_ k
end Go.Proofs.Ytlbbnimobbheiaa.AM.B
