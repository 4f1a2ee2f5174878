/- All that an offer offers. -/
import Derived.Test.YtlbbnimobbheiaaAX
import Derived.Test.YtlbbnimobbheiaaBoffer3
set_option linter.unusedVariables false
set_option linter.unusedSimpArgs false
set_option maxRecDepth 10000
set_option maxHeartbeats 4000000
namespace Go.Proofs.Ytlbbnimobbheiaa.AM.B
open Go Go.RowKit
section
variable {H : Hyp} {K : V → Hyp → Prop} {cx cw cl : Cell} {a hand : Int} {b : Nat} {L : List (List Sign)}
theorem in_snocL {Ni Nc : Hyp} {cs : List Cell} {cc : Cell} {x : List Sign} {i : Nat} (hcl : cs.length = i) (hx : L[i]? = some x) (hin : ∀ (j : Nat) (c : Cell) (l : List Sign), cs[j]? = some c → L[j]? = some l → Sl Ni 47 2 c l.length (l.flatMap encS)) (hC : Sl Nc 47 2 cc x.length (x.flatMap encS)) :
    ∀ (j : Nat) (c : Cell) (l : List Sign), (cs ++ [cc])[j]? = some c → L[j]? = some l → Sl (Nc ++ Ni) 47 2 c l.length (l.flatMap encS) := by
  intro j c2 l2 h h'
  rw [List.getElem?_append] at h
  split at h
  · exact (hin j c2 l2 h h').app
  · have e1 : j = i := by
      rcases Nat.lt_or_ge (j - cs.length) 1 with q | q
      · omega
      · rw [List.getElem?_eq_none (by simpa using q)] at h; cases h
    subst e1
    rw [hcl, Nat.sub_self] at h
    simp at h
    subst h
    rw [hx] at h'
    cases h'
    exact hC.sub fun y hy => List.mem_append_left _ hy
theorem offAll_w (hb : (b, offRow cx a cw cl hand) ∈ H) (hL : KVo H L cl) (hl : L.length ≤ 1000) (hLe : ∀ x ∈ L, x.length ≤ 10000) (k : ∀ c' N, KVo (N ++ H) L c' → K (.one (.c c')) (N ++ H)) : CallW Try.prog Xs 14 [ptrV b 0] H K := by
  obtain ⟨cs, g1, g2, g3⟩ := hL
  unfold offRow at hb
  refine call_of (n := 25) (fun _ => rfl) Try.func14 rfl rfl ?_
  refine w_seq ?_
  refine w_region ?_
  refine w_o rfl rfl rfl (op_assign rfl ?_)
  refine w_end ?_
  refine seq_normal ?_
  refine w_seq ?_
  refine w_region ?_
  refine w_o rfl rfl rfl (op_assign rfl ?_)
  refine w_end ?_
  refine seq_normal ?_
  refine w_seq ?_
  refine w_seq ?_
  refine w_region ?_
  refine w_o rfl rfl rfl (op_move rfl ?_)
  refine w_o rfl rfl rfl (op_nilEq rfl rfl rfl (by simp only [nilKind, und_29]) ?_)
  refine w_end ?_
  refine seq_normal ?_
  refine w_condF rfl ?_
  refine w_skip ?_
  refine seq_normal ?_
  refine w_seq ?_
  refine w_seq ?_
  refine w_region ?_
  refine w_o rfl rfl rfl (op_move rfl ?_)
  refine w_o rfl rfl rfl (op_nilCheck rfl ?_)
  refine w_o rfl rfl rfl (op_fieldAddr fa_54_2 rfl ?_)
  refine w_o rfl rfl rfl (op_loadF agg_25 rfl el_ rfl ?_)
  refine w_o rfl rfl rfl (op_lenC und_25 rfl g1.lenC ?_)
  refine w_o rfl rfl rfl (op_move rfl ?_)
  refine w_end ?_
  refine seq_normal ?_
  refine w_block ?_
  refine w_loop (fun q e H' => ∃ (i : Nat) (co : Cell) (ds : List Cell) (No Ni : Hyp), i ≤ L.length ∧ q = L.length - i ∧ Own 22 1 co (ds.flatMap encC) No ∧ ds.length = i ∧ (∀ (j : Nat) (c : Cell) (l : List Sign), ds[j]? = some c → L[j]? = some l → Sl Ni 47 2 c l.length (l.flatMap encS)) ∧ H' = No ++ (Ni ++ H) ∧ e = [(3, .one (.c co)), (12, .one (.c cl)), (13, vI (cs.length : Nat)), (14, vI (i : Nat))]) ?_ ?_
  · exact ⟨_, _, _, ⟨0, .nils, [], [], [], Nat.zero_le _, rfl, .nil, rfl, (fun j c l h => by simp at h), rfl, rfl⟩, env_, sel_⟩
  · rintro q e H' ⟨i, co, ds, No, Ni, hi, rfl, hO, hcl, hin, rfl, rfl⟩
    refine w_seq ?_
    refine w_region ?_
    refine w_o rfl rfl rfl (op_lt rfl rfl ?_)
    refine w_end ?_
    refine seq_normal ?_
    refine w_seq ?_
    first | refine w_cond rfl (fun hI2 => ?_) (fun hI2 => ?_) | refine w_condB rfl (fun hI2 => ?_) (fun hI2 => ?_)
    · obtain ⟨x, hx⟩ : ∃ x, L[i]? = some x := ⟨_, List.getElem?_eq_getElem (by omega)⟩
      have hxl := hLe x (List.mem_of_getElem? hx)
      refine w_skip ?_
      refine seq_normal ?_
      refine w_seq ?_
      refine w_block ?_
      refine w_seq ?_
      refine w_region ?_
      refine w_o rfl rfl rfl (op_indexT (enc := encC) (xs := cs) (j := i) und_25 siz_22 rfl rfl (g1.app.app) (fun _ => rfl) rfl (by omega) fun b16 o16 z16 h16 e16 => ?_)
      refine w_o rfl rfl rfl (op_load1 agg_22 rfl el_ ?_)
      refine w_o rfl rfl rfl (op_assign rfl ?_)
      refine w_end ?_
      refine seq_normal ?_
      refine w_region ?_
      refine w_o rfl rfl rfl (op_move rfl ?_)
      refine w_o rfl rfl rfl (op_move rfl ?_)
      refine w_o rfl rfl rfl (op_call rfl rfl rfl ?_)
      refine CloneS_w (l := x) ((g3 i z16 x h16 hx).app.app) (by omega) fun cc Nc hC => ?_
      refine w_o rfl rfl rfl (op_buildSlice rfl (bsl_25 _ _ _ (rfl : _ = some [_]) rfl (by decide)) fun b21 => ?_)
      refine w_o rfl rfl rfl (op_append1 (xs := ds) (enc := encC) (z0 := cc) elm_25 inf_22 zer_22 (by decide) und_25 rfl rfl hO (fun _ => rfl) (by (repeat (first | exact PickL.front _ _ | exact PickL.nil _ | apply PickL.skip | apply PickL.skipL)); first | done | fail) rfl (by omega) fun c22 N22 h22 => ?_)
      refine w_o rfl rfl rfl (op_assign rfl ?_)
      refine w_end ?_
      refine block_normal ?_
      refine seq_normal ?_
      refine w_region ?_
      refine w_o rfl rfl rfl (op_addi rfl rfl (by omega) (by omega) ?_)
      refine w_o rfl rfl rfl (op_move rfl ?_)
      refine w_end ?_
      exact loop_normal (k' := L.length - (i + 1)) (by omega) ⟨i + 1, c22, ds ++ [cc], N22, Nc ++ Ni, by omega, rfl, h22, by simp [hcl], in_snocL hcl hx hin (hC.slT (fun _ => rfl) (by decide) (fun _ q => q)), rfl, rfl⟩ env_ sel_
    · refine w_exit ?_
      refine seq_exit ?_
      refine loop_exit ?_
      refine block_hit rfl ?_
      refine seq_normal ?_
      refine w_seq ?_
      refine w_region ?_
      refine w_o rfl rfl rfl (op_move rfl ?_)
      refine w_o rfl rfl rfl (op_assign rfl ?_)
      refine w_end ?_
      refine seq_normal ?_
      refine w_ret ?_
      have hi' : i = L.length := by omega
      have k' := k co (No ++ Ni) ⟨ds, hO.slT (fun _ => rfl) (by decide) (fun y hy => List.mem_append_left _ (List.mem_append_left _ hy)), by omega, fun j d z p q => (hin j d z p q).sub fun y hy => List.mem_append_left _ (List.mem_append_right _ hy)⟩
      exact ret_ret rfl sel_ k'
end
end Go.Proofs.Ytlbbnimobbheiaa.AM.B
