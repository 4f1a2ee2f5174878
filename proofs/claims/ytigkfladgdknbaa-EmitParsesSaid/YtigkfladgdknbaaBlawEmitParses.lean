/- The law EmitParses: it answers true, whatever comes in. -/
import Derived.Test.YtigkfladgdknbaaAX
import Derived.Test.YtigkfladgdknbaaBemitref
set_option linter.unusedVariables false
set_option linter.unusedSimpArgs false
set_option maxRecDepth 10000
set_option maxHeartbeats 4000000
namespace Go.Proofs.Ytigkfladgdknbaa.AM.B
open Go Go.RowKit
theorem f3_le {l : List OutS} {s : ByteArray} (hm : ∀ o ∈ l, mayO o = true) (h : textL l = bl s) : ∀ o ∈ l, o.f3.size ≤ s.size := by
  have key : ∀ (l : List OutS), ∀ o ∈ l, (bytesL o).length ≤ (textL l).length := by
    intro l
    induction l with
    | nil => intro o ho; cases ho
    | cons x l ih =>
      intro o ho
      have e : textL (x :: l) = bytesL x ++ textL l := rfl
      rw [e, List.length_append]
      rcases List.mem_cons.1 ho with rfl | ho
      · omega
      · have := ih o ho; omega
  intro o ho
  have h1 := key l o ho
  rw [h, bl_len] at h1
  by_cases q : o.f0 = 0
  · rw [bytes_text q, bl_len] at h1; exact h1
  · rw [(may_num (hm o ho)).2.2.2.2.2.2.2 q]; exact Nat.zero_le _
theorem CleanB_w {H : Hyp} {K : V → Hyp → Prop} {s : ByteArray} {b : Bool} (hs : s.size ≤ 100000) (hb : b = true ↔ clean (bl s)) (k : K (vB b) H) : CallW Try.prog Xs 20 [vS s] H K :=
  Clean_w hs (fun q => by rw [hb.2 q] at k; exact k) (fun q => by
    cases b with
    | false => exact k
    | true => exact absurd (hb.1 rfl) q)
theorem EmitParses_law {H : Hyp} {s : ByteArray} : CallW Try.prog Xs 4 [vS s] H (fun v _ => v = vB true) := by
  refine call_of (n := 48) (fun _ => rfl) Try.func4 rfl rfl ?_
  refine w_seq ?_
  refine w_region ?_
  refine w_o rfl rfl rfl (op_assign rfl ?_)
  refine w_end ?_
  refine seq_normal ?_
  refine w_seq ?_
  refine w_seq ?_
  refine w_region ?_
  refine w_o rfl rfl rfl (op_move rfl ?_)
  refine w_o rfl rfl rfl (op_lenS und_9 rfl ?_)
  refine w_o rfl rfl rfl (op_gt rfl rfl ?_)
  refine w_end ?_
  refine seq_normal ?_
  first | refine w_cond rfl (fun hI1 => ?_) (fun hI1 => ?_) | refine w_condB rfl (fun hI1 => ?_) (fun hI1 => ?_)
  · refine w_seq ?_
    refine w_region ?_
    refine w_o rfl rfl rfl (op_call rfl rfl rfl ?_)
    refine awake_w ?_
    refine w_o rfl rfl rfl (op_assign rfl ?_)
    refine w_end ?_
    refine seq_normal ?_
    refine w_ret ?_
    refine seq_ret ?_
    exact ret_ret rfl sel_ rfl
  · refine w_skip ?_
    refine seq_normal ?_
    refine w_seq ?_
    refine w_region ?_
    refine w_o rfl rfl rfl (op_move rfl ?_)
    refine w_o rfl rfl rfl (op_call rfl rfl rfl ?_)
    refine Parse_w (by omega) (fun l cl Nl h1 h2 h3 h4 h5 => ?_) (fun hno => ?_)
    · have hcb : true = true ↔ clean (bl s) := ⟨fun _ => ⟨l, h1, h2⟩, fun _ => rfl⟩
      refine w_o rfl rfl rfl (op_move rfl ?_)
      refine w_o rfl rfl rfl (op_extract rfl rfl ?_)
      refine w_o rfl rfl rfl (op_extract rfl rfl ?_)
      refine w_o rfl rfl rfl (op_assign rfl ?_)
      refine w_o rfl rfl rfl (op_assign rfl ?_)
      refine w_end ?_
      refine seq_normal ?_
      refine w_seq ?_
      refine w_seq ?_
      refine w_region ?_
      refine w_o rfl rfl rfl (op_move rfl ?_)
      refine w_o rfl rfl rfl (op_call rfl rfl rfl ?_)
      refine CleanB_w (by omega) hcb ?_
      refine w_o rfl rfl rfl (op_move rfl ?_)
      refine w_o rfl rfl rfl (op_eq rfl rfl ?_)
      refine w_o rfl rfl rfl (op_boolne und_4 rfl rfl ?_)
      refine w_end ?_
      refine seq_normal ?_
      refine w_condNB rfl (by decide) ?_
      refine w_skip ?_
      refine seq_normal ?_
      refine w_seq ?_
      refine w_seq ?_
      refine w_region ?_
      refine w_o rfl rfl rfl (op_move rfl ?_)
      refine w_o rfl rfl rfl (op_ne rfl rfl ?_)
      refine w_end ?_
      refine seq_normal ?_
      first | refine w_cond rfl (fun hI3 => ?_) (fun hI3 => ?_) | refine w_condB rfl (fun hI3 => ?_) (fun hI3 => ?_)
      · try (first | exact absurd rfl hI3 | exact absurd (show (6 : Int) ≠ 0 by decide) hI3)
        all_goals
          refine w_seq ?_
          refine w_region ?_
          refine w_o rfl rfl rfl (op_call rfl rfl rfl ?_)
          refine awake_w ?_
          refine w_o rfl rfl rfl (op_move rfl ?_)
          refine w_og rfl rfl rfl rfl rfl (op_move rfl ?_)
          refine w_og rfl rfl rfl rfl rfl (op_eq rfl rfl ?_)
          refine w_o rfl rfl rfl (op_pick rfl rfl rfl ?_)
          refine w_o rfl rfl rfl (op_move rfl ?_)
          first | refine w_known (t := 26) rfl (fun g26 => ?_) (fun g26 => ?_) | refine w_knownB (t := 26) rfl (fun g26 => ?_) (fun g26 => ?_)
          · refine w_og rfl rfl rfl rfl rfl (op_move rfl ?_)
            refine w_og rfl rfl rfl rfl rfl (op_lenC und_22 rfl (by first | exact ⟨rfl, fun s e => by cases e⟩ | exact Sl.lenC (by assumption) | (refine Own.lenT (by assumption) ?_ ?_ <;> first | exact fun _ => rfl | decide)) ?_)
            refine w_og rfl rfl rfl rfl rfl (op_eq rfl rfl ?_)
            refine w_o rfl rfl rfl (op_pick rfl rfl rfl ?_)
            refine w_o rfl rfl rfl (op_assign rfl ?_)
            refine w_end ?_
            refine seq_normal ?_
            refine w_ret ?_
            refine seq_ret ?_
            exact ret_bool (b' := true) rfl sel_ (by decide) rfl
          · exact absurd rfl g26 --closed
      · try (first | exact absurd rfl hI3 | exact absurd (show (6 : Int) ≠ 0 by decide) hI3)
        all_goals
          have hf3 := f3_le h1 h2
          refine w_skip ?_
          refine seq_normal ?_
          refine w_seq ?_
          refine w_region ?_
          refine w_o rfl rfl rfl (op_call rfl rfl rfl ?_)
          refine awake_w ?_
          refine w_o rfl rfl rfl (op_move rfl ?_)
          refine w_og rfl rfl rfl rfl rfl (op_move rfl ?_)
          refine w_og rfl rfl rfl rfl rfl (op_call rfl rfl rfl ?_)
          refine R10All_w (l := l) (Own.slT h5 (fun _ => rfl) (by decide) subs_) (by omega) (fun o ho => by have := hf3 o ho; omega) (fun _ => ?_) (fun q => absurd h1 q)
          refine w_o rfl rfl rfl (op_pick rfl rfl rfl ?_)
          refine w_o rfl rfl rfl (op_move rfl ?_)
          first | refine w_known (t := 36) rfl (fun g36 => ?_) (fun g36 => ?_) | refine w_knownB (t := 36) rfl (fun g36 => ?_) (fun g36 => ?_)
          · refine w_og rfl rfl rfl rfl rfl (op_move rfl ?_)
            refine w_og rfl rfl rfl rfl rfl (op_call rfl rfl rfl ?_)
            refine R10Text_w (l := l) (Own.slT h5 (fun _ => rfl) (by decide) subs_) (by omega) h1 (fun o ho => by have := hf3 o ho; omega) fun t ht => ?_
            refine w_og rfl rfl rfl rfl rfl (op_move rfl ?_)
            refine w_og rfl rfl rfl rfl rfl (op_streq rfl rfl ?_)
            refine w_o rfl rfl rfl (op_pick rfl rfl rfl ?_)
            refine w_o rfl rfl rfl (op_move rfl ?_)
            first | refine w_known (t := 42) rfl (fun g42 => ?_) (fun g42 => ?_) | refine w_knownB (t := 42) rfl (fun g42 => ?_) (fun g42 => ?_)
            · refine w_og rfl rfl rfl rfl rfl (op_move rfl ?_)
              refine w_og rfl rfl rfl rfl rfl (op_move rfl ?_)
              refine w_og rfl rfl rfl rfl rfl (op_call rfl rfl rfl ?_)
              refine R10JoinedC_w (l := l) (Own.slT h5 (fun _ => rfl) (by decide) subs_) (by omega) h3 fun cj Nj hj => ?_
              refine w_og rfl rfl rfl rfl rfl (op_call rfl rfl rfl ?_)
              refine R10Same_w (l := l) (l' := l) (Own.slT h5 (fun _ => rfl) (by decide) subs_) (Own.slT hj (fun _ => rfl) (by decide) subs_) (by omega) (fun _ => ?_) (fun q => absurd rfl q)
              refine w_o rfl rfl rfl (op_pick rfl rfl rfl ?_)
              refine w_o rfl rfl rfl (op_assign rfl ?_)
              refine w_end ?_
              refine seq_normal ?_
              refine w_ret ?_
              exact ret_bool (b' := true) rfl sel_ (by decide) rfl
            · exact absurd (bl_inj (ht.trans h2)) g42 --closed
          · cases g36 --closed
    · have hcb : false = true ↔ clean (bl s) := ⟨fun q => (by cases q), fun q => absurd q hno⟩
      refine w_o rfl rfl rfl (op_move rfl ?_)
      refine w_o rfl rfl rfl (op_extract rfl rfl ?_)
      refine w_o rfl rfl rfl (op_extract rfl rfl ?_)
      refine w_o rfl rfl rfl (op_assign rfl ?_)
      refine w_o rfl rfl rfl (op_assign rfl ?_)
      refine w_end ?_
      refine seq_normal ?_
      refine w_seq ?_
      refine w_seq ?_
      refine w_region ?_
      refine w_o rfl rfl rfl (op_move rfl ?_)
      refine w_o rfl rfl rfl (op_call rfl rfl rfl ?_)
      refine CleanB_w (by omega) hcb ?_
      refine w_o rfl rfl rfl (op_move rfl ?_)
      refine w_o rfl rfl rfl (op_eq rfl rfl ?_)
      refine w_o rfl rfl rfl (op_boolne und_4 rfl rfl ?_)
      refine w_end ?_
      refine seq_normal ?_
      refine w_condNB rfl (by decide) ?_
      refine w_skip ?_
      refine seq_normal ?_
      refine w_seq ?_
      refine w_seq ?_
      refine w_region ?_
      refine w_o rfl rfl rfl (op_move rfl ?_)
      refine w_o rfl rfl rfl (op_ne rfl rfl ?_)
      refine w_end ?_
      refine seq_normal ?_
      first | refine w_cond rfl (fun hI3 => ?_) (fun hI3 => ?_) | refine w_condB rfl (fun hI3 => ?_) (fun hI3 => ?_)
      · try (first | exact absurd rfl hI3 | exact absurd (show (6 : Int) ≠ 0 by decide) hI3)
        all_goals
          refine w_seq ?_
          refine w_region ?_
          refine w_o rfl rfl rfl (op_call rfl rfl rfl ?_)
          refine awake_w ?_
          refine w_o rfl rfl rfl (op_move rfl ?_)
          refine w_og rfl rfl rfl rfl rfl (op_move rfl ?_)
          refine w_og rfl rfl rfl rfl rfl (op_eq rfl rfl ?_)
          refine w_o rfl rfl rfl (op_pick rfl rfl rfl ?_)
          refine w_o rfl rfl rfl (op_move rfl ?_)
          first | refine w_known (t := 26) rfl (fun g26 => ?_) (fun g26 => ?_) | refine w_knownB (t := 26) rfl (fun g26 => ?_) (fun g26 => ?_)
          · refine w_og rfl rfl rfl rfl rfl (op_move rfl ?_)
            refine w_og rfl rfl rfl rfl rfl (op_lenC und_22 rfl (by first | exact ⟨rfl, fun s e => by cases e⟩ | exact Sl.lenC (by assumption) | (refine Own.lenT (by assumption) ?_ ?_ <;> first | exact fun _ => rfl | decide)) ?_)
            refine w_og rfl rfl rfl rfl rfl (op_eq rfl rfl ?_)
            refine w_o rfl rfl rfl (op_pick rfl rfl rfl ?_)
            refine w_o rfl rfl rfl (op_assign rfl ?_)
            refine w_end ?_
            refine seq_normal ?_
            refine w_ret ?_
            refine seq_ret ?_
            exact ret_bool (b' := true) rfl sel_ (by decide) rfl
          · exact absurd rfl g26 --closed
      · try (first | exact absurd rfl hI3 | exact absurd (show (6 : Int) ≠ 0 by decide) hI3)
        all_goals
          have hf3 := f3_le h1 h2
          refine w_skip ?_
          refine seq_normal ?_
          refine w_seq ?_
          refine w_region ?_
          refine w_o rfl rfl rfl (op_call rfl rfl rfl ?_)
          refine awake_w ?_
          refine w_o rfl rfl rfl (op_move rfl ?_)
          refine w_og rfl rfl rfl rfl rfl (op_move rfl ?_)
          refine w_og rfl rfl rfl rfl rfl (op_call rfl rfl rfl ?_)
          refine R10All_w (l := l) (Own.slT h5 (fun _ => rfl) (by decide) subs_) (by omega) (fun o ho => by have := hf3 o ho; omega) (fun _ => ?_) (fun q => absurd h1 q)
          refine w_o rfl rfl rfl (op_pick rfl rfl rfl ?_)
          refine w_o rfl rfl rfl (op_move rfl ?_)
          first | refine w_known (t := 36) rfl (fun g36 => ?_) (fun g36 => ?_) | refine w_knownB (t := 36) rfl (fun g36 => ?_) (fun g36 => ?_)
          · refine w_og rfl rfl rfl rfl rfl (op_move rfl ?_)
            refine w_og rfl rfl rfl rfl rfl (op_call rfl rfl rfl ?_)
            refine R10Text_w (l := l) (Own.slT h5 (fun _ => rfl) (by decide) subs_) (by omega) h1 (fun o ho => by have := hf3 o ho; omega) fun t ht => ?_
            refine w_og rfl rfl rfl rfl rfl (op_move rfl ?_)
            refine w_og rfl rfl rfl rfl rfl (op_streq rfl rfl ?_)
            refine w_o rfl rfl rfl (op_pick rfl rfl rfl ?_)
            refine w_o rfl rfl rfl (op_move rfl ?_)
            first | refine w_known (t := 42) rfl (fun g42 => ?_) (fun g42 => ?_) | refine w_knownB (t := 42) rfl (fun g42 => ?_) (fun g42 => ?_)
            · refine w_og rfl rfl rfl rfl rfl (op_move rfl ?_)
              refine w_og rfl rfl rfl rfl rfl (op_move rfl ?_)
              refine w_og rfl rfl rfl rfl rfl (op_call rfl rfl rfl ?_)
              refine R10JoinedC_w (l := l) (Own.slT h5 (fun _ => rfl) (by decide) subs_) (by omega) h3 fun cj Nj hj => ?_
              refine w_og rfl rfl rfl rfl rfl (op_call rfl rfl rfl ?_)
              refine R10Same_w (l := l) (l' := l) (Own.slT h5 (fun _ => rfl) (by decide) subs_) (Own.slT hj (fun _ => rfl) (by decide) subs_) (by omega) (fun _ => ?_) (fun q => absurd rfl q)
              refine w_o rfl rfl rfl (op_pick rfl rfl rfl ?_)
              refine w_o rfl rfl rfl (op_assign rfl ?_)
              refine w_end ?_
              refine seq_normal ?_
              refine w_ret ?_
              exact ret_bool (b' := true) rfl sel_ (by decide) rfl
            · exact absurd (bl_inj (ht.trans h2)) g42 --closed
          · cases g36 --closed
end Go.Proofs.Ytigkfladgdknbaa.AM.B
