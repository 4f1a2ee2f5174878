/- utf and its reference, walked: what they answer. -/
import Derived.Test.YtigkfladgdknbaaAX
import Derived.Test.YtigkfladgdknbaaButfp
import Derived.Test.YtigkfladgdknbaaBpre
set_option linter.unusedVariables false
set_option linter.unusedSimpArgs false
set_option maxRecDepth 10000
set_option maxHeartbeats 4000000
namespace Go.Proofs.Ytigkfladgdknbaa.AM.B
open Go Go.RowKit
section
variable {P : Program} {X : Spec} {q : Bool} {d : Option Nat} {ty : Nat} {pos : String} {af : Array Edge} {g : Option (Nat × Bool)} {e : Env} {H : Hyp} {K : V → Hyp → Prop}
end
abbrev bl (s : ByteArray) : List UInt8 := s.data.toList
theorem bl_len (s : ByteArray) : (bl s).length = s.size := rfl
theorem bl_ext (s : ByteArray) (p : Nat) : bl (s.extract p s.size) = (bl s).drop p := by
  show (s.extract p s.size).data.toList = _
  rw [ByteArray.data_extract]
  simp [Array.toList_extract, List.extract]
  exact List.take_of_length_le (by simp)
theorem bl_nil {s : ByteArray} : bl s = [] ↔ s.size = 0 := by
  rw [← List.length_eq_zero_iff]; exact Iff.rfl
/-- The model's decoding, of a list. -/
def dec (l : List UInt8) : Nat × Nat := Lib.decodeN l.length (bAt l 0) (bAt l 1) (bAt l 2) (bAt l 3)
theorem dec_drop (s : ByteArray) (p : Nat) : Utf8.decode s p = dec ((bl s).drop p) := by
  rw [Lib.decode_at]
  unfold dec
  rw [get!_bAt, get!_bAt, get!_bAt, get!_bAt, bAt_drop, bAt_drop, bAt_drop, bAt_drop, List.length_drop]; rfl
theorem dec_wid {l : List UInt8} (h : l ≠ []) : (dec l).2 = (oneL l).2 := (value_one h).1.symm
theorem pre_take (s : ByteArray) : hasPre s ⟨#[239, 191, 189]⟩ = decide ((bl s).take 3 = [239, 191, 189]) := by
  rw [Bool.eq_iff_iff]
  simp only [hasPre, Bool.and_eq_true, decide_eq_true_eq]
  have e : bl (s.extract 0 (ByteArray.size ⟨#[239, 191, 189]⟩)) = (bl s).take 3 := by
    show (s.extract 0 3).data.toList = _
    rw [ByteArray.data_extract]
    simp [Array.toList_extract, List.extract]
  constructor
  · rintro ⟨_, h⟩
    rw [← e, h]
  · intro h
    have h3 : 3 ≤ s.size := by
      have := congrArg List.length h
      rw [List.length_take, bl_len] at this
      simp only [List.length_cons, List.length_nil] at this
      omega
    refine ⟨h3, ?_⟩
    apply ByteArray.ext
    apply Array.toList_inj.1
    exact e.trans h
theorem R02Size_w {H : Hyp} {K : V → Hyp → Prop} {n : Nat} (k : K (vI (szN n : Nat)) H) : CallW Try.prog Xs 51 [.one (.c (.int .u8 (n : Int)))] H K := by
  refine call_of (n := 23) (fun _ => rfl) Try.func51 rfl rfl ?_
  refine w_seq ?_
  refine w_region ?_
  refine w_o rfl rfl rfl (op_assign rfl ?_)
  refine w_end ?_
  refine seq_normal ?_
  refine w_seq ?_
  refine w_seq ?_
  refine w_region ?_
  refine w_o rfl rfl rfl (op_move rfl ?_)
  refine w_o rfl rfl rfl (op_lt rfl rfl ?_)
  refine w_end ?_
  refine seq_normal ?_
  first | refine w_cond rfl (fun hI1 => ?_) (fun hI1 => ?_) | refine w_condB rfl (fun hI1 => ?_) (fun hI1 => ?_)
  · refine w_seq ?_
    refine w_region ?_
    refine w_o rfl rfl rfl (op_assign rfl ?_)
    refine w_end ?_
    refine seq_normal ?_
    refine w_ret ?_
    refine seq_ret ?_
    exact ret_int rfl sel_ (by rcases szN_of n with ⟨_, q⟩ | ⟨_, _, q⟩ | ⟨_, _, q⟩ | ⟨_, _, q⟩ | ⟨_, q⟩ <;> rw [q] <;> omega) k
  · refine w_skip ?_
    refine seq_normal ?_
    refine w_seq ?_
    refine w_seq ?_
    refine w_region ?_
    refine w_o rfl rfl rfl (op_move rfl ?_)
    refine w_o rfl rfl rfl (op_ge rfl rfl ?_)
    refine w_o rfl rfl rfl (op_move rfl ?_)
    first | refine w_known (t := 7) rfl (fun g7 => ?_) (fun g7 => ?_) | refine w_knownB (t := 7) rfl (fun g7 => ?_) (fun g7 => ?_)
    · refine w_og rfl rfl rfl rfl rfl (op_move rfl ?_)
      refine w_og rfl rfl rfl rfl rfl (op_le rfl rfl ?_)
      refine w_o rfl rfl rfl (op_pick rfl rfl rfl ?_)
      refine w_end ?_
      refine seq_normal ?_
      first | refine w_cond rfl (fun hI2 => ?_) (fun hI2 => ?_) | refine w_condB rfl (fun hI2 => ?_) (fun hI2 => ?_)
      · refine w_seq ?_
        refine w_region ?_
        refine w_o rfl rfl rfl (op_assign rfl ?_)
        refine w_end ?_
        refine seq_normal ?_
        refine w_ret ?_
        refine seq_ret ?_
        exact ret_int rfl sel_ (by rcases szN_of n with ⟨_, q⟩ | ⟨_, _, q⟩ | ⟨_, _, q⟩ | ⟨_, _, q⟩ | ⟨_, q⟩ <;> rw [q] <;> omega) k
      · refine w_skip ?_
        refine seq_normal ?_
        refine w_seq ?_
        refine w_seq ?_
        refine w_region ?_
        refine w_o rfl rfl rfl (op_move rfl ?_)
        refine w_o rfl rfl rfl (op_ge rfl rfl ?_)
        refine w_o rfl rfl rfl (op_move rfl ?_)
        first | refine w_known (t := 13) rfl (fun g13 => ?_) (fun g13 => ?_) | refine w_knownB (t := 13) rfl (fun g13 => ?_) (fun g13 => ?_)
        · refine w_og rfl rfl rfl rfl rfl (op_move rfl ?_)
          refine w_og rfl rfl rfl rfl rfl (op_le rfl rfl ?_)
          refine w_o rfl rfl rfl (op_pick rfl rfl rfl ?_)
          refine w_end ?_
          refine seq_normal ?_
          first | refine w_cond rfl (fun hI3 => ?_) (fun hI3 => ?_) | refine w_condB rfl (fun hI3 => ?_) (fun hI3 => ?_)
          · refine w_seq ?_
            refine w_region ?_
            refine w_o rfl rfl rfl (op_assign rfl ?_)
            refine w_end ?_
            refine seq_normal ?_
            refine w_ret ?_
            refine seq_ret ?_
            exact ret_int rfl sel_ (by rcases szN_of n with ⟨_, q⟩ | ⟨_, _, q⟩ | ⟨_, _, q⟩ | ⟨_, _, q⟩ | ⟨_, q⟩ <;> rw [q] <;> omega) k
          · refine w_skip ?_
            refine seq_normal ?_
            refine w_seq ?_
            refine w_seq ?_
            refine w_region ?_
            refine w_o rfl rfl rfl (op_move rfl ?_)
            refine w_o rfl rfl rfl (op_ge rfl rfl ?_)
            refine w_o rfl rfl rfl (op_move rfl ?_)
            first | refine w_known (t := 19) rfl (fun g19 => ?_) (fun g19 => ?_) | refine w_knownB (t := 19) rfl (fun g19 => ?_) (fun g19 => ?_)
            · refine w_og rfl rfl rfl rfl rfl (op_move rfl ?_)
              refine w_og rfl rfl rfl rfl rfl (op_le rfl rfl ?_)
              refine w_o rfl rfl rfl (op_pick rfl rfl rfl ?_)
              refine w_end ?_
              refine seq_normal ?_
              first | refine w_cond rfl (fun hI4 => ?_) (fun hI4 => ?_) | refine w_condB rfl (fun hI4 => ?_) (fun hI4 => ?_)
              · refine w_seq ?_
                refine w_region ?_
                refine w_o rfl rfl rfl (op_assign rfl ?_)
                refine w_end ?_
                refine seq_normal ?_
                refine w_ret ?_
                refine seq_ret ?_
                exact ret_int rfl sel_ (by rcases szN_of n with ⟨_, q⟩ | ⟨_, _, q⟩ | ⟨_, _, q⟩ | ⟨_, _, q⟩ | ⟨_, q⟩ <;> rw [q] <;> omega) k
              · refine w_skip ?_
                refine seq_normal ?_
                refine w_seq ?_
                refine w_region ?_
                refine w_o rfl rfl rfl (op_assign rfl ?_)
                refine w_end ?_
                refine seq_normal ?_
                refine w_ret ?_
                exact ret_int rfl sel_ (by rcases szN_of n with ⟨_, q⟩ | ⟨_, _, q⟩ | ⟨_, _, q⟩ | ⟨_, _, q⟩ | ⟨_, q⟩ <;> rw [q] <;> omega) k
            · refine w_u rfl rfl rfl rfl rfl rfl ?_
              refine w_u rfl rfl rfl rfl rfl rfl ?_
              refine w_o rfl rfl rfl (op_pick rfl rfl rfl ?_)
              refine w_end ?_
              refine seq_normal ?_
              refine w_condF rfl ?_
              refine w_skip ?_
              refine seq_normal ?_
              refine w_seq ?_
              refine w_region ?_
              refine w_o rfl rfl rfl (op_assign rfl ?_)
              refine w_end ?_
              refine seq_normal ?_
              refine w_ret ?_
              exact ret_int rfl sel_ (by rcases szN_of n with ⟨_, q⟩ | ⟨_, _, q⟩ | ⟨_, _, q⟩ | ⟨_, _, q⟩ | ⟨_, q⟩ <;> rw [q] <;> omega) k
        · refine w_u rfl rfl rfl rfl rfl rfl ?_
          refine w_u rfl rfl rfl rfl rfl rfl ?_
          refine w_o rfl rfl rfl (op_pick rfl rfl rfl ?_)
          refine w_end ?_
          refine seq_normal ?_
          refine w_condF rfl ?_
          refine w_skip ?_
          refine seq_normal ?_
          refine w_seq ?_
          refine w_seq ?_
          refine w_region ?_
          refine w_o rfl rfl rfl (op_move rfl ?_)
          refine w_o rfl rfl rfl (op_ge rfl rfl ?_)
          refine w_o rfl rfl rfl (op_move rfl ?_)
          first | refine w_known (t := 19) rfl (fun g19 => ?_) (fun g19 => ?_) | refine w_knownB (t := 19) rfl (fun g19 => ?_) (fun g19 => ?_)
          · refine w_og rfl rfl rfl rfl rfl (op_move rfl ?_)
            refine w_og rfl rfl rfl rfl rfl (op_le rfl rfl ?_)
            refine w_o rfl rfl rfl (op_pick rfl rfl rfl ?_)
            refine w_end ?_
            refine seq_normal ?_
            first | refine w_cond rfl (fun hI4 => ?_) (fun hI4 => ?_) | refine w_condB rfl (fun hI4 => ?_) (fun hI4 => ?_)
            · refine w_seq ?_
              refine w_region ?_
              refine w_o rfl rfl rfl (op_assign rfl ?_)
              refine w_end ?_
              refine seq_normal ?_
              refine w_ret ?_
              refine seq_ret ?_
              exact ret_int rfl sel_ (by rcases szN_of n with ⟨_, q⟩ | ⟨_, _, q⟩ | ⟨_, _, q⟩ | ⟨_, _, q⟩ | ⟨_, q⟩ <;> rw [q] <;> omega) k
            · refine w_skip ?_
              refine seq_normal ?_
              refine w_seq ?_
              refine w_region ?_
              refine w_o rfl rfl rfl (op_assign rfl ?_)
              refine w_end ?_
              refine seq_normal ?_
              refine w_ret ?_
              exact ret_int rfl sel_ (by rcases szN_of n with ⟨_, q⟩ | ⟨_, _, q⟩ | ⟨_, _, q⟩ | ⟨_, _, q⟩ | ⟨_, q⟩ <;> rw [q] <;> omega) k
          · refine w_u rfl rfl rfl rfl rfl rfl ?_
            refine w_u rfl rfl rfl rfl rfl rfl ?_
            refine w_o rfl rfl rfl (op_pick rfl rfl rfl ?_)
            refine w_end ?_
            refine seq_normal ?_
            refine w_condF rfl ?_
            refine w_skip ?_
            refine seq_normal ?_
            refine w_seq ?_
            refine w_region ?_
            refine w_o rfl rfl rfl (op_assign rfl ?_)
            refine w_end ?_
            refine seq_normal ?_
            refine w_ret ?_
            exact ret_int rfl sel_ (by rcases szN_of n with ⟨_, q⟩ | ⟨_, _, q⟩ | ⟨_, _, q⟩ | ⟨_, _, q⟩ | ⟨_, q⟩ <;> rw [q] <;> omega) k
    · refine w_u rfl rfl rfl rfl rfl rfl ?_
      refine w_u rfl rfl rfl rfl rfl rfl ?_
      refine w_o rfl rfl rfl (op_pick rfl rfl rfl ?_)
      refine w_end ?_
      refine seq_normal ?_
      refine w_condF rfl ?_
      refine w_skip ?_
      refine seq_normal ?_
      refine w_seq ?_
      refine w_seq ?_
      refine w_region ?_
      refine w_o rfl rfl rfl (op_move rfl ?_)
      refine w_o rfl rfl rfl (op_ge rfl rfl ?_)
      refine w_o rfl rfl rfl (op_move rfl ?_)
      first | refine w_known (t := 13) rfl (fun g13 => ?_) (fun g13 => ?_) | refine w_knownB (t := 13) rfl (fun g13 => ?_) (fun g13 => ?_)
      · refine w_og rfl rfl rfl rfl rfl (op_move rfl ?_)
        refine w_og rfl rfl rfl rfl rfl (op_le rfl rfl ?_)
        refine w_o rfl rfl rfl (op_pick rfl rfl rfl ?_)
        refine w_end ?_
        refine seq_normal ?_
        first | refine w_cond rfl (fun hI3 => ?_) (fun hI3 => ?_) | refine w_condB rfl (fun hI3 => ?_) (fun hI3 => ?_)
        · refine w_seq ?_
          refine w_region ?_
          refine w_o rfl rfl rfl (op_assign rfl ?_)
          refine w_end ?_
          refine seq_normal ?_
          refine w_ret ?_
          refine seq_ret ?_
          exact ret_int rfl sel_ (by rcases szN_of n with ⟨_, q⟩ | ⟨_, _, q⟩ | ⟨_, _, q⟩ | ⟨_, _, q⟩ | ⟨_, q⟩ <;> rw [q] <;> omega) k
        · refine w_skip ?_
          refine seq_normal ?_
          refine w_seq ?_
          refine w_seq ?_
          refine w_region ?_
          refine w_o rfl rfl rfl (op_move rfl ?_)
          refine w_o rfl rfl rfl (op_ge rfl rfl ?_)
          refine w_o rfl rfl rfl (op_move rfl ?_)
          first | refine w_known (t := 19) rfl (fun g19 => ?_) (fun g19 => ?_) | refine w_knownB (t := 19) rfl (fun g19 => ?_) (fun g19 => ?_)
          · refine w_og rfl rfl rfl rfl rfl (op_move rfl ?_)
            refine w_og rfl rfl rfl rfl rfl (op_le rfl rfl ?_)
            refine w_o rfl rfl rfl (op_pick rfl rfl rfl ?_)
            refine w_end ?_
            refine seq_normal ?_
            first | refine w_cond rfl (fun hI4 => ?_) (fun hI4 => ?_) | refine w_condB rfl (fun hI4 => ?_) (fun hI4 => ?_)
            · refine w_seq ?_
              refine w_region ?_
              refine w_o rfl rfl rfl (op_assign rfl ?_)
              refine w_end ?_
              refine seq_normal ?_
              refine w_ret ?_
              refine seq_ret ?_
              exact ret_int rfl sel_ (by rcases szN_of n with ⟨_, q⟩ | ⟨_, _, q⟩ | ⟨_, _, q⟩ | ⟨_, _, q⟩ | ⟨_, q⟩ <;> rw [q] <;> omega) k
            · refine w_skip ?_
              refine seq_normal ?_
              refine w_seq ?_
              refine w_region ?_
              refine w_o rfl rfl rfl (op_assign rfl ?_)
              refine w_end ?_
              refine seq_normal ?_
              refine w_ret ?_
              exact ret_int rfl sel_ (by rcases szN_of n with ⟨_, q⟩ | ⟨_, _, q⟩ | ⟨_, _, q⟩ | ⟨_, _, q⟩ | ⟨_, q⟩ <;> rw [q] <;> omega) k
          · refine w_u rfl rfl rfl rfl rfl rfl ?_
            refine w_u rfl rfl rfl rfl rfl rfl ?_
            refine w_o rfl rfl rfl (op_pick rfl rfl rfl ?_)
            refine w_end ?_
            refine seq_normal ?_
            refine w_condF rfl ?_
            refine w_skip ?_
            refine seq_normal ?_
            refine w_seq ?_
            refine w_region ?_
            refine w_o rfl rfl rfl (op_assign rfl ?_)
            refine w_end ?_
            refine seq_normal ?_
            refine w_ret ?_
            exact ret_int rfl sel_ (by rcases szN_of n with ⟨_, q⟩ | ⟨_, _, q⟩ | ⟨_, _, q⟩ | ⟨_, _, q⟩ | ⟨_, q⟩ <;> rw [q] <;> omega) k
      · refine w_u rfl rfl rfl rfl rfl rfl ?_
        refine w_u rfl rfl rfl rfl rfl rfl ?_
        refine w_o rfl rfl rfl (op_pick rfl rfl rfl ?_)
        refine w_end ?_
        refine seq_normal ?_
        refine w_condF rfl ?_
        refine w_skip ?_
        refine seq_normal ?_
        refine w_seq ?_
        refine w_seq ?_
        refine w_region ?_
        refine w_o rfl rfl rfl (op_move rfl ?_)
        refine w_o rfl rfl rfl (op_ge rfl rfl ?_)
        refine w_o rfl rfl rfl (op_move rfl ?_)
        first | refine w_known (t := 19) rfl (fun g19 => ?_) (fun g19 => ?_) | refine w_knownB (t := 19) rfl (fun g19 => ?_) (fun g19 => ?_)
        · refine w_og rfl rfl rfl rfl rfl (op_move rfl ?_)
          refine w_og rfl rfl rfl rfl rfl (op_le rfl rfl ?_)
          refine w_o rfl rfl rfl (op_pick rfl rfl rfl ?_)
          refine w_end ?_
          refine seq_normal ?_
          first | refine w_cond rfl (fun hI4 => ?_) (fun hI4 => ?_) | refine w_condB rfl (fun hI4 => ?_) (fun hI4 => ?_)
          · refine w_seq ?_
            refine w_region ?_
            refine w_o rfl rfl rfl (op_assign rfl ?_)
            refine w_end ?_
            refine seq_normal ?_
            refine w_ret ?_
            refine seq_ret ?_
            exact ret_int rfl sel_ (by rcases szN_of n with ⟨_, q⟩ | ⟨_, _, q⟩ | ⟨_, _, q⟩ | ⟨_, _, q⟩ | ⟨_, q⟩ <;> rw [q] <;> omega) k
          · refine w_skip ?_
            refine seq_normal ?_
            refine w_seq ?_
            refine w_region ?_
            refine w_o rfl rfl rfl (op_assign rfl ?_)
            refine w_end ?_
            refine seq_normal ?_
            refine w_ret ?_
            exact ret_int rfl sel_ (by rcases szN_of n with ⟨_, q⟩ | ⟨_, _, q⟩ | ⟨_, _, q⟩ | ⟨_, _, q⟩ | ⟨_, q⟩ <;> rw [q] <;> omega) k
        · refine w_u rfl rfl rfl rfl rfl rfl ?_
          refine w_u rfl rfl rfl rfl rfl rfl ?_
          refine w_o rfl rfl rfl (op_pick rfl rfl rfl ?_)
          refine w_end ?_
          refine seq_normal ?_
          refine w_condF rfl ?_
          refine w_skip ?_
          refine seq_normal ?_
          refine w_seq ?_
          refine w_region ?_
          refine w_o rfl rfl rfl (op_assign rfl ?_)
          refine w_end ?_
          refine seq_normal ?_
          refine w_ret ?_
          exact ret_int rfl sel_ (by rcases szN_of n with ⟨_, q⟩ | ⟨_, _, q⟩ | ⟨_, _, q⟩ | ⟨_, _, q⟩ | ⟨_, q⟩ <;> rw [q] <;> omega) k
theorem R02May_w {H : Hyp} {K : V → Hyp → Prop} {a c i : Nat} (k : K (vB (mayN a c i)) H) : CallW Try.prog Xs 64 [.one (.c (.int .u8 (a : Int))), .one (.c (.int .u8 (c : Int))), vI (i : Int)] H K := by
  refine call_of (n := 46) (fun _ => rfl) Try.func64 rfl rfl ?_
  refine w_seq ?_
  refine w_region ?_
  refine w_o rfl rfl rfl (op_assign rfl ?_)
  refine w_end ?_
  refine seq_normal ?_
  refine w_seq ?_
  refine w_seq ?_
  refine w_region ?_
  refine w_o rfl rfl rfl (op_move rfl ?_)
  refine w_o rfl rfl rfl (op_lt rfl rfl ?_)
  refine w_o rfl rfl rfl (op_move rfl ?_)
  first | refine w_known (t := 9) rfl (fun g9 => ?_) (fun g9 => ?_) | refine w_knownB (t := 9) rfl (fun g9 => ?_) (fun g9 => ?_)
  · refine w_u rfl rfl rfl rfl rfl rfl ?_
    refine w_u rfl rfl rfl rfl rfl rfl ?_
    refine w_o rfl rfl rfl (op_pick rfl rfl rfl ?_)
    refine w_end ?_
    refine seq_normal ?_
    refine w_condT rfl ?_
    refine w_seq ?_
    refine w_region ?_
    refine w_o rfl rfl rfl (op_assign rfl ?_)
    refine w_end ?_
    refine seq_normal ?_
    refine w_ret ?_
    refine seq_ret ?_
    exact ret_bool rfl sel_ (by rw [Bool.eq_iff_iff]; simp [mayN] <;> omega) k
  · refine w_og rfl rfl rfl rfl rfl (op_move rfl ?_)
    refine w_og rfl rfl rfl rfl rfl (op_gt rfl rfl ?_)
    refine w_o rfl rfl rfl (op_pick rfl rfl rfl ?_)
    refine w_end ?_
    refine seq_normal ?_
    first | refine w_cond rfl (fun hI1 => ?_) (fun hI1 => ?_) | refine w_condB rfl (fun hI1 => ?_) (fun hI1 => ?_)
    · refine w_seq ?_
      refine w_region ?_
      refine w_o rfl rfl rfl (op_assign rfl ?_)
      refine w_end ?_
      refine seq_normal ?_
      refine w_ret ?_
      refine seq_ret ?_
      exact ret_bool rfl sel_ (by rw [Bool.eq_iff_iff]; simp [mayN] <;> omega) k
    · refine w_skip ?_
      refine seq_normal ?_
      refine w_seq ?_
      refine w_seq ?_
      refine w_region ?_
      refine w_o rfl rfl rfl (op_move rfl ?_)
      refine w_o rfl rfl rfl (op_gt rfl rfl ?_)
      refine w_end ?_
      refine seq_normal ?_
      first | refine w_cond rfl (fun hI2 => ?_) (fun hI2 => ?_) | refine w_condB rfl (fun hI2 => ?_) (fun hI2 => ?_)
      · refine w_seq ?_
        refine w_region ?_
        refine w_o rfl rfl rfl (op_assign rfl ?_)
        refine w_end ?_
        refine seq_normal ?_
        refine w_ret ?_
        refine seq_ret ?_
        exact ret_bool rfl sel_ (by rw [Bool.eq_iff_iff]; simp [mayN] <;> omega) k
      · refine w_skip ?_
        refine seq_normal ?_
        refine w_seq ?_
        refine w_region ?_
        refine w_o rfl rfl rfl (op_move rfl ?_)
        refine w_o rfl rfl rfl (op_eq rfl rfl ?_)
        refine w_o rfl rfl rfl (op_move rfl ?_)
        first | refine w_known (t := 17) rfl (fun g17 => ?_) (fun g17 => ?_) | refine w_knownB (t := 17) rfl (fun g17 => ?_) (fun g17 => ?_)
        · refine w_og rfl rfl rfl rfl rfl (op_move rfl ?_)
          refine w_og rfl rfl rfl rfl rfl (op_lt rfl rfl ?_)
          refine w_o rfl rfl rfl (op_pick rfl rfl rfl ?_)
          refine w_o rfl rfl rfl (op_move rfl ?_)
          first | refine w_known (t := 21) rfl (fun g21 => ?_) (fun g21 => ?_) | refine w_knownB (t := 21) rfl (fun g21 => ?_) (fun g21 => ?_)
          · refine w_u rfl rfl rfl rfl rfl rfl ?_
            refine w_u rfl rfl rfl rfl rfl rfl ?_
            refine w_u rfl rfl rfl rfl rfl rfl ?_
            refine w_u rfl rfl rfl rfl rfl rfl ?_
            refine w_u rfl rfl rfl rfl rfl rfl ?_
            refine w_u rfl rfl rfl rfl rfl rfl ?_
            refine w_o rfl rfl rfl (op_pick rfl rfl rfl ?_)
            refine w_o rfl rfl rfl (op_move rfl ?_)
            refine w_u rfl rfl rfl rfl rfl rfl ?_
            refine w_u rfl rfl rfl rfl rfl rfl ?_
            refine w_u rfl rfl rfl rfl rfl rfl ?_
            refine w_u rfl rfl rfl rfl rfl rfl ?_
            refine w_u rfl rfl rfl rfl rfl rfl ?_
            refine w_u rfl rfl rfl rfl rfl rfl ?_
            refine w_o rfl rfl rfl (op_pick rfl rfl rfl ?_)
            refine w_o rfl rfl rfl (op_move rfl ?_)
            refine w_u rfl rfl rfl rfl rfl rfl ?_
            refine w_u rfl rfl rfl rfl rfl rfl ?_
            refine w_u rfl rfl rfl rfl rfl rfl ?_
            refine w_u rfl rfl rfl rfl rfl rfl ?_
            refine w_u rfl rfl rfl rfl rfl rfl ?_
            refine w_u rfl rfl rfl rfl rfl rfl ?_
            refine w_o rfl rfl rfl (op_pick rfl rfl rfl ?_)
            refine w_o rfl rfl rfl (op_not rfl ?_)
            refine w_o rfl rfl rfl (op_assign rfl ?_)
            refine w_end ?_
            refine seq_normal ?_
            refine w_ret ?_
            exact ret_bool rfl sel_ (by rw [Bool.eq_iff_iff]; simp [mayN] <;> omega) k
          · refine w_og rfl rfl rfl rfl rfl (op_move rfl ?_)
            refine w_og rfl rfl rfl rfl rfl (op_eq rfl rfl ?_)
            refine w_og rfl rfl rfl rfl rfl (op_move rfl ?_)
            first | refine w_known (t := 24) rfl (fun g24 => ?_) (fun g24 => ?_) | refine w_knownB (t := 24) rfl (fun g24 => ?_) (fun g24 => ?_)
            · refine w_og rfl rfl rfl rfl rfl (op_move rfl ?_)
              refine w_og rfl rfl rfl rfl rfl (op_gt rfl rfl ?_)
              refine w_og rfl rfl rfl rfl rfl (op_pick rfl rfl rfl ?_)
              refine w_o rfl rfl rfl (op_pick rfl rfl rfl ?_)
              refine w_o rfl rfl rfl (op_move rfl ?_)
              first | refine w_known (t := 29) rfl (fun g29 => ?_) (fun g29 => ?_) | refine w_knownB (t := 29) rfl (fun g29 => ?_) (fun g29 => ?_)
              · refine w_u rfl rfl rfl rfl rfl rfl ?_
                refine w_u rfl rfl rfl rfl rfl rfl ?_
                refine w_u rfl rfl rfl rfl rfl rfl ?_
                refine w_u rfl rfl rfl rfl rfl rfl ?_
                refine w_u rfl rfl rfl rfl rfl rfl ?_
                refine w_u rfl rfl rfl rfl rfl rfl ?_
                refine w_o rfl rfl rfl (op_pick rfl rfl rfl ?_)
                refine w_o rfl rfl rfl (op_move rfl ?_)
                refine w_u rfl rfl rfl rfl rfl rfl ?_
                refine w_u rfl rfl rfl rfl rfl rfl ?_
                refine w_u rfl rfl rfl rfl rfl rfl ?_
                refine w_u rfl rfl rfl rfl rfl rfl ?_
                refine w_u rfl rfl rfl rfl rfl rfl ?_
                refine w_u rfl rfl rfl rfl rfl rfl ?_
                refine w_o rfl rfl rfl (op_pick rfl rfl rfl ?_)
                refine w_o rfl rfl rfl (op_not rfl ?_)
                refine w_o rfl rfl rfl (op_assign rfl ?_)
                refine w_end ?_
                refine seq_normal ?_
                refine w_ret ?_
                exact ret_bool rfl sel_ (by rw [Bool.eq_iff_iff]; simp [mayN] <;> omega) k
              · refine w_og rfl rfl rfl rfl rfl (op_move rfl ?_)
                refine w_og rfl rfl rfl rfl rfl (op_eq rfl rfl ?_)
                refine w_og rfl rfl rfl rfl rfl (op_move rfl ?_)
                first | refine w_known (t := 32) rfl (fun g32 => ?_) (fun g32 => ?_) | refine w_knownB (t := 32) rfl (fun g32 => ?_) (fun g32 => ?_)
                · refine w_og rfl rfl rfl rfl rfl (op_move rfl ?_)
                  refine w_og rfl rfl rfl rfl rfl (op_lt rfl rfl ?_)
                  refine w_og rfl rfl rfl rfl rfl (op_pick rfl rfl rfl ?_)
                  refine w_o rfl rfl rfl (op_pick rfl rfl rfl ?_)
                  refine w_o rfl rfl rfl (op_move rfl ?_)
                  first | refine w_known (t := 37) rfl (fun g37 => ?_) (fun g37 => ?_) | refine w_knownB (t := 37) rfl (fun g37 => ?_) (fun g37 => ?_)
                  · refine w_u rfl rfl rfl rfl rfl rfl ?_
                    refine w_u rfl rfl rfl rfl rfl rfl ?_
                    refine w_u rfl rfl rfl rfl rfl rfl ?_
                    refine w_u rfl rfl rfl rfl rfl rfl ?_
                    refine w_u rfl rfl rfl rfl rfl rfl ?_
                    refine w_u rfl rfl rfl rfl rfl rfl ?_
                    refine w_o rfl rfl rfl (op_pick rfl rfl rfl ?_)
                    refine w_o rfl rfl rfl (op_not rfl ?_)
                    refine w_o rfl rfl rfl (op_assign rfl ?_)
                    refine w_end ?_
                    refine seq_normal ?_
                    refine w_ret ?_
                    exact ret_bool rfl sel_ (by rw [Bool.eq_iff_iff]; simp [mayN] <;> omega) k
                  · refine w_og rfl rfl rfl rfl rfl (op_move rfl ?_)
                    refine w_og rfl rfl rfl rfl rfl (op_eq rfl rfl ?_)
                    refine w_og rfl rfl rfl rfl rfl (op_move rfl ?_)
                    first | refine w_known (t := 40) rfl (fun g40 => ?_) (fun g40 => ?_) | refine w_knownB (t := 40) rfl (fun g40 => ?_) (fun g40 => ?_)
                    · refine w_og rfl rfl rfl rfl rfl (op_move rfl ?_)
                      refine w_og rfl rfl rfl rfl rfl (op_gt rfl rfl ?_)
                      refine w_og rfl rfl rfl rfl rfl (op_pick rfl rfl rfl ?_)
                      refine w_o rfl rfl rfl (op_pick rfl rfl rfl ?_)
                      refine w_o rfl rfl rfl (op_not rfl ?_)
                      refine w_o rfl rfl rfl (op_assign rfl ?_)
                      refine w_end ?_
                      refine seq_normal ?_
                      refine w_ret ?_
                      exact ret_bool rfl sel_ (by rw [Bool.eq_iff_iff]; simp [mayN] <;> omega) k
                    · refine w_u rfl rfl rfl rfl rfl rfl ?_
                      refine w_u rfl rfl rfl rfl rfl rfl ?_
                      refine w_og rfl rfl rfl rfl rfl (op_pick rfl rfl rfl ?_)
                      refine w_o rfl rfl rfl (op_pick rfl rfl rfl ?_)
                      refine w_o rfl rfl rfl (op_not rfl ?_)
                      refine w_o rfl rfl rfl (op_assign rfl ?_)
                      refine w_end ?_
                      refine seq_normal ?_
                      refine w_ret ?_
                      exact ret_bool rfl sel_ (by rw [Bool.eq_iff_iff]; simp [mayN] <;> omega) k
                · refine w_u rfl rfl rfl rfl rfl rfl ?_
                  refine w_u rfl rfl rfl rfl rfl rfl ?_
                  refine w_og rfl rfl rfl rfl rfl (op_pick rfl rfl rfl ?_)
                  refine w_o rfl rfl rfl (op_pick rfl rfl rfl ?_)
                  refine w_o rfl rfl rfl (op_move rfl ?_)
                  refine w_og rfl rfl rfl rfl rfl (op_move rfl ?_)
                  refine w_og rfl rfl rfl rfl rfl (op_eq rfl rfl ?_)
                  refine w_og rfl rfl rfl rfl rfl (op_move rfl ?_)
                  first | refine w_known (t := 40) rfl (fun g40 => ?_) (fun g40 => ?_) | refine w_knownB (t := 40) rfl (fun g40 => ?_) (fun g40 => ?_)
                  · refine w_og rfl rfl rfl rfl rfl (op_move rfl ?_)
                    refine w_og rfl rfl rfl rfl rfl (op_gt rfl rfl ?_)
                    refine w_og rfl rfl rfl rfl rfl (op_pick rfl rfl rfl ?_)
                    refine w_o rfl rfl rfl (op_pick rfl rfl rfl ?_)
                    refine w_o rfl rfl rfl (op_not rfl ?_)
                    refine w_o rfl rfl rfl (op_assign rfl ?_)
                    refine w_end ?_
                    refine seq_normal ?_
                    refine w_ret ?_
                    exact ret_bool rfl sel_ (by rw [Bool.eq_iff_iff]; simp [mayN] <;> omega) k
                  · refine w_u rfl rfl rfl rfl rfl rfl ?_
                    refine w_u rfl rfl rfl rfl rfl rfl ?_
                    refine w_og rfl rfl rfl rfl rfl (op_pick rfl rfl rfl ?_)
                    refine w_o rfl rfl rfl (op_pick rfl rfl rfl ?_)
                    refine w_o rfl rfl rfl (op_not rfl ?_)
                    refine w_o rfl rfl rfl (op_assign rfl ?_)
                    refine w_end ?_
                    refine seq_normal ?_
                    refine w_ret ?_
                    exact ret_bool rfl sel_ (by rw [Bool.eq_iff_iff]; simp [mayN] <;> omega) k
            · refine w_u rfl rfl rfl rfl rfl rfl ?_
              refine w_u rfl rfl rfl rfl rfl rfl ?_
              refine w_og rfl rfl rfl rfl rfl (op_pick rfl rfl rfl ?_)
              refine w_o rfl rfl rfl (op_pick rfl rfl rfl ?_)
              refine w_o rfl rfl rfl (op_move rfl ?_)
              refine w_og rfl rfl rfl rfl rfl (op_move rfl ?_)
              refine w_og rfl rfl rfl rfl rfl (op_eq rfl rfl ?_)
              refine w_og rfl rfl rfl rfl rfl (op_move rfl ?_)
              first | refine w_known (t := 32) rfl (fun g32 => ?_) (fun g32 => ?_) | refine w_knownB (t := 32) rfl (fun g32 => ?_) (fun g32 => ?_)
              · refine w_og rfl rfl rfl rfl rfl (op_move rfl ?_)
                refine w_og rfl rfl rfl rfl rfl (op_lt rfl rfl ?_)
                refine w_og rfl rfl rfl rfl rfl (op_pick rfl rfl rfl ?_)
                refine w_o rfl rfl rfl (op_pick rfl rfl rfl ?_)
                refine w_o rfl rfl rfl (op_move rfl ?_)
                first | refine w_known (t := 37) rfl (fun g37 => ?_) (fun g37 => ?_) | refine w_knownB (t := 37) rfl (fun g37 => ?_) (fun g37 => ?_)
                · refine w_u rfl rfl rfl rfl rfl rfl ?_
                  refine w_u rfl rfl rfl rfl rfl rfl ?_
                  refine w_u rfl rfl rfl rfl rfl rfl ?_
                  refine w_u rfl rfl rfl rfl rfl rfl ?_
                  refine w_u rfl rfl rfl rfl rfl rfl ?_
                  refine w_u rfl rfl rfl rfl rfl rfl ?_
                  refine w_o rfl rfl rfl (op_pick rfl rfl rfl ?_)
                  refine w_o rfl rfl rfl (op_not rfl ?_)
                  refine w_o rfl rfl rfl (op_assign rfl ?_)
                  refine w_end ?_
                  refine seq_normal ?_
                  refine w_ret ?_
                  exact ret_bool rfl sel_ (by rw [Bool.eq_iff_iff]; simp [mayN] <;> omega) k
                · refine w_og rfl rfl rfl rfl rfl (op_move rfl ?_)
                  refine w_og rfl rfl rfl rfl rfl (op_eq rfl rfl ?_)
                  refine w_og rfl rfl rfl rfl rfl (op_move rfl ?_)
                  first | refine w_known (t := 40) rfl (fun g40 => ?_) (fun g40 => ?_) | refine w_knownB (t := 40) rfl (fun g40 => ?_) (fun g40 => ?_)
                  · refine w_og rfl rfl rfl rfl rfl (op_move rfl ?_)
                    refine w_og rfl rfl rfl rfl rfl (op_gt rfl rfl ?_)
                    refine w_og rfl rfl rfl rfl rfl (op_pick rfl rfl rfl ?_)
                    refine w_o rfl rfl rfl (op_pick rfl rfl rfl ?_)
                    refine w_o rfl rfl rfl (op_not rfl ?_)
                    refine w_o rfl rfl rfl (op_assign rfl ?_)
                    refine w_end ?_
                    refine seq_normal ?_
                    refine w_ret ?_
                    exact ret_bool rfl sel_ (by rw [Bool.eq_iff_iff]; simp [mayN] <;> omega) k
                  · refine w_u rfl rfl rfl rfl rfl rfl ?_
                    refine w_u rfl rfl rfl rfl rfl rfl ?_
                    refine w_og rfl rfl rfl rfl rfl (op_pick rfl rfl rfl ?_)
                    refine w_o rfl rfl rfl (op_pick rfl rfl rfl ?_)
                    refine w_o rfl rfl rfl (op_not rfl ?_)
                    refine w_o rfl rfl rfl (op_assign rfl ?_)
                    refine w_end ?_
                    refine seq_normal ?_
                    refine w_ret ?_
                    exact ret_bool rfl sel_ (by rw [Bool.eq_iff_iff]; simp [mayN] <;> omega) k
              · refine w_u rfl rfl rfl rfl rfl rfl ?_
                refine w_u rfl rfl rfl rfl rfl rfl ?_
                refine w_og rfl rfl rfl rfl rfl (op_pick rfl rfl rfl ?_)
                refine w_o rfl rfl rfl (op_pick rfl rfl rfl ?_)
                refine w_o rfl rfl rfl (op_move rfl ?_)
                refine w_og rfl rfl rfl rfl rfl (op_move rfl ?_)
                refine w_og rfl rfl rfl rfl rfl (op_eq rfl rfl ?_)
                refine w_og rfl rfl rfl rfl rfl (op_move rfl ?_)
                first | refine w_known (t := 40) rfl (fun g40 => ?_) (fun g40 => ?_) | refine w_knownB (t := 40) rfl (fun g40 => ?_) (fun g40 => ?_)
                · refine w_og rfl rfl rfl rfl rfl (op_move rfl ?_)
                  refine w_og rfl rfl rfl rfl rfl (op_gt rfl rfl ?_)
                  refine w_og rfl rfl rfl rfl rfl (op_pick rfl rfl rfl ?_)
                  refine w_o rfl rfl rfl (op_pick rfl rfl rfl ?_)
                  refine w_o rfl rfl rfl (op_not rfl ?_)
                  refine w_o rfl rfl rfl (op_assign rfl ?_)
                  refine w_end ?_
                  refine seq_normal ?_
                  refine w_ret ?_
                  exact ret_bool rfl sel_ (by rw [Bool.eq_iff_iff]; simp [mayN] <;> omega) k
                · refine w_u rfl rfl rfl rfl rfl rfl ?_
                  refine w_u rfl rfl rfl rfl rfl rfl ?_
                  refine w_og rfl rfl rfl rfl rfl (op_pick rfl rfl rfl ?_)
                  refine w_o rfl rfl rfl (op_pick rfl rfl rfl ?_)
                  refine w_o rfl rfl rfl (op_not rfl ?_)
                  refine w_o rfl rfl rfl (op_assign rfl ?_)
                  refine w_end ?_
                  refine seq_normal ?_
                  refine w_ret ?_
                  exact ret_bool rfl sel_ (by rw [Bool.eq_iff_iff]; simp [mayN] <;> omega) k
        · refine w_u rfl rfl rfl rfl rfl rfl ?_
          refine w_u rfl rfl rfl rfl rfl rfl ?_
          refine w_o rfl rfl rfl (op_pick rfl rfl rfl ?_)
          refine w_o rfl rfl rfl (op_move rfl ?_)
          refine w_og rfl rfl rfl rfl rfl (op_move rfl ?_)
          refine w_og rfl rfl rfl rfl rfl (op_eq rfl rfl ?_)
          refine w_og rfl rfl rfl rfl rfl (op_move rfl ?_)
          first | refine w_known (t := 24) rfl (fun g24 => ?_) (fun g24 => ?_) | refine w_knownB (t := 24) rfl (fun g24 => ?_) (fun g24 => ?_)
          · refine w_og rfl rfl rfl rfl rfl (op_move rfl ?_)
            refine w_og rfl rfl rfl rfl rfl (op_gt rfl rfl ?_)
            refine w_og rfl rfl rfl rfl rfl (op_pick rfl rfl rfl ?_)
            refine w_o rfl rfl rfl (op_pick rfl rfl rfl ?_)
            refine w_o rfl rfl rfl (op_move rfl ?_)
            first | refine w_known (t := 29) rfl (fun g29 => ?_) (fun g29 => ?_) | refine w_knownB (t := 29) rfl (fun g29 => ?_) (fun g29 => ?_)
            · refine w_u rfl rfl rfl rfl rfl rfl ?_
              refine w_u rfl rfl rfl rfl rfl rfl ?_
              refine w_u rfl rfl rfl rfl rfl rfl ?_
              refine w_u rfl rfl rfl rfl rfl rfl ?_
              refine w_u rfl rfl rfl rfl rfl rfl ?_
              refine w_u rfl rfl rfl rfl rfl rfl ?_
              refine w_o rfl rfl rfl (op_pick rfl rfl rfl ?_)
              refine w_o rfl rfl rfl (op_move rfl ?_)
              refine w_u rfl rfl rfl rfl rfl rfl ?_
              refine w_u rfl rfl rfl rfl rfl rfl ?_
              refine w_u rfl rfl rfl rfl rfl rfl ?_
              refine w_u rfl rfl rfl rfl rfl rfl ?_
              refine w_u rfl rfl rfl rfl rfl rfl ?_
              refine w_u rfl rfl rfl rfl rfl rfl ?_
              refine w_o rfl rfl rfl (op_pick rfl rfl rfl ?_)
              refine w_o rfl rfl rfl (op_not rfl ?_)
              refine w_o rfl rfl rfl (op_assign rfl ?_)
              refine w_end ?_
              refine seq_normal ?_
              refine w_ret ?_
              exact ret_bool rfl sel_ (by rw [Bool.eq_iff_iff]; simp [mayN] <;> omega) k
            · refine w_og rfl rfl rfl rfl rfl (op_move rfl ?_)
              refine w_og rfl rfl rfl rfl rfl (op_eq rfl rfl ?_)
              refine w_og rfl rfl rfl rfl rfl (op_move rfl ?_)
              first | refine w_known (t := 32) rfl (fun g32 => ?_) (fun g32 => ?_) | refine w_knownB (t := 32) rfl (fun g32 => ?_) (fun g32 => ?_)
              · refine w_og rfl rfl rfl rfl rfl (op_move rfl ?_)
                refine w_og rfl rfl rfl rfl rfl (op_lt rfl rfl ?_)
                refine w_og rfl rfl rfl rfl rfl (op_pick rfl rfl rfl ?_)
                refine w_o rfl rfl rfl (op_pick rfl rfl rfl ?_)
                refine w_o rfl rfl rfl (op_move rfl ?_)
                first | refine w_known (t := 37) rfl (fun g37 => ?_) (fun g37 => ?_) | refine w_knownB (t := 37) rfl (fun g37 => ?_) (fun g37 => ?_)
                · refine w_u rfl rfl rfl rfl rfl rfl ?_
                  refine w_u rfl rfl rfl rfl rfl rfl ?_
                  refine w_u rfl rfl rfl rfl rfl rfl ?_
                  refine w_u rfl rfl rfl rfl rfl rfl ?_
                  refine w_u rfl rfl rfl rfl rfl rfl ?_
                  refine w_u rfl rfl rfl rfl rfl rfl ?_
                  refine w_o rfl rfl rfl (op_pick rfl rfl rfl ?_)
                  refine w_o rfl rfl rfl (op_not rfl ?_)
                  refine w_o rfl rfl rfl (op_assign rfl ?_)
                  refine w_end ?_
                  refine seq_normal ?_
                  refine w_ret ?_
                  exact ret_bool rfl sel_ (by rw [Bool.eq_iff_iff]; simp [mayN] <;> omega) k
                · refine w_og rfl rfl rfl rfl rfl (op_move rfl ?_)
                  refine w_og rfl rfl rfl rfl rfl (op_eq rfl rfl ?_)
                  refine w_og rfl rfl rfl rfl rfl (op_move rfl ?_)
                  first | refine w_known (t := 40) rfl (fun g40 => ?_) (fun g40 => ?_) | refine w_knownB (t := 40) rfl (fun g40 => ?_) (fun g40 => ?_)
                  · refine w_og rfl rfl rfl rfl rfl (op_move rfl ?_)
                    refine w_og rfl rfl rfl rfl rfl (op_gt rfl rfl ?_)
                    refine w_og rfl rfl rfl rfl rfl (op_pick rfl rfl rfl ?_)
                    refine w_o rfl rfl rfl (op_pick rfl rfl rfl ?_)
                    refine w_o rfl rfl rfl (op_not rfl ?_)
                    refine w_o rfl rfl rfl (op_assign rfl ?_)
                    refine w_end ?_
                    refine seq_normal ?_
                    refine w_ret ?_
                    exact ret_bool rfl sel_ (by rw [Bool.eq_iff_iff]; simp [mayN] <;> omega) k
                  · refine w_u rfl rfl rfl rfl rfl rfl ?_
                    refine w_u rfl rfl rfl rfl rfl rfl ?_
                    refine w_og rfl rfl rfl rfl rfl (op_pick rfl rfl rfl ?_)
                    refine w_o rfl rfl rfl (op_pick rfl rfl rfl ?_)
                    refine w_o rfl rfl rfl (op_not rfl ?_)
                    refine w_o rfl rfl rfl (op_assign rfl ?_)
                    refine w_end ?_
                    refine seq_normal ?_
                    refine w_ret ?_
                    exact ret_bool rfl sel_ (by rw [Bool.eq_iff_iff]; simp [mayN] <;> omega) k
              · refine w_u rfl rfl rfl rfl rfl rfl ?_
                refine w_u rfl rfl rfl rfl rfl rfl ?_
                refine w_og rfl rfl rfl rfl rfl (op_pick rfl rfl rfl ?_)
                refine w_o rfl rfl rfl (op_pick rfl rfl rfl ?_)
                refine w_o rfl rfl rfl (op_move rfl ?_)
                refine w_og rfl rfl rfl rfl rfl (op_move rfl ?_)
                refine w_og rfl rfl rfl rfl rfl (op_eq rfl rfl ?_)
                refine w_og rfl rfl rfl rfl rfl (op_move rfl ?_)
                first | refine w_known (t := 40) rfl (fun g40 => ?_) (fun g40 => ?_) | refine w_knownB (t := 40) rfl (fun g40 => ?_) (fun g40 => ?_)
                · refine w_og rfl rfl rfl rfl rfl (op_move rfl ?_)
                  refine w_og rfl rfl rfl rfl rfl (op_gt rfl rfl ?_)
                  refine w_og rfl rfl rfl rfl rfl (op_pick rfl rfl rfl ?_)
                  refine w_o rfl rfl rfl (op_pick rfl rfl rfl ?_)
                  refine w_o rfl rfl rfl (op_not rfl ?_)
                  refine w_o rfl rfl rfl (op_assign rfl ?_)
                  refine w_end ?_
                  refine seq_normal ?_
                  refine w_ret ?_
                  exact ret_bool rfl sel_ (by rw [Bool.eq_iff_iff]; simp [mayN] <;> omega) k
                · refine w_u rfl rfl rfl rfl rfl rfl ?_
                  refine w_u rfl rfl rfl rfl rfl rfl ?_
                  refine w_og rfl rfl rfl rfl rfl (op_pick rfl rfl rfl ?_)
                  refine w_o rfl rfl rfl (op_pick rfl rfl rfl ?_)
                  refine w_o rfl rfl rfl (op_not rfl ?_)
                  refine w_o rfl rfl rfl (op_assign rfl ?_)
                  refine w_end ?_
                  refine seq_normal ?_
                  refine w_ret ?_
                  exact ret_bool rfl sel_ (by rw [Bool.eq_iff_iff]; simp [mayN] <;> omega) k
          · refine w_u rfl rfl rfl rfl rfl rfl ?_
            refine w_u rfl rfl rfl rfl rfl rfl ?_
            refine w_og rfl rfl rfl rfl rfl (op_pick rfl rfl rfl ?_)
            refine w_o rfl rfl rfl (op_pick rfl rfl rfl ?_)
            refine w_o rfl rfl rfl (op_move rfl ?_)
            refine w_og rfl rfl rfl rfl rfl (op_move rfl ?_)
            refine w_og rfl rfl rfl rfl rfl (op_eq rfl rfl ?_)
            refine w_og rfl rfl rfl rfl rfl (op_move rfl ?_)
            first | refine w_known (t := 32) rfl (fun g32 => ?_) (fun g32 => ?_) | refine w_knownB (t := 32) rfl (fun g32 => ?_) (fun g32 => ?_)
            · refine w_og rfl rfl rfl rfl rfl (op_move rfl ?_)
              refine w_og rfl rfl rfl rfl rfl (op_lt rfl rfl ?_)
              refine w_og rfl rfl rfl rfl rfl (op_pick rfl rfl rfl ?_)
              refine w_o rfl rfl rfl (op_pick rfl rfl rfl ?_)
              refine w_o rfl rfl rfl (op_move rfl ?_)
              first | refine w_known (t := 37) rfl (fun g37 => ?_) (fun g37 => ?_) | refine w_knownB (t := 37) rfl (fun g37 => ?_) (fun g37 => ?_)
              · refine w_u rfl rfl rfl rfl rfl rfl ?_
                refine w_u rfl rfl rfl rfl rfl rfl ?_
                refine w_u rfl rfl rfl rfl rfl rfl ?_
                refine w_u rfl rfl rfl rfl rfl rfl ?_
                refine w_u rfl rfl rfl rfl rfl rfl ?_
                refine w_u rfl rfl rfl rfl rfl rfl ?_
                refine w_o rfl rfl rfl (op_pick rfl rfl rfl ?_)
                refine w_o rfl rfl rfl (op_not rfl ?_)
                refine w_o rfl rfl rfl (op_assign rfl ?_)
                refine w_end ?_
                refine seq_normal ?_
                refine w_ret ?_
                exact ret_bool rfl sel_ (by rw [Bool.eq_iff_iff]; simp [mayN] <;> omega) k
              · refine w_og rfl rfl rfl rfl rfl (op_move rfl ?_)
                refine w_og rfl rfl rfl rfl rfl (op_eq rfl rfl ?_)
                refine w_og rfl rfl rfl rfl rfl (op_move rfl ?_)
                first | refine w_known (t := 40) rfl (fun g40 => ?_) (fun g40 => ?_) | refine w_knownB (t := 40) rfl (fun g40 => ?_) (fun g40 => ?_)
                · refine w_og rfl rfl rfl rfl rfl (op_move rfl ?_)
                  refine w_og rfl rfl rfl rfl rfl (op_gt rfl rfl ?_)
                  refine w_og rfl rfl rfl rfl rfl (op_pick rfl rfl rfl ?_)
                  refine w_o rfl rfl rfl (op_pick rfl rfl rfl ?_)
                  refine w_o rfl rfl rfl (op_not rfl ?_)
                  refine w_o rfl rfl rfl (op_assign rfl ?_)
                  refine w_end ?_
                  refine seq_normal ?_
                  refine w_ret ?_
                  exact ret_bool rfl sel_ (by rw [Bool.eq_iff_iff]; simp [mayN] <;> omega) k
                · refine w_u rfl rfl rfl rfl rfl rfl ?_
                  refine w_u rfl rfl rfl rfl rfl rfl ?_
                  refine w_og rfl rfl rfl rfl rfl (op_pick rfl rfl rfl ?_)
                  refine w_o rfl rfl rfl (op_pick rfl rfl rfl ?_)
                  refine w_o rfl rfl rfl (op_not rfl ?_)
                  refine w_o rfl rfl rfl (op_assign rfl ?_)
                  refine w_end ?_
                  refine seq_normal ?_
                  refine w_ret ?_
                  exact ret_bool rfl sel_ (by rw [Bool.eq_iff_iff]; simp [mayN] <;> omega) k
            · refine w_u rfl rfl rfl rfl rfl rfl ?_
              refine w_u rfl rfl rfl rfl rfl rfl ?_
              refine w_og rfl rfl rfl rfl rfl (op_pick rfl rfl rfl ?_)
              refine w_o rfl rfl rfl (op_pick rfl rfl rfl ?_)
              refine w_o rfl rfl rfl (op_move rfl ?_)
              refine w_og rfl rfl rfl rfl rfl (op_move rfl ?_)
              refine w_og rfl rfl rfl rfl rfl (op_eq rfl rfl ?_)
              refine w_og rfl rfl rfl rfl rfl (op_move rfl ?_)
              first | refine w_known (t := 40) rfl (fun g40 => ?_) (fun g40 => ?_) | refine w_knownB (t := 40) rfl (fun g40 => ?_) (fun g40 => ?_)
              · refine w_og rfl rfl rfl rfl rfl (op_move rfl ?_)
                refine w_og rfl rfl rfl rfl rfl (op_gt rfl rfl ?_)
                refine w_og rfl rfl rfl rfl rfl (op_pick rfl rfl rfl ?_)
                refine w_o rfl rfl rfl (op_pick rfl rfl rfl ?_)
                refine w_o rfl rfl rfl (op_not rfl ?_)
                refine w_o rfl rfl rfl (op_assign rfl ?_)
                refine w_end ?_
                refine seq_normal ?_
                refine w_ret ?_
                exact ret_bool rfl sel_ (by rw [Bool.eq_iff_iff]; simp [mayN] <;> omega) k
              · refine w_u rfl rfl rfl rfl rfl rfl ?_
                refine w_u rfl rfl rfl rfl rfl rfl ?_
                refine w_og rfl rfl rfl rfl rfl (op_pick rfl rfl rfl ?_)
                refine w_o rfl rfl rfl (op_pick rfl rfl rfl ?_)
                refine w_o rfl rfl rfl (op_not rfl ?_)
                refine w_o rfl rfl rfl (op_assign rfl ?_)
                refine w_end ?_
                refine seq_normal ?_
                refine w_ret ?_
                exact ret_bool rfl sel_ (by rw [Bool.eq_iff_iff]; simp [mayN] <;> omega) k
def okL (l : List UInt8) (j : Nat) : Prop := j < szN (bAt l 0) ∧ j < l.length ∧ mayN (bAt l 0) (bAt l j) j = true
theorem szN_le (b : Nat) : szN b ≤ 4 := by rcases szN_of b with ⟨_, q⟩ | ⟨_, _, q⟩ | ⟨_, _, q⟩ | ⟨_, _, q⟩ | ⟨_, q⟩ <;> omega
theorem beg_at {l : List UInt8} {i : Nat} (h1 : 1 ≤ i) (h4 : i ≤ 4) (h : ∀ j, 1 ≤ j → j < i → okL l j) (hn : ¬ okL l i) : begL l = i := by
  have hz := szN_le (bAt l 0)
  unfold okL at h hn
  unfold begL begN
  obtain rfl | rfl | rfl | rfl : i = 1 ∨ i = 2 ∨ i = 3 ∨ i = 4 := by omega
  · rw [if_neg hn]
  · rw [if_pos (h 1 (by omega) (by omega)), if_neg hn]
  · rw [if_pos (h 1 (by omega) (by omega)), if_pos (h 2 (by omega) (by omega)), if_neg hn]
  · rw [if_pos (h 1 (by omega) (by omega)), if_pos (h 2 (by omega) (by omega)), if_pos (h 3 (by omega) (by omega))]
theorem R02Begins_w {H : Hyp} {K : V → Hyp → Prop} {s : ByteArray} (h0 : 0 < s.size) (hs : s.size ≤ 1000000) (k : K (vI (begL (bl s) : Nat)) H) : CallW Try.prog Xs 50 [vS s] H K := by
  have hz := szN_le (bAt (bl s) 0)
  have hsz : (bl s).length = s.size := rfl
  refine call_of (n := 27) (fun _ => rfl) Try.func50 rfl rfl ?_
  refine w_seq ?_
  refine w_region ?_
  refine w_o rfl rfl rfl (op_assign rfl ?_)
  refine w_end ?_
  refine seq_normal ?_
  refine w_seq ?_
  refine w_region ?_
  refine w_o rfl rfl rfl (op_assign rfl ?_)
  refine w_end ?_
  refine seq_normal ?_
  refine w_seq ?_
  refine w_block ?_
  refine w_loop (fun m e H' => ∃ (i : Nat), 1 ≤ i ∧ i ≤ 4 ∧ (∀ j, 1 ≤ j → j < i → okL (bl s) j) ∧ m = 5 - i ∧ H = H' ∧ e = [(0, vS s), (3, vI (i : Nat))]) ?_ ?_
  · exact ⟨_, _, _, ⟨1, Nat.le_refl _, by decide, fun j h1 h2 => by omega, rfl, rfl, rfl⟩, env_, sel_⟩
  · rintro m e H' ⟨i, h1, h4, hok, rfl, rfl, rfl⟩
    refine w_seq ?_
    refine w_seq ?_
    refine w_draw (by decide +kernel) (by decide +kernel) ?_
    refine w_d rfl rfl rfl (op_move rfl ?_)
    refine w_d rfl rfl rfl (op_move rfl ?_)
    refine w_d rfl rfl rfl (op_indexS und_9 rfl rfl (by omega) (by omega) ?_)
    refine w_d rfl rfl rfl (op_call rfl rfl rfl ?_)
    refine R02Size_w (n := bAt (bl s) 0) ?_
    refine w_d rfl rfl rfl (op_lt rfl rfl ?_)
    refine w_d rfl rfl rfl (op_move rfl ?_)
    first | refine w_known (t := 9) rfl (fun g9 => ?_) (fun g9 => ?_) | refine w_knownB (t := 9) rfl (fun g9 => ?_) (fun g9 => ?_)
    · refine w_dg rfl rfl rfl rfl rfl (op_move rfl ?_)
      refine w_dg rfl rfl rfl rfl rfl (op_move rfl ?_)
      refine w_dg rfl rfl rfl rfl rfl (op_lenS und_9 rfl ?_)
      refine w_dg rfl rfl rfl rfl rfl (op_lt rfl rfl ?_)
      refine w_d rfl rfl rfl (op_pick rfl rfl rfl ?_)
      refine w_d rfl rfl rfl (op_move rfl ?_)
      first | refine w_known (t := 15) rfl (fun g15 => ?_) (fun g15 => ?_) | refine w_knownB (t := 15) rfl (fun g15 => ?_) (fun g15 => ?_)
      · refine w_dg rfl rfl rfl rfl rfl (op_move rfl ?_)
        refine w_dg rfl rfl rfl rfl rfl (op_indexS und_9 rfl rfl (by omega) (by omega) ?_)
        refine w_dg rfl rfl rfl rfl rfl (op_move rfl ?_)
        refine w_dg rfl rfl rfl rfl rfl (op_move rfl ?_)
        refine w_dg rfl rfl rfl rfl rfl (op_indexS und_9 rfl rfl (by omega) (by omega) ?_)
        refine w_dg rfl rfl rfl rfl rfl (op_move rfl ?_)
        refine w_dg rfl rfl rfl rfl rfl (op_call rfl rfl rfl ?_)
        refine R02May_w (a := bAt (bl s) 0) (c := bAt (bl s) i) (i := i) ?_
        refine w_d rfl rfl rfl (op_pick rfl rfl rfl ?_)
        refine w_end ?_
        refine seq_normal ?_
        first | refine w_cond rfl (fun hI1 => ?_) (fun hI1 => ?_) | refine w_condB rfl (fun hI1 => ?_) (fun hI1 => ?_)
        · refine w_skip ?_
          refine seq_normal ?_
          refine w_block ?_
          refine w_region ?_
          refine w_o rfl rfl rfl (op_move rfl ?_)
          refine w_o rfl rfl rfl (op_addi rfl rfl (by omega) (by omega) ?_)
          refine w_o rfl rfl rfl (op_assign rfl ?_)
          refine w_end ?_
          refine block_normal ?_
          have ho : okL (bl s) i := ⟨by omega, by omega, decide_eq_true hI1⟩
          refine loop_normal (k' := 5 - (i + 1)) (by omega) ⟨i + 1, by omega, by omega, fun j q1 q2 => ?_, rfl, rfl, rfl⟩ env_ sel_
          rcases Nat.lt_or_ge j i with q | q
          · exact hok j q1 q
          · obtain rfl : j = i := by omega
            exact ho
        · refine w_exit ?_
          refine seq_exit ?_
          refine loop_exit ?_
          refine block_hit rfl ?_
          refine seq_normal ?_
          refine w_seq ?_
          refine w_region ?_
          refine w_o rfl rfl rfl (op_move rfl ?_)
          refine w_o rfl rfl rfl (op_assign rfl ?_)
          refine w_end ?_
          refine seq_normal ?_
          refine w_ret ?_
          have hb : begL (bl s) = i := beg_at h1 h4 hok (fun q => by first | exact absurd q.1 (by omega) | exact absurd q.2.1 (by omega) | exact hI1 (of_decide_eq_true q.2.2))
          rw [hb] at k
          exact ret_ret rfl sel_ k
      · refine w_u rfl rfl rfl rfl rfl rfl ?_
        refine w_u rfl rfl rfl rfl rfl rfl ?_
        refine w_u rfl rfl rfl rfl rfl rfl ?_
        refine w_u rfl rfl rfl rfl rfl rfl ?_
        refine w_u rfl rfl rfl rfl rfl rfl ?_
        refine w_u rfl rfl rfl rfl rfl rfl ?_
        refine w_u rfl rfl rfl rfl rfl rfl ?_
        refine w_d rfl rfl rfl (op_pick rfl rfl rfl ?_)
        refine w_end ?_
        refine seq_normal ?_
        refine w_condF rfl ?_
        refine w_exit ?_
        refine seq_exit ?_
        refine loop_exit ?_
        refine block_hit rfl ?_
        refine seq_normal ?_
        refine w_seq ?_
        refine w_region ?_
        refine w_o rfl rfl rfl (op_move rfl ?_)
        refine w_o rfl rfl rfl (op_assign rfl ?_)
        refine w_end ?_
        refine seq_normal ?_
        refine w_ret ?_
        have hb : begL (bl s) = i := beg_at h1 h4 hok (fun q => by first | exact absurd q.1 (by omega) | exact absurd q.2.1 (by omega) | exact hI1 (of_decide_eq_true q.2.2))
        rw [hb] at k
        exact ret_ret rfl sel_ k
    · refine w_u rfl rfl rfl rfl rfl rfl ?_
      refine w_u rfl rfl rfl rfl rfl rfl ?_
      refine w_u rfl rfl rfl rfl rfl rfl ?_
      refine w_u rfl rfl rfl rfl rfl rfl ?_
      refine w_d rfl rfl rfl (op_pick rfl rfl rfl ?_)
      refine w_d rfl rfl rfl (op_move rfl ?_)
      refine w_u rfl rfl rfl rfl rfl rfl ?_
      refine w_u rfl rfl rfl rfl rfl rfl ?_
      refine w_u rfl rfl rfl rfl rfl rfl ?_
      refine w_u rfl rfl rfl rfl rfl rfl ?_
      refine w_u rfl rfl rfl rfl rfl rfl ?_
      refine w_u rfl rfl rfl rfl rfl rfl ?_
      refine w_u rfl rfl rfl rfl rfl rfl ?_
      refine w_d rfl rfl rfl (op_pick rfl rfl rfl ?_)
      refine w_end ?_
      refine seq_normal ?_
      refine w_condF rfl ?_
      refine w_exit ?_
      refine seq_exit ?_
      refine loop_exit ?_
      refine block_hit rfl ?_
      refine seq_normal ?_
      refine w_seq ?_
      refine w_region ?_
      refine w_o rfl rfl rfl (op_move rfl ?_)
      refine w_o rfl rfl rfl (op_assign rfl ?_)
      refine w_end ?_
      refine seq_normal ?_
      refine w_ret ?_
      have hb : begL (bl s) = i := beg_at h1 h4 hok (fun q => by first | exact absurd q.1 (by omega) | exact absurd q.2.1 (by omega) | exact hI1 (of_decide_eq_true q.2.2))
      rw [hb] at k
      exact ret_ret rfl sel_ k
def pvL (l : List UInt8) (v0 : Int) : Nat → Int
  | 0 => v0
  | i + 1 => pvL l v0 i * 64 + bAt l (i + 1) - 128
theorem pv_bnd (l : List UInt8) (v0 : Int) (h0 : -1000 ≤ v0) (h1 : v0 ≤ 1000) : ∀ j, j ≤ 3 → -1000000000 ≤ pvL l v0 j ∧ pvL l v0 j ≤ 1000000000 := by
  intro j hj
  have b1 := bAt_lt l 1
  have b2 := bAt_lt l 2
  have b3 := bAt_lt l 3
  obtain rfl | rfl | rfl | rfl : j = 0 ∨ j = 1 ∨ j = 2 ∨ j = 3 := by omega
  all_goals simp only [pvL, Nat.reduceAdd]; omega
theorem one_bad {l : List UInt8} (h : ¬ begL l = szN (bAt l 0)) : oneL l = (1114112 + bAt l 0, 1) := by
  have h' : begN l.length (bAt l 0) (bAt l 1) (bAt l 2) (bAt l 3) ≠ szN (bAt l 0) := h
  unfold oneL oneN; rw [if_pos h']
theorem one_pv {l : List UInt8} (h : begL l = szN (bAt l 0)) {v0 : Int} (e2 : begL l = 2 → v0 = bAt l 0 - 192) (e3 : begL l = 3 → v0 = bAt l 0 - 224) (e4 : begL l = 4 → v0 = bAt l 0 - 240) (e1 : begL l = 1 → v0 = bAt l 0) : ((oneL l).1 : Int) = pvL l v0 (begL l - 1) ∧ (oneL l).2 = begL l := by
  have hs : (b : Nat) → _ := szN_of
  unfold oneL
  rcases one_ok h with ⟨q, e⟩ | ⟨q, q1, q2, r1, r2, e⟩ | ⟨q, q1, q2, r1, r2, r3, r4, r5, e⟩ | ⟨q, q1, q2, r1, r2, r3, r4, r5, r6, r7, e⟩
  · have z : begL l = 1 := by rw [h]; rcases szN_of (bAt l 0) with ⟨_, q⟩ | ⟨_, _, q⟩ | ⟨_, _, q⟩ | ⟨_, _, q⟩ | ⟨_, q⟩ <;> omega
    rw [e, z]; exact ⟨(e1 z).symm, rfl⟩
  · have z : begL l = 2 := by rw [h]; rcases szN_of (bAt l 0) with ⟨_, q⟩ | ⟨_, _, q⟩ | ⟨_, _, q⟩ | ⟨_, _, q⟩ | ⟨_, q⟩ <;> omega
    have := e2 z
    rw [e, z]; refine ⟨?_, rfl⟩
    simp only [pvL, Nat.reduceAdd, Nat.reduceSub]; omega
  · have z : begL l = 3 := by rw [h]; rcases szN_of (bAt l 0) with ⟨_, q⟩ | ⟨_, _, q⟩ | ⟨_, _, q⟩ | ⟨_, _, q⟩ | ⟨_, q⟩ <;> omega
    have := e3 z
    rw [e, z]; refine ⟨?_, rfl⟩
    simp only [pvL, Nat.reduceAdd, Nat.reduceSub]; omega
  · have z : begL l = 4 := by rw [h]; rcases szN_of (bAt l 0) with ⟨_, q⟩ | ⟨_, _, q⟩ | ⟨_, _, q⟩ | ⟨_, _, q⟩ | ⟨_, q⟩ <;> omega
    have := e4 z
    rw [e, z]; refine ⟨?_, rfl⟩
    simp only [pvL, Nat.reduceAdd, Nat.reduceSub]; omega
theorem R02One_w {H : Hyp} {K : V → Hyp → Prop} {s : ByteArray} (h0 : 0 < s.size) (hs : s.size ≤ 1000000) (k : K (.tup [.c (.int .i64 ((oneL (bl s)).1 : Nat)), .c (.int .i64 ((oneL (bl s)).2 : Nat))]) H) : CallW Try.prog Xs 34 [vS s] H K := by
  have hbl := beg_le (bl s).length (bAt (bl s) 0) (bAt (bl s) 1) (bAt (bl s) 2) (bAt (bl s) 3) h0
  change 1 ≤ begL (bl s) ∧ begL (bl s) ≤ s.size ∧ begL (bl s) ≤ 4 at hbl
  have b0 := bAt_lt (bl s) 0
  refine call_of (n := 48) (fun _ => rfl) Try.func34 rfl rfl ?_
  refine w_seq ?_
  refine w_region ?_
  refine w_o rfl rfl rfl (op_assign rfl ?_)
  refine w_o rfl rfl rfl (op_assign rfl ?_)
  refine w_end ?_
  refine seq_normal ?_
  refine w_seq ?_
  refine w_region ?_
  refine w_o rfl rfl rfl (op_move rfl ?_)
  refine w_o rfl rfl rfl (op_call rfl rfl rfl ?_)
  refine R02Begins_w h0 hs ?_
  refine w_o rfl rfl rfl (op_assign rfl ?_)
  refine w_end ?_
  refine seq_normal ?_
  refine w_seq ?_
  refine w_seq ?_
  refine w_region ?_
  refine w_o rfl rfl rfl (op_move rfl ?_)
  refine w_o rfl rfl rfl (op_move rfl ?_)
  refine w_o rfl rfl rfl (op_indexS und_9 rfl rfl (by omega) (by omega) ?_)
  refine w_o rfl rfl rfl (op_call rfl rfl rfl ?_)
  refine R02Size_w (n := bAt (bl s) 0) ?_
  refine w_o rfl rfl rfl (op_ne rfl rfl ?_)
  refine w_end ?_
  refine seq_normal ?_
  first | refine w_cond rfl (fun hI1 => ?_) (fun hI1 => ?_) | refine w_condB rfl (fun hI1 => ?_) (fun hI1 => ?_)
  · refine w_seq ?_
    refine w_region ?_
    refine w_o rfl rfl rfl (op_move rfl ?_)
    refine w_o rfl rfl rfl (op_indexS und_9 rfl rfl (by omega) (by omega) ?_)
    refine w_o rfl rfl rfl (op_convi und_5 und_3 rfl (c := (bAt (bl s) 0 : Nat)) (by show IntKind.wrap .i64 ((bAt (bl s) 0 : Nat) : Int) = _; exact wrap_i64 (by omega) (by omega)) ?_)
    refine w_o rfl rfl rfl (op_addi rfl rfl (by omega) (by omega) ?_)
    refine w_o rfl rfl rfl (op_assign rfl ?_)
    refine w_o rfl rfl rfl (op_assign rfl ?_)
    refine w_end ?_
    refine seq_normal ?_
    refine w_ret ?_
    refine seq_ret ?_
    have e := one_bad (l := bl s) (by omega)
    rw [e] at k
    exact ret_ret rfl sel_ k
  · have hb : begL (bl s) = szN (bAt (bl s) 0) := by omega
    refine w_skip ?_
    refine seq_normal ?_
    refine w_seq ?_
    refine w_region ?_
    refine w_o rfl rfl rfl (op_move rfl ?_)
    refine w_o rfl rfl rfl (op_indexS und_9 rfl rfl (by omega) (by omega) ?_)
    refine w_o rfl rfl rfl (op_convi und_5 und_3 rfl (c := (bAt (bl s) 0 : Nat)) (by show IntKind.wrap .i64 ((bAt (bl s) 0 : Nat) : Int) = _; exact wrap_i64 (by omega) (by omega)) ?_)
    refine w_o rfl rfl rfl (op_assign rfl ?_)
    refine w_end ?_
    refine seq_normal ?_
    refine w_cut (fun e H' => ∃ v : Int, (begL (bl s) = 2 → v = bAt (bl s) 0 - 192) ∧ (begL (bl s) ≠ 2 → v = bAt (bl s) 0) ∧ H = H' ∧ e = [(0, vS s), (4, vI (begL (bl s) : Nat)), (5, vI v)]) ?_ ?_
    · refine w_seq ?_
      refine w_region ?_
      refine w_o rfl rfl rfl (op_move rfl ?_)
      refine w_o rfl rfl rfl (op_eq rfl rfl ?_)
      refine w_end ?_
      refine seq_normal ?_
      first | refine w_cond rfl (fun hI2 => ?_) (fun hI2 => ?_) | refine w_condB rfl (fun hI2 => ?_) (fun hI2 => ?_)
      · refine w_region ?_
        refine w_o rfl rfl rfl (op_move rfl ?_)
        refine w_o rfl rfl rfl (op_subi rfl rfl (by omega) (by omega) ?_)
        refine w_o rfl rfl rfl (op_assign rfl ?_)
        refine w_end ?_
        first
          | exact mid_normal ⟨(bAt (bl s) 0 : Int) - 192, by omega, by omega, rfl, rfl⟩ env_ sel_
          | exact mid_normal ⟨(bAt (bl s) 0 : Int), by omega, by omega, rfl, rfl⟩ env_ sel_
      · refine w_skip ?_
        first
          | exact mid_normal ⟨(bAt (bl s) 0 : Int) - 192, by omega, by omega, rfl, rfl⟩ env_ sel_
          | exact mid_normal ⟨(bAt (bl s) 0 : Int), by omega, by omega, rfl, rfl⟩ env_ sel_
    · rintro e H' ⟨v, v2, vn, rfl, rfl⟩
      refine w_cut (fun e H' => ∃ v : Int, (begL (bl s) = 2 → v = bAt (bl s) 0 - 192) ∧ (begL (bl s) = 3 → v = bAt (bl s) 0 - 224) ∧ (begL (bl s) ≠ 2 → begL (bl s) ≠ 3 → v = bAt (bl s) 0) ∧ H = H' ∧ e = [(0, vS s), (4, vI (begL (bl s) : Nat)), (5, vI v)]) ?_ ?_
      · refine w_seq ?_
        refine w_region ?_
        refine w_o rfl rfl rfl (op_move rfl ?_)
        refine w_o rfl rfl rfl (op_eq rfl rfl ?_)
        refine w_end ?_
        refine seq_normal ?_
        first | refine w_cond rfl (fun hI3 => ?_) (fun hI3 => ?_) | refine w_condB rfl (fun hI3 => ?_) (fun hI3 => ?_)
        · refine w_region ?_
          refine w_o rfl rfl rfl (op_move rfl ?_)
          refine w_o rfl rfl rfl (op_subi rfl rfl (by omega) (by omega) ?_)
          refine w_o rfl rfl rfl (op_assign rfl ?_)
          refine w_end ?_
          first
            | exact mid_normal ⟨v - 224, by omega, by omega, by omega, rfl, rfl⟩ env_ sel_
            | exact mid_normal ⟨v, by omega, by omega, by omega, rfl, rfl⟩ env_ sel_
        · refine w_skip ?_
          first
            | exact mid_normal ⟨v - 224, by omega, by omega, by omega, rfl, rfl⟩ env_ sel_
            | exact mid_normal ⟨v, by omega, by omega, by omega, rfl, rfl⟩ env_ sel_
      · rintro e H' ⟨v, v2, v3, vn, rfl, rfl⟩
        refine w_cut (fun e H' => ∃ v : Int, (begL (bl s) = 2 → v = bAt (bl s) 0 - 192) ∧ (begL (bl s) = 3 → v = bAt (bl s) 0 - 224) ∧ (begL (bl s) = 4 → v = bAt (bl s) 0 - 240) ∧ (begL (bl s) = 1 → v = bAt (bl s) 0) ∧ H = H' ∧ e = [(0, vS s), (4, vI (begL (bl s) : Nat)), (5, vI v)]) ?_ ?_
        · refine w_seq ?_
          refine w_region ?_
          refine w_o rfl rfl rfl (op_move rfl ?_)
          refine w_o rfl rfl rfl (op_eq rfl rfl ?_)
          refine w_end ?_
          refine seq_normal ?_
          first | refine w_cond rfl (fun hI4 => ?_) (fun hI4 => ?_) | refine w_condB rfl (fun hI4 => ?_) (fun hI4 => ?_)
          · refine w_region ?_
            refine w_o rfl rfl rfl (op_move rfl ?_)
            refine w_o rfl rfl rfl (op_subi rfl rfl (by omega) (by omega) ?_)
            refine w_o rfl rfl rfl (op_assign rfl ?_)
            refine w_end ?_
            first
              | exact mid_normal ⟨v - 240, by omega, by omega, by omega, by omega, rfl, rfl⟩ env_ sel_
              | exact mid_normal ⟨v, by omega, by omega, by omega, by omega, rfl, rfl⟩ env_ sel_
          · refine w_skip ?_
            first
              | exact mid_normal ⟨v - 240, by omega, by omega, by omega, by omega, rfl, rfl⟩ env_ sel_
              | exact mid_normal ⟨v, by omega, by omega, by omega, by omega, rfl, rfl⟩ env_ sel_
        · rintro e H' ⟨v, v2, v3, v4, v1, rfl, rfl⟩
          have vb : -1000 ≤ v ∧ v ≤ 1000 := by omega
          obtain ⟨hp1, hp2⟩ := one_pv hb v2 v3 v4 v1
          rw [hp1, hp2] at k
          refine w_seq ?_
          refine w_seq ?_
          refine w_region ?_
          refine w_o rfl rfl rfl (op_assign rfl ?_)
          refine w_end ?_
          refine seq_normal ?_
          refine w_block ?_
          refine w_loop (fun m e H' => ∃ (j : Nat), j + 1 ≤ begL (bl s) ∧ m = begL (bl s) - j ∧ H = H' ∧ e = [(0, vS s), (4, vI (begL (bl s) : Nat)), (5, vI (pvL (bl s) v j)), (6, vI ((j + 1 : Nat) : Int))]) ?_ ?_
          · exact ⟨_, _, _, ⟨0, by omega, rfl, rfl, rfl⟩, env_, sel_⟩
          · rintro m e H' ⟨j, hj, rfl, rfl, rfl⟩
            have hpb := pv_bnd (bl s) v vb.1 vb.2 j (by omega)
            have b1 := bAt_lt (bl s) (j + 1)
            refine w_seq ?_
            refine w_seq ?_
            refine w_region ?_
            refine w_o rfl rfl rfl (op_move rfl ?_)
            refine w_o rfl rfl rfl (op_move rfl ?_)
            refine w_o rfl rfl rfl (op_lt rfl rfl ?_)
            refine w_end ?_
            refine seq_normal ?_
            first | refine w_cond rfl (fun hI5 => ?_) (fun hI5 => ?_) | refine w_condB rfl (fun hI5 => ?_) (fun hI5 => ?_)
            · refine w_skip ?_
              refine seq_normal ?_
              refine w_seq ?_
              refine w_block ?_
              refine w_region ?_
              refine w_o rfl rfl rfl (op_move rfl ?_)
              refine w_o rfl rfl rfl (op_mul rfl rfl (wrap_i64 (by omega) (by omega)) ?_)
              refine w_o rfl rfl rfl (op_move rfl ?_)
              refine w_o rfl rfl rfl (op_move rfl ?_)
              refine w_o rfl rfl rfl (op_indexS und_9 rfl rfl (by omega) (by omega) ?_)
              refine w_o rfl rfl rfl (op_convi und_5 und_3 rfl (c := (bAt (bl s) (j + 1) : Nat)) (by show IntKind.wrap .i64 ((bAt (bl s) (j + 1) : Nat) : Int) = _; exact wrap_i64 (by omega) (by omega)) ?_)
              refine w_o rfl rfl rfl (op_addi rfl rfl (by omega) (by omega) ?_)
              refine w_o rfl rfl rfl (op_subi rfl rfl (by omega) (by omega) ?_)
              refine w_o rfl rfl rfl (op_assign rfl ?_)
              refine w_end ?_
              refine block_normal ?_
              refine seq_normal ?_
              refine w_region ?_
              refine w_o rfl rfl rfl (op_move rfl ?_)
              refine w_o rfl rfl rfl (op_addi rfl rfl (by omega) (by omega) ?_)
              refine w_o rfl rfl rfl (op_assign rfl ?_)
              refine w_end ?_
              exact loop_normal (k' := begL (bl s) - (j + 1)) (by omega) ⟨j + 1, by omega, rfl, rfl, rfl⟩ env_ sel_
            · refine w_exit ?_
              refine seq_exit ?_
              refine loop_exit ?_
              refine block_hit rfl ?_
              refine seq_normal ?_
              refine w_seq ?_
              refine w_region ?_
              refine w_o rfl rfl rfl (op_move rfl ?_)
              refine w_o rfl rfl rfl (op_move rfl ?_)
              refine w_o rfl rfl rfl (op_assign rfl ?_)
              refine w_o rfl rfl rfl (op_assign rfl ?_)
              refine w_end ?_
              refine seq_normal ?_
              refine w_ret ?_
              have hj' : j = begL (bl s) - 1 := by omega
              rw [hj']
              exact ret_ret rfl sel_ k
theorem R02Decode_w {H : Hyp} {K : V → Hyp → Prop} {s : ByteArray} (hs : s.size ≤ 1000000) (k : ∀ c N, Own 3 1 c ((vals (bl s)).flatMap encI) N → K (.one (.c c)) (N ++ H)) : CallW Try.prog Xs 21 [vS s] H K := by
  refine call_of (n := 22) (fun _ => rfl) Try.func21 rfl rfl ?_
  refine w_seq ?_
  refine w_region ?_
  refine w_o rfl rfl rfl (op_assign rfl ?_)
  refine w_end ?_
  refine seq_normal ?_
  refine w_seq ?_
  refine w_region ?_
  refine w_o rfl rfl rfl (op_assign rfl ?_)
  refine w_end ?_
  refine seq_normal ?_
  refine w_seq ?_
  refine w_block ?_
  refine w_loop (fun m e H' => ∃ (t : ByteArray) (xs : List Int) (c : Cell) (N : Hyp), xs ++ vals (bl t) = vals (bl s) ∧ xs.length + t.size ≤ s.size ∧ m = t.size ∧ Own 3 1 c (xs.flatMap encI) N ∧ H' = N ++ H ∧ e = [(0, vS t), (3, .one (.c c))]) ?_ ?_
  · exact ⟨_, _, _, ⟨s, [], .nils, [], rfl, by simp, rfl, .nil, rfl, rfl⟩, env_, sel_⟩
  · rintro m e H' ⟨t, xs, c, N, hx, hl, rfl, hO, rfl, rfl⟩
    refine w_seq ?_
    refine w_seq ?_
    refine w_region ?_
    refine w_o rfl rfl rfl (op_move rfl ?_)
    refine w_o rfl rfl rfl (op_lenS und_9 rfl ?_)
    refine w_o rfl rfl rfl (op_gt rfl rfl ?_)
    refine w_end ?_
    refine seq_normal ?_
    first | refine w_cond rfl (fun hI1 => ?_) (fun hI1 => ?_) | refine w_condB rfl (fun hI1 => ?_) (fun hI1 => ?_)
    · have ht : bl t ≠ [] := fun q => by have := bl_nil.1 q; omega
      have hw := oneL_wid ht
      rw [bl_len] at hw
      refine w_skip ?_
      refine seq_normal ?_
      refine w_block ?_
      refine w_seq ?_
      refine w_region ?_
      refine w_o rfl rfl rfl (op_move rfl ?_)
      refine w_o rfl rfl rfl (op_call rfl rfl rfl ?_)
      refine R02One_w (by omega) (by omega) ?_
      refine w_o rfl rfl rfl (op_move rfl ?_)
      refine w_o rfl rfl rfl (op_extract rfl rfl ?_)
      refine w_o rfl rfl rfl (op_extract rfl rfl ?_)
      refine w_o rfl rfl rfl (op_assign rfl ?_)
      refine w_o rfl rfl rfl (op_assign rfl ?_)
      refine w_end ?_
      refine seq_normal ?_
      refine w_seq ?_
      refine w_region ?_
      refine w_o rfl rfl rfl (op_move rfl ?_)
      refine w_o rfl rfl rfl (op_move rfl ?_)
      refine w_o rfl rfl rfl (op_buildSlice rfl (bsl_38 _ _ _ (rfl : _ = some [_]) rfl (by decide)) fun b16 => ?_)
      refine w_o rfl rfl rfl (op_append1 (enc := encI) elm_38 inf_3 zer_3 (by decide) und_38 rfl rfl (by assumption) (fun _ => rfl) (by (repeat (first | exact PickL.front _ _ | exact PickL.nil _ | apply PickL.skip | apply PickL.skipL)); first | done | fail) rfl (by omega) fun c17 N17 h17 => ?_)
      refine w_o rfl rfl rfl (op_assign rfl ?_)
      refine w_end ?_
      refine seq_normal ?_
      refine w_region ?_
      refine w_o rfl rfl rfl (op_move rfl ?_)
      refine w_o rfl rfl rfl (op_move rfl ?_)
      refine w_o rfl rfl rfl (op_sliceS und_9 rfl rfl rfl (by omega) (by omega) (by omega) ?_)
      refine w_o rfl rfl rfl (op_assign rfl ?_)
      refine w_end ?_
      refine block_normal ?_
      rw [vals_cons ht] at hx
      refine loop_normal (k' := t.size - (oneL (bl t)).2) (by omega) ⟨t.extract (oneL (bl t)).2 t.size, xs ++ [((oneL (bl t)).1 : Int)], c17, N17, ?_, ?_, ?_, h17, rfl, rfl⟩ env_ sel_
      · rw [bl_ext, List.append_assoc]; exact hx
      · rw [List.length_append, ByteArray.size_extract]; simp only [List.length_cons, List.length_nil]; omega
      · rw [ByteArray.size_extract]; omega
    · refine w_exit ?_
      refine seq_exit ?_
      refine loop_exit ?_
      refine block_hit rfl ?_
      refine seq_normal ?_
      refine w_seq ?_
      refine w_region ?_
      refine w_o rfl rfl rfl (op_move rfl ?_)
      refine w_o rfl rfl rfl (op_assign rfl ?_)
      refine w_end ?_
      refine seq_normal ?_
      refine w_ret ?_
      have ht : bl t = [] := bl_nil.2 (by omega)
      rw [ht, vals_nil, List.append_nil] at hx
      rw [hx] at hO
      exact ret_ret rfl sel_ (k _ _ hO)
theorem utfvalueY_w {H : Hyp} {K : V → Hyp → Prop} {t : ByteArray} {r : Nat} (h0 : bl t ≠ []) (hs : t.size ≤ 1000000) (hr : r = (dec (bl t)).1) (k : K (vI ((oneL (bl t)).1 : Nat)) H) : CallW Try.prog Xs 48 [vS t, .one (.c (.int .i32 (r : Nat)))] H K := by
  have hv : (oneL (bl t)).1 = if r = 65533 ∧ ¬ ((bl t).take 3 = [239, 191, 189]) then 1114112 + bAt (bl t) 0 else r := by rw [hr]; exact (value_one h0).2
  have hz : 0 < t.size := List.length_pos_iff.2 h0
  have b0 := bAt_lt (bl t) 0
  have hr9 : r ≤ 9000000 := by
    rw [hr]
    have := bAt_lt (bl t) 0
    have := bAt_lt (bl t) 1
    unfold dec Lib.decodeN
    repeat' split
    all_goals simp only []; omega
  refine call_of (n := 18) (fun _ => rfl) Try.func48 rfl rfl ?_
  refine w_seq ?_
  refine w_region ?_
  refine w_o rfl rfl rfl (op_assign rfl ?_)
  refine w_end ?_
  refine seq_normal ?_
  refine w_seq ?_
  refine w_seq ?_
  refine w_region ?_
  refine w_o rfl rfl rfl (op_move rfl ?_)
  refine w_o rfl rfl rfl (op_eq rfl rfl ?_)
  refine w_o rfl rfl rfl (op_move rfl ?_)
  first | refine w_known (t := 7) rfl (fun g7 => ?_) (fun g7 => ?_) | refine w_knownB (t := 7) rfl (fun g7 => ?_) (fun g7 => ?_)
  · refine w_og rfl rfl rfl rfl rfl (op_move rfl ?_)
    refine w_og rfl rfl rfl rfl rfl (op_call rfl rfl rfl ?_)
    refine HasPrefix_w (by omega) (by decide) ?_
    rw [pre_take]
    refine w_og rfl rfl rfl rfl rfl (op_not rfl ?_)
    refine w_o rfl rfl rfl (op_pick rfl rfl rfl ?_)
    refine w_end ?_
    refine seq_normal ?_
    first | refine w_cond rfl (fun hI1 => ?_) (fun hI1 => ?_) | refine w_condB rfl (fun hI1 => ?_) (fun hI1 => ?_)
    · refine w_seq ?_
      refine w_region ?_
      refine w_o rfl rfl rfl (op_move rfl ?_)
      refine w_o rfl rfl rfl (op_indexS und_9 rfl rfl (by omega) (by omega) ?_)
      refine w_o rfl rfl rfl (op_convi und_5 und_3 rfl (c := (bAt (bl t) 0 : Nat)) (by show IntKind.wrap .i64 ((bAt (bl t) 0 : Nat) : Int) = _; exact wrap_i64 (by omega) (by omega)) ?_)
      refine w_o rfl rfl rfl (op_addi rfl rfl (by omega) (by omega) ?_)
      refine w_o rfl rfl rfl (op_assign rfl ?_)
      refine w_end ?_
      refine seq_normal ?_
      refine w_ret ?_
      refine seq_ret ?_
      have hnp : ¬ ((bl t).take 3 = [239, 191, 189]) := fun q => by rw [decide_eq_true q] at hI1; cases hI1
      rw [hv, if_pos ⟨by omega, hnp⟩] at k
      exact ret_ret rfl sel_ k
    · refine w_skip ?_
      refine seq_normal ?_
      refine w_seq ?_
      refine w_region ?_
      refine w_o rfl rfl rfl (op_move rfl ?_)
      refine w_o rfl rfl rfl (op_convi und_21 und_3 rfl (wrap_i64 (by omega) (by omega)) ?_)
      refine w_o rfl rfl rfl (op_assign rfl ?_)
      refine w_end ?_
      refine seq_normal ?_
      refine w_ret ?_
      rw [hv, if_neg (by first | (intro q; omega) | (intro q; rw [decide_eq_false q.2] at hI1; cases hI1))] at k
      exact ret_ret rfl sel_ k
  · refine w_u rfl rfl rfl rfl rfl rfl ?_
    refine w_u rfl rfl rfl rfl rfl rfl ?_
    refine w_u rfl rfl rfl rfl rfl rfl ?_
    refine w_o rfl rfl rfl (op_pick rfl rfl rfl ?_)
    refine w_end ?_
    refine seq_normal ?_
    refine w_condF rfl ?_
    refine w_skip ?_
    refine seq_normal ?_
    refine w_seq ?_
    refine w_region ?_
    refine w_o rfl rfl rfl (op_move rfl ?_)
    refine w_o rfl rfl rfl (op_convi und_21 und_3 rfl (wrap_i64 (by omega) (by omega)) ?_)
    refine w_o rfl rfl rfl (op_assign rfl ?_)
    refine w_end ?_
    refine seq_normal ?_
    refine w_ret ?_
    rw [hv, if_neg (by first | (intro q; omega) | (intro q; rw [decide_eq_false q.2] at hI1; cases hI1))] at k
    exact ret_ret rfl sel_ k
theorem utfDecode_w {H : Hyp} {K : V → Hyp → Prop} {s : ByteArray} (hs : s.size ≤ 1000000) (k : ∀ c N, Own 3 1 c ((vals (bl s)).flatMap encI) N → K (.one (.c c)) (N ++ H)) : CallW Try.prog Xs 31 [vS s] H K := by
  refine call_of (n := 21) (fun _ => rfl) Try.func31 rfl rfl ?_
  refine w_seq ?_
  refine w_region ?_
  refine w_o rfl rfl rfl (op_assign rfl ?_)
  refine w_end ?_
  refine seq_normal ?_
  refine w_seq ?_
  refine w_region ?_
  refine w_o rfl rfl rfl (op_assign rfl ?_)
  refine w_end ?_
  refine seq_normal ?_
  refine w_seq ?_
  refine w_seq ?_
  refine w_region ?_
  refine w_o rfl rfl rfl (op_move rfl ?_)
  refine w_o rfl rfl rfl (op_range und_9 rfl fun b7 => ?_)
  refine w_end ?_
  refine seq_normal ?_
  refine w_block ?_
  refine w_loop (fun m e H' => ∃ (p : Nat) (xs : List Int) (c : Cell) (N : Hyp), xs ++ vals ((bl s).drop p) = vals (bl s) ∧ p ≤ s.size ∧ xs.length ≤ p ∧ m = s.size - p ∧ Own 3 1 c (xs.flatMap encI) N ∧ H' = (b7, .iter s p) :: (N ++ H) ∧ e = [(0, vS s), (3, .one (.c c)), (7, ptrV b7 0)]) ?_ ?_
  · exact ⟨_, _, _, ⟨0, [], .nils, [], rfl, Nat.zero_le _, Nat.le_refl _, rfl, .nil, rfl, rfl⟩, env_, sel_⟩
  · rintro m e H' ⟨p, xs, c, N, hx, hp, hl, rfl, hO, rfl, rfl⟩
    refine w_seq ?_
    refine w_region ?_
    refine w_o rfl rfl rfl (op_next rfl (by (repeat (first | exact Pick.head _ _ _ | apply Pick.tail | apply Pick.app)); first | done | fail) (fun h8 => ?_) (fun h8 => ?_))
    · have ht : (bl s).drop p ≠ [] := fun q => by have := congrArg List.length q; rw [List.length_drop, bl_len] at this; simp only [List.length_nil] at this; omega
      have hw := oneL_wid ht
      rw [List.length_drop, bl_len] at hw
      rw [dec_drop, dec_wid ht]
      refine w_o rfl rfl rfl (op_extract rfl rfl ?_)
      refine w_end ?_
      refine seq_normal ?_
      refine w_seq ?_
      first | refine w_cond rfl (fun hI1 => ?_) (fun hI1 => ?_) | refine w_condB rfl (fun hI1 => ?_) (fun hI1 => ?_)
      · try (cases hI1)
        all_goals
          refine w_skip ?_
          refine seq_normal ?_
          refine w_block ?_
          refine w_seq ?_
          refine w_region ?_
          refine w_o rfl rfl rfl (op_extract rfl rfl ?_)
          refine w_o rfl rfl rfl (op_extract rfl rfl ?_)
          refine w_o rfl rfl rfl (op_assign rfl ?_)
          refine w_o rfl rfl rfl (op_assign rfl ?_)
          refine w_end ?_
          refine seq_normal ?_
          refine w_region ?_
          refine w_o rfl rfl rfl (op_move rfl ?_)
          refine w_o rfl rfl rfl (op_move rfl ?_)
          refine w_o rfl rfl rfl (op_move rfl ?_)
          refine w_o rfl rfl rfl (op_sliceS und_9 rfl rfl rfl (by omega) (by omega) (by omega) ?_)
          refine w_o rfl rfl rfl (op_move rfl ?_)
          refine w_o rfl rfl rfl (op_call rfl rfl rfl ?_)
          refine utfvalueY_w (t := s.extract p s.size) (by rw [bl_ext]; exact ht) (by rw [ByteArray.size_extract]; omega) (by rw [bl_ext]) ?_
          rw [bl_ext]
          refine w_o rfl rfl rfl (op_buildSlice rfl (bsl_38 _ _ _ (rfl : _ = some [_]) rfl (by decide)) fun b18 => ?_)
          refine w_o rfl rfl rfl (op_append1 (enc := encI) elm_38 inf_3 zer_3 (by decide) und_38 rfl rfl (by assumption) (fun _ => rfl) (by (repeat (first | exact PickL.front _ _ | exact PickL.nil _ | apply PickL.skip | apply PickL.skipL)); first | done | fail) rfl (by omega) fun c19 N19 h19 => ?_)
          refine w_o rfl rfl rfl (op_assign rfl ?_)
          refine w_end ?_
          refine block_normal ?_
          rw [vals_cons ht, List.drop_drop] at hx
          exact loop_normal (k' := s.size - (p + (oneL ((bl s).drop p)).2)) (by omega) ⟨p + (oneL ((bl s).drop p)).2, xs ++ [((oneL ((bl s).drop p)).1 : Int)], c19, N19, by rw [List.append_assoc]; exact hx, by omega, by rw [List.length_append]; simp only [List.length_cons, List.length_nil]; omega, rfl, h19, rfl, rfl⟩ env_ sel_
      · try (cases hI1)
        all_goals
          refine w_exit ?_
          refine seq_exit ?_
          refine loop_exit ?_
          refine block_hit rfl ?_
          refine seq_normal ?_
          refine w_seq ?_
          refine w_region ?_
          refine w_o rfl rfl rfl (op_move rfl ?_)
          refine w_o rfl rfl rfl (op_assign rfl ?_)
          refine w_end ?_
          refine seq_normal ?_
          refine w_ret ?_
          have hp' : p = s.size := by omega
          rw [hp', List.drop_of_length_le (show (bl s).length ≤ s.size from Nat.le_refl _), vals_nil, List.append_nil] at hx
          rw [hx] at hO
          exact ret_ret rfl sel_ (k _ _ hO)
    · refine w_o rfl rfl rfl (op_extract rfl rfl ?_)
      refine w_end ?_
      refine seq_normal ?_
      refine w_seq ?_
      first | refine w_cond rfl (fun hI1 => ?_) (fun hI1 => ?_) | refine w_condB rfl (fun hI1 => ?_) (fun hI1 => ?_)
      · try (cases hI1)
        all_goals
          refine w_skip ?_
          refine seq_normal ?_
          refine w_block ?_
          refine w_seq ?_
          refine w_region ?_
          refine w_o rfl rfl rfl (op_extract rfl rfl ?_)
          refine w_o rfl rfl rfl (op_extract rfl rfl ?_)
          refine w_o rfl rfl rfl (op_assign rfl ?_)
          refine w_o rfl rfl rfl (op_assign rfl ?_)
          refine w_end ?_
          refine seq_normal ?_
          refine w_region ?_
          refine w_o rfl rfl rfl (op_move rfl ?_)
          refine w_o rfl rfl rfl (op_move rfl ?_)
          refine w_o rfl rfl rfl (op_move rfl ?_)
          refine w_o rfl rfl rfl (op_sliceS und_9 rfl rfl rfl (by omega) (by omega) (by omega) ?_)
          refine w_o rfl rfl rfl (op_move rfl ?_)
          refine w_o rfl rfl rfl (op_call rfl rfl rfl ?_)
          refine utfvalueY_w (t := s.extract p s.size) (by rw [bl_ext]; exact ht) (by rw [ByteArray.size_extract]; omega) (by rw [bl_ext]) ?_
          rw [bl_ext]
          refine w_o rfl rfl rfl (op_buildSlice rfl (bsl_38 _ _ _ (rfl : _ = some [_]) rfl (by decide)) fun b18 => ?_)
          refine w_o rfl rfl rfl (op_append1 (enc := encI) elm_38 inf_3 zer_3 (by decide) und_38 rfl rfl (by assumption) (fun _ => rfl) (by (repeat (first | exact PickL.front _ _ | exact PickL.nil _ | apply PickL.skip | apply PickL.skipL)); first | done | fail) rfl (by omega) fun c19 N19 h19 => ?_)
          refine w_o rfl rfl rfl (op_assign rfl ?_)
          refine w_end ?_
          refine block_normal ?_
          rw [vals_cons ht, List.drop_drop] at hx
          exact loop_normal (k' := s.size - (p + (oneL ((bl s).drop p)).2)) (by omega) ⟨p + (oneL ((bl s).drop p)).2, xs ++ [((oneL ((bl s).drop p)).1 : Int)], c19, N19, by rw [List.append_assoc]; exact hx, by omega, by rw [List.length_append]; simp only [List.length_cons, List.length_nil]; omega, rfl, h19, rfl, rfl⟩ env_ sel_
      · try (cases hI1)
        all_goals
          refine w_exit ?_
          refine seq_exit ?_
          refine loop_exit ?_
          refine block_hit rfl ?_
          refine seq_normal ?_
          refine w_seq ?_
          refine w_region ?_
          refine w_o rfl rfl rfl (op_move rfl ?_)
          refine w_o rfl rfl rfl (op_assign rfl ?_)
          refine w_end ?_
          refine seq_normal ?_
          refine w_ret ?_
          have hp' : p = s.size := by omega
          rw [hp', List.drop_of_length_le (show (bl s).length ≤ s.size from Nat.le_refl _), vals_nil, List.append_nil] at hx
          rw [hx] at hO
          exact ret_ret rfl sel_ (k _ _ hO)
end Go.Proofs.Ytigkfladgdknbaa.AM.B
