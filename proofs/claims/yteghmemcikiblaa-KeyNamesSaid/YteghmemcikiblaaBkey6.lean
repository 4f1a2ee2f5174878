/- What is read of a name: exactly. -/
import Derived.Test.YteghmemcikiblaaAX
import Derived.Test.YteghmemcikiblaaBkey5
set_option linter.unusedVariables false
set_option linter.unusedSimpArgs false
set_option maxRecDepth 10000
set_option maxHeartbeats 4000000
namespace Go.Proofs.Yteghmemcikiblaa.AM.B
open Go Go.RowKit
def DS : ByteArray := ⟨#[48, 49, 50, 51, 52, 53, 54, 55, 56, 57, 65, 66, 67, 68, 69, 70]⟩
/-- A hex digit's number; below 0: it is none. -/
def digI (b : UInt8) : Int := firstIdx DS b
def hexW : List UInt8 → Int
  | [] => 0
  | x :: l => digI x * 16 ^ l.length + hexW l
theorem dig_one (d : Nat) (h : d < 16) : ∃ x : UInt8, (Go.Proofs.Yteghmemcikiblaa.P.digitsB.extract d (d + 1)).data.toList = [x] ∧ digI x = d ∧ x ≠ 33 ∧ x ≠ 62 := by
  have key : ∀ d, d < 16 → (match (Go.Proofs.Yteghmemcikiblaa.P.digitsB.extract d (d + 1)).data.toList with | [x] => decide (digI x = d ∧ x ≠ 33 ∧ x ≠ 62) | _ => false) = true := by decide +kernel
  have := key d h
  split at this
  · rename_i x e
    have h2 := of_decide_eq_true this
    exact ⟨x, e, h2.1, h2.2⟩
  · cases this
theorem laid_val (L : Nat) : ∀ (m u : Nat) (s : ByteArray), u < 16 ^ m → hexW (Go.Proofs.Yteghmemcikiblaa.P.laidL 16 (L : Int) m u s).data.toList = (u : Int) * 16 ^ s.size + hexW s.data.toList
  | 0, u, s, h => by
    have hu : u = 0 := by simpa using h
    subst hu; simp [Go.Proofs.Yteghmemcikiblaa.P.laidL]
  | m + 1, u, s, h => by
    simp only [Go.Proofs.Yteghmemcikiblaa.P.laidL]
    split
    · obtain ⟨x, hx, hv, _⟩ := dig_one (u % 16) (Nat.mod_lt _ (by omega))
      have h2 : u / 16 < 16 ^ m := by rw [Nat.pow_succ] at h; exact Nat.div_lt_of_lt_mul (by rw [Nat.mul_comm]; exact h)
      have hl : (Go.Proofs.Yteghmemcikiblaa.P.digitsB.extract (u % 16) (u % 16 + 1) ++ s).data.toList = x :: s.data.toList := by rw [ByteArray.data_append, Array.toList_append, hx]; rfl
      have hsz : (Go.Proofs.Yteghmemcikiblaa.P.digitsB.extract (u % 16) (u % 16 + 1) ++ s).size = s.size + 1 := by
        show (Go.Proofs.Yteghmemcikiblaa.P.digitsB.extract (u % 16) (u % 16 + 1) ++ s).data.size = s.data.size + 1
        rw [← Array.length_toList, hl]; simp
      rw [laid_val L m (u / 16) _ h2, hl, hsz]
      simp only [hexW, hv]
      rw [show s.data.toList.length = s.size from rfl]
      have e := Nat.div_add_mod u 16
      have : (u : Int) * 16 ^ s.size = ((u / 16 : Nat) : Int) * 16 ^ (s.size + 1) + ((u % 16 : Nat) : Int) * 16 ^ s.size := by
        have e2 : (u : Int) = 16 * ((u / 16 : Nat) : Int) + ((u % 16 : Nat) : Int) := by omega
        conv => lhs; rw [e2]
        rw [Int.add_mul, Int.pow_succ, Int.mul_comm (16 ^ s.size) 16, ← Int.mul_assoc, Int.mul_comm ((u / 16 : Nat) : Int) 16]
      rw [this, Int.add_assoc]
    · rename_i hg
      have hu : u = 0 := by omega
      subst hu; simp
theorem laid_digs (L : Nat) : ∀ (m u : Nat) (s : ByteArray), (∀ x ∈ s.data.toList, 0 ≤ digI x ∧ x ≠ 33 ∧ x ≠ 62) → ∀ x ∈ (Go.Proofs.Yteghmemcikiblaa.P.laidL 16 (L : Int) m u s).data.toList, 0 ≤ digI x ∧ x ≠ 33 ∧ x ≠ 62
  | 0, u, s, h => h
  | m + 1, u, s, h => by
    simp only [Go.Proofs.Yteghmemcikiblaa.P.laidL]
    split
    · refine laid_digs L m (u / 16) _ ?_
      intro y hy
      obtain ⟨x, hx, hv, hn⟩ := dig_one (u % 16) (Nat.mod_lt _ (by omega))
      rw [ByteArray.data_append, Array.toList_append, hx] at hy
      rcases List.mem_append.1 hy with hy | hy
      · rw [List.mem_singleton.1 hy]; exact ⟨by omega, hn⟩
      · exact h y hy
    · exact h
def hexL (n L : Int) : List UInt8 := (hexT n L).data.toList
theorem hexL_val (n : Int) (L : Nat) (h0 : 0 ≤ n) (h1 : n ≤ 9223372036854775807) (hL : 1 ≤ L) (hL2 : L ≤ 16) : hexW (hexL n L) = n ∧ ∀ x ∈ hexL n L, 0 ≤ digI x ∧ x ≠ 33 ∧ x ≠ 62 := by
  unfold hexL hexT
  rw [Go.Proofs.Yteghmemcikiblaa.P.hx_eq n L hL hL2]
  constructor
  · rw [laid_val L 81 n.toNat ByteArray.empty (by
      have : (9223372036854775807 : Nat) < 16 ^ 81 := by decide
      omega)]
    show (n.toNat : Int) * 16 ^ 0 + 0 = n
    simp; omega
  · exact laid_digs L 81 n.toNat ByteArray.empty (by intro x hx; cases hx)
theorem dig_top : ∀ b : UInt8, digI b ≤ 15 := by
  intro b
  unfold digI firstIdx
  split
  · rename_i i hi
    have := List.mem_of_find?_eq_some hi
    rw [List.mem_range] at this
    have h16 : DS.size = 16 := rfl
    omega
  · omega
def hexTo : Int → List UInt8 → Int
  | n, [] => n
  | n, x :: l => hexTo (16 * n + digI x) l
theorem hexTo_val : ∀ (n : Int) (l : List UInt8), hexTo n l = n * 16 ^ l.length + hexW l
  | n, [] => by simp [hexTo, hexW]
  | n, x :: l => by
    rw [hexTo, hexTo_val (16 * n + digI x) l, hexW, List.length_cons, Int.pow_succ, Int.add_mul, Int.mul_comm 16 n, Int.mul_assoc, Int.mul_comm 16 (16 ^ l.length), Int.add_assoc]
theorem hexTo_snoc : ∀ (n : Int) (l : List UInt8) (x : UInt8), hexTo n (l ++ [x]) = 16 * hexTo n l + digI x
  | n, [], x => rfl
  | n, y :: l, x => by simp only [List.cons_append, hexTo]; exact hexTo_snoc _ l x
theorem hexTo_in : ∀ (l : List UInt8), (∀ x ∈ l, 0 ≤ digI x) → 0 ≤ hexTo 0 l ∧ hexTo 0 l < 16 ^ l.length := by
  intro l
  suffices h : ∀ (l : List UInt8), (∀ x ∈ l, 0 ≤ digI x) → 0 ≤ hexTo 0 l.reverse ∧ hexTo 0 l.reverse < 16 ^ l.length by
    intro hx
    have := h l.reverse (fun x q => hx x (List.mem_reverse.1 q))
    rwa [List.reverse_reverse, List.length_reverse] at this
  intro l
  induction l with
  | nil => intro _; simp [hexTo]
  | cons x l ih =>
    intro hx
    have h1 := ih fun y hy => hx y (by simp [hy])
    have h2 := hx x (by simp)
    have h3 := dig_top x
    rw [List.reverse_cons, hexTo_snoc, List.length_cons, Int.pow_succ]
    generalize hexTo 0 l.reverse = a at *
    generalize (16 : Int) ^ l.length = p at *
    omega
theorem IndexByteStringX_w {H : Hyp} {K : V → Hyp → Prop} {s : ByteArray} {c : Int} (k : K (vI (firstIdx s c.toNat.toUInt8)) H) : CallW Try.prog Xs 55 [vS s, .one (.c (.int .u8 c))] H K :=
  call_spec (vals := [.string s, .int .u8 c]) rfl rfl rfl k
theorem slIndexByteX_w {H : Hyp} {K : V → Hyp → Prop} {s : ByteArray} {c : Int} (k : K (vI (firstIdx s c.toNat.toUInt8)) H) : CallW Try.prog Xs 53 [vS s, .one (.c (.int .u8 c))] H K := by
  refine call_of (n := 8) (fun _ => rfl) Try.func53 rfl rfl ?_
  refine w_seq ?_
  refine w_region ?_
  refine w_o rfl rfl rfl (op_assign rfl ?_)
  refine w_end ?_
  refine seq_normal ?_
  refine w_seq ?_
  refine w_region ?_
  refine w_o rfl rfl rfl (op_move rfl ?_)
  refine w_o rfl rfl rfl (op_move rfl ?_)
  refine w_o rfl rfl rfl (op_call rfl rfl rfl ?_)
  refine IndexByteStringX_w ?_
  refine w_o rfl rfl rfl (op_assign rfl ?_)
  refine w_end ?_
  refine seq_normal ?_
  refine w_ret ?_
  exact ret_ret rfl sel_ k
theorem IndexByteX_w {H : Hyp} {K : V → Hyp → Prop} {s : ByteArray} {c : Int} (k : K (vI (firstIdx s c.toNat.toUInt8)) H) : CallW Try.prog Xs 51 [vS s, .one (.c (.int .u8 c))] H K := by
  refine call_of (n := 8) (fun _ => rfl) Try.func51 rfl rfl ?_
  refine w_seq ?_
  refine w_region ?_
  refine w_o rfl rfl rfl (op_assign rfl ?_)
  refine w_end ?_
  refine seq_normal ?_
  refine w_seq ?_
  refine w_region ?_
  refine w_o rfl rfl rfl (op_move rfl ?_)
  refine w_o rfl rfl rfl (op_move rfl ?_)
  refine w_o rfl rfl rfl (op_call rfl rfl rfl ?_)
  refine slIndexByteX_w ?_
  refine w_o rfl rfl rfl (op_assign rfl ?_)
  refine w_end ?_
  refine seq_normal ?_
  refine w_ret ?_
  exact ret_ret rfl sel_ k
theorem byteAt_list {s : ByteArray} {i : Nat} {x : UInt8} (h : s.data.toList[i]? = some x) : byteAt s i = (x.toNat : Int) ∧ (byteAt s i).toNat.toUInt8 = x := by
  have e : byteAt s i = (x.toNat : Int) := by
    unfold byteAt
    rw [show ((i : Nat) : Int).toNat = i by omega, h]; rfl
  exact ⟨e, by rw [e, Int.toNat_natCast]; exact UInt8.ofNat_toNat⟩
theorem UnhexX_w {H : Hyp} {K : V → Hyp → Prop} {s : ByteArray} (h1 : 1 ≤ s.size) (h15 : s.size ≤ 15) (hd : ∀ x ∈ s.data.toList, 0 ≤ digI x) (k : K (.tup [.c (.int .i64 (hexTo 0 s.data.toList)), .c (.int .i64 0)]) H) : CallW Try.prog Xs 45 [vS s] H K := by
  have hne : ¬ s = ⟨#[]⟩ := by rintro rfl; exact absurd h1 (by decide)
  refine call_of (n := 31) (fun _ => rfl) Try.func45 rfl rfl ?_
  refine w_seq ?_
  refine w_region ?_
  refine w_o rfl rfl rfl (op_assign rfl ?_)
  refine w_o rfl rfl rfl (op_assign rfl ?_)
  refine w_end ?_
  refine seq_normal ?_
  refine w_seq ?_
  refine w_seq ?_
  refine w_region ?_
  refine w_o rfl rfl rfl (op_move rfl ?_)
  refine w_o rfl rfl rfl (op_streq rfl rfl ?_)
  refine w_o rfl rfl rfl (op_move rfl ?_)
  first | refine w_known (t := 9) rfl (fun g9 => ?_) (fun g9 => ?_) | refine w_knownB (t := 9) rfl (fun g9 => ?_) (fun g9 => ?_)
  · exact absurd g9 hne --closed
  · refine w_og rfl rfl rfl rfl rfl (op_move rfl ?_)
    refine w_og rfl rfl rfl rfl rfl (op_lenS und_9 rfl ?_)
    refine w_og rfl rfl rfl rfl rfl (op_gt rfl rfl ?_)
    refine w_o rfl rfl rfl (op_pick rfl rfl rfl ?_)
    refine w_end ?_
    refine seq_normal ?_
    first | refine w_cond rfl (fun hI1 => ?_) (fun hI1 => ?_) | refine w_condB rfl (fun hI1 => ?_) (fun hI1 => ?_)
    · exfalso; omega --closed
    · refine w_skip ?_
      refine seq_normal ?_
      refine w_seq ?_
      refine w_region ?_
      refine w_o rfl rfl rfl (op_assign rfl ?_)
      refine w_end ?_
      refine seq_normal ?_
      refine w_seq ?_
      refine w_seq ?_
      refine w_region ?_
      refine w_o rfl rfl rfl (op_move rfl ?_)
      refine w_o rfl rfl rfl (op_lenS und_9 rfl ?_)
      refine w_o rfl rfl rfl (op_move rfl ?_)
      refine w_end ?_
      refine seq_normal ?_
      refine w_block ?_
      refine w_loop (fun m e H' => ∃ (i : Nat), i ≤ s.size ∧ m = s.size - i ∧ H = H' ∧ e = [(0, vS s), (4, vI (hexTo 0 (s.data.toList.take i))), (15, vI (s.size : Nat)), (16, vI (i : Nat))]) ?_ ?_
      · exact ⟨_, _, _, ⟨0, Nat.zero_le _, rfl, rfl, rfl⟩, env_, sel_⟩
      · rintro m e H' ⟨i, hi, rfl, rfl, rfl⟩
        refine w_seq ?_
        refine w_region ?_
        refine w_o rfl rfl rfl (op_lt rfl rfl ?_)
        refine w_end ?_
        refine seq_normal ?_
        refine w_seq ?_
        first | refine w_cond rfl (fun hI2 => ?_) (fun hI2 => ?_) | refine w_condB rfl (fun hI2 => ?_) (fun hI2 => ?_)
        · have hi2 : i < s.data.toList.length := by show i < s.size; omega
          obtain ⟨x, hx⟩ : ∃ x, s.data.toList[i]? = some x := ⟨_, List.getElem?_eq_getElem hi2⟩
          obtain ⟨hb1, hb2⟩ := byteAt_list hx
          have hdx := hd x (List.mem_of_getElem? hx)
          have hdt := dig_top x
          have hsn : hexTo 0 (s.data.toList.take (i + 1)) = 16 * hexTo 0 (s.data.toList.take i) + digI x := by rw [List.take_add_one, hx]; exact hexTo_snoc _ _ _
          have hin := hexTo_in (s.data.toList.take i) fun y hy => hd y (List.mem_of_mem_take hy)
          have hpow : (16 : Int) ^ (s.data.toList.take i).length ≤ 16 ^ 14 := by
            have : (s.data.toList.take i).length ≤ 14 := by rw [List.length_take]; omega
            generalize (s.data.toList.take i).length = n at this
            have key : ∀ n : Nat, n ≤ 14 → (16 : Int) ^ n ≤ 16 ^ 14 := by decide +kernel
            exact key n this
          refine w_skip ?_
          refine seq_normal ?_
          refine w_seq ?_
          refine w_block ?_
          refine w_seq ?_
          refine w_region ?_
          refine w_o rfl rfl rfl (op_move rfl ?_)
          refine w_o rfl rfl rfl (op_assign rfl ?_)
          refine w_end ?_
          refine seq_normal ?_
          refine w_seq ?_
          refine w_region ?_
          refine w_o rfl rfl rfl (op_move rfl ?_)
          refine w_o rfl rfl rfl (op_move rfl ?_)
          refine w_o rfl rfl rfl (op_indexS und_9 rfl rfl (by omega) (by omega) ?_)
          refine w_o rfl rfl rfl (op_call rfl rfl rfl ?_)
          refine IndexByteX_w ?_
          rw [hb2]
          show WOps _ _ _ _ _ _ ((22, vI (digI x)) :: _) _ _
          generalize hexTo 0 (s.data.toList.take i) = a at hsn hin ⊢
          refine w_o rfl rfl rfl (op_assign rfl ?_)
          refine w_end ?_
          refine seq_normal ?_
          refine w_seq ?_
          refine w_seq ?_
          refine w_region ?_
          refine w_o rfl rfl rfl (op_move rfl ?_)
          refine w_o rfl rfl rfl (op_lt rfl rfl ?_)
          refine w_end ?_
          refine seq_normal ?_
          first | refine w_cond rfl (fun hI3 => ?_) (fun hI3 => ?_) | refine w_condB rfl (fun hI3 => ?_) (fun hI3 => ?_)
          · exfalso; omega --closed
          · refine w_skip ?_
            refine seq_normal ?_
            refine w_region ?_
            refine w_o rfl rfl rfl (op_move rfl ?_)
            refine w_o rfl rfl rfl (op_mul rfl rfl (wrap_i64 (by omega) (by omega)) ?_)
            refine w_o rfl rfl rfl (op_move rfl ?_)
            refine w_o rfl rfl rfl (op_addi rfl rfl (by omega) (by omega) ?_)
            refine w_o rfl rfl rfl (op_assign rfl ?_)
            refine w_end ?_
            refine block_normal ?_
            refine seq_normal ?_
            refine w_region ?_
            refine w_o rfl rfl rfl (op_addi rfl rfl (by omega) (by omega) ?_)
            refine w_o rfl rfl rfl (op_move rfl ?_)
            refine w_end ?_
            exact loop_normal (k' := s.size - (i + 1)) (by omega) ⟨i + 1, by omega, rfl, rfl, rfl⟩ (by rw [hsn]; exact env_) sel_
        · refine w_exit ?_
          refine seq_exit ?_
          refine loop_exit ?_
          refine block_hit rfl ?_
          refine seq_normal ?_
          refine w_seq ?_
          refine w_region ?_
          refine w_o rfl rfl rfl (op_move rfl ?_)
          refine w_o rfl rfl rfl (op_assign rfl ?_)
          refine w_o rfl rfl rfl (op_assign rfl ?_)
          refine w_end ?_
          refine seq_normal ?_
          refine w_ret ?_
          have hi' : i = s.size := by omega
          rw [hi', show s.data.toList.take s.size = s.data.toList from List.take_length]
          exact ret_ret rfl sel_ k
theorem decode_one : ∀ n : Nat, n < 128 → Utf8.decode (bsOf [(n : Int)]) 0 = (n, 1) := by decide +kernel
theorem utfvalueX_w {H : Hyp} {K : V → Hyp → Prop} {s : ByteArray} {r : Int} (h0 : 0 ≤ r) (h1 : r < 128) (k : K (vI r) H) : CallW Try.prog Xs 52 [vS s, .one (.c (.int .i32 r))] H K := by
  refine call_of (n := 18) (fun _ => rfl) Try.func52 rfl rfl ?_
  refine w_seq ?_
  refine w_region ?_
  refine w_o rfl rfl rfl (op_assign rfl ?_)
  refine w_end ?_
  refine seq_normal ?_
  refine w_seq ?_
  refine w_seq ?_
  refine w_region ?_
  refine w_o rfl rfl rfl (op_move rfl ?_)
  refine w_o rfl rfl rfl (op_eq rfl rfl ?_)
  refine w_o rfl rfl rfl (op_move rfl ?_)
  first | refine w_known (t := 7) rfl (fun g7 => ?_) (fun g7 => ?_) | refine w_knownB (t := 7) rfl (fun g7 => ?_) (fun g7 => ?_)
  · exfalso; omega --closed
  · refine w_u rfl rfl rfl rfl rfl rfl ?_
    refine w_u rfl rfl rfl rfl rfl rfl ?_
    refine w_u rfl rfl rfl rfl rfl rfl ?_
    refine w_o rfl rfl rfl (op_pick rfl rfl rfl ?_)
    refine w_end ?_
    refine seq_normal ?_
    refine w_condF rfl ?_
    refine w_skip ?_
    refine seq_normal ?_
    refine w_seq ?_
    refine w_region ?_
    refine w_o rfl rfl rfl (op_move rfl ?_)
    refine w_o rfl rfl rfl (op_convi und_21 und_3 rfl (wrap_i64 (by omega) (by omega)) ?_)
    refine w_o rfl rfl rfl (op_assign rfl ?_)
    refine w_end ?_
    refine seq_normal ?_
    refine w_ret ?_
    exact ret_ret rfl sel_ k
theorem OneX_w {H : Hyp} {K : V → Hyp → Prop} {v : Int} (h0 : 0 ≤ v) (h1 : v < 128) (k : ∀ m, K (.tup [.c (.int .i64 v), .c (.int .i64 m)]) H) : CallW Try.prog Xs 47 [vS (bsOf [v])] H K := by
  have hsz : (bsOf [v]).size = 1 := rfl
  have hdec : Utf8.decode (bsOf [v]) 0 = (v.toNat, 1) := by have := decode_one v.toNat (by omega); rwa [Int.toNat_of_nonneg h0] at this
  have hv : ((v.toNat : Nat) : Int) = v := Int.toNat_of_nonneg h0
  refine call_of (n := 27) (fun _ => rfl) Try.func47 rfl rfl ?_
  refine w_seq ?_
  refine w_region ?_
  refine w_o rfl rfl rfl (op_assign rfl ?_)
  refine w_o rfl rfl rfl (op_assign rfl ?_)
  refine w_end ?_
  refine seq_normal ?_
  refine w_seq ?_
  refine w_region ?_
  refine w_o rfl rfl rfl (op_move rfl ?_)
  refine w_o rfl rfl rfl (op_lenS und_9 rfl ?_)
  refine w_o rfl rfl rfl (op_assign rfl ?_)
  refine w_o rfl rfl rfl (op_assign rfl ?_)
  refine w_end ?_
  refine seq_normal ?_
  refine w_seq ?_
  refine w_region ?_
  refine w_o rfl rfl rfl (op_assign rfl ?_)
  refine w_end ?_
  refine seq_normal ?_
  refine w_seq ?_
  refine w_seq ?_
  refine w_region ?_
  refine w_o rfl rfl rfl (op_move rfl ?_)
  refine w_o rfl rfl rfl (op_range und_9 rfl fun b12 => ?_)
  refine w_end ?_
  refine seq_normal ?_
  refine w_block ?_
  refine w_loop (fun m e H' => ∃ (j : Nat) (a b : Int), j ≤ 1 ∧ m = 1 - j ∧ (j = 1 → a = v) ∧ H' = (b12, .iter (bsOf [v]) j) :: H ∧ e = [(0, vS (bsOf [v])), (4, vI a), (5, vI b), (6, vI (j : Nat)), (12, ptrV b12 0)]) ?_ ?_
  · exact ⟨_, _, _, ⟨0, _, _, by decide, rfl, fun h => absurd h (by decide), rfl, rfl⟩, env_, sel_⟩
  · rintro m e H' ⟨j, a, b, hj, rfl, ha, rfl, rfl⟩
    refine w_seq ?_
    refine w_region ?_
    refine w_o rfl rfl rfl (op_next rfl (by (repeat (first | exact Pick.head _ _ _ | apply Pick.tail | apply Pick.app)); first | done | fail) (fun h13 => ?_) (fun h13 => ?_))
    · obtain rfl : j = 0 := by omega
      rw [hdec, hv]
      refine w_o rfl rfl rfl (op_extract rfl rfl ?_)
      refine w_end ?_
      refine seq_normal ?_
      refine w_seq ?_
      first | refine w_cond rfl (fun hI1 => ?_) (fun hI1 => ?_) | refine w_condB rfl (fun hI1 => ?_) (fun hI1 => ?_)
      · try (cases hI1)
        all_goals
          refine w_skip ?_
          refine seq_normal ?_
          refine w_block ?_
          refine w_seq ?_
          refine w_region ?_
          refine w_o rfl rfl rfl (op_extract rfl rfl ?_)
          refine w_o rfl rfl rfl (op_extract rfl rfl ?_)
          refine w_o rfl rfl rfl (op_assign rfl ?_)
          refine w_o rfl rfl rfl (op_assign rfl ?_)
          refine w_end ?_
          refine seq_normal ?_
          refine w_seq ?_
          refine w_seq ?_
          refine w_region ?_
          refine w_o rfl rfl rfl (op_move rfl ?_)
          refine w_o rfl rfl rfl (op_eq rfl rfl ?_)
          refine w_end ?_
          refine seq_normal ?_
          first | refine w_cond rfl (fun hI2 => ?_) (fun hI2 => ?_) | refine w_condB rfl (fun hI2 => ?_) (fun hI2 => ?_)
          · try (exfalso; revert hI2; decide)
            all_goals
              refine w_seq ?_
              refine w_region ?_
              refine w_o rfl rfl rfl (op_move rfl ?_)
              refine w_o rfl rfl rfl (op_assign rfl ?_)
              refine w_end ?_
              refine seq_normal ?_
              refine w_exit ?_
              refine seq_exit ?_
              refine block_miss rfl ?_
              refine loop_exit ?_
              refine block_hit rfl ?_
              refine seq_normal ?_
              refine w_seq ?_
              refine w_region ?_
              refine w_o rfl rfl rfl (op_move rfl ?_)
              refine w_o rfl rfl rfl (op_move rfl ?_)
              refine w_o rfl rfl rfl (op_assign rfl ?_)
              refine w_o rfl rfl rfl (op_assign rfl ?_)
              refine w_end ?_
              refine seq_normal ?_
              refine w_ret ?_
              rw [ha hj1]
              exact ret_ret rfl sel_ (k _)
          · try (exfalso; revert hI2; decide)
            all_goals
              refine w_skip ?_
              refine seq_normal ?_
              refine w_seq ?_
              refine w_region ?_
              refine w_o rfl rfl rfl (op_move rfl ?_)
              refine w_o rfl rfl rfl (op_move rfl ?_)
              refine w_o rfl rfl rfl (op_call rfl rfl rfl ?_)
              refine utfvalueX_w h0 h1 ?_
              refine w_o rfl rfl rfl (op_assign rfl ?_)
              refine w_end ?_
              refine seq_normal ?_
              refine w_region ?_
              refine w_o rfl rfl rfl (op_move rfl ?_)
              refine w_o rfl rfl rfl (op_addi rfl rfl (by omega) (by omega) ?_)
              refine w_o rfl rfl rfl (op_assign rfl ?_)
              refine w_end ?_
              refine block_normal ?_
              exact loop_normal (k' := 0) (by decide) ⟨1, v, _, by omega, rfl, fun _ => rfl, rfl, rfl⟩ env_ sel_
      · try (cases hI1)
        all_goals
          refine w_exit ?_
          refine seq_exit ?_
          refine loop_exit ?_
          refine block_hit rfl ?_
          refine seq_normal ?_
          refine w_seq ?_
          refine w_region ?_
          refine w_o rfl rfl rfl (op_move rfl ?_)
          refine w_o rfl rfl rfl (op_move rfl ?_)
          refine w_o rfl rfl rfl (op_assign rfl ?_)
          refine w_o rfl rfl rfl (op_assign rfl ?_)
          refine w_end ?_
          refine seq_normal ?_
          refine w_ret ?_
          rw [ha hj1]
          exact ret_ret rfl sel_ (k _)
    · have hj1 : j = 1 := by omega
      refine w_o rfl rfl rfl (op_extract rfl rfl ?_)
      refine w_end ?_
      refine seq_normal ?_
      refine w_seq ?_
      first | refine w_cond rfl (fun hI1 => ?_) (fun hI1 => ?_) | refine w_condB rfl (fun hI1 => ?_) (fun hI1 => ?_)
      · try (cases hI1)
        all_goals
          refine w_skip ?_
          refine seq_normal ?_
          refine w_block ?_
          refine w_seq ?_
          refine w_region ?_
          refine w_o rfl rfl rfl (op_extract rfl rfl ?_)
          refine w_o rfl rfl rfl (op_extract rfl rfl ?_)
          refine w_o rfl rfl rfl (op_assign rfl ?_)
          refine w_o rfl rfl rfl (op_assign rfl ?_)
          refine w_end ?_
          refine seq_normal ?_
          refine w_seq ?_
          refine w_seq ?_
          refine w_region ?_
          refine w_o rfl rfl rfl (op_move rfl ?_)
          refine w_o rfl rfl rfl (op_eq rfl rfl ?_)
          refine w_end ?_
          refine seq_normal ?_
          first | refine w_cond rfl (fun hI2 => ?_) (fun hI2 => ?_) | refine w_condB rfl (fun hI2 => ?_) (fun hI2 => ?_)
          · try (exfalso; revert hI2; decide)
            all_goals
              refine w_seq ?_
              refine w_region ?_
              refine w_o rfl rfl rfl (op_move rfl ?_)
              refine w_o rfl rfl rfl (op_assign rfl ?_)
              refine w_end ?_
              refine seq_normal ?_
              refine w_exit ?_
              refine seq_exit ?_
              refine block_miss rfl ?_
              refine loop_exit ?_
              refine block_hit rfl ?_
              refine seq_normal ?_
              refine w_seq ?_
              refine w_region ?_
              refine w_o rfl rfl rfl (op_move rfl ?_)
              refine w_o rfl rfl rfl (op_move rfl ?_)
              refine w_o rfl rfl rfl (op_assign rfl ?_)
              refine w_o rfl rfl rfl (op_assign rfl ?_)
              refine w_end ?_
              refine seq_normal ?_
              refine w_ret ?_
              rw [ha hj1]
              exact ret_ret rfl sel_ (k _)
          · try (exfalso; revert hI2; decide)
            all_goals
              refine w_skip ?_
              refine seq_normal ?_
              refine w_seq ?_
              refine w_region ?_
              refine w_o rfl rfl rfl (op_move rfl ?_)
              refine w_o rfl rfl rfl (op_move rfl ?_)
              refine w_o rfl rfl rfl (op_call rfl rfl rfl ?_)
              refine utfvalueX_w h0 h1 ?_
              refine w_o rfl rfl rfl (op_assign rfl ?_)
              refine w_end ?_
              refine seq_normal ?_
              refine w_region ?_
              refine w_o rfl rfl rfl (op_move rfl ?_)
              refine w_o rfl rfl rfl (op_addi rfl rfl (by omega) (by omega) ?_)
              refine w_o rfl rfl rfl (op_assign rfl ?_)
              refine w_end ?_
              refine block_normal ?_
              exact loop_normal (k' := 0) (by decide) ⟨1, v, _, by omega, rfl, fun _ => rfl, rfl, rfl⟩ env_ sel_
      · try (cases hI1)
        all_goals
          refine w_exit ?_
          refine seq_exit ?_
          refine loop_exit ?_
          refine block_hit rfl ?_
          refine seq_normal ?_
          refine w_seq ?_
          refine w_region ?_
          refine w_o rfl rfl rfl (op_move rfl ?_)
          refine w_o rfl rfl rfl (op_move rfl ?_)
          refine w_o rfl rfl rfl (op_assign rfl ?_)
          refine w_o rfl rfl rfl (op_assign rfl ?_)
          refine w_end ?_
          refine seq_normal ?_
          refine w_ret ?_
          rw [ha hj1]
          exact ret_ret rfl sel_ (k _)
end Go.Proofs.Yteghmemcikiblaa.AM.B
