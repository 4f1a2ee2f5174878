/- UTF-8: the model's decoding, Go's tables and the reference's words say the same. No program. -/
import Derived.Test.YtigkfladgdknbaaAX
import Derived.Test.YtigkfladgdknbaaButfenc
import Derived.Lib.DecodeNEq
set_option linter.unusedVariables false
set_option linter.unusedSimpArgs false
set_option maxRecDepth 10000
set_option maxHeartbeats 4000000
namespace Go.Proofs.Ytigkfladgdknbaa.AM.B
open Go Go.RowKit
/-- Of how many bytes what a byte begins is. -/
def szN (b : Nat) : Nat := if b < 128 then 1 else if 194 ≤ b ∧ b ≤ 223 then 2 else if 224 ≤ b ∧ b ≤ 239 then 3 else if 240 ≤ b ∧ b ≤ 244 then 4 else 0
/-- May a byte be the how manieth behind the first one? -/
def mayN (b0 c i : Nat) : Bool := decide (128 ≤ c ∧ c ≤ 191 ∧ (1 < i ∨ ¬ (b0 = 224 ∧ c < 160 ∨ b0 = 237 ∧ c > 159 ∨ b0 = 240 ∧ c < 144 ∨ b0 = 244 ∧ c > 143)))
/-- How many bytes belong to what the first one begins. -/
def begN (n b0 b1 b2 b3 : Nat) : Nat :=
  if 1 < szN b0 ∧ 1 < n ∧ mayN b0 b1 1 = true then
    (if 2 < szN b0 ∧ 2 < n ∧ mayN b0 b2 2 = true then (if 3 < szN b0 ∧ 3 < n ∧ mayN b0 b3 3 = true then 4 else 3) else 2)
  else 1
/-- The first value, and its size. -/
def oneN (n b0 b1 b2 b3 : Nat) : Nat × Nat :=
  if begN n b0 b1 b2 b3 ≠ szN b0 then (1114112 + b0, 1)
  else if szN b0 = 1 then (b0, 1)
  else if szN b0 = 2 then (b0 % 32 * 64 + b1 % 64, 2)
  else if szN b0 = 3 then (b0 % 16 * 4096 + b1 % 64 * 64 + b2 % 64, 3)
  else (b0 % 8 * 262144 + b1 % 64 * 4096 + b2 % 64 * 64 + b3 % 64, 4)
theorem szN_of (b : Nat) : (b < 128 ∧ szN b = 1) ∨ (194 ≤ b ∧ b < 224 ∧ szN b = 2) ∨ (224 ≤ b ∧ b < 240 ∧ szN b = 3) ∨ (240 ≤ b ∧ b ≤ 244 ∧ szN b = 4) ∨ ((128 ≤ b ∧ b < 194 ∨ 244 < b) ∧ szN b = 0) := by
  unfold szN
  repeat' split
  all_goals omega
/-- The model's own decoding, by the same words. -/
theorem decode_one (n b0 b1 b2 b3 : Nat) (hn : 1 ≤ n) (h0 : b0 < 256) (h1 : b1 < 256) (h2 : b2 < 256) (h3 : b3 < 256) :
    Lib.decodeN n b0 b1 b2 b3 = if begN n b0 b1 b2 b3 ≠ szN b0 then (65533, 1) else oneN n b0 b1 b2 b3 := by
  rcases szN_of b0 with ⟨ha, hs⟩ | ⟨ha, hb, hs⟩ | ⟨ha, hb, hs⟩ | ⟨ha, hb, hs⟩ | ⟨ha, hs⟩
  · rw [Lib.ascii_eq n b0 b1 b2 b3 (by unfold Lib.firstT; rw [if_pos ha])]
    unfold oneN begN
    rw [hs]
    simp
  · rw [← Lib.slow_C2 n b0 b1 b2 b3 hn h1 h2 h3 ⟨ha, hb⟩]
    unfold Lib.slowN oneN begN
    rw [hs]
    simp only [mayN, decide_eq_true_eq]
    by_cases c : 1 < n ∧ 128 ≤ b1 ∧ b1 ≤ 191
    · rw [if_neg (by omega), if_neg (by omega), if_pos (by omega), if_pos (show 1 < 2 ∧ 1 < n ∧ 128 ≤ b1 ∧ b1 ≤ 191 ∧ _ by omega)]
      simp
    · rw [if_neg (show ¬ (1 < 2 ∧ 1 < n ∧ 128 ≤ b1 ∧ b1 ≤ 191 ∧ _) by omega), if_pos (show (1 : Nat) ≠ 2 by omega)]
      by_cases c2 : n < 2
      · rw [if_pos c2]
      · rw [if_neg c2, if_pos (show b1 < 128 ∨ 191 < b1 by omega)]
  · have key : ∀ lo hi, Lib.slowN n b0 b1 b2 b3 3 lo hi = Lib.decodeN n b0 b1 b2 b3 → (∀ x, mayN b0 x 1 = decide (lo ≤ x ∧ x ≤ hi)) → Lib.decodeN n b0 b1 b2 b3 = if begN n b0 b1 b2 b3 ≠ szN b0 then (65533, 1) else oneN n b0 b1 b2 b3 := by
      intro lo hi e hm
      rw [← e]
      unfold Lib.slowN oneN begN
      rw [hs, hm]
      simp only [mayN, decide_eq_true_eq]
      by_cases c1 : 1 < n ∧ lo ≤ b1 ∧ b1 ≤ hi
      · rw [if_pos (show 1 < 3 ∧ 1 < n ∧ lo ≤ b1 ∧ b1 ≤ hi by omega)]
        by_cases c2 : 2 < n ∧ 128 ≤ b2 ∧ b2 ≤ 191
        · rw [if_pos (show 2 < 3 ∧ 2 < n ∧ 128 ≤ b2 ∧ b2 ≤ 191 ∧ _ by omega), if_neg (show ¬ n < 3 by omega), if_neg (show ¬ (b1 < lo ∨ hi < b1) by omega), if_neg (show ¬ 3 ≤ 2 by omega), if_neg (show ¬ (b2 < 128 ∨ 191 < b2) by omega)]
          simp
        · rw [if_neg (show ¬ (2 < 3 ∧ 2 < n ∧ 128 ≤ b2 ∧ b2 ≤ 191 ∧ _) by omega), if_pos (show (2 : Nat) ≠ 3 by omega)]
          by_cases c3 : n < 3
          · rw [if_pos c3]
          · rw [if_neg c3, if_neg (show ¬ (b1 < lo ∨ hi < b1) by omega), if_neg (show ¬ 3 ≤ 2 by omega), if_pos (show b2 < 128 ∨ 191 < b2 by omega)]
      · rw [if_neg (show ¬ (1 < 3 ∧ 1 < n ∧ lo ≤ b1 ∧ b1 ≤ hi) by omega), if_pos (show (1 : Nat) ≠ 3 by omega)]
        by_cases c3 : n < 3
        · rw [if_pos c3]
        · rw [if_neg c3, if_pos (show b1 < lo ∨ hi < b1 by omega)]
    by_cases q1 : b0 = 224
    · exact key _ _ (Lib.slow_E0 n b0 b1 b2 b3 hn h1 h2 h3 q1) fun x => by unfold mayN; rw [decide_eq_decide]; omega
    · by_cases q2 : b0 = 237
      · exact key _ _ (Lib.slow_ED n b0 b1 b2 b3 hn h1 h2 h3 q2) fun x => by unfold mayN; rw [decide_eq_decide]; omega
      · exact key _ _ (Lib.slow_E1 n b0 b1 b2 b3 hn h1 h2 h3 (by omega)) fun x => by unfold mayN; rw [decide_eq_decide]; omega
  · have key : ∀ lo hi, Lib.slowN n b0 b1 b2 b3 4 lo hi = Lib.decodeN n b0 b1 b2 b3 → (∀ x, mayN b0 x 1 = decide (lo ≤ x ∧ x ≤ hi)) → Lib.decodeN n b0 b1 b2 b3 = if begN n b0 b1 b2 b3 ≠ szN b0 then (65533, 1) else oneN n b0 b1 b2 b3 := by
      intro lo hi e hm
      rw [← e]
      unfold Lib.slowN oneN begN
      rw [hs, hm]
      simp only [mayN, decide_eq_true_eq]
      by_cases c1 : 1 < n ∧ lo ≤ b1 ∧ b1 ≤ hi
      · rw [if_pos (show 1 < 4 ∧ 1 < n ∧ lo ≤ b1 ∧ b1 ≤ hi by omega)]
        by_cases c2 : 2 < n ∧ 128 ≤ b2 ∧ b2 ≤ 191
        · rw [if_pos (show 2 < 4 ∧ 2 < n ∧ 128 ≤ b2 ∧ b2 ≤ 191 ∧ _ by omega)]
          by_cases c3 : 3 < n ∧ 128 ≤ b3 ∧ b3 ≤ 191
          · rw [if_pos (show 3 < 4 ∧ 3 < n ∧ 128 ≤ b3 ∧ b3 ≤ 191 ∧ _ by omega), if_neg (show ¬ n < 4 by omega), if_neg (show ¬ (b1 < lo ∨ hi < b1) by omega), if_neg (show ¬ 4 ≤ 2 by omega), if_neg (show ¬ (b2 < 128 ∨ 191 < b2) by omega), if_neg (show ¬ 4 ≤ 3 by omega), if_neg (show ¬ (b3 < 128 ∨ 191 < b3) by omega)]
            simp
          · rw [if_neg (show ¬ (3 < 4 ∧ 3 < n ∧ 128 ≤ b3 ∧ b3 ≤ 191 ∧ _) by omega), if_pos (show (3 : Nat) ≠ 4 by omega)]
            by_cases c4 : n < 4
            · rw [if_pos c4]
            · rw [if_neg c4, if_neg (show ¬ (b1 < lo ∨ hi < b1) by omega), if_neg (show ¬ 4 ≤ 2 by omega), if_neg (show ¬ (b2 < 128 ∨ 191 < b2) by omega), if_neg (show ¬ 4 ≤ 3 by omega), if_pos (show b3 < 128 ∨ 191 < b3 by omega)]
        · rw [if_neg (show ¬ (2 < 4 ∧ 2 < n ∧ 128 ≤ b2 ∧ b2 ≤ 191 ∧ _) by omega), if_pos (show (2 : Nat) ≠ 4 by omega)]
          by_cases c3 : n < 4
          · rw [if_pos c3]
          · rw [if_neg c3, if_neg (show ¬ (b1 < lo ∨ hi < b1) by omega), if_neg (show ¬ 4 ≤ 2 by omega), if_pos (show b2 < 128 ∨ 191 < b2 by omega)]
      · rw [if_neg (show ¬ (1 < 4 ∧ 1 < n ∧ lo ≤ b1 ∧ b1 ≤ hi) by omega), if_pos (show (1 : Nat) ≠ 4 by omega)]
        by_cases c3 : n < 4
        · rw [if_pos c3]
        · rw [if_neg c3, if_pos (show b1 < lo ∨ hi < b1 by omega)]
    by_cases q1 : b0 = 240
    · exact key _ _ (Lib.slow_F0 n b0 b1 b2 b3 hn h1 h2 h3 q1) fun x => by unfold mayN; rw [decide_eq_decide]; omega
    · by_cases q2 : b0 = 244
      · exact key _ _ (Lib.slow_F4 n b0 b1 b2 b3 hn h1 h2 h3 q2) fun x => by unfold mayN; rw [decide_eq_decide]; omega
      · exact key _ _ (Lib.slow_F1 n b0 b1 b2 b3 hn h1 h2 h3 (by omega)) fun x => by unfold mayN; rw [decide_eq_decide]; omega
  · rw [Lib.bad_eq n b0 b1 b2 b3 h0 (by unfold Lib.firstT; repeat' split
                                        all_goals omega)]
    have : begN n b0 b1 b2 b3 ≠ szN b0 := by
      rw [hs]; unfold begN
      repeat' split
      all_goals omega
    rw [if_pos this]
theorem beg_le (n b0 b1 b2 b3 : Nat) (hn : 1 ≤ n) : 1 ≤ begN n b0 b1 b2 b3 ∧ begN n b0 b1 b2 b3 ≤ n ∧ begN n b0 b1 b2 b3 ≤ 4 := by
  unfold begN
  repeat' split
  all_goals omega
theorem one_wid (n b0 b1 b2 b3 : Nat) (hn : 1 ≤ n) : 1 ≤ (oneN n b0 b1 b2 b3).2 ∧ (oneN n b0 b1 b2 b3).2 ≤ n ∧ (oneN n b0 b1 b2 b3).2 ≤ 4 := by
  have hb := beg_le n b0 b1 b2 b3 hn
  unfold oneN
  rcases szN_of b0 with ⟨_, hs⟩ | ⟨_, _, hs⟩ | ⟨_, _, hs⟩ | ⟨_, _, hs⟩ | ⟨_, hs⟩ <;> rw [hs] <;> repeat' split
  all_goals (simp only []; omega)
/-- A whole value's bytes, and what is so of its number. -/
theorem one_ok {n b0 b1 b2 b3 : Nat} (h : begN n b0 b1 b2 b3 = szN b0) :
    (b0 < 128 ∧ oneN n b0 b1 b2 b3 = (b0, 1)) ∨
    (1 < n ∧ 194 ≤ b0 ∧ b0 < 224 ∧ 128 ≤ b1 ∧ b1 ≤ 191 ∧ oneN n b0 b1 b2 b3 = (b0 % 32 * 64 + b1 % 64, 2)) ∨
    (2 < n ∧ 224 ≤ b0 ∧ b0 < 240 ∧ 128 ≤ b1 ∧ b1 ≤ 191 ∧ ¬ (b0 = 224 ∧ b1 < 160 ∨ b0 = 237 ∧ b1 > 159) ∧ 128 ≤ b2 ∧ b2 ≤ 191 ∧ oneN n b0 b1 b2 b3 = (b0 % 16 * 4096 + b1 % 64 * 64 + b2 % 64, 3)) ∨
    (3 < n ∧ 240 ≤ b0 ∧ b0 ≤ 244 ∧ 128 ≤ b1 ∧ b1 ≤ 191 ∧ ¬ (b0 = 240 ∧ b1 < 144 ∨ b0 = 244 ∧ b1 > 143) ∧ 128 ≤ b2 ∧ b2 ≤ 191 ∧ 128 ≤ b3 ∧ b3 ≤ 191 ∧ oneN n b0 b1 b2 b3 = (b0 % 8 * 262144 + b1 % 64 * 4096 + b2 % 64 * 64 + b3 % 64, 4)) := by
  unfold oneN
  rw [if_neg (fun q => q h)]
  unfold begN at h
  rcases szN_of b0 with ⟨ha, hs⟩ | ⟨ha, hb, hs⟩ | ⟨ha, hb, hs⟩ | ⟨ha, hb, hs⟩ | ⟨ha, hs⟩
  · left; refine ⟨ha, ?_⟩; rw [hs]; simp
  · right; left
    rw [hs] at h ⊢
    by_cases c : 1 < 2 ∧ 1 < n ∧ mayN b0 b1 1 = true
    · have := of_decide_eq_true c.2.2
      exact ⟨c.2.1, ha, hb, this.1, this.2.1, by simp⟩
    · rw [if_neg c] at h; omega
  · right; right; left
    rw [hs] at h ⊢
    by_cases c : 1 < 3 ∧ 1 < n ∧ mayN b0 b1 1 = true
    · rw [if_pos c] at h
      by_cases c2 : 2 < 3 ∧ 2 < n ∧ mayN b0 b2 2 = true
      · have t1 := of_decide_eq_true c.2.2
        have t2 := of_decide_eq_true c2.2.2
        exact ⟨c2.2.1, ha, hb, t1.1, t1.2.1, by omega, t2.1, t2.2.1, by simp⟩
      · rw [if_neg c2] at h; omega
    · rw [if_neg c] at h; omega
  · right; right; right
    rw [hs] at h ⊢
    by_cases c : 1 < 4 ∧ 1 < n ∧ mayN b0 b1 1 = true
    · rw [if_pos c] at h
      by_cases c2 : 2 < 4 ∧ 2 < n ∧ mayN b0 b2 2 = true
      · rw [if_pos c2] at h
        by_cases c3 : 3 < 4 ∧ 3 < n ∧ mayN b0 b3 3 = true
        · have t1 := of_decide_eq_true c.2.2
          have t2 := of_decide_eq_true c2.2.2
          have t3 := of_decide_eq_true c3.2.2
          exact ⟨c3.2.1, ha, hb, t1.1, t1.2.1, by omega, t2.1, t2.2.1, t3.1, t3.2.1, by simp⟩
        · rw [if_neg c3] at h; omega
      · rw [if_neg c2] at h; omega
    · rw [if_neg c] at h; omega
  · exfalso
    rw [hs] at h
    revert h
    repeat' split
    all_goals omega
/-- More bytes behind a whole value change nothing. -/
theorem one_more {n n' b0 b1 b2 b3 c1 c2 c3 : Nat} (h : begN n b0 b1 b2 b3 = szN b0) (hn : n ≤ n') (e1 : 1 < n → c1 = b1) (e2 : 2 < n → c2 = b2) (e3 : 3 < n → c3 = b3) :
    begN n' b0 c1 c2 c3 = szN b0 ∧ oneN n' b0 c1 c2 c3 = oneN n b0 b1 b2 b3 := by
  have hb : begN n' b0 c1 c2 c3 = szN b0 := by
    rcases szN_of b0 with ⟨ha, hs⟩ | ⟨ha, hb, hs⟩ | ⟨ha, hb, hs⟩ | ⟨ha, hb, hs⟩ | ⟨ha, hs⟩
    · unfold begN; rw [hs]; simp
    · unfold begN at h ⊢
      rw [hs] at h ⊢
      by_cases c : 1 < 2 ∧ 1 < n ∧ mayN b0 b1 1 = true
      · obtain rfl := e1 c.2.1
        rw [if_pos ⟨c.1, by omega, c.2.2⟩]; simp
      · rw [if_neg c] at h; omega
    · unfold begN at h ⊢
      rw [hs] at h ⊢
      by_cases c : 1 < 3 ∧ 1 < n ∧ mayN b0 b1 1 = true
      · obtain rfl := e1 c.2.1
        rw [if_pos c] at h
        rw [if_pos ⟨c.1, by omega, c.2.2⟩]
        by_cases c2 : 2 < 3 ∧ 2 < n ∧ mayN b0 b2 2 = true
        · obtain rfl := e2 c2.2.1
          rw [if_pos ⟨c2.1, by omega, c2.2.2⟩]; simp
        · rw [if_neg c2] at h; omega
      · rw [if_neg c] at h; omega
    · unfold begN at h ⊢
      rw [hs] at h ⊢
      by_cases c : 1 < 4 ∧ 1 < n ∧ mayN b0 b1 1 = true
      · obtain rfl := e1 c.2.1
        rw [if_pos c] at h
        rw [if_pos ⟨c.1, by omega, c.2.2⟩]
        by_cases c2 : 2 < 4 ∧ 2 < n ∧ mayN b0 b2 2 = true
        · obtain rfl := e2 c2.2.1
          rw [if_pos c2] at h
          rw [if_pos ⟨c2.1, by omega, c2.2.2⟩]
          by_cases c3 : 3 < 4 ∧ 3 < n ∧ mayN b0 b3 3 = true
          · obtain rfl := e3 c3.2.1
            rw [if_pos ⟨c3.1, by omega, c3.2.2⟩]
          · rw [if_neg c3] at h; omega
        · rw [if_neg c2] at h; omega
      · rw [if_neg c] at h; omega
    · exfalso
      have := h
      unfold begN at this
      rw [hs] at this
      revert this
      repeat' split
      all_goals omega
  refine ⟨hb, ?_⟩
  rcases one_ok h with ⟨q, e⟩ | ⟨q, q1, q2, _, _, e⟩ | ⟨q, q1, q2, _, _, _, _, _, e⟩ | ⟨q, q1, q2, _, _, _, _, _, _, _, e⟩
  all_goals rw [e]; unfold oneN; rw [if_neg (fun z => z hb)]
  · rw [if_pos (by unfold szN; rw [if_pos q])]
  · have hs : szN b0 = 2 := by rcases szN_of b0 with ⟨_, hs⟩ | ⟨_, _, hs⟩ | ⟨_, _, hs⟩ | ⟨_, _, hs⟩ | ⟨_, hs⟩ <;> omega
    rw [hs, e1 q]; simp
  · have hs : szN b0 = 3 := by rcases szN_of b0 with ⟨_, hs⟩ | ⟨_, _, hs⟩ | ⟨_, _, hs⟩ | ⟨_, _, hs⟩ | ⟨_, hs⟩ <;> omega
    rw [hs, e1 (by omega), e2 q]; simp
  · have hs : szN b0 = 4 := by rcases szN_of b0 with ⟨_, hs⟩ | ⟨_, _, hs⟩ | ⟨_, _, hs⟩ | ⟨_, _, hs⟩ | ⟨_, hs⟩ <;> omega
    rw [hs, e1 (by omega), e2 (by omega), e3 q]; simp
def bAt (l : List UInt8) (i : Nat) : Nat := ((l[i]?).getD 0).toNat
theorem bAt_lt (l : List UInt8) (i : Nat) : bAt l i < 256 := UInt8.toNat_lt _
theorem bAt_drop (l : List UInt8) (p i : Nat) : bAt (l.drop p) i = bAt l (p + i) := by unfold bAt; rw [List.getElem?_drop]
theorem get!_bAt (s : ByteArray) (i : Nat) : (s.get! i).toNat = bAt s.data.toList i := by
  unfold bAt
  have : s.get! i = (s.data.toList[i]?).getD 0 := by
    rw [Array.getElem?_toList]
    show s.data[i]! = _
    rw [getElem!_def]
    cases s.data[i]? <;> rfl
  rw [this]
/-- The first value of a text, and its size. -/
def oneL (l : List UInt8) : Nat × Nat := oneN l.length (bAt l 0) (bAt l 1) (bAt l 2) (bAt l 3)
def begL (l : List UInt8) : Nat := begN l.length (bAt l 0) (bAt l 1) (bAt l 2) (bAt l 3)
theorem oneL_wid {l : List UInt8} (h : l ≠ []) : 1 ≤ (oneL l).2 ∧ (oneL l).2 ≤ l.length ∧ (oneL l).2 ≤ 4 :=
  one_wid _ _ _ _ _ (by cases l; exact absurd rfl h; simp)
/-- A text's values; so many at most. -/
def valsL : Nat → List UInt8 → List Int
  | 0, _ => []
  | k + 1, l => if l = [] then [] else ((oneL l).1 : Int) :: valsL k (l.drop (oneL l).2)
theorem valsL_more : ∀ (k m : Nat) (l : List UInt8), l.length ≤ k → l.length ≤ m → valsL k l = valsL m l
  | 0, m, l, h, _ => by
    have : l = [] := List.length_eq_zero_iff.1 (by omega)
    subst this; cases m <;> rfl
  | k + 1, 0, l, _, h => by
    have : l = [] := List.length_eq_zero_iff.1 (by omega)
    subst this; rfl
  | k + 1, m + 1, l, h1, h2 => by
    unfold valsL
    by_cases e : l = []
    · rw [if_pos e, if_pos e]
    · rw [if_neg e, if_neg e]
      have hw := oneL_wid e
      rw [valsL_more k m _ (by rw [List.length_drop]; omega) (by rw [List.length_drop]; omega)]
def vals (l : List UInt8) : List Int := valsL l.length l
theorem vals_nil : vals [] = [] := rfl
theorem vals_cons {l : List UInt8} (h : l ≠ []) : vals l = ((oneL l).1 : Int) :: vals (l.drop (oneL l).2) := by
  have hw := oneL_wid h
  have hl : 0 < l.length := List.length_pos_iff.2 h
  unfold vals
  rw [valsL_more l.length (l.length - 1 + 1) l (Nat.le_refl _) (by omega)]
  conv => lhs; unfold valsL
  rw [if_neg h, valsL_more (l.length - 1) (l.drop (oneL l).2).length _ (by rw [List.length_drop]; omega) (Nat.le_refl _)]
theorem vals_len (l : List UInt8) : (vals l).length ≤ l.length := by
  have key : ∀ k (l : List UInt8), (valsL k l).length ≤ k := by
    intro k
    induction k with
    | zero => intro l; exact Nat.le_refl _
    | succ k ih =>
      intro l; unfold valsL
      split
      · simp
      · simp only [List.length_cons]; have := ih (l.drop (oneL l).2); omega
  exact key _ _
/-- Two texts, one behind the other. -/
theorem vals_join : ∀ (k : Nat) (l r : List UInt8), l.length ≤ k → (∀ v ∈ vals l, v ≤ 1114111) → vals (l ++ r) = vals l ++ vals r
  | 0, l, r, h, _ => by
    have : l = [] := List.length_eq_zero_iff.1 (by omega)
    subst this; rfl
  | k + 1, l, r, h, hv => by
    by_cases e : l = []
    · subst e; rfl
    · have hw := oneL_wid e
      rw [vals_cons e] at hv
      have h0 := hv _ (List.mem_cons_self ..)
      have hb : begN l.length (bAt l 0) (bAt l 1) (bAt l 2) (bAt l 3) = szN (bAt l 0) := by
        apply Classical.byContradiction
        intro q
        have : oneL l = (1114112 + bAt l 0, 1) := by unfold oneL oneN; rw [if_pos q]
        rw [this] at h0
        simp only [] at h0
        omega
      have hat : ∀ i, i < l.length → bAt (l ++ r) i = bAt l i := by
        intro i hi; unfold bAt; rw [List.getElem?_append_left hi]
      have hl0 : 0 < l.length := List.length_pos_iff.2 e
      have hm := one_more (n' := (l ++ r).length) (c1 := bAt (l ++ r) 1) (c2 := bAt (l ++ r) 2) (c3 := bAt (l ++ r) 3) hb (by rw [List.length_append]; omega) (hat 1) (hat 2) (hat 3)
      have e1 : oneL (l ++ r) = oneL l := by unfold oneL; rw [hat 0 hl0]; exact hm.2
      have hne : l ++ r ≠ [] := by cases l; exact absurd rfl e; simp
      rw [vals_cons hne, vals_cons e, e1, List.cons_append, List.drop_append_of_le_length hw.2.1]
      rw [vals_join k _ r (by rw [List.length_drop]; omega) fun v hx => hv v (List.mem_cons_of_mem _ hx)]
theorem three_of {α : Type} {l : List α} (h : 2 < l.length) : ∃ x y z r, l = x :: y :: z :: r := by
  match l, h with
  | x :: y :: z :: r, _ => exact ⟨x, y, z, r, rfl⟩
  | [], h => simp at h
  | [_], h => simp at h
  | [_, _], h => simp at h
/-- How the program tells the first value: the model's decoding, and the replacement rune's own bytes. -/
theorem value_one {l : List UInt8} (hne : l ≠ []) : (oneL l).2 = (Lib.decodeN l.length (bAt l 0) (bAt l 1) (bAt l 2) (bAt l 3)).2 ∧
    (oneL l).1 = if (Lib.decodeN l.length (bAt l 0) (bAt l 1) (bAt l 2) (bAt l 3)).1 = 65533 ∧ ¬ (l.take 3 = [239, 191, 189]) then 1114112 + bAt l 0 else (Lib.decodeN l.length (bAt l 0) (bAt l 1) (bAt l 2) (bAt l 3)).1 := by
  have hl0 : 0 < l.length := List.length_pos_iff.2 hne
  have d := decode_one l.length _ _ _ _ hl0 (bAt_lt l 0) (bAt_lt l 1) (bAt_lt l 2) (bAt_lt l 3)
  by_cases hb : begN l.length (bAt l 0) (bAt l 1) (bAt l 2) (bAt l 3) = szN (bAt l 0)
  · rw [if_neg (fun q => q hb)] at d
    rw [d]
    refine ⟨rfl, ?_⟩
    unfold oneL
    by_cases q : (oneN l.length (bAt l 0) (bAt l 1) (bAt l 2) (bAt l 3)).1 = 65533
    · rw [if_neg]
      intro z
      apply z.2
      rcases one_ok hb with ⟨q0, e⟩ | ⟨q0, q1, q2, r1, r2, e⟩ | ⟨q0, q1, q2, r1, r2, r3, r4, r5, e⟩ | ⟨q0, q1, q2, r1, r2, r3, r4, r5, r6, r7, e⟩
      all_goals rw [e] at q; simp only [] at q
      · omega
      · omega
      · have k0 : bAt l 0 = 239 := by omega
        have k1 : bAt l 1 = 191 := by omega
        have k2 : bAt l 2 = 189 := by omega
        obtain ⟨x, y, z, r, hl⟩ := three_of q0
        have a0 : x = 239 := UInt8.toNat_inj.1 (by rw [hl] at k0; exact k0)
        have a1 : y = 191 := UInt8.toNat_inj.1 (by rw [hl] at k1; exact k1)
        have a2 : z = 189 := UInt8.toNat_inj.1 (by rw [hl] at k2; exact k2)
        rw [hl, a0, a1, a2]; rfl
      · omega
    · rw [if_neg (fun z => q z.1)]
  · rw [if_pos hb] at d
    rw [d]
    have e : oneL l = (1114112 + bAt l 0, 1) := by unfold oneL oneN; rw [if_pos hb]
    rw [e]
    refine ⟨rfl, ?_⟩
    rw [if_pos]
    refine ⟨rfl, fun z => hb ?_⟩
    have hl3 : 2 < l.length := by
      have := congrArg List.length z
      rw [List.length_take] at this
      simp only [List.length_cons, List.length_nil] at this
      omega
    obtain ⟨x, y, w, r, rfl⟩ := three_of hl3
    simp only [List.take_succ_cons, List.take_zero, List.cons.injEq, and_true] at z
    obtain ⟨rfl, rfl, rfl⟩ := z
    have k0 : bAt (239 :: 191 :: 189 :: r) 0 = 239 := rfl
    have k1 : bAt (239 :: 191 :: 189 :: r) 1 = 191 := rfl
    have k2 : bAt (239 :: 191 :: 189 :: r) 2 = 189 := rfl
    have k3 : (239 :: 191 :: 189 :: r).length = r.length + 3 := rfl
    rw [k0, k1, k2, k3]
    have s3 : szN 239 = 3 := by decide
    unfold begN
    rw [s3, if_pos (show 1 < 3 ∧ 1 < r.length + 3 ∧ mayN 239 191 1 = true from ⟨by decide, by omega, by decide⟩), if_pos (show 2 < 3 ∧ 2 < r.length + 3 ∧ mayN 239 189 2 = true from ⟨by decide, by omega, by decide⟩), if_neg (show ¬ (3 < 3 ∧ _) from fun q => absurd q.1 (by decide))]
end Go.Proofs.Ytigkfladgdknbaa.AM.B
