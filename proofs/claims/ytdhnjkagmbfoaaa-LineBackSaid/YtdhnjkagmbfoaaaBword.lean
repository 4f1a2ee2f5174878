/- Words: where the next one ends, and where the one ahead begins. -/
import Derived.Test.YtdhnjkagmbfoaaaAX
import Derived.Test.YtdhnjkagmbfoaaaBsign
import Derived.Test.YtdhnjkagmbfoaaaQKind
import Derived.Test.YtdhnjkagmbfoaaaBmore
set_option linter.unusedVariables false
set_option linter.unusedSimpArgs false
set_option maxRecDepth 10000
set_option maxHeartbeats 4000000
namespace Go.Proofs.Ytdhnjkagmbfoaaa.AM.B
open Go Go.RowKit
abbrev kindV (v : Int) : Int := Go.Proofs.Ytdhnjkagmbfoaaa.P.kindW v
/-- The kind of the sign at a place; where none stands, what is told. -/
def kindO (l : List Sign) (no i : Int) : Int := if i < 0 then no else match l[i.toNat]? with | none => no | some x => kindV x.f0
theorem kindO_at {l : List Sign} {no i : Int} {x : Sign} (h0 : 0 ≤ i) (h : l[i.toNat]? = some x) : kindO l no i = kindV x.f0 := by
  unfold kindO; rw [if_neg (by omega), h]
theorem kindO_no {l : List Sign} {no i : Int} (h : i < 0 ∨ (l.length : Int) ≤ i) : kindO l no i = no := by
  unfold kindO
  split
  · rfl
  · rw [List.getElem?_eq_none (by omega)]
/-- Does a word's sign stand at a place? -/
def isW (l : List Sign) (i : Int) : Bool := decide (kindO l 0 i = 1)
theorem isW_eq (l : List Sign) {no : Int} (i : Int) (h : no ≠ 1) : decide (kindO l no i = 1) = isW l i := by
  unfold isW kindO
  split
  · simp [h]
  · split <;> simp [h]
def endsAt (l : List Sign) (i : Int) : Bool := isW l (i - 1) && !isW l i
def begsAt (l : List Sign) (i : Int) : Bool := isW l i && !isW l (i - 1)
/-- The least place from one on up to another where something is so; else that other one. -/
def upF (p : Int → Bool) (n : Int) : Nat → Int → Int
  | 0, _ => n
  | m + 1, i => if p i = true then i else upF p n m (i + 1)
def firstP (p : Int → Bool) (lo n : Int) : Int := upF p n (n + 1 - lo).toNat lo
theorem upF_at {p : Int → Bool} {n i : Int} : ∀ (m : Nat) (lo : Int), lo ≤ i → i < lo + m → p i = true → (∀ j, lo ≤ j → j < i → p j = false) → upF p n m lo = i
  | 0, lo, h1, h2, _, _ => by omega
  | m + 1, lo, h1, h2, hp, hn => by
    unfold upF
    by_cases e : lo = i
    · subst e; rw [if_pos hp]
    · rw [hn lo (by omega) (by omega), if_neg (by decide)]
      exact upF_at m (lo + 1) (by omega) (by omega) hp fun j a b => hn j (by omega) b
theorem upF_none {p : Int → Bool} {n : Int} : ∀ (m : Nat) (lo : Int), (∀ j, lo ≤ j → j < lo + m → p j = false) → upF p n m lo = n
  | 0, lo, _ => rfl
  | m + 1, lo, hn => by
    unfold upF
    rw [hn lo (by omega) (by omega), if_neg (by decide)]
    exact upF_none m (lo + 1) fun j a b => hn j (by omega) (by omega)
theorem upF_in {p : Int → Bool} {n : Int} : ∀ (m : Nat) (lo : Int), upF p n m lo = n ∨ (lo ≤ upF p n m lo ∧ upF p n m lo < lo + m)
  | 0, lo => .inl rfl
  | m + 1, lo => by
    unfold upF
    split
    · right; omega
    · rcases upF_in m (lo + 1) (p := p) (n := n) with h | h
      · exact .inl h
      · right; omega
theorem firstP_at {p : Int → Bool} {lo n i : Int} (h1 : lo ≤ i) (h2 : i ≤ n) (hp : p i = true) (hn : ∀ j, lo ≤ j → j < i → p j = false) : firstP p lo n = i :=
  upF_at _ lo h1 (by omega) hp hn
theorem firstP_none {p : Int → Bool} {lo n : Int} (hn : ∀ j, lo ≤ j → j ≤ n → p j = false) : firstP p lo n = n :=
  upF_none _ lo fun j a b => hn j a (by omega)
theorem firstP_in (p : Int → Bool) (lo n : Int) : firstP p lo n = n ∨ (lo ≤ firstP p lo n ∧ firstP p lo n ≤ n) := by
  rcases upF_in (n + 1 - lo).toNat lo (p := p) (n := n) with h | h
  · exact .inl h
  · right
    unfold firstP
    omega
/-- The greatest place up to one where something is so; else 0. -/
def downF (p : Int → Bool) : Nat → Int
  | 0 => 0
  | m + 1 => if p (m : Int) = true then (m : Int) else downF p m
def lastP (p : Int → Bool) (hi : Int) : Int := downF p (hi + 1).toNat
theorem downF_at {p : Int → Bool} {i : Int} : ∀ (m : Nat), 0 ≤ i → i < m → p i = true → (∀ j, i < j → j < m → p j = false) → downF p m = i
  | 0, h0, h1, _, _ => by omega
  | m + 1, h0, h1, hp, hn => by
    unfold downF
    by_cases e : (m : Int) = i
    · rw [e, if_pos hp]
    · rw [hn m (by omega) (by omega), if_neg (by decide)]
      exact downF_at m h0 (by omega) hp fun j a b => hn j a (by omega)
theorem downF_none {p : Int → Bool} : ∀ (m : Nat), (∀ j : Int, 1 ≤ j → j < m → p j = false) → downF p m = 0
  | 0, _ => rfl
  | m + 1, hn => by
    unfold downF
    by_cases e : m = 0
    · subst e; simp [downF]
    · rw [hn m (by omega) (by omega), if_neg (by decide)]
      exact downF_none m fun j a b => hn j a (by omega)
theorem downF_in {p : Int → Bool} : ∀ (m : Nat), 0 ≤ downF p m ∧ (downF p m = 0 ∨ downF p m < m)
  | 0 => ⟨Int.le_refl _, .inl rfl⟩
  | m + 1 => by
    unfold downF
    split
    · omega
    · have := downF_in m (p := p); omega
theorem lastP_at {p : Int → Bool} {hi i : Int} (h0 : 0 ≤ i) (h1 : i ≤ hi) (hp : p i = true) (hn : ∀ j, i < j → j ≤ hi → p j = false) : lastP p hi = i :=
  downF_at _ h0 (by omega) hp fun j a b => hn j a (by omega)
theorem lastP_none {p : Int → Bool} {hi : Int} (hn : ∀ j, 1 ≤ j → j ≤ hi → p j = false) : lastP p hi = 0 :=
  downF_none _ fun j a b => hn j a (by omega)
theorem lastP_in (p : Int → Bool) (hi : Int) : 0 ≤ lastP p hi ∧ (lastP p hi = 0 ∨ lastP p hi ≤ hi) := by
  have := downF_in (hi + 1).toNat (p := p)
  unfold lastP
  omega
abbrev clampV (l : List Sign) (a : Int) : Int := min (max a 0) (l.length : Nat)
theorem clampV_in (l : List Sign) (a : Int) : 0 ≤ clampV l a ∧ clampV l a ≤ l.length ∧ (a ≤ l.length → a ≤ clampV l a) := by
  unfold clampV; omega
def nextV (l : List Sign) (a : Int) : Int := firstP (endsAt l) (clampV l a + 1) (l.length : Nat)
def backV (l : List Sign) (a : Int) : Int := lastP (begsAt l) (clampV l a - 1)
theorem nextV_in (l : List Sign) (a : Int) : nextV l a ≤ l.length ∧ (a ≤ l.length → a ≤ nextV l a) ∧ 0 ≤ nextV l a := by
  have := firstP_in (endsAt l) (clampV l a + 1) (l.length : Nat)
  have hc := clampV_in l a
  unfold nextV
  omega
theorem backV_in (l : List Sign) (a : Int) : 0 ≤ backV l a ∧ (backV l a = 0 ∨ backV l a < l.length) := by
  have := lastP_in (begsAt l) (clampV l a - 1)
  have hc := clampV_in l a
  unfold backV
  omega
/-! ### The program -/
theorem kinds1_w {H : Hyp} {K : V → Hyp → Prop} {c : Cell} {l : List Sign} {i : Int} {b0 b1 : Nat} (hl : l.length ≤ 1000) (h : Sl H 39 2 c l.length (l.flatMap encS)) (q0 : El H b0 0 [c]) (q1 : El H b1 0 [.bool false]) (k : K (vI (kindO l (-1) i)) H) : CallW Try.prog Xs 67 [vI i, ptrV b0 0, ptrV b1 0] H K := by
  refine call_of (n := 26) (fun _ => rfl) Try.func67 rfl rfl ?_
  refine w_seq ?_
  refine w_region ?_
  refine w_o rfl rfl rfl (op_assign rfl ?_)
  refine w_end ?_
  refine seq_normal ?_
  refine w_seq ?_
  refine w_seq ?_
  refine w_region ?_
  refine w_o rfl rfl rfl (op_move rfl ?_)
  refine w_o rfl rfl rfl (op_lt rfl rfl ?_)
  refine w_o rfl rfl rfl (op_move rfl ?_)
  first | refine w_known (t := 8) rfl (fun g8 => ?_) (fun g8 => ?_) | refine w_knownB (t := 8) rfl (fun g8 => ?_) (fun g8 => ?_)
  · refine w_u rfl rfl rfl rfl rfl rfl ?_
    refine w_u rfl rfl rfl rfl rfl rfl ?_
    refine w_u rfl rfl rfl rfl rfl rfl ?_
    refine w_u rfl rfl rfl rfl rfl rfl ?_
    refine w_o rfl rfl rfl (op_pick rfl rfl rfl ?_)
    refine w_end ?_
    refine seq_normal ?_
    refine w_condT rfl ?_
    refine w_seq ?_
    refine w_region ?_
    refine w_o rfl rfl rfl (op_assign rfl ?_)
    refine w_end ?_
    refine seq_normal ?_
    refine w_ret ?_
    refine seq_ret ?_
    exact ret_int rfl sel_ (kindO_no (l := l) (by omega)).symm k
  · refine w_og rfl rfl rfl rfl rfl (op_move rfl ?_)
    refine w_og rfl rfl rfl rfl rfl (op_load1 agg_22 rfl el_ ?_)
    refine w_og rfl rfl rfl rfl rfl (op_lenC und_22 rfl h.lenC ?_)
    refine w_og rfl rfl rfl rfl rfl (op_ge rfl rfl ?_)
    refine w_o rfl rfl rfl (op_pick rfl rfl rfl ?_)
    refine w_end ?_
    refine seq_normal ?_
    first | refine w_cond rfl (fun hI1 => ?_) (fun hI1 => ?_) | refine w_condB rfl (fun hI1 => ?_) (fun hI1 => ?_)
    · refine w_seq ?_
      refine w_region ?_
      refine w_o rfl rfl rfl (op_assign rfl ?_)
      refine w_end ?_
      refine seq_normal ?_
      refine w_ret ?_
      refine seq_ret ?_
      exact ret_int rfl sel_ (kindO_no (l := l) (by omega)).symm k
    · obtain ⟨n, rfl⟩ : ∃ n : Nat, i = (n : Int) := ⟨i.toNat, by omega⟩
      refine w_skip ?_
      refine seq_normal ?_
      refine w_seq ?_
      refine w_region ?_
      refine w_o rfl rfl rfl (op_load1 agg_22 rfl el_ ?_)
      refine w_o rfl rfl rfl (op_move rfl ?_)
      refine w_o rfl rfl rfl (op_indexT (enc := encS) und_22 siz_39 rfl rfl h (fun _ => rfl) rfl (by omega) fun b16 o16 z16 h16 e16 => ?_)
      refine w_o rfl rfl rfl (op_fieldAddr fa_39_0 rfl ?_)
      refine w_o rfl rfl rfl (op_loadF agg_3 rfl el_ rfl ?_)
      refine w_o rfl rfl rfl (op_call rfl rfl rfl ?_)
      refine word_Kind_sw (Go.Proofs.Ytdhnjkagmbfoaaa.P.kind_both _).1 ?_
      refine w_o rfl rfl rfl (op_assign rfl ?_)
      refine w_end ?_
      refine seq_normal ?_
      refine w_seq ?_
      refine w_seq ?_
      refine w_region ?_
      refine w_o rfl rfl rfl (op_load1 agg_4 rfl el_ ?_)
      refine w_o rfl rfl rfl (op_move rfl ?_)
      first | refine w_known (t := 21) rfl (fun g21 => ?_) (fun g21 => ?_) | refine w_knownB (t := 21) rfl (fun g21 => ?_) (fun g21 => ?_)
      · cases g21 --closed
      · refine w_u rfl rfl rfl rfl rfl rfl ?_
        refine w_u rfl rfl rfl rfl rfl rfl ?_
        refine w_o rfl rfl rfl (op_pick rfl rfl rfl ?_)
        refine w_end ?_
        refine seq_normal ?_
        refine w_condF rfl ?_
        refine w_skip ?_
        refine seq_normal ?_
        refine w_seq ?_
        refine w_region ?_
        refine w_o rfl rfl rfl (op_move rfl ?_)
        refine w_o rfl rfl rfl (op_assign rfl ?_)
        refine w_end ?_
        refine seq_normal ?_
        refine w_ret ?_
        exact ret_int rfl sel_ (kindO_at (by omega) (by simpa using h16)).symm k
theorem kinds_w {H : Hyp} {K : V → Hyp → Prop} {c : Cell} (k : ∀ b0 b1, K (.one (.c (.fn 67 [(b0, 0), (b1, 0)]))) ((b1, .row true 4 1 [.bool false]) :: (b0, .row true 22 1 [c]) :: H)) : CallW Try.prog Xs 45 [.one (.c c), vB false] H K := by
  refine call_of (n := 6) (fun _ => rfl) Try.func45 rfl rfl ?_
  refine w_seq ?_
  refine w_region ?_
  refine w_o rfl rfl rfl (op_box rfl fun b2 => ?_)
  refine w_o rfl rfl rfl (op_box rfl fun b3 => ?_)
  refine w_o rfl rfl rfl (op_assign rfl ?_)
  refine w_end ?_
  refine seq_normal ?_
  refine w_seq ?_
  refine w_region ?_
  refine w_o rfl rfl rfl (op_makeFunc rfl ?_)
  refine w_o rfl rfl rfl (op_assign rfl ?_)
  refine w_end ?_
  refine seq_normal ?_
  refine w_ret ?_
  exact ret_ret rfl sel_ (k _ _)
theorem Next1_w {H : Hyp} {K : V → Hyp → Prop} {c : Cell} {l : List Sign} {i : Int} {b0 b1 b2 : Nat} (hl : l.length ≤ 1000) (hi : 0 ≤ i ∧ i ≤ 1000) (h : Sl H 39 2 c l.length (l.flatMap encS)) (q2 : El H b2 0 [.fn 67 [(b0, 0), (b1, 0)]]) (q0 : El H b0 0 [c]) (q1 : El H b1 0 [.bool false]) (k : K (vB (endsAt l i)) H) : CallW Try.prog Xs 49 [vI i, ptrV b2 0] H K := by
  have e1 := isW_eq l (i - 1) (show (-1 : Int) ≠ 1 by decide)
  have e2 := isW_eq l i (show (-1 : Int) ≠ 1 by decide)
  refine call_of (n := 15) (fun _ => rfl) Try.func49 rfl rfl ?_
  refine w_seq ?_
  refine w_region ?_
  refine w_o rfl rfl rfl (op_assign rfl ?_)
  refine w_end ?_
  refine seq_normal ?_
  refine w_seq ?_
  refine w_region ?_
  refine w_o rfl rfl rfl (op_load1 agg_49 rfl el_ ?_)
  refine w_o rfl rfl rfl (op_move rfl ?_)
  refine w_o rfl rfl rfl (op_subi rfl rfl (by omega) (by omega) ?_)
  refine w_o rfl rfl rfl (op_call rfl rfl rfl ?_)
  refine kinds1_w hl h q0 q1 ?_
  refine w_o rfl rfl rfl (op_eq rfl rfl ?_)
  refine w_o rfl rfl rfl (op_move rfl ?_)
  first | refine w_known (t := 9) rfl (fun g9 => ?_) (fun g9 => ?_) | refine w_knownB (t := 9) rfl (fun g9 => ?_) (fun g9 => ?_)
  · refine w_og rfl rfl rfl rfl rfl (op_load1 agg_49 rfl el_ ?_)
    refine w_og rfl rfl rfl rfl rfl (op_move rfl ?_)
    refine w_og rfl rfl rfl rfl rfl (op_call rfl rfl rfl ?_)
    refine kinds1_w hl h q0 q1 ?_
    refine w_og rfl rfl rfl rfl rfl (op_ne rfl rfl ?_)
    refine w_o rfl rfl rfl (op_pick rfl rfl rfl ?_)
    refine w_o rfl rfl rfl (op_assign rfl ?_)
    refine w_end ?_
    refine seq_normal ?_
    refine w_ret ?_
    exact ret_bool rfl sel_ (by unfold endsAt; rw [← e1, ← e2]; simp [g9]) k
  · refine w_u rfl rfl rfl rfl rfl rfl ?_
    refine w_u rfl rfl rfl rfl rfl rfl ?_
    refine w_u rfl rfl rfl rfl rfl rfl ?_
    refine w_u rfl rfl rfl rfl rfl rfl ?_
    refine w_o rfl rfl rfl (op_pick rfl rfl rfl ?_)
    refine w_o rfl rfl rfl (op_assign rfl ?_)
    refine w_end ?_
    refine seq_normal ?_
    refine w_ret ?_
    exact ret_bool rfl sel_ (by unfold endsAt; rw [← e1, ← e2]; simp [g9]) k
theorem Back1_w {H : Hyp} {K : V → Hyp → Prop} {c : Cell} {l : List Sign} {i : Int} {b0 b1 b2 : Nat} (hl : l.length ≤ 1000) (hi : 0 ≤ i ∧ i ≤ 1000) (h : Sl H 39 2 c l.length (l.flatMap encS)) (q2 : El H b2 0 [.fn 67 [(b0, 0), (b1, 0)]]) (q0 : El H b0 0 [c]) (q1 : El H b1 0 [.bool false]) (k : K (vB (begsAt l i)) H) : CallW Try.prog Xs 47 [vI i, ptrV b2 0] H K := by
  have e1 := isW_eq l (i - 1) (show (-1 : Int) ≠ 1 by decide)
  have e2 := isW_eq l i (show (-1 : Int) ≠ 1 by decide)
  refine call_of (n := 15) (fun _ => rfl) Try.func47 rfl rfl ?_
  refine w_seq ?_
  refine w_region ?_
  refine w_o rfl rfl rfl (op_assign rfl ?_)
  refine w_end ?_
  refine seq_normal ?_
  refine w_seq ?_
  refine w_region ?_
  refine w_o rfl rfl rfl (op_load1 agg_49 rfl el_ ?_)
  refine w_o rfl rfl rfl (op_move rfl ?_)
  refine w_o rfl rfl rfl (op_call rfl rfl rfl ?_)
  refine kinds1_w hl h q0 q1 ?_
  refine w_o rfl rfl rfl (op_eq rfl rfl ?_)
  refine w_o rfl rfl rfl (op_move rfl ?_)
  first | refine w_known (t := 8) rfl (fun g8 => ?_) (fun g8 => ?_) | refine w_knownB (t := 8) rfl (fun g8 => ?_) (fun g8 => ?_)
  · refine w_og rfl rfl rfl rfl rfl (op_load1 agg_49 rfl el_ ?_)
    refine w_og rfl rfl rfl rfl rfl (op_move rfl ?_)
    refine w_og rfl rfl rfl rfl rfl (op_subi rfl rfl (by omega) (by omega) ?_)
    refine w_og rfl rfl rfl rfl rfl (op_call rfl rfl rfl ?_)
    refine kinds1_w hl h q0 q1 ?_
    refine w_og rfl rfl rfl rfl rfl (op_ne rfl rfl ?_)
    refine w_o rfl rfl rfl (op_pick rfl rfl rfl ?_)
    refine w_o rfl rfl rfl (op_assign rfl ?_)
    refine w_end ?_
    refine seq_normal ?_
    refine w_ret ?_
    exact ret_bool rfl sel_ (by unfold begsAt; rw [← e1, ← e2]; simp [g8]) k
  · refine w_u rfl rfl rfl rfl rfl rfl ?_
    refine w_u rfl rfl rfl rfl rfl rfl ?_
    refine w_u rfl rfl rfl rfl rfl rfl ?_
    refine w_u rfl rfl rfl rfl rfl rfl ?_
    refine w_u rfl rfl rfl rfl rfl rfl ?_
    refine w_o rfl rfl rfl (op_pick rfl rfl rfl ?_)
    refine w_o rfl rfl rfl (op_assign rfl ?_)
    refine w_end ?_
    refine seq_normal ?_
    refine w_ret ?_
    exact ret_bool rfl sel_ (by unfold begsAt; rw [← e1, ← e2]; simp [g8]) k
theorem up_w {H : Hyp} {K : V → Hyp → Prop} {c : Cell} {l : List Sign} {a : Int} {p : Int → Bool} {g : Nat} {caps : List (Nat × Nat)} (h : Sl H 39 2 c l.length (l.flatMap encS)) (hl : l.length ≤ 1000)
    (hg : ∀ (i : Int) (H0 : Hyp) (K' : V → Hyp → Prop), 1 ≤ i → i ≤ 1000 → Sel H0 H → K' (vB (p i)) H0 → CallW Try.prog Xs g ([vI i] ++ caps.map fun p => ptrV p.1 p.2) H0 K')
    (k : K (vI (firstP p (clampV l a + 1) (l.length : Nat))) H) : CallW Try.prog Xs 48 [.one (.c c), vI a, vI (l.length : Nat), vI (l.length : Nat), .one (.c (.fn g caps))] H K := by
  have hc := clampV_in l a
  refine call_of (n := 28) (fun _ => rfl) Try.func48 rfl rfl ?_
  refine w_seq ?_
  refine w_region ?_
  refine w_o rfl rfl rfl (op_assign rfl ?_)
  refine w_end ?_
  refine seq_normal ?_
  refine w_seq ?_
  refine w_seq ?_
  refine w_region ?_
  refine w_o rfl rfl rfl (op_move rfl ?_)
  refine w_o rfl rfl rfl (op_max rfl rfl ?_)
  refine w_o rfl rfl rfl (op_move rfl ?_)
  refine w_o rfl rfl rfl (op_lenC und_22 rfl h.lenC ?_)
  refine w_o rfl rfl rfl (op_min rfl rfl ?_)
  refine w_o rfl rfl rfl (op_addi rfl rfl (by omega) (by omega) ?_)
  refine w_o rfl rfl rfl (op_assign rfl ?_)
  refine w_end ?_
  refine seq_normal ?_
  refine w_block ?_
  refine w_loop (fun m e H' => ∃ (i : Int), clampV l a + 1 ≤ i ∧ i ≤ l.length + 1 ∧ m = (l.length + 1 - i).toNat ∧ (∀ j : Int, clampV l a + 1 ≤ j → j < i → p j = false) ∧ H = H' ∧ e = [(2, vI (l.length : Nat)), (3, vI (l.length : Nat)), (4, .one (.c (.fn g caps))), (11, vI i)]) ?_ ?_
  · exact ⟨_, _, _, ⟨clampV l a + 1, by omega, by omega, rfl, fun j h1 h2 => by omega, rfl, rfl⟩, env_, sel_⟩
  · rintro m e H' ⟨i, hi1, hi2, rfl, hp, rfl, rfl⟩
    refine w_seq ?_
    refine w_seq ?_
    refine w_region ?_
    refine w_o rfl rfl rfl (op_move rfl ?_)
    refine w_o rfl rfl rfl (op_move rfl ?_)
    refine w_o rfl rfl rfl (op_le rfl rfl ?_)
    refine w_end ?_
    refine seq_normal ?_
    first | refine w_cond rfl (fun hI1 => ?_) (fun hI1 => ?_) | refine w_condB rfl (fun hI1 => ?_) (fun hI1 => ?_)
    · refine w_skip ?_
      refine seq_normal ?_
      refine w_seq ?_
      refine w_block ?_
      refine w_seq ?_
      refine w_region ?_
      refine w_o rfl rfl rfl (op_move rfl ?_)
      refine w_o rfl rfl rfl (op_move rfl ?_)
      refine w_o rfl rfl rfl (op_call rfl rfl rfl ?_)
      refine hg i _ _ (by omega) (by omega) sel_ ?_
      refine w_end ?_
      refine seq_normal ?_
      first | refine w_cond rfl (fun hI2 => ?_) (fun hI2 => ?_) | refine w_condB rfl (fun hI2 => ?_) (fun hI2 => ?_)
      · refine w_seq ?_
        refine w_region ?_
        refine w_o rfl rfl rfl (op_move rfl ?_)
        refine w_o rfl rfl rfl (op_assign rfl ?_)
        refine w_end ?_
        refine seq_normal ?_
        refine w_ret ?_
        refine block_ret ?_
        refine seq_ret ?_
        refine loop_ret ?_
        refine block_ret ?_
        refine seq_ret ?_
        rw [firstP_at (by omega) (by omega) hI2 hp] at k
        exact ret_ret rfl sel_ k
      · refine w_skip ?_
        refine block_normal ?_
        refine seq_normal ?_
        refine w_region ?_
        refine w_o rfl rfl rfl (op_move rfl ?_)
        refine w_o rfl rfl rfl (op_addi rfl rfl (by omega) (by omega) ?_)
        refine w_o rfl rfl rfl (op_assign rfl ?_)
        refine w_end ?_
        refine loop_normal (k' := (l.length + 1 - (i + 1) : Int).toNat) (by omega) ⟨i + 1, by omega, by omega, rfl, ?_, rfl, rfl⟩ env_ sel_
        intro j h1 h2
        by_cases e : j = i
        · subst e; simpa using hI2
        · exact hp j h1 (by omega)
    · refine w_exit ?_
      refine seq_exit ?_
      refine loop_exit ?_
      refine block_hit rfl ?_
      refine seq_normal ?_
      refine w_seq ?_
      refine w_region ?_
      refine w_o rfl rfl rfl (op_move rfl ?_)
      refine w_o rfl rfl rfl (op_assign rfl ?_)
      refine w_end ?_
      refine seq_normal ?_
      refine w_ret ?_
      rw [firstP_none (fun j h1 h2 => hp j h1 (by omega))] at k
      exact ret_ret rfl sel_ k
theorem down_w {H : Hyp} {K : V → Hyp → Prop} {c : Cell} {l : List Sign} {a : Int} {p : Int → Bool} {g : Nat} {caps : List (Nat × Nat)} (h : Sl H 39 2 c l.length (l.flatMap encS)) (hl : l.length ≤ 1000)
    (hg : ∀ (i : Int) (H0 : Hyp) (K' : V → Hyp → Prop), 1 ≤ i → i ≤ 1000 → Sel H0 H → K' (vB (p i)) H0 → CallW Try.prog Xs g ([vI i] ++ caps.map fun p => ptrV p.1 p.2) H0 K')
    (k : K (vI (lastP p (clampV l a - 1))) H) : CallW Try.prog Xs 46 [.one (.c c), vI a, .one (.c (.fn g caps))] H K := by
  have hc := clampV_in l a
  refine call_of (n := 22) (fun _ => rfl) Try.func46 rfl rfl ?_
  refine w_seq ?_
  refine w_region ?_
  refine w_o rfl rfl rfl (op_assign rfl ?_)
  refine w_end ?_
  refine seq_normal ?_
  refine w_seq ?_
  refine w_seq ?_
  refine w_region ?_
  refine w_o rfl rfl rfl (op_move rfl ?_)
  refine w_o rfl rfl rfl (op_max rfl rfl ?_)
  refine w_o rfl rfl rfl (op_move rfl ?_)
  refine w_o rfl rfl rfl (op_lenC und_22 rfl h.lenC ?_)
  refine w_o rfl rfl rfl (op_min rfl rfl ?_)
  refine w_o rfl rfl rfl (op_subi rfl rfl (by omega) (by omega) ?_)
  refine w_o rfl rfl rfl (op_assign rfl ?_)
  refine w_end ?_
  refine seq_normal ?_
  refine w_block ?_
  refine w_loop (fun m e H' => ∃ (i : Int), -1 ≤ i ∧ i ≤ clampV l a - 1 ∧ m = (i + 1).toNat ∧ (∀ j : Int, i < j → j ≤ clampV l a - 1 → p j = false) ∧ H = H' ∧ e = [(2, .one (.c (.fn g caps))), (7, vI i)]) ?_ ?_
  · exact ⟨_, _, _, ⟨clampV l a - 1, by omega, by omega, rfl, fun j h1 h2 => by omega, rfl, rfl⟩, env_, sel_⟩
  · rintro m e H' ⟨i, hi1, hi2, rfl, hp, rfl, rfl⟩
    refine w_seq ?_
    refine w_seq ?_
    refine w_region ?_
    refine w_o rfl rfl rfl (op_move rfl ?_)
    refine w_o rfl rfl rfl (op_gt rfl rfl ?_)
    refine w_end ?_
    refine seq_normal ?_
    first | refine w_cond rfl (fun hI1 => ?_) (fun hI1 => ?_) | refine w_condB rfl (fun hI1 => ?_) (fun hI1 => ?_)
    · refine w_skip ?_
      refine seq_normal ?_
      refine w_seq ?_
      refine w_block ?_
      refine w_seq ?_
      refine w_region ?_
      refine w_o rfl rfl rfl (op_move rfl ?_)
      refine w_o rfl rfl rfl (op_move rfl ?_)
      refine w_o rfl rfl rfl (op_call rfl rfl rfl ?_)
      refine hg i _ _ (by omega) (by omega) sel_ ?_
      refine w_end ?_
      refine seq_normal ?_
      first | refine w_cond rfl (fun hI2 => ?_) (fun hI2 => ?_) | refine w_condB rfl (fun hI2 => ?_) (fun hI2 => ?_)
      · refine w_seq ?_
        refine w_region ?_
        refine w_o rfl rfl rfl (op_move rfl ?_)
        refine w_o rfl rfl rfl (op_assign rfl ?_)
        refine w_end ?_
        refine seq_normal ?_
        refine w_ret ?_
        refine block_ret ?_
        refine seq_ret ?_
        refine loop_ret ?_
        refine block_ret ?_
        refine seq_ret ?_
        rw [lastP_at (by omega) (by omega) hI2 hp] at k
        exact ret_ret rfl sel_ k
      · refine w_skip ?_
        refine block_normal ?_
        refine seq_normal ?_
        refine w_region ?_
        refine w_o rfl rfl rfl (op_move rfl ?_)
        refine w_o rfl rfl rfl (op_subi rfl rfl (by omega) (by omega) ?_)
        refine w_o rfl rfl rfl (op_assign rfl ?_)
        refine w_end ?_
        refine loop_normal (k' := (i - 1 + 1).toNat) (by omega) ⟨i - 1, by omega, by omega, rfl, ?_, rfl, rfl⟩ env_ sel_
        intro j h1 h2
        by_cases e : j = i
        · subst e; simpa using hI2
        · exact hp j (by omega) h2
    · refine w_exit ?_
      refine seq_exit ?_
      refine loop_exit ?_
      refine block_hit rfl ?_
      refine seq_normal ?_
      refine w_seq ?_
      refine w_region ?_
      refine w_o rfl rfl rfl (op_assign rfl ?_)
      refine w_end ?_
      refine seq_normal ?_
      refine w_ret ?_
      rw [lastP_none (fun j h1 h2 => hp j (by omega) h2)] at k
      exact ret_ret rfl sel_ k
theorem Next_w {H : Hyp} {K : V → Hyp → Prop} {c : Cell} {l : List Sign} {a : Int} (h : Sl H 39 2 c l.length (l.flatMap encS)) (hl : l.length ≤ 1000) (k : K (vI (nextV l a)) H) : CallW Try.prog Xs 29 [.one (.c c), vI a] H K := by
  refine call_of (n := 16) (fun _ => rfl) Try.func29 rfl rfl ?_
  refine w_seq ?_
  refine w_region ?_
  refine w_o rfl rfl rfl (op_assign rfl ?_)
  refine w_end ?_
  refine seq_normal ?_
  refine w_seq ?_
  refine w_region ?_
  refine w_o rfl rfl rfl (op_move rfl ?_)
  refine w_o rfl rfl rfl (op_call rfl rfl rfl ?_)
  refine kinds_w fun b0 b1 => ?_
  refine w_o rfl rfl rfl (op_alloc zer_49 fun b5 => ?_)
  refine w_on rfl rfl (op_store siz_49 rfl rfl rfl (by (repeat (first | exact Pick.head _ _ _ | apply Pick.tail | apply Pick.app)); first | done | fail) (Nat.le_of_ble_eq_true rfl) rfl ?_)
  refine w_end ?_
  refine seq_normal ?_
  refine w_seq ?_
  refine w_region ?_
  refine w_o rfl rfl rfl (op_move rfl ?_)
  refine w_o rfl rfl rfl (op_move rfl ?_)
  refine w_o rfl rfl rfl (op_move rfl ?_)
  refine w_o rfl rfl rfl (op_lenC und_22 rfl h.lenC ?_)
  refine w_o rfl rfl rfl (op_move rfl ?_)
  refine w_o rfl rfl rfl (op_lenC und_22 rfl h.lenC ?_)
  refine w_o rfl rfl rfl (op_makeFunc rfl ?_)
  refine w_o rfl rfl rfl (op_call rfl rfl rfl ?_)
  refine up_w (p := endsAt l) (caps := [(b5, 0)]) h.cons.cons.cons hl (fun i H0 K' h1 h2 hs k' => Next1_w hl (by omega) (h.cons.cons.cons.sub hs.mem) (El.sel (El.row mem_) hs) (El.sel (El.row mem_) hs) (El.sel (El.row mem_) hs) k') ?_
  refine w_o rfl rfl rfl (op_assign rfl ?_)
  refine w_end ?_
  refine seq_normal ?_
  refine w_ret ?_
  exact ret_ret rfl sel_ k
theorem Back_w {H : Hyp} {K : V → Hyp → Prop} {c : Cell} {l : List Sign} {a : Int} (h : Sl H 39 2 c l.length (l.flatMap encS)) (hl : l.length ≤ 1000) (k : K (vI (backV l a)) H) : CallW Try.prog Xs 28 [.one (.c c), vI a] H K := by
  refine call_of (n := 12) (fun _ => rfl) Try.func28 rfl rfl ?_
  refine w_seq ?_
  refine w_region ?_
  refine w_o rfl rfl rfl (op_assign rfl ?_)
  refine w_end ?_
  refine seq_normal ?_
  refine w_seq ?_
  refine w_region ?_
  refine w_o rfl rfl rfl (op_move rfl ?_)
  refine w_o rfl rfl rfl (op_call rfl rfl rfl ?_)
  refine kinds_w fun b0 b1 => ?_
  refine w_o rfl rfl rfl (op_alloc zer_49 fun b5 => ?_)
  refine w_on rfl rfl (op_store siz_49 rfl rfl rfl (by (repeat (first | exact Pick.head _ _ _ | apply Pick.tail | apply Pick.app)); first | done | fail) (Nat.le_of_ble_eq_true rfl) rfl ?_)
  refine w_end ?_
  refine seq_normal ?_
  refine w_seq ?_
  refine w_region ?_
  refine w_o rfl rfl rfl (op_move rfl ?_)
  refine w_o rfl rfl rfl (op_move rfl ?_)
  refine w_o rfl rfl rfl (op_makeFunc rfl ?_)
  refine w_o rfl rfl rfl (op_call rfl rfl rfl ?_)
  refine down_w (p := begsAt l) (caps := [(b5, 0)]) h.cons.cons.cons hl (fun i H0 K' h1 h2 hs k' => Back1_w hl (by omega) (h.cons.cons.cons.sub hs.mem) (El.sel (El.row mem_) hs) (El.sel (El.row mem_) hs) (El.sel (El.row mem_) hs) k') ?_
  refine w_o rfl rfl rfl (op_assign rfl ?_)
  refine w_end ?_
  refine seq_normal ?_
  refine w_ret ?_
  exact ret_ret rfl sel_ k
end Go.Proofs.Ytdhnjkagmbfoaaa.AM.B
