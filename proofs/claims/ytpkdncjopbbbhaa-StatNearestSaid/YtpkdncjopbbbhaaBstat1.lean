/- How far lists are from one another: the table of changes; what the program fills. -/
import Derived.Test.YtpkdncjopbbbhaaAX
import Derived.Test.YtpkdncjopbbbhaaBsign
import Derived.Test.YtpkdncjopbbbhaaBmore
set_option linter.unusedVariables false
set_option linter.unusedSimpArgs false
set_option maxRecDepth 10000
set_option maxHeartbeats 4000000
namespace Go.Proofs.Ytpkdncjopbbbhaa.AM.B
open Go Go.RowKit
/-- A row of the table of changes, out of the row above it. -/
def levStep (x : Option Int) (b : List Int) (r : Nat → Nat) (i1 : Nat) : Nat → Nat
  | 0 => i1
  | k + 1 => if x = b[k]? then r k else 1 + min (r k) (min (r (k + 1)) (levStep x b r i1 k))
/-- The table of changes: how many from the first i values to the first k. -/
def lev (a b : List Int) : Nat → Nat → Nat
  | 0 => fun k => k
  | i + 1 => levStep a[i]? b (lev a b i) (i + 1)
theorem lev_i0 (a b : List Int) (i : Nat) : lev a b i 0 = i := by cases i <;> rfl
theorem lev_0k (a b : List Int) (k : Nat) : lev a b 0 k = k := rfl
theorem lev_ik (a b : List Int) (i k : Nat) : lev a b (i + 1) (k + 1) = if a[i]? = b[k]? then lev a b i k else 1 + min (lev a b i k) (min (lev a b i (k + 1)) (lev a b (i + 1) k)) := rfl
theorem lev_near (a b : List Int) : ∀ (i : Nat), (∀ k, lev a b i (k + 1) ≤ lev a b i k + 1 ∧ lev a b i k ≤ lev a b i (k + 1) + 1)
  | 0, k => by rw [lev_0k, lev_0k]; omega
  | i + 1, k => by
    have ih := lev_near a b i
    have key : ∀ k, (lev a b (i + 1) k ≤ lev a b i k + 1 ∧ lev a b i k ≤ lev a b (i + 1) k + 1) := by
      intro k
      induction k with
      | zero => rw [lev_i0, lev_i0]; omega
      | succ k ih2 =>
        have h1 := ih k
        rw [lev_ik]
        split <;> omega
    have h1 := ih k
    have h2 := key k
    rw [lev_ik]
    split <;> omega
theorem lev_down (a b : List Int) (i : Nat) : ∀ k, lev a b (i + 1) k ≤ lev a b i k + 1 ∧ lev a b i k ≤ lev a b (i + 1) k + 1 := by
  intro k
  induction k with
  | zero => rw [lev_i0, lev_i0]; omega
  | succ k ih2 =>
    have h1 := lev_near a b i k
    rw [lev_ik]
    split <;> omega
/-- The least of three, as the program takes it. -/
theorem lev_least (a b : List Int) (i k : Nat) : lev a b (i + 1) (k + 1) = min (min (lev a b i (k + 1) + 1) (lev a b (i + 1) k + 1)) (lev a b i k + (if a[i]? = b[k]? then 0 else 1)) := by
  have h1 := lev_near a b i k
  have h2 := lev_down a b i k
  rw [lev_ik]
  split <;> omega
theorem lev_le (a b : List Int) : ∀ (i k : Nat), lev a b i k ≤ i + k
  | 0, k => by rw [lev_0k]; omega
  | i + 1, k => by have h1 := lev_down a b i k; have h2 := lev_le a b i k; omega
def valsS (l : List Sign) : List Int := l.map (·.f0)
theorem valsS_len (l : List Sign) : (valsS l).length = l.length := by unfold valsS; rw [List.length_map]
theorem valsS_at {l : List Sign} {i : Nat} {x : Sign} (h : l[i]? = some x) : (valsS l)[i]? = some x.f0 := by unfold valsS; rw [List.getElem?_map, h]; rfl
/-- A row of numbers, by what stands where. -/
def tab (m : Nat) (f : Nat → Int) : List Int := (List.range (m + 1)).map f
theorem tab_len (m : Nat) (f : Nat → Int) : (tab m f).length = m + 1 := by unfold tab; rw [List.length_map, List.length_range]
theorem tab_get {m : Nat} {f : Nat → Int} {k : Nat} (h : k ≤ m) : (tab m f)[k]? = some (f k) := by
  unfold tab
  rw [List.getElem?_map, List.getElem?_range (by omega)]; rfl
theorem tab_congr {m : Nat} {f g : Nat → Int} (h : ∀ k, k ≤ m → f k = g k) : tab m f = tab m g := by
  unfold tab
  refine List.map_congr_left fun k hk => h k ?_
  have := List.mem_range.1 hk
  omega
theorem tab_set {m : Nat} {f g : Nat → Int} {k : Nat} {v : Int} (h : ∀ j, j ≤ m → g j = if j = k then v else f j) : (tab m f).set k v = tab m g := by
  apply List.ext_getElem?
  intro j
  by_cases hj : j ≤ m
  · rw [List.getElem?_set, tab_get hj, tab_get hj, h j hj, tab_len]
    by_cases e : k = j
    · subst e; rw [if_pos rfl, if_pos (by omega), if_pos rfl]
    · rw [if_neg e, if_neg (fun q => e q.symm)]
  · rw [List.getElem?_eq_none (by rw [List.length_set, tab_len]; omega), List.getElem?_eq_none (by rw [tab_len]; omega)]
theorem tab_zero : ∀ (m : Nat), repeatC [.int .i64 0] (m + 1) = (tab m (fun _ => 0)).flatMap encI := by
  have h : ∀ n, repeatC [.int .i64 0] n = ((List.range n).map (fun _ => (0 : Int))).flatMap encI := by
    intro n
    induction n with
    | zero => rfl
    | succ n ih =>
      rw [List.range_succ_eq_map, List.map_cons, List.flatMap_cons, List.map_map]
      show [.int .i64 0] ++ repeatC [.int .i64 0] n = _
      rw [ih]; rfl
  exact fun m => h (m + 1)
theorem tab_row {H : Hyp} {b m : Nat} {f : Nat → Int} {own : Bool} (h : (b, Fact.row own 3 1 ((tab m f).flatMap encI)) ∈ H) : Sl H 3 1 (.sl b 0 (m + 1) (.lim 0)) (tab m f).length ((tab m f).flatMap encI) := by
  have := Sl.of_row (len := m + 1) h (by rw [flatMap_len (enc := encI) (n := 1) (fun _ => rfl), tab_len])
  rw [tab_len]; exact this
section
variable {P : Program} {X : Spec} {q : Bool} {d : Option Nat} {ty : Nat} {pos : String} {af : Array Edge} {g : Option (Nat × Bool)} {e : Env} {H : Hyp} {K : V → Hyp → Prop}
theorem op_min3 {x y z : Operand} {a b c : Int} {ats : List TypeId} (hx : evE e x = some (vI a)) (hy : evE e y = some (vI b)) (hz : evE e z = some (vI c)) (k : K (vI (min (min a b) c)) H) : OpW P X q ⟨d, .call ⟨.builtin .min, ⟨[x, y, z]⟩, ⟨ats⟩⟩, ty, pos, af, g⟩ e H K := by
  intro fr s h1 h2
  refine ⟨0, _, s, H, ?_, h2, k, fun _ _ => rfl⟩
  have sa := scalar_of h1 hx (v := .int .i64 a) rfl
  have sb := scalar_of h1 hy (v := .int .i64 b) rfl
  have sc := scalar_of h1 hz (v := .int .i64 c) rfl
  simp only [opRun]
  unfold pureOp
  have hm : min (min a b) c = if c < (if b < a then b else a) then c else (if b < a then b else a) := by simp only [Int.min_def]; (repeat' split) <;> omega
  have ho : (Op.call ⟨.builtin .min, ⟨[x, y, z]⟩, ⟨ats⟩⟩).operands.toList = [x, y, z] := rfl
  rw [if_pos (by rw [ho]; simp [sa, sb, sc])]
  have : pure? P (execOp (fun x => (scalarOf fr x).getD undef) ⟨d, .call ⟨.builtin .min, ⟨[x, y, z]⟩, ⟨ats⟩⟩, ty, pos, af, g⟩) = some (.value (.int .i64 (min (min a b) c))) := by
    have hr : resolve (fun x => (scalarOf fr x).getD undef) ⟨.builtin .min, ⟨[x, y, z]⟩, ⟨ats⟩⟩ ty = Pure.pure { target := .builtin .min ⟨ats⟩ ty ((⟨[x, y, z]⟩ : Array Operand).map fun | .const _ => true | _ => false), args := #[.int .i64 a, .int .i64 b, .int .i64 c] } := by
      simp [resolve, sa, sb, sc]; rfl
    show pure? P (resolve _ _ _ >>= fun d => invoke d.target d.args) = _
    rw [hr, hm]; rfl
  rw [this]; rfl
end
theorem ValuesW_w {H H1 : Hyp} {K : V → Hyp → Prop} {c : Cell} {l : List Sign} (h : Sl H1 43 2 c l.length (l.flatMap encS)) (hs : ∀ y ∈ H1, y ∈ H) (hl : l.length ≤ 8796093022208) (k : ∀ c' N, Own 3 1 c' ((valsS l).flatMap encI) N → K (.one (.c c')) (N ++ H)) : CallW Try.prog Xs 19 [.one (.c c)] H K := by
  have hH := h.sub hs
  refine call_of (n := 19) (fun _ => rfl) Try.func19 rfl rfl ?_
  refine w_seq ?_
  refine w_region ?_
  refine w_o rfl rfl rfl (op_assign rfl ?_)
  refine w_end ?_
  refine seq_normal ?_
  refine w_seq ?_
  refine w_region ?_
  refine w_o rfl rfl rfl (op_assign rfl ?_)
  refine w_end ?_
  refine seq_normal ?_
  refine w_seq ?_
  refine w_seq ?_
  refine w_region ?_
  refine w_o rfl rfl rfl (op_move rfl ?_)
  refine w_o rfl rfl rfl (op_lenC und_22 rfl h.lenC ?_)
  refine w_o rfl rfl rfl (op_move rfl ?_)
  refine w_end ?_
  refine seq_normal ?_
  refine w_block ?_
  refine w_loop (fun m e H' => ∃ (i : Nat) (c' : Cell) (N : Hyp), i ≤ l.length ∧ m = l.length - i ∧ Own 3 1 c' ((valsS (l.take i)).flatMap encI) N ∧ H' = N ++ H ∧ e = [(3, .one (.c c')), (6, .one (.c c)), (7, vI (l.length : Nat)), (8, vI (i : Nat))]) ?_ ?_
  · exact ⟨_, _, _, ⟨0, .nils, [], Nat.zero_le _, rfl, .nil, rfl, rfl⟩, env_, sel_⟩
  · rintro m e H' ⟨i, c', N, hi, rfl, hO, rfl, rfl⟩
    have hle : (valsS (l.take i)).length ≤ l.length := by rw [valsS_len, List.length_take]; omega
    have hlt : (valsS (l.take i)).length = i := by rw [valsS_len, List.length_take]; omega
    refine w_seq ?_
    refine w_region ?_
    refine w_o rfl rfl rfl (op_lt rfl rfl ?_)
    refine w_end ?_
    refine seq_normal ?_
    refine w_seq ?_
    first | refine w_cond rfl (fun hI1 => ?_) (fun hI1 => ?_) | refine w_condB rfl (fun hI1 => ?_) (fun hI1 => ?_)
    · refine w_skip ?_
      refine seq_normal ?_
      refine w_seq ?_
      refine w_block ?_
      refine w_seq ?_
      refine w_region ?_
      refine w_o rfl rfl rfl (op_indexT (enc := encS) (xs := l) und_22 siz_43 rfl rfl hH.app (fun _ => rfl) rfl (by omega) fun b10 o10 z10 h10 e10 => ?_)
      refine w_o rfl rfl rfl (op_loadA agg_43 siz_43 rfl rfl el_ ?_)
      refine w_o rfl rfl rfl (op_alloc zer_43 fun b5 => ?_)
      refine w_on rfl rfl (op_store siz_43 rfl rfl rfl (by (repeat (first | exact Pick.head _ _ _ | apply Pick.tail | apply Pick.app)); first | done | fail) (Nat.le_of_ble_eq_true rfl) rfl ?_)
      refine w_end ?_
      refine seq_normal ?_
      refine w_region ?_
      refine w_o rfl rfl rfl (op_move rfl ?_)
      refine w_o rfl rfl rfl (op_fieldAddr fa_43_0 rfl ?_)
      refine w_o rfl rfl rfl (op_loadF agg_3 rfl el_ rfl ?_)
      refine w_o rfl rfl rfl (op_buildSlice rfl (bsl_29 _ _ _ (rfl : _ = some [_]) rfl (by decide)) fun b15 => ?_)
      refine w_o rfl rfl rfl (op_append1W (xs := valsS (l.take i)) (enc := encI) (z0 := z10.f0) elm_29 inf_3 zer_3 (by decide) und_29 rfl rfl hO (fun _ => rfl) (by (repeat (first | exact PickL.front _ _ | exact PickL.nil _ | apply PickL.skip | apply PickL.skipL)); first | done | fail) rfl (by omega) fun c16 N16 h16 => ?_)
      refine w_o rfl rfl rfl (op_assign rfl ?_)
      refine w_end ?_
      refine block_normal ?_
      refine seq_normal ?_
      refine w_region ?_
      refine w_o rfl rfl rfl (op_addi rfl rfl (by omega) (by omega) ?_)
      refine w_o rfl rfl rfl (op_move rfl ?_)
      refine w_end ?_
      have e1 : valsS (l.take i) ++ [z10.f0] = valsS (l.take (i + 1)) := by unfold valsS; rw [List.take_add_one, h10, List.map_append]; rfl
      rw [e1] at h16
      exact loop_normal (k' := l.length - (i + 1)) (by omega) ⟨i + 1, c16, N16, by omega, rfl, h16, rfl, rfl⟩ env_ sel_
    · refine w_exit ?_
      refine seq_exit ?_
      refine loop_exit ?_
      refine block_hit rfl ?_
      refine seq_normal ?_
      refine w_seq ?_
      refine w_region ?_
      refine w_o rfl rfl rfl (op_move rfl ?_)
      refine w_o rfl rfl rfl (op_assign rfl ?_)
      refine w_end ?_
      refine seq_normal ?_
      refine w_ret ?_
      have hi' : i = l.length := by omega
      subst hi'
      rw [List.take_length] at hO
      exact ret_ret rfl sel_ (k _ _ hO)
theorem least_w {H : Hyp} {K : V → Hyp → Prop} {b2 b3 m k : Nat} {cl cr : Cell} {f g : Nat → Int} {cost : Int} (h2 : El H b2 0 [cl]) (h3 : El H b3 0 [cr]) (hl : Sl H 3 1 cl (tab m f).length ((tab m f).flatMap encI)) (hr : Sl H 3 1 cr (tab m g).length ((tab m g).flatMap encI)) (hk : k + 1 ≤ m) (hm : m ≤ 1000000000000000) (hc : 0 ≤ cost ∧ cost ≤ 1)
    (hf0 : 0 ≤ f k ∧ f k ≤ 1000000000000000) (hf1 : 0 ≤ f (k + 1) ∧ f (k + 1) ≤ 1000000000000000) (hg0 : 0 ≤ g k ∧ g k ≤ 1000000000000000) (kk : K (vI (min (min (f (k + 1) + 1) (g k + 1)) (f k + cost))) H) : CallW Try.prog Xs 20 [vI (k : Nat), vI cost, ptrV b2 0, ptrV b3 0] H K := by
  have htl := tab_len m f
  have htg := tab_len m g
  refine call_of (n := 25) (fun _ => rfl) Try.func20 rfl rfl ?_
  refine w_seq ?_
  refine w_region ?_
  refine w_o rfl rfl rfl (op_assign rfl ?_)
  refine w_end ?_
  refine seq_normal ?_
  refine w_seq ?_
  refine w_draw (by decide +kernel) (by decide +kernel) ?_
  refine w_d rfl rfl rfl (op_load1 agg_29 rfl el_ ?_)
  refine w_d rfl rfl rfl (op_move rfl ?_)
  refine w_d rfl rfl rfl (op_addi rfl rfl (by omega) (by omega) ?_)
  refine w_d rfl rfl rfl (op_indexT (enc := encI) (xs := tab m f) (j := k + 1) und_29 siz_3 rfl rfl hl (fun _ => rfl) (by omega) (by omega) fun b10 o10 z10 h10 e10 => ?_)
  rw [tab_get hk] at h10
  cases h10
  refine w_d rfl rfl rfl (op_load1 agg_3 rfl el_ ?_)
  refine w_d rfl rfl rfl (op_addi rfl rfl (by omega) (by omega) ?_)
  refine w_d rfl rfl rfl (op_load1 agg_29 rfl el_ ?_)
  refine w_d rfl rfl rfl (op_move rfl ?_)
  refine w_d rfl rfl rfl (op_indexT (enc := encI) (xs := tab m g) (j := k) und_29 siz_3 rfl rfl hr (fun _ => rfl) rfl (by omega) fun b15 o15 z15 h15 e15 => ?_)
  rw [tab_get (by omega)] at h15
  cases h15
  refine w_d rfl rfl rfl (op_load1 agg_3 rfl el_ ?_)
  refine w_d rfl rfl rfl (op_addi rfl rfl (by omega) (by omega) ?_)
  refine w_d rfl rfl rfl (op_load1 agg_29 rfl el_ ?_)
  refine w_d rfl rfl rfl (op_move rfl ?_)
  refine w_d rfl rfl rfl (op_indexT (enc := encI) (xs := tab m f) (j := k) und_29 siz_3 rfl rfl hl (fun _ => rfl) rfl (by omega) fun b20 o20 z20 h20 e20 => ?_)
  rw [tab_get (by omega)] at h20
  cases h20
  refine w_d rfl rfl rfl (op_load1 agg_3 rfl el_ ?_)
  refine w_d rfl rfl rfl (op_move rfl ?_)
  refine w_d rfl rfl rfl (op_addi rfl rfl (by omega) (by omega) ?_)
  refine w_d rfl rfl rfl (op_min3 rfl rfl rfl ?_)
  refine w_d rfl rfl rfl (op_assign rfl ?_)
  refine w_end ?_
  refine seq_normal ?_
  refine w_ret ?_
  exact ret_ret rfl sel_ kk
theorem Distance_w {H H1 H2 : Hyp} {K : V → Hyp → Prop} {c c' : Cell} {a b : List Sign} (h : Sl H1 43 2 c a.length (a.flatMap encS)) (hs : ∀ y ∈ H1, y ∈ H) (h' : Sl H2 43 2 c' b.length (b.flatMap encS)) (hs' : ∀ y ∈ H2, y ∈ H) (hla : a.length ≤ 8796093022208) (hlb : b.length ≤ 8796093022208)
    (k0 : K (vI (lev (valsS a) (valsS b) a.length b.length : Nat)) H) : CallW Try.prog Xs 6 [.one (.c c), .one (.c c')] H K := by
  have hA0 := h.sub hs
  have hB0 := h'.sub hs'
  have hva := valsS_len a
  have hvb := valsS_len b
  have hlev := fun i k => lev_le (valsS a) (valsS b) i k
  refine call_of (n := 76) (fun _ => rfl) Try.func6 rfl rfl ?_
  refine w_seq ?_
  refine w_region ?_
  refine w_o rfl rfl rfl (op_assign rfl ?_)
  refine w_end ?_
  refine seq_normal ?_
  refine w_seq ?_
  refine w_region ?_
  refine w_o rfl rfl rfl (op_move rfl ?_)
  refine w_o rfl rfl rfl (op_call rfl rfl rfl ?_)
  refine ValuesW_w hA0 subs_ hla fun c17 N17 h17 => ?_
  refine w_o rfl rfl rfl (op_move rfl ?_)
  have hA : Sl N17 3 1 c17 (valsS a).length ((valsS a).flatMap encI) := h17.slT (fun _ => rfl) (by decide) (fun _ q => q)
  refine w_o rfl rfl rfl (op_call rfl rfl rfl ?_)
  refine ValuesW_w hB0 subs_ hlb fun c19 N19 h19 => ?_
  refine w_o rfl rfl rfl (op_assign rfl ?_)
  refine w_o rfl rfl rfl (op_assign rfl ?_)
  refine w_end ?_
  refine seq_normal ?_
  refine w_seq ?_
  refine w_region ?_
  refine w_o rfl rfl rfl (op_move rfl ?_)
  have hB : Sl N19 3 1 c19 (valsS b).length ((valsS b).flatMap encI) := h19.slT (fun _ => rfl) (by decide) (fun _ q => q)
  generalize hwv : valsS a = v at *
  generalize hww : valsS b = w at *
  generalize hmm : b.length = m at *
  refine w_o rfl rfl rfl (op_lenC und_29 rfl hB.lenC ?_)
  refine w_o rfl rfl rfl (op_addi rfl rfl (by omega) (by omega) ?_)
  refine w_o rfl rfl rfl (op_makeSliceW elm_29 inf_3 zer_3 (by decide) rfl rfl (by omega) (by omega) (by omega) (by omega) fun b23 => ?_)
  rw [show (((w.length : Nat) : Int) + 1).toNat = m + 1 by omega, tab_zero]
  refine w_o rfl rfl rfl (op_alloc zer_29 fun b7 => ?_)
  refine w_on rfl rfl (op_store siz_29 rfl rfl rfl (by (repeat (first | exact Pick.head _ _ _ | apply Pick.tail | apply Pick.app)); first | done | fail) (Nat.le_of_ble_eq_true rfl) rfl ?_)
  refine w_end ?_
  refine seq_normal ?_
  refine w_seq ?_
  refine w_seq ?_
  refine w_region ?_
  refine w_o rfl rfl rfl (op_load1 agg_29 rfl el_ ?_)
  refine w_o rfl rfl rfl (op_lenC und_29 rfl (by first | exact ⟨rfl, fun s e => by cases e⟩ | exact Sl.lenC (by assumption) | (refine Own.lenT (by assumption) ?_ ?_ <;> first | exact fun _ => rfl | decide)) ?_)
  refine w_o rfl rfl rfl (op_move rfl ?_)
  refine w_end ?_
  refine seq_normal ?_
  refine w_block ?_
  refine w_loop (fun q e H' => ∃ (i : Nat), i ≤ m + 1 ∧ q = m + 1 - i ∧ H' = (b7, .row true 29 1 [.sl b23 0 (m + 1) (.lim 0)]) :: (b23, .row true 3 1 ((tab m (fun j => if j < i then (j : Int) else 0)).flatMap encI)) :: (N19 ++ (N17 ++ H)) ∧ e = [(5, .one (.c c17)), (6, .one (.c c19)), (7, ptrV b7 0), (25, vI ((m + 1 : Nat) : Int)), (26, vI (i : Nat))]) ?_ ?_
  · exact ⟨_, _, _, ⟨0, Nat.zero_le _, rfl, by rw [tab_congr (f := fun j => if j < 0 then (j : Int) else 0) (g := fun _ => 0) (fun j hj => if_neg (by omega))], rfl⟩, env_, sel_⟩
  · rintro q e H' ⟨i, hi, rfl, rfl, rfl⟩
    refine w_seq ?_
    refine w_region ?_
    refine w_o rfl rfl rfl (op_lt rfl rfl ?_)
    refine w_end ?_
    refine seq_normal ?_
    refine w_seq ?_
    first | refine w_cond rfl (fun hI1 => ?_) (fun hI1 => ?_) | refine w_condB rfl (fun hI1 => ?_) (fun hI1 => ?_)
    · refine w_skip ?_
      refine seq_normal ?_
      refine w_seq ?_
      refine w_block ?_
      refine w_seq ?_
      refine w_region ?_
      refine w_o rfl rfl rfl (op_move rfl ?_)
      refine w_o rfl rfl rfl (op_assign rfl ?_)
      refine w_end ?_
      refine seq_normal ?_
      refine w_region ?_
      refine w_o rfl rfl rfl (op_load1 agg_29 rfl el_ ?_)
      refine w_o rfl rfl rfl (op_move rfl ?_)
      refine w_o rfl rfl rfl (op_move rfl ?_)
      refine w_o rfl rfl rfl (op_indexE und_29 siz_3 rfl rfl (by omega) (by omega) ?_)
      refine w_on rfl rfl (op_storeT (xs := tab m (fun j => if j < i then (j : Int) else 0)) (enc := encI) (z0 := (i : Int)) (j := i) siz_3 rfl rfl rfl (fun _ => rfl) (by (repeat (first | exact Pick.head _ _ _ | apply Pick.tail | apply Pick.app)); first | done | fail) (by omega) (by rw [tab_len]; omega) ?_)
      refine w_end ?_
      refine block_normal ?_
      refine seq_normal ?_
      refine w_region ?_
      refine w_o rfl rfl rfl (op_addi rfl rfl (by omega) (by omega) ?_)
      refine w_o rfl rfl rfl (op_move rfl ?_)
      refine w_end ?_
      rw [tab_set (g := fun j => if j < i + 1 then (j : Int) else 0) (fun j hj => by
        by_cases e : j = i
        · subst e; rw [if_pos (by omega), if_pos rfl]
        · rw [if_neg e]
          by_cases e2 : j < i
          · rw [if_pos e2, if_pos (by omega)]
          · rw [if_neg e2, if_neg (by omega)])]
      exact loop_normal (k' := m + 1 - (i + 1)) (by omega) ⟨i + 1, by omega, rfl, rfl, rfl⟩ env_ sel_
    · refine w_exit ?_
      refine seq_exit ?_
      refine loop_exit ?_
      refine block_hit rfl ?_
      refine seq_normal ?_
      refine w_seq ?_
      refine w_seq ?_
      refine w_region ?_
      refine w_o rfl rfl rfl (op_move rfl ?_)
      refine w_o rfl rfl rfl (op_lenC und_29 rfl hA.lenC ?_)
      refine w_o rfl rfl rfl (op_move rfl ?_)
      refine w_end ?_
      refine seq_normal ?_
      refine w_block ?_
      refine w_loop (fun q e H' => ∃ (i br : Nat), i ≤ v.length ∧ q = v.length - i ∧ H' = (b7, .row true 29 1 [.sl br 0 (m + 1) (.lim 0)]) :: (br, .row true 3 1 ((tab m (fun j => (lev v w i j : Int))).flatMap encI)) :: (N19 ++ (N17 ++ H)) ∧ e = [(6, .one (.c c19)), (7, ptrV b7 0), (34, .one (.c c17)), (35, vI (v.length : Nat)), (36, vI (i : Nat))]) ?_ ?_
      · have hi1 : i = m + 1 := by omega
        subst hi1
        exact ⟨_, _, _, ⟨0, b23, Nat.zero_le _, rfl, by rw [← tab_congr (m := m) (f := fun j => if j < m + 1 then (j : Int) else 0) (g := fun j => (lev v w 0 j : Int)) (fun j hj => by rw [if_pos (by omega), lev_0k])], rfl⟩, env_, sel_⟩
      · rintro q e H' ⟨i, br, hi, rfl, rfl, rfl⟩
        refine w_seq ?_
        refine w_region ?_
        refine w_o rfl rfl rfl (op_lt rfl rfl ?_)
        refine w_end ?_
        refine seq_normal ?_
        refine w_seq ?_
        first | refine w_cond rfl (fun hI2 => ?_) (fun hI2 => ?_) | refine w_condB rfl (fun hI2 => ?_) (fun hI2 => ?_)
        · refine w_skip ?_
          refine seq_normal ?_
          refine w_seq ?_
          refine w_block ?_
          refine w_seq ?_
          refine w_region ?_
          refine w_o rfl rfl rfl (op_move rfl ?_)
          refine w_o rfl rfl rfl (op_indexT (enc := encI) (xs := v) (j := i) und_29 siz_3 rfl rfl (hA.sub subs_) (fun _ => rfl) rfl (by omega) fun b39 o39 z39 h39 e39 => ?_)
          refine w_o rfl rfl rfl (op_load1 agg_3 rfl el_ ?_)
          refine w_o rfl rfl rfl (op_assign rfl ?_)
          refine w_o rfl rfl rfl (op_assign rfl ?_)
          refine w_end ?_
          refine seq_normal ?_
          refine w_seq ?_
          refine w_region ?_
          refine w_o rfl rfl rfl (op_load1 agg_29 rfl el_ ?_)
          refine w_o rfl rfl rfl (op_alloc zer_29 fun b11 => ?_)
          refine w_on rfl rfl (op_store siz_29 rfl rfl rfl (by (repeat (first | exact Pick.head _ _ _ | apply Pick.tail | apply Pick.app)); first | done | fail) (Nat.le_of_ble_eq_true rfl) rfl ?_)
          refine w_end ?_
          refine seq_normal ?_
          refine w_seq ?_
          refine w_region ?_
          refine w_o rfl rfl rfl (op_move rfl ?_)
          refine w_o rfl rfl rfl (op_lenC und_29 rfl hB.lenC ?_)
          refine w_o rfl rfl rfl (op_addi rfl rfl (by omega) (by omega) ?_)
          refine w_o rfl rfl rfl (op_makeSliceW elm_29 inf_3 zer_3 (by decide) rfl rfl (by omega) (by omega) (by omega) (by omega) fun b45 => ?_)
          rw [show (((w.length : Nat) : Int) + 1).toNat = m + 1 by omega, tab_zero]
          refine w_on rfl rfl (op_store siz_29 rfl rfl rfl (by (repeat (first | exact Pick.head _ _ _ | apply Pick.tail | apply Pick.app)); first | done | fail) (Nat.le_of_ble_eq_true rfl) rfl ?_)
          refine w_end ?_
          refine seq_normal ?_
          refine w_seq ?_
          refine w_region ?_
          refine w_o rfl rfl rfl (op_load1 agg_29 rfl el_ ?_)
          refine w_o rfl rfl rfl (op_move rfl ?_)
          refine w_o rfl rfl rfl (op_addi rfl rfl (by omega) (by omega) ?_)
          refine w_o rfl rfl rfl (op_indexE und_29 siz_3 rfl rfl (by omega) (by omega) ?_)
          refine w_on rfl rfl (op_storeT (xs := tab m (fun _ => 0)) (enc := encI) (z0 := ((i : Nat) : Int) + 1) (j := 0) siz_3 rfl rfl rfl (fun _ => rfl) (by (repeat (first | exact Pick.head _ _ _ | apply Pick.tail | apply Pick.app)); first | done | fail) (by omega) (by rw [tab_len]; omega) ?_)
          refine w_end ?_
          refine seq_normal ?_
          refine w_seq ?_
          refine w_region ?_
          refine w_o rfl rfl rfl (op_makeFunc rfl ?_)
          refine w_o rfl rfl rfl (op_assign rfl ?_)
          refine w_end ?_
          refine seq_normal ?_
          refine w_seq ?_
          refine w_region ?_
          refine w_o rfl rfl rfl (op_move rfl ?_)
          refine w_o rfl rfl rfl (op_lenC und_29 rfl hB.lenC ?_)
          refine w_o rfl rfl rfl (op_move rfl ?_)
          refine w_end ?_
          refine seq_normal ?_
          refine w_block ?_
          refine w_loop (fun q e H' => ∃ (k : Nat), k ≤ m ∧ q = m - k ∧ H' = (b45, .row true 3 1 ((tab m (fun j => if j ≤ k then (lev v w (i + 1) j : Int) else 0)).flatMap encI)) :: (b11, .row true 29 1 [.sl br 0 (m + 1) (.lim 0)]) :: (b7, .row true 29 1 [.sl b45 0 (m + 1) (.lim 0)]) :: (br, .row true 3 1 ((tab m (fun j => (lev v w i j : Int))).flatMap encI)) :: (N19 ++ (N17 ++ H)) ∧ e = [(6, .one (.c c19)), (7, ptrV b7 0), (10, vI z39), (12, .one (.c (.fn 20 [(b11, 0), (b7, 0)]))), (34, .one (.c c17)), (35, vI (v.length : Nat)), (36, vI (i : Nat)), (51, .one (.c c19)), (52, vI (w.length : Nat)), (53, vI (k : Nat))]) ?_ ?_
          · exact ⟨_, _, _, ⟨0, Nat.zero_le _, rfl, by rw [← tab_set (f := fun _ => 0) (g := fun j => if j ≤ 0 then (lev v w (i + 1) j : Int) else 0) (k := 0) (v := ((i : Nat) : Int) + 1) (fun j hj => by
              by_cases e : j = 0
              · subst e; rw [if_pos (by omega), if_pos rfl, lev_i0]; rfl
              · rw [if_neg (by omega), if_neg e])], rfl⟩, env_, sel_⟩
          · rintro q e H' ⟨k, hk, rfl, rfl, rfl⟩
            refine w_seq ?_
            refine w_region ?_
            refine w_o rfl rfl rfl (op_lt rfl rfl ?_)
            refine w_end ?_
            refine seq_normal ?_
            refine w_seq ?_
            first | refine w_cond rfl (fun hI3 => ?_) (fun hI3 => ?_) | refine w_condB rfl (fun hI3 => ?_) (fun hI3 => ?_)
            · refine w_skip ?_
              refine seq_normal ?_
              refine w_seq ?_
              refine w_block ?_
              refine w_seq ?_
              refine w_region ?_
              refine w_o rfl rfl rfl (op_move rfl ?_)
              refine w_o rfl rfl rfl (op_indexT (enc := encI) (xs := w) (j := k) und_29 siz_3 rfl rfl (hB.sub subs_) (fun _ => rfl) rfl (by omega) fun b56 o56 z56 h56 e56 => ?_)
              refine w_o rfl rfl rfl (op_load1 agg_3 rfl el_ ?_)
              refine w_o rfl rfl rfl (op_assign rfl ?_)
              refine w_o rfl rfl rfl (op_assign rfl ?_)
              refine w_end ?_
              refine seq_normal ?_
              refine w_seq ?_
              refine w_region ?_
              refine w_o rfl rfl rfl (op_assign rfl ?_)
              refine w_end ?_
              refine seq_normal ?_
              refine w_seq ?_
              refine w_seq ?_
              refine w_region ?_
              refine w_o rfl rfl rfl (op_move rfl ?_)
              refine w_o rfl rfl rfl (op_move rfl ?_)
              refine w_o rfl rfl rfl (op_eq rfl rfl ?_)
              refine w_end ?_
              refine seq_normal ?_
              first | refine w_cond rfl (fun hI4 => ?_) (fun hI4 => ?_) | refine w_condB rfl (fun hI4 => ?_) (fun hI4 => ?_)
              · have hcost : (if v[i]? = w[k]? then (0 : Nat) else 1) = 0 := by rw [h39, h56, show z39 = z56 from hI4, if_pos rfl]
                refine w_region ?_
                refine w_o rfl rfl rfl (op_assign rfl ?_)
                refine w_end ?_
                refine seq_normal ?_
                refine w_drawF ((b45, .row true 3 1 ((tab m (fun j => if j ≤ k then (lev v w (i + 1) j : Int) else 0)).flatMap encI)) :: (b11, .row true 29 1 [.sl br 0 (m + 1) (.lim 0)]) :: (b7, .row true 29 1 [.sl b45 0 (m + 1) (.lim 0)]) :: (br, .row true 3 1 ((tab m (fun j => (lev v w i j : Int))).flatMap encI)) :: (N19 ++ (N17 ++ H))) sel_ (by decide +kernel) (by decide +kernel) ?_
                refine f_l (guard_none rfl) rfl rfl rfl sel_ (op_load1 agg_29 rfl el_ rfl) ?_
                refine f_b (guard_none rfl) rfl rfl rfl rfl (op_move rfl ?_)
                refine f_b (guard_none rfl) rfl rfl rfl rfl (op_addi rfl rfl (by omega) (by omega) ?_)
                refine f_b (guard_none rfl) rfl rfl rfl rfl (op_move rfl ?_)
                refine f_b (guard_none rfl) rfl rfl rfl rfl (op_move rfl ?_)
                refine f_b (guard_none rfl) rfl rfl rfl rfl (op_move rfl ?_)
                refine f_m (guard_none rfl) rfl rfl rfl (op_call rfl rfl rfl ?_)
                have l0 := hlev i k
                have l1 := hlev i (k + 1)
                have l2 := hlev (i + 1) k
                refine least_w (m := m) (k := k) (f := fun j => (lev v w i j : Int)) (g := fun j => if j ≤ k then (lev v w (i + 1) j : Int) else 0) (El.row mem_) (El.row mem_) (tab_row (own := true) mem_) (tab_row (own := true) mem_) (by omega) (by omega) (by omega) (by omega) (by omega) (by show 0 ≤ (if k ≤ k then (lev v w (i + 1) k : Int) else 0) ∧ _; rw [if_pos (Nat.le_refl _)]; omega) ?_
                refine ⟨sel_, ?_⟩
                refine f_b (guard_none rfl) rfl rfl rfl rfl (op_indexE und_29 siz_3 rfl rfl (by omega) (by omega) ?_)
                refine f_wn (guard_none rfl) rfl rfl rfl (op_storeT (xs := tab m (fun j => if j ≤ k then (lev v w (i + 1) j : Int) else 0)) (enc := encI) (j := k + 1) siz_3 rfl rfl rfl (fun _ => rfl) (by (repeat (first | exact Pick.head _ _ _ | apply Pick.tail | apply Pick.app)); first | done | fail) (by omega) (by rw [tab_len]; omega) ?_)
                refine f_end ?_
                refine block_normal ?_
                refine seq_normal ?_
                refine w_region ?_
                refine w_o rfl rfl rfl (op_addi rfl rfl (by omega) (by omega) ?_)
                refine w_o rfl rfl rfl (op_move rfl ?_)
                refine w_end ?_
                rw [tab_set (g := fun j => if j ≤ k + 1 then (lev v w (i + 1) j : Int) else 0) (fun j hj => by
                  have hl := lev_least v w i k
                  rw [hcost] at hl
                  by_cases e : j = k + 1
                  · subst e
                    show (if k + 1 ≤ k + 1 then (lev v w (i + 1) (k + 1) : Int) else 0) = _
                    rw [if_pos (Nat.le_refl _), if_pos rfl, if_pos (Nat.le_refl _)]
                    omega
                  · show (if j ≤ k + 1 then (lev v w (i + 1) j : Int) else 0) = _
                    rw [if_neg e]
                    by_cases e2 : j ≤ k
                    · rw [if_pos e2, if_pos (by omega)]
                    · rw [if_neg e2, if_neg (by omega)])]
                exact loop_normal (k' := m - (k + 1)) (by omega) ⟨k + 1, by omega, rfl, rfl, rfl⟩ env_ sel_
              · have hcost : (if v[i]? = w[k]? then (0 : Nat) else 1) = 1 := by rw [h39, h56, if_neg (fun q => hI4 (Option.some.inj q))]
                refine w_skip ?_
                refine seq_normal ?_
                refine w_drawF ((b45, .row true 3 1 ((tab m (fun j => if j ≤ k then (lev v w (i + 1) j : Int) else 0)).flatMap encI)) :: (b11, .row true 29 1 [.sl br 0 (m + 1) (.lim 0)]) :: (b7, .row true 29 1 [.sl b45 0 (m + 1) (.lim 0)]) :: (br, .row true 3 1 ((tab m (fun j => (lev v w i j : Int))).flatMap encI)) :: (N19 ++ (N17 ++ H))) sel_ (by decide +kernel) (by decide +kernel) ?_
                refine f_l (guard_none rfl) rfl rfl rfl sel_ (op_load1 agg_29 rfl el_ rfl) ?_
                refine f_b (guard_none rfl) rfl rfl rfl rfl (op_move rfl ?_)
                refine f_b (guard_none rfl) rfl rfl rfl rfl (op_addi rfl rfl (by omega) (by omega) ?_)
                refine f_b (guard_none rfl) rfl rfl rfl rfl (op_move rfl ?_)
                refine f_b (guard_none rfl) rfl rfl rfl rfl (op_move rfl ?_)
                refine f_b (guard_none rfl) rfl rfl rfl rfl (op_move rfl ?_)
                refine f_m (guard_none rfl) rfl rfl rfl (op_call rfl rfl rfl ?_)
                have l0 := hlev i k
                have l1 := hlev i (k + 1)
                have l2 := hlev (i + 1) k
                refine least_w (m := m) (k := k) (f := fun j => (lev v w i j : Int)) (g := fun j => if j ≤ k then (lev v w (i + 1) j : Int) else 0) (El.row mem_) (El.row mem_) (tab_row (own := true) mem_) (tab_row (own := true) mem_) (by omega) (by omega) (by omega) (by omega) (by omega) (by show 0 ≤ (if k ≤ k then (lev v w (i + 1) k : Int) else 0) ∧ _; rw [if_pos (Nat.le_refl _)]; omega) ?_
                refine ⟨sel_, ?_⟩
                refine f_b (guard_none rfl) rfl rfl rfl rfl (op_indexE und_29 siz_3 rfl rfl (by omega) (by omega) ?_)
                refine f_wn (guard_none rfl) rfl rfl rfl (op_storeT (xs := tab m (fun j => if j ≤ k then (lev v w (i + 1) j : Int) else 0)) (enc := encI) (j := k + 1) siz_3 rfl rfl rfl (fun _ => rfl) (by (repeat (first | exact Pick.head _ _ _ | apply Pick.tail | apply Pick.app)); first | done | fail) (by omega) (by rw [tab_len]; omega) ?_)
                refine f_end ?_
                refine block_normal ?_
                refine seq_normal ?_
                refine w_region ?_
                refine w_o rfl rfl rfl (op_addi rfl rfl (by omega) (by omega) ?_)
                refine w_o rfl rfl rfl (op_move rfl ?_)
                refine w_end ?_
                rw [tab_set (g := fun j => if j ≤ k + 1 then (lev v w (i + 1) j : Int) else 0) (fun j hj => by
                  have hl := lev_least v w i k
                  rw [hcost] at hl
                  by_cases e : j = k + 1
                  · subst e
                    show (if k + 1 ≤ k + 1 then (lev v w (i + 1) (k + 1) : Int) else 0) = _
                    rw [if_pos (Nat.le_refl _), if_pos rfl, if_pos (Nat.le_refl _)]
                    omega
                  · show (if j ≤ k + 1 then (lev v w (i + 1) j : Int) else 0) = _
                    rw [if_neg e]
                    by_cases e2 : j ≤ k
                    · rw [if_pos e2, if_pos (by omega)]
                    · rw [if_neg e2, if_neg (by omega)])]
                exact loop_normal (k' := m - (k + 1)) (by omega) ⟨k + 1, by omega, rfl, rfl, rfl⟩ env_ sel_
            · refine w_exit ?_
              refine seq_exit ?_
              refine loop_exit ?_
              refine block_hit rfl ?_
              refine block_normal ?_
              refine seq_normal ?_
              refine w_region ?_
              refine w_o rfl rfl rfl (op_addi rfl rfl (by omega) (by omega) ?_)
              refine w_o rfl rfl rfl (op_move rfl ?_)
              refine w_end ?_
              have hk1 : k = m := by omega
              rw [tab_congr (m := m) (f := fun j => if j ≤ k then (lev v w (i + 1) j : Int) else 0) (g := fun j => (lev v w (i + 1) j : Int)) (fun j hj => if_pos (by omega))]
              exact loop_normal (k' := v.length - (i + 1)) (by omega) ⟨i + 1, b45, by omega, rfl, rfl, rfl⟩ env_ sel_
        · refine w_exit ?_
          refine seq_exit ?_
          refine loop_exit ?_
          refine block_hit rfl ?_
          refine seq_normal ?_
          refine w_seq ?_
          refine w_region ?_
          refine w_o rfl rfl rfl (op_load1 agg_29 rfl el_ ?_)
          refine w_o rfl rfl rfl (op_move rfl ?_)
          refine w_o rfl rfl rfl (op_lenC und_29 rfl hB.lenC ?_)
          refine w_o rfl rfl rfl (op_indexT (enc := encI) (xs := tab m (fun j => (lev v w i j : Int))) (j := m) und_29 siz_3 rfl rfl (tab_row (own := true) mem_) (fun _ => rfl) (by omega) (by rw [tab_len]; omega) fun b74 o74 z74 h74 e74 => ?_)
          refine w_o rfl rfl rfl (op_load1 agg_3 rfl el_ ?_)
          refine w_o rfl rfl rfl (op_assign rfl ?_)
          refine w_end ?_
          refine seq_normal ?_
          refine w_ret ?_
          have hi1 : i = a.length := by omega
          subst hi1
          rw [tab_get (Nat.le_refl _)] at h74
          cases h74
          exact ret_ret rfl sel_ k0
def dist (x y : List Sign) : Nat := lev (valsS x) (valsS y) x.length y.length
end Go.Proofs.Ytpkdncjopbbbhaa.AM.B
