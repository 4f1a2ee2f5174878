/- Machine side of the laws of this seat: each Go function as a plain Lean function, and its contract over the model; written by a program of this session (gprint.py) round the kit's print. Not trusted: Lean checks it. -/
import Derived.Test.YtlmmeihgjpgooaaP0
import Derived.Test.YtlmmeihgjpgooaaPLibIndexFunc
namespace Go.Proofs.Ytlmmeihgjpgooaa.P
open Go.RowKit Go.Proofs.YtlmmeihgjpgooaaW.PrintWords Go.Proofs.YtlmmeihgjpgooaaW.PrintLast Go.Proofs.YtlmmeihgjpgooaaW.PrintMore
attribute [local go_sem] max2_int min2_int max_two min_two max_three min_three max_four min_four   -- for this text's walks alone
set_option linter.unusedVariables false
set_option linter.unusedSimpArgs false

/-! ### api_Sign_88: function 88 -/
theorem setCells_app (g : Nat) : ∀ (a b : List Value) (o : Nat) (w : World), w.setCells g o (a ++ b) = (w.setCells g o a).setCells g (o + a.length) b
  | [], b, o, w => by simp [World.setCells]
  | v :: a, b, o, w => by
    simp only [List.cons_append, World.setCells, List.length_cons]
    rw [setCells_app g a b (o + 1), show o + 1 + a.length = o + (a.length + 1) by omega]
theorem zeroCells_flat (zc : Array Value) (n : Nat) : (Builtin.zeroCells zc n).toList = (List.replicate n zc.toList).flatten := by
  unfold Builtin.zeroCells
  rw [Array.toList_map, Array.toList_range]
  induction n with
  | zero => simp
  | succ n ih =>
    rw [List.replicate_succ', List.flatten_append, ← ih, Nat.succ_mul, List.range_add]
    simp only [List.map_append, List.map_map, List.flatten_cons, List.flatten_nil, List.append_nil, List.append_cancel_left_eq]
    apply List.ext_getElem
    · simp
    · intro i h1 h2
      simp at h1
      simp [Nat.mod_eq_of_lt h1, h1]
theorem R_zeros {α : Type} (d : Kd α) {e base n cap g : Nat} {ok okp : Nat → Prop} {z : α} {zs : List Value} (hzs : zs.length = d.sz) (hM : ∀ W, d.M W base okp z zs) (hokp : ∀ k, okp k → ok k ∧ k ≠ g) : ∀ (k i : Nat) (W : World) (xs : List α), d.R e W base ok (.slice (some ⟨g, 0, none⟩) n cap) xs → i + k ≤ n →
    ∃ ys, d.R e (W.setCells g (i * d.sz) (List.replicate k zs).flatten) base ok (.slice (some ⟨g, 0, none⟩) n cap) ys ∧ ys.take i = xs.take i ∧ ys.length = xs.length
  | 0, i, W, xs, h, _ => ⟨xs, by simpa [World.setCells] using h, rfl, rfl⟩
  | k + 1, i, W, xs, h, hk => by
    obtain ⟨c, hcl, _, hcc, _⟩ := Kd.R_elem h z (i : Int) (by omega) (by omega)
    have h1 := (Kd.R_seg (okp := okp) (x' := z) (seg := zs) (j := 0) h (i : Int) (by omega) (by omega) hcl hcc (by omega) (by
      have : c.take 0 ++ zs ++ c.drop (0 + zs.length) = zs := by rw [List.drop_of_length_le (by omega)]; simp
      rw [this]; exact hM _) hokp).1
    simp only [Int.toNat_natCast, Nat.add_zero] at h1
    obtain ⟨ys, q1, q2, q3⟩ := R_zeros d hzs hM hokp k (i + 1) _ _ h1 (by omega)
    refine ⟨ys, ?_, ?_, by rw [q3, List.length_set]⟩
    · rw [List.replicate_succ, List.flatten_cons, setCells_app, hzs, ← Nat.succ_mul]; exact q1
    · have := congrArg (List.take i) q2
      rw [List.take_take, List.take_take, Nat.min_eq_left (by omega)] at this
      rw [this, List.take_set_of_le (by omega)]
theorem run_clear_cells {P : Program} {W : World} {g o n c e t ty : Nat} {cur : Array Value} {te : TypeId} {z : Value} (hu : P.underlying t = some (.slice e)) (hz : ∀ w, (zeroValue e).run P w = .ok z w) (hh : W.heap[g]? = some (.cells cur te (0, 0))) (hfit : o + n * z.cells.size ≤ cur.size) (h1 : ∀ q ∈ z.cells.toList, q.oneCell' = true) :
    (Builtin.clear_ #[t] ty #[.slice (some ⟨g, o, none⟩) n c]).run P W = .ok (.tuple #[]) (W.setCells g o (List.replicate n z.cells.toList).flatten) := by
  cases n with
  | zero => simp [Builtin.clear_, run_underlying hu, World.setCells]
  | succ n =>
    have hst := run_storeCells_cells (P := P) g o (List.replicate (n + 1) z.cells.toList).flatten 0 W (fun j hj => by
        have hl : (List.replicate (n + 1) z.cells.toList).flatten.length = (n + 1) * z.cells.size := by simp
        rw [hl] at hj
        rw [cell_of_row W g _ cur te (0, 0) hh]; simp; omega) (fun j _ => blk_frozen hh _) (fun v hv => by
        simp only [List.mem_flatten, List.mem_replicate] at hv
        obtain ⟨l, ⟨_, rfl⟩, hv⟩ := hv
        exact h1 v hv)
    simp only [Nat.add_zero] at hst
    simp [Builtin.clear_, run_underlying hu, hz, zeroCells_flat, hst]
theorem clear_run {P : Program} {α : Type} (d : Kd α) {w0 W : World} (base : Nat) (t e ty : TypeId) (hu : P.underlying t = some (.slice e)) {z : Value} (hz : ∀ w, (zeroValue e).run P w = .ok z w) {n cap g m c' i : Nat} {A' : Option Addr} {okp ok : Nat → Prop} (xs : List α) (zx : α) (hzs : z.cells.toList.length = d.sz) (h1 : ∀ q ∈ z.cells.toList, q.oneCell' = true) (hM : ∀ W, d.M W base okp zx z.cells.toList) (hokp : ∀ k, okp k → ok k ∧ k ≠ g)
    (HO : d.R e W base ok (.slice (some ⟨g, 0, none⟩) n cap) xs) (hm : i + m = n) (hA : 0 < m → A' = some ⟨g, i * d.sz, none⟩) (HB : Below base w0 W) :
    ∃ w1 ys, (Builtin.clear_ #[t] ty #[.slice A' m c']).run P W = .ok (.tuple #[]) w1 ∧ d.R e w1 base ok (.slice (some ⟨g, 0, none⟩) n cap) ys ∧ ys.take i = xs.take i ∧ ys.length = xs.length ∧ Below base w0 w1 := by
  have hbg : base ≤ g := Kd.R_base HO g (by simp [Value.ownBlock])
  obtain ⟨ys, q1, q2, q3⟩ := R_zeros d hzs hM hokp m i W xs HO (by omega)
  have hB : Below base w0 (W.setCells g (i * d.sz) (List.replicate m z.cells.toList).flatten) := HB.trans (by
    obtain ⟨e1, e2, e3, e4⟩ := setCells_same g (List.replicate m z.cells.toList).flatten (i * d.sz) W
    exact ⟨e1, e2, e3, by omega, fun k hk => setCells_far _ _ k (by omega)⟩)
  have hrun : (Builtin.clear_ #[t] ty #[.slice A' m c']).run P W = .ok (.tuple #[]) (W.setCells g (i * d.sz) (List.replicate m z.cells.toList).flatten) := by
    rcases Nat.eq_zero_or_pos m with h0 | h0
    · subst h0
      cases A' <;> simp [Builtin.clear_, run_underlying hu, World.setCells]
    · rw [hA h0]
      obtain ⟨_, inner, hown, hr⟩ := HO
      rcases hown.2 with ⟨hv, _⟩ | ⟨g', cap', cur, hv, hb, hh, hnc, hcm, hcs, _⟩
      · cases hv
      injection hv with ha _ hc
      injection ha with ha
      injection ha with hg'
      subst hg'; subst hc
      refine run_clear_cells hu hz hh ?_ h1
      rw [← Array.length_toList, hzs]
      have h2 : i * d.sz + m * d.sz = n * d.sz := by rw [← Nat.add_mul, hm]
      have h3 : n * d.sz ≤ cap * d.sz := Nat.mul_le_mul_right _ (by omega)
      omega
  exact ⟨_, ys, hrun, q1, q2, q3, hB⟩
/-- What is left of a list behind a first one of which something is so. -/
theorem delF_step {α : Type} (p : α → Bool) (l : List α) (z : α) (j : Nat) (hj : j < l.length) : (l.take (j + 1)).filter (fun x => !p x) = (l.take j).filter (fun x => !p x) ++ (if p (l.getD j z) = true then [] else [l.getD j z]) := by
  rw [List.take_add_one, List.filter_append, List.getElem?_eq_getElem hj, List.getD_eq_getElem?_getD, List.getElem?_eq_getElem hj]
  cases hp : p l[j] <;> simp [hp]
theorem idxF_first {α : Type} (p : α → Bool) (l : List α) : idxF p l = -1 ∧ l.filter (fun x => !p x) = l ∨ 0 ≤ idxF p l ∧ (l.take ((idxF p l).toNat + 1)).filter (fun x => !p x) = l.take (idxF p l).toNat := by
  unfold idxF
  cases h : l.findIdx? p with
  | none =>
    left
    refine ⟨rfl, ?_⟩
    rw [List.findIdx?_eq_none_iff] at h
    rw [List.filter_eq_self]
    intro x hx
    simp [h x hx]
  | some k =>
    right
    obtain ⟨hk, h1, h2⟩ := List.findIdx?_eq_some_iff_getElem.1 h
    refine ⟨(show (0 : Int) ≤ (k : Int) by omega), ?_⟩
    simp only [Int.toNat_natCast]
    rw [List.take_add_one, List.filter_append, List.getElem?_eq_getElem hk]
    have e1 : (l.take k).filter (fun x => !p x) = l.take k := by
      rw [List.filter_eq_self]
      intro x hx
      obtain ⟨j, hj, rfl⟩ := List.mem_iff_getElem.1 hx
      rw [List.length_take] at hj
      rw [List.getElem_take]
      have := h2 j (by omega)
      simpa using this
    rw [e1]
    simp [h1]
set_option maxHeartbeats 4000000 in
set_option maxRecDepth 100000 in
theorem DeleteFunc_Sign_calls (p : S46 → Bool) (g : Nat) (lb : Array Value) (v0 : Value) (l0 : List S46) (w0 w : World) (hB : Below w0.heap.size w0 w) (ho : Kd.R k46 46 w w0.heap.size (fun _ => True) v0 l0) (hlen : l0.length < 8796093022208)
    (eg : ∀ args w, (callFunc g args).run Try.prog w = .ok (.enter g args) w)
    (hp : ∀ (W : World) (x : S46), Below w0.heap.size w0 W → Calls Try.prog g (#[.agg #[.int .i64 x.f0, .int .i64 x.f1]] ++ lb) W fun e w' => e = .returned (.bool (p x)) ∧ Below W.heap.size W w') :
    Calls Try.prog 88 #[v0, .func (.func g) #[] lb] w fun e w' => ∃ v1, e = .returned v1 ∧ Kd.R k46 46 w' w0.heap.size (fun _ => True) v1 (l0.filter (fun x => !p x)) ∧ Below w0.heap.size w0 w' := by
  obtain ⟨A, c, rfl, hlc, hC⟩ := Kd.R_reads ho
  have HO := Aside0.mk ho
  have HB := Aside0.mk hB
  have HP := Aside0.mk hp
  have EG := Aside0.mk eg
  have hres : ∃ res, l0.filter (fun x => !p x) = res := ⟨_, rfl⟩
  obtain ⟨res, hres⟩ := hres
  rw [hres]
  have HRES := Aside0.mk hres
  clear ho hres
  have hix := IndexFunc116 p g lb A c l0 w hC eg (fun W x hb => (hp W x (below_then hB hB.size hb)).mono fun e w' ⟨he, hb'⟩ => ⟨he, below_then hb hb.size hb'⟩)
  clear hp hC
  have hge := idxF_ge p l0
  have hlt := idxF_lt p l0
  go_enter Try.func88, Try.ntmps88
  go_wp2_with fail
  refine hix.mono ?_
  rintro e w1 ⟨rfl, hb1⟩
  have HB1 := Aside0.mk (below_then HB.out HB.out.size hb1)
  have HO1 := Aside0.mk (Kd.R_below HO.out hb1)
  clear hb1 hix HB HO
  have hfirst : idxF p l0 = -1 ∧ l0.filter (fun x => !p x) = l0 ∨ 0 ≤ idxF p l0 ∧ (l0.take ((idxF p l0).toNat + 1)).filter (fun x => !p x) = l0.take (idxF p l0).toNat := idxF_first p l0
  generalize idxF p l0 = ix at *
  rcases hfirst with ⟨rfl, hf⟩ | ⟨h0, hf⟩
  · have hr : Aside0 (res = l0) := ⟨by rw [← HRES.out, hf]⟩
    clear hf HRES HP EG
    go_wp2
    go_ret
    exact ⟨_, rfl, by rw [hr.out]; exact HO1.out, HB1.out⟩
  · have HF := Aside0.mk hf
    clear hf
    obtain ⟨i0, rfl⟩ : ∃ i : Nat, ix = (i : Int) := ⟨ix.toNat, by omega⟩
    simp only [Int.toNat_natCast] at HF
    obtain ⟨gb, cap, he, hgb, hgl, _⟩ := Kd.R_form HO1.out (by omega)
    injection he with hA _ hcap
    subst hA; subst hcap
    have hw1 : wrap64 ((i0 : Int) + 1) = (i0 : Int) + 1 := by unfold wrap64; omega
    go_wp2_with fail
    go_loopg [5, 6] (l0.length - i0) (fun gg s5 s6 wr => ∃ (i j : Nat) (ys : List S46), s5 = .int .i64 (i : Int) ∧ s6 = .int .i64 (j : Int) ∧ Aside0 (Kd.R k46 46 wr w0.heap.size (fun _ => True) (.slice (some ⟨gb, 0, none⟩) l0.length c) ys) ∧ Aside0 (ys.take i = (l0.take j).filter (fun x => !p x)) ∧ Aside0 (ys.drop j = l0.drop j) ∧ Aside0 (ys.length = l0.length) ∧ i < j ∧ j ≤ l0.length ∧ j + gg = l0.length + 1 ∧ Aside0 (Below w0.heap.size w0 wr))
    case atStart =>
      clear hw1
      exact ⟨i0, i0 + 1, l0, rfl, by go_num, HO1, ⟨HF.out.symm⟩, ⟨rfl⟩, ⟨rfl⟩, by omega, by omega, by omega, HB1⟩
    case round =>
      clear hw1
      obtain ⟨i, j, ys, rfl, rfl, HO2, HT, HD, HL, hij, hjl, hgg, BW⟩ := hrel
      by_cases hj : j < l0.length
      · have hyl := HL.out
        have hx : ∃ x : S46, rd_T46 ys (j : Int) = x := ⟨_, rfl⟩
        obtain ⟨x, hx⟩ := hx
        obtain ⟨ad, e1, q0, q1⟩ := at_T46 (Kd.R_reads' HO2.out).2.2 (j : Int) (by omega) (by omega)
        injection e1 with e1
        subst e1
        rw [hx] at q0 q1
        have ead : ∀ o : Nat, (⟨gb, 0, none⟩ : Addr).add o = ⟨gb, o, none⟩ := fun o => by unfold Addr.add; split <;> simp_all
        rw [ead] at q0 q1
        simp only [Int.toNat_natCast] at q0 q1
        have hxl : l0.getD j z46 = x := by
          rw [← hx]
          have h1 := congrArg (fun l : List S46 => l[0]?) HD.out
          simp only [List.getElem?_drop, Nat.add_zero] at h1
          show _ = ys.getD _ _
          rw [List.getD_eq_getElem?_getD, List.getD_eq_getElem?_getD, Int.toNat_natCast, h1]
        have hstep := delF_step p l0 z46 j hj
        rw [hxl] at hstep
        have HS := Aside0.mk hstep
        have HDN : Aside0 (ys.drop (j + 1) = l0.drop (j + 1)) := ⟨by
          have h1 := congrArg (List.drop 1) HD.out
          rwa [List.drop_drop, List.drop_drop] at h1⟩
        clear hstep hxl hx
        have hcall := HP.out (wr.alloc (Obj.cells #[Value.int IntKind.i64 x.f0, Value.int IntKind.i64 x.f1] 46)) x (below_alloc BW.out _)
        have hw2 := Aside0.mk (show wrap64 ((j : Int) + 1) = (j : Int) + 1 by unfold wrap64; omega)
        have hw3 := Aside0.mk (show wrap64 ((i : Int) + 1) = (i : Int) + 1 by unfold wrap64; omega)
        go_wp2_with fail
        refine hcall.mono ?_
        rintro e w2 ⟨rfl, hb2⟩
        have c0 : (wr.alloc (Obj.cells #[Value.int IntKind.i64 x.f0, Value.int IntKind.i64 x.f1] 46)).cell? ⟨wr.heap.size, 0, none⟩ = some (.int .i64 x.f0) := by simp
        have c1 : (wr.alloc (Obj.cells #[Value.int IntKind.i64 x.f0, Value.int IntKind.i64 x.f1] 46)).cell? ⟨wr.heap.size, 1, none⟩ = some (.int .i64 x.f1) := by simp
        have HOa := Aside0.mk (Kd.R_alloc HO2.out (Obj.cells #[Value.int IntKind.i64 x.f0, Value.int IntKind.i64 x.f1] 46))
        have HBa := Aside0.mk (below_alloc BW.out (Obj.cells #[Value.int IntKind.i64 x.f0, Value.int IntKind.i64 x.f1] 46))
        clear hcall
        generalize wr.alloc (Obj.cells #[Value.int IntKind.i64 x.f0, Value.int IntKind.i64 x.f1] 46) = W1 at *
        have b0 := pw_cell_below hb2 c0
        have b1 := pw_cell_below hb2 c1
        have HO3 := Aside0.mk (Kd.R_below HOa.out hb2)
        have BW2 := Aside0.mk (below_then HBa.out HBa.out.size hb2)
        clear hb2 c0 c1 q0 q1 HO2 BW HOa HBa
        cases hpx : p x with
        | true =>
          rw [hpx] at HS
          have HT2 := Aside0.mk (show ys.take i = (l0.take (j + 1)).filter (fun x => !p x) by rw [HS.out, HT.out]; simp)
          clear HS HT hpx
          go_wp2
          go_roundg (l0.length - j)
          case measure => omega
          case rel => exact ⟨i, j + 1, ys, rfl, by go_num, HO3, HT2, HDN, HL, by omega, by omega, by omega, BW2⟩
        | false =>
          rw [hpx] at HS
          obtain ⟨cc, hcl, _, hcc, _⟩ := Kd.R_elem HO3.out z46 (i : Int) (by omega) (by omega)
          have HT2 := Aside0.mk (show (ys.set i x).take (i + 1) = (l0.take (j + 1)).filter (fun x => !p x) by
            rw [HS.out, ← HT.out, List.take_add_one, List.take_set_of_le (Nat.le_refl _), List.getElem?_set_self (by have := HL.out; omega)]
            simp)
          have HD2 : Aside0 ((ys.set i x).drop (j + 1) = l0.drop (j + 1)) := ⟨by rw [List.drop_set_of_lt (by omega)]; exact HDN.out⟩
          have HL2 : Aside0 ((ys.set i x).length = l0.length) := ⟨by rw [List.length_set]; exact HL.out⟩
          clear HS HT HDN HL hpx
          have hseg : cc.take 0 ++ [Value.int IntKind.i64 x.f0, Value.int IntKind.i64 x.f1] ++ cc.drop (0 + [Value.int IntKind.i64 x.f0, Value.int IntKind.i64 x.f1].length) = [Value.int IntKind.i64 x.f0, Value.int IntKind.i64 x.f1] := by
            rw [List.drop_of_length_le (by rw [hcl]; exact Nat.le_refl 2)]; simp
          go_wp2_with ((with_reducible refine gate_ (.store 46 (.tmp 33) (.tmp 32)) rfl ?_); refine Kd.R_store k46 (w0 := w0) w0.heap.size rfl rfl 46 (.tmp 33) (.tmp 32) rfl 46 (i : Int) 0 ys x (.agg #[.int .i64 x.f0, .int .i64 x.f1]) [.int .i64 x.f0, .int .i64 x.f1] cc (fun _ => True) (fun _ => False) rfl ?hoff rfl rfl (by kernel_rfl) (by simp [Value.oneCell']) HO3.out ?hA ?hB2 hcl hcc ?hC2 ?hD2 (fun _ h => h.elim) BW2.out ?hE; (case hoff => (first | rfl | (show _ = ((i : Int)).toNat * 2 + 0; rw [Int.toNat_natCast]))); (case hA => omega); (case hB2 => omega); (case hC2 => exact Nat.le_refl 2); (case hD2 => (rw [hseg]; exact k46_mkM _ _ _ _)); intro w3 ho3 hb3 _)
          go_roundg (l0.length - j)
          case measure => omega
          case rel => exact ⟨i + 1, j + 1, ys.set i x, by go_num, by go_num, ⟨ho3⟩, HT2, HD2, HL2, by omega, by omega, by omega, ⟨hb3⟩⟩
      · have hjl2 : j = l0.length := by omega
        subst hjl2
        have hyl := HL.out
        have hfin := Aside0.mk (show ys.take i = res by rw [HT.out, List.take_length, HRES.out])
        have hz : ∀ W : World, (zeroValue 46).run Try.prog W = .ok (.agg #[.int .i64 0, .int .i64 0]) W := by
          intro W
          obtain ⟨q, hq, hq2⟩ := Option.map_eq_some_iff.1 info46
          simp only [Prod.mk.injEq] at hq2
          simp [zeroValue, typeInfo, hq, hq2.1]
        have hcc : i < c := by omega
        clear HT HD HL HP EG HRES
        obtain ⟨w3, zs, hrun, ho3, hz2, hz3, hb3⟩ := clear_run k46 (w0 := w0) w0.heap.size 22 46 0 Try.underlying22 hz (okp := fun _ => False) (i := i) (m := l0.length - i) (c' := c - i) (A' := some ⟨gb, i * 2, none⟩) ys z46 rfl (by simp [Value.cells, Value.oneCell']) (fun _ => k46_mkM _ _ _ _) (fun _ h => h.elim) HO2.out (by omega) (fun _ => rfl) BW.out
        have HZ := Aside0.mk hz2
        have HO3 := Aside0.mk (Kd.R_take ho3 (m := i) (by omega))
        have BW3 := Aside0.mk hb3
        clear hz2 ho3 hb3 HO2 BW hz
        go_wp2
        go_ret
        exact ⟨_, rfl, by rw [← hfin.out, ← HZ.out]; exact HO3.out, BW3.out⟩

end Go.Proofs.Ytlmmeihgjpgooaa.P
