/- Slices inside a row of one's own: what stands ahead of it, and behind it, is known; it grows in place, or anew. Elements of one cell. -/
import Derived.Test.YtajhjfgoefhdnaaAX
import Derived.Test.YtajhjfgoefhdnaaP0
set_option linter.unusedVariables false
set_option linter.unusedSimpArgs false
set_option maxRecDepth 10000
set_option maxHeartbeats 4000000
namespace Go.Proofs.Ytajhjfgoefhdnaa.AM.B
open Go Go.RowKit
theorem flatC (cs : List Cell) : cs.flatMap encC = cs := by
  induction cs with
  | nil => rfl
  | cons c cs ih => rw [List.flatMap_cons, ih]; rfl
inductive HL (te : Nat) : Cell → List Cell → Hyp → Prop
  | nil : HL te .nils [] []
  | row (b : Nat) (pre cs room : List Cell) : HL te (.sl b pre.length cs.length (.lim pre.length)) cs [(b, .row true te 1 (pre ++ cs ++ room))]
theorem HL.sl {te : Nat} {c : Cell} {cs : List Cell} {N : Hyp} (h : HL te c cs N) : Sl N te 1 c cs.length (cs.flatMap encC) := by
  rw [flatC]
  cases h with
  | nil => exact Sl.nil
  | row b pre cs room =>
    refine ⟨by omega, .inr (.inr ⟨b, pre.length, .lim pre.length, rfl, .inl ⟨true, _, List.mem_singleton.2 rfl, by simp only [List.length_append]; omega, ?_, fun d e => by cases e; omega, fun m e => by cases e⟩⟩)⟩
    rw [List.append_assoc, List.drop_left, Nat.mul_one, List.take_left]
theorem splice_pre (a b : List Cell) (i : Nat) (new : List Cell) : splice (a ++ b) (a.length + i) new = a ++ splice b i new := by
  have h1 : (a ++ b).take (a.length + i) = a ++ b.take i := by rw [List.take_append, List.take_of_length_le (by omega), Nat.add_sub_cancel_left]
  have h2 : ∀ k, (a ++ b).drop (a.length + k) = b.drop k := fun k => by rw [← List.drop_drop, List.drop_left]
  unfold splice
  rw [h1, Nat.add_assoc, h2]
  simp only [List.append_assoc]
theorem splice_post {a b new : List Cell} {i : Nat} (h : i + new.length ≤ a.length) : splice (a ++ b) i new = splice a i new ++ b := by
  unfold splice
  rw [List.take_append_of_le_length (by omega), List.drop_append_of_le_length h]
  simp only [List.append_assoc]
theorem splice_one {cs : List Cell} {i : Nat} {v : Cell} (h : i < cs.length) : splice cs i [v] = cs.set i v := by
  unfold splice
  rw [List.set_eq_take_append_cons_drop, if_pos h]
  simp only [List.append_assoc, List.length_singleton]
  rfl
theorem splice_mid {pre cs room : List Cell} {i : Nat} {v : Cell} (h : i < cs.length) : splice (pre ++ cs ++ room) (pre.length + i * 1) [v] = pre ++ cs.set i v ++ room := by
  rw [Nat.mul_one, List.append_assoc, splice_pre, splice_post (by rw [List.length_singleton]; omega), splice_one h, List.append_assoc]
theorem repeatC_len1 (z : Cell) : ∀ n, (repeatC [z] n).length = n
  | 0 => rfl
  | n + 1 => by
    show ([z] ++ repeatC [z] n).length = _
    rw [List.length_append, repeatC_len1 z n, List.length_singleton]; omega
theorem splice_zero {pre cs room : List Cell} {i : Nat} {z : Cell} (h : i ≤ cs.length) : splice (pre ++ cs ++ room) (pre.length + i * 1) (repeatC [z] (cs.length - i)) = pre ++ cs.take i ++ (repeatC [z] (cs.length - i) ++ room) := by
  have h1 : splice cs i (repeatC [z] (cs.length - i)) = cs.take i ++ repeatC [z] (cs.length - i) := by
    unfold splice
    rw [repeatC_len1, show i + (cs.length - i) = cs.length by omega, List.drop_length, List.append_nil]
  rw [Nat.mul_one, List.append_assoc, splice_pre, splice_post (by rw [repeatC_len1]; omega), h1]
  simp only [List.append_assoc]
section
variable {P : Program} {X : Spec} {q : Bool} {d : Option Nat} {ty : Nat} {pos : String} {af : Array Edge} {g : Option (Nat × Bool)} {e : Env} {H : Hyp} {K : V → Hyp → Prop}
/-- One more element. -/
theorem op_appendHL {t te : Nat} {t1 : Nat} {ats : List TypeId} {x y : Operand} {c z0 : Cell} {cs : List Cell} {b : Nat} {N H1 : Hyp} {B : Nat} {z : List Cell} {te' : Nat} (he : elemT P t = some te) (hi : ∃ i, P.info? te = some i ∧ i.size = 1 ∧ i.bytes = B) (hz : zeroT P te = some z) (hc : z.length = 1 ∧ 0 < 1 ∧ 0 < B) (hu : P.underlying t1 = some (.slice te'))
    (hx : evE e x = some (.one (.c c))) (hy : evE e y = some (.one (.c (.sl b 0 1 (.lim 0))))) (h : HL te c cs N) (hp : PickL N H H1) (hB : (cs.length + 1) * B ≤ 16777216)
    (k : ∀ c' N', HL te c' (cs ++ [z0]) N' → K (.one (.c c')) (N' ++ H1)) : OpW P X q ⟨d, .call ⟨.builtin .append, ⟨[x, y]⟩, ⟨t :: t1 :: ats⟩⟩, ty, pos, af, g⟩ e ((b, .row true te 1 [z0]) :: H) K := by
  intro fr s q1 q2
  obtain ⟨i, hi, hn, hb⟩ := hi
  subst hb
  have hS : Sl ((b, Fact.row true te 1 [z0]) :: H) te 1 (.sl b 0 1 (.lim 0)) 1 [z0] := Sl.of_row (own := true) (List.Mem.head _) rfl
  have hel := hS.elems q2 1 (Nat.le_refl _)
  rw [List.take_of_length_le (by simp)] at hel
  have hlx : lenA c = some cs.length := h.sl.len
  have key : ∃ c' s' N', appendA s te 1 1 [z0] c = some (.one (.c c'), s') ∧ HL te c' (cs ++ [z0]) N' ∧ Hp s' (N' ++ H1) := by
    cases h with
    | nil =>
      cases hp
      refine ⟨.sl s.next 0 1 (.lim 0), s.new [z0] te 1, [(s.next, .row true te 1 [z0])], by simp only [appendA]; rw [if_neg (by decide)], HL.row s.next [] [z0] [], ?_⟩
      exact (q2.newRow [z0] te 1).sel (.pick (.head _ _ _) (.drop _ (.refl _)))
    | row b0 pre cs room =>
      cases hp with
      | cons hp1 hp2 =>
      cases hp2
      have hpk := Pick.tail (b, Fact.row true te 1 [z0]) hp1
      obtain ⟨fam, ver, g1, g2, g3, g4⟩ := q2.grow hpk pre.length [z0]
      cases room with
      | nil =>
        rw [List.append_nil, List.drop_left] at g4
        refine ⟨.sl s.next 0 (cs.length + 1) (.lim 0), _, [(s.next, .row true te 1 (cs ++ [z0]))], ?_, ?_, g4.sel (.pick (.head _ _ _) (.drop _ (.refl _)))⟩
        · simp only [appendA, g1]
          rw [if_pos ⟨by omega, trivial, trivial, by simp only [List.length_append, List.length_nil]; omega⟩, if_neg (by decide), if_neg (by simp only [List.length_append, List.length_nil]; omega), if_pos ⟨by simp only [List.length_append, List.length_nil]; omega, g2, g3⟩]
          simp only [List.append_nil, List.drop_left]
        · have := HL.row (te := te) s.next [] (cs ++ [z0]) []
          rw [List.length_append, List.length_singleton, List.append_nil, List.nil_append] at this
          exact this
      | cons r room =>
        obtain ⟨s', w1, w2, w3⟩ := q2.write hpk (off := pre.length + cs.length * 1) (new := [z0]) (by simp only [List.length_append, List.length_cons, List.length_nil]; omega)
        have hsp : splice (pre ++ cs ++ r :: room) (pre.length + cs.length * 1) [z0] = pre ++ (cs ++ [z0]) ++ room := by
          unfold splice
          rw [Nat.mul_one, ← List.length_append, List.take_left, List.length_singleton, ← List.drop_drop, List.drop_left, List.append_assoc pre cs [z0]]
          rfl
        rw [hsp] at w2
        refine ⟨.sl b0 pre.length (cs.length + 1) (.lim pre.length), s', [(b0, .row true te 1 (pre ++ (cs ++ [z0]) ++ room))], ?_, ?_, w2.sel (.pick (.head _ _ _) (.drop _ (.refl _)))⟩
        · simp only [appendA, g1]
          rw [if_pos ⟨by omega, trivial, trivial, by simp only [List.length_append, List.length_cons]; omega⟩, if_neg (by decide), if_pos (by simp only [List.length_append, List.length_cons]; omega), w1]
          rfl
        · have := HL.row (te := te) b0 pre (cs ++ [z0]) room
          rw [List.length_append, List.length_singleton] at this
          exact this
  obtain ⟨c', s', N', a1, a2, a3⟩ := key
  refine ⟨0, _, s', _, ?_, a3, k c' N' a2, fun _ hm => by cases hm⟩
  simp only [opRun, evC q1 hx, evC q1 hy, xAppend, he, hi, hz, List.head?_cons, Option.bind_some, hu]
  rw [if_pos (by rw [hn]; exact hc)]
  have hly : lenA (.sl b 0 1 (.lim 0)) = some 1 := rfl
  rw [hn, hlx, hly, hel]
  show (if (cs.length + 1) * i.bytes ≤ 140737488355328 ∧ [z0].length = 1 * 1 then appendA s te 1 1 [z0] c else none) = _
  rw [if_pos ⟨Nat.le_trans hB (by decide), rfl⟩]
  exact a1
/-- An element, of memory as it was. -/
theorem op_indexT1 {H1 : Hyp} {α : Type} {xs : List α} {enc : α → List Cell} {t te n : Nat} {x y : Operand} {c : Cell} {k0 : IntKind} {i : Int} {j : Nat} (hu : P.underlying t = some (.slice te)) (hn : sizeT P te = some n) (hx : evE e x = some (.one (.c c))) (hy : evE e y = some (.one (.c (.int k0 i)))) (h : Sl H1 te n c xs.length (xs.flatMap enc)) (henc : ∀ x, (enc x).length = n) (hi : i = (j : Int)) (hj : j < xs.length)
    (k : ∀ b o z, xs[j]? = some z → El H1 b o (enc z) → K (ptrV b o) H) : OpW P X q ⟨d, .indexAddr t x y, ty, pos, af, g⟩ e H K := by
  subst hi
  have hg : xs[j]? = some xs[j] := List.getElem?_eq_getElem hj
  obtain ⟨b, off, cap, rfl, hE⟩ := h.el hj
  rw [flatMap_at henc hg] at hE
  exact op_indexE hu hn hx hy (by omega) (by omega) (k _ _ _ hg hE)
/-- The part from a place on: the row stays. -/
theorem op_sliceHL {t te : Nat} {x : Operand} {lo : Option Operand} {c : Cell} {cs : List Cell} {N : Hyp} {l : Int} (he : elemT P t = some te) (hn : sizeT P te = some 1) (hx : evE e x = some (.one (.c c))) (h : HL te c cs N) (hs : ∀ y ∈ N, y ∈ H) (hlo : bndE e lo 0 = some l) (h0 : 0 ≤ l) (h1 : l < cs.length ∨ l = 0)
    (k : ∀ c', HL te c' (cs.drop l.toNat) N → K (.one (.c c')) H) : OpW P X q ⟨d, .slice t x lo none none, ty, pos, af, g⟩ e H K := by
  cases h with
  | nil =>
    have hl : l = 0 := by simp at h1; omega
    subst hl
    exact op_sliceNil he hn hx hlo rfl (k .nils .nil)
  | row b pre cs room =>
    refine op_sliceE he hn (by decide) hx (hs _ (List.mem_singleton.2 rfl)) (by omega) (by simp only [List.length_append]; omega) hlo rfl h0 (by omega) (by omega) (by omega) (k _ ?_)
    have := HL.row (te := te) b (pre ++ cs.take l.toNat) (cs.drop l.toNat) room
    rw [List.append_assoc pre, List.take_append_drop, List.length_append, List.length_take, List.length_drop, show min l.toNat cs.length = l.toNat by omega] at this
    rw [Nat.mul_one, show ((cs.length : Nat) : Int).toNat - l.toNat = cs.length - l.toNat by omega]
    exact this
/-- Zeros from here on. -/
theorem op_clearHL {t te : Nat} {ats : List TypeId} {x : Operand} {b off len : Nat} {cap : Cap} {z0 : Cell} {cells cells' : List Cell} {H' : Hyp} (he : elemT P t = some te) (hn : sizeT P te = some 1) (hz : zeroT P te = some [z0]) (hx : evE e x = some (.one (.c (.sl b off len cap)))) (hp : Pick b (.row true te 1 cells) H H') (hl : off + len ≤ cells.length) (hc : splice cells off (repeatC [z0] len) = cells')
    (k : K (.tup []) ((b, .row true te 1 cells') :: H')) : OpW P X q ⟨d, .call ⟨.builtin .clear, ⟨[x]⟩, ⟨t :: ats⟩⟩, ty, pos, af, g⟩ e H K := by
  intro fr s q1 q2
  subst hc
  have hrl := repeatC_len1 z0 len
  obtain ⟨s', w1, w2, w3⟩ := q2.write hp (off := off) (new := repeatC [z0] len) (by omega)
  refine ⟨0, .tup [], s', _, ?_, w2, k, fun _ hm => by cases hm⟩
  simp only [opRun, evC q1 hx, Option.bind_some, xClear, he, hn, hz]
  rw [if_pos ⟨rfl, by decide⟩]
  by_cases e0 : len = 0
  · subst e0
    rw [if_pos rfl]
    have : s.write b off [] = some s := by simp [St.write]
    have w1' : s.write b off [] = some s' := w1
    rw [this] at w1'
    cases w1'; rfl
  · rw [if_neg e0, w1]; rfl
end
/-! ### Two lists side by side -/
theorem filt2 {α β : Type} {R : α → β → Prop} {p : α → Bool} {q : β → Bool} : ∀ (cs : List α) (E : List β), cs.length = E.length → (∀ (i : Nat) (d : α) (e : β), cs[i]? = some d → E[i]? = some e → R d e ∧ p d = q e) → (cs.filter p).length = (E.filter q).length ∧ ∀ (i : Nat) (d : α) (e : β), (cs.filter p)[i]? = some d → (E.filter q)[i]? = some e → R d e
  | [], [], _, _ => ⟨rfl, fun i d e h => by simp at h⟩
  | [], _ :: _, h, _ => by simp at h
  | _ :: _, [], h, _ => by simp at h
  | c :: cs, x :: E, hl, h => by
    have ih := filt2 cs E (by simpa using hl) fun i d e h1 h2 => h (i + 1) d e (by simpa using h1) (by simpa using h2)
    have h0 := h 0 c x rfl rfl
    rw [List.filter_cons, List.filter_cons, ← h0.2]
    cases p c with
    | false => exact ih
    | true =>
      refine ⟨by simp [ih.1], fun i d e h1 h2 => ?_⟩
      cases i with
      | zero => simp at h1 h2; subst h1; subst h2; exact h0.1
      | succ i => exact ih.2 i d e (by simpa using h1) (by simpa using h2)
end Go.Proofs.Ytajhjfgoefhdnaa.AM.B
