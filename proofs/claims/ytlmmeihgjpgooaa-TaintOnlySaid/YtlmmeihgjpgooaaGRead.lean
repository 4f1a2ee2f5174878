/- Words of this seat for its rows: how an argument that is read as data lies in memory, kind by kind. -/
import Derived.Test.YtlmmeihgjpgooaaWWords
import Derived.Test.YtlmmeihgjpgooaaWLast
import Derived.SizedLaws
import Derived.ChangeSlices
import Derived.ChangeArms
import Derived.ChangeKeysEq
namespace Go.Proofs.Ytlmmeihgjpgooaa.P
open Go.RowKit Go.Proofs.YtlmmeihgjpgooaaW.PrintWords Go.Proofs.YtlmmeihgjpgooaaW.PrintLast
set_option linter.unusedVariables false
set_option linter.unusedSimpArgs false

/-- Whatever is read as data of type t lies in memory as a value of kind d, of which G holds if no part is too heavy. -/
def Rds {α : Type} (P : Program) (t : TypeId) (d : Kd α) (G : α → Prop) : Prop :=
  ∀ {H : Type} {enc : TypeId × Value → H} {w : World} {base : Nat} {spare : Nat → Bool} {held : Bool} {fuel : Nat} {cs : List Value} {x : DataW H × List MemPlace},
    DataW.trod enc P w base spare held fuel t cs = some x → ∃ y : α, d.K w y cs ∧ ((∀ n ∈ x.1.weights P t, n ≤ reachBytes) → G y)
section
variable {P : Program} {t : TypeId}
theorem rds_int {k : IntKind} (hu : P.underlying t = some (.int k)) : Rds P t (Kd.int k) (fun n => (Lit.int k n).wf = true) := by
  intro H enc w base spare held fuel cs x h
  obtain ⟨n, rfl, rfl, hw⟩ := DataW.trod_int hu h
  exact ⟨n, rfl, fun _ => hw⟩
theorem rds_bool (hu : P.underlying t = some .bool) : Rds P t Kd.bool (fun _ => True) := by
  intro H enc w base spare held fuel cs x h
  obtain ⟨b, rfl, rfl⟩ := DataW.trod_bool hu h
  exact ⟨b, rfl, fun _ => trivial⟩
theorem rds_string (hu : P.underlying t = some .string) : Rds P t Kd.string (fun s => s.size ≤ 140737488351232) := by
  intro H enc w base spare held fuel cs x h
  obtain ⟨s, rfl, rfl, hs⟩ := DataW.trod_string hu h
  refine ⟨s, rfl, fun hw => ?_⟩
  have := hw s.data.toList.length (by simp [DataW.weights])
  rw [Array.length_toList] at this
  exact this
theorem weights_all {H : Type} {e : TypeId} : ∀ {l : List (DataW H)} {d : DataW H}, d ∈ l → ∀ n ∈ d.weights P e, n ∈ DataW.weightsAll P e l
  | x :: l, d, hd, n, hn => by
    simp only [DataW.weightsAll, List.mem_append]
    rcases List.mem_cons.1 hd with rfl | hd
    · exact .inl hn
    · exact .inr (weights_all hd n hn)
theorem cells?_at {w : World} {base : Nat} {a : Addr} {n : Nat} {cs : List Value} (h : w.cells? base a n = some cs) : cs.length = n ∧ ∀ i u, cs[i]? = some u → w.cell? (a.add i) = some u := by
  obtain ⟨_, h1, h2⟩ := World.cells?_some h
  exact ⟨h1, fun i u hi => by rw [h2 i (by have := (List.getElem?_eq_some_iff.1 hi).1; omega)]; exact hi⟩
theorem rds_slice {α : Type} {d : Kd α} {G : α → Prop} {e : TypeId} {B : Nat} (hu : P.underlying t = some (.slice e)) (hc : P.cellsOf e = d.sz) (hb : P.bytesOf e = B) (r : Rds P e d G) :
    Rds P t (Kd.slice e d) (fun xs => xs.length * B ≤ 140737488351232 ∧ ∀ x ∈ xs, G x) := by
  intro H enc w base spare held fuel cs x h
  rcases DataW.trod_slice hu h with ⟨rfl, rfl⟩ | ⟨a, len, cap, elems, rest, n, _, rfl, rfl, _, hl, hm, hlen, hel, _, _⟩
  · exact ⟨[], ⟨none, 0, rfl, Nat.le_refl _, Kd.C_nil d w⟩, fun _ => ⟨by simp, fun x hx => by simp at hx⟩⟩
  · have hex : ∀ i, i < len → ∃ y : α, (∃ cs', cs'.length = d.sz ∧ d.K w y cs' ∧ ∀ j u, cs'[j]? = some u → w.cell? (a.add (i * d.sz + j)) = some u) ∧ ∀ z, elems[i]? = some z → ((∀ n ∈ z.1.weights P e, n ≤ reachBytes) → G y) := by
      intro i hi
      have h1 := hel i hi
      have hz : elems[i]? = some elems[i] := List.getElem?_eq_getElem (by omega)
      rw [hz] at h1
      obtain ⟨cs', h2, h3⟩ := Option.bind_eq_some_iff.1 h1
      obtain ⟨y, hK, hG⟩ := r h3
      obtain ⟨h4, h5⟩ := cells?_at h2
      rw [hc] at h4 h5
      refine ⟨y, ⟨cs', h4, hK, fun j u hj => ?_⟩, fun z hz' => ?_⟩
      · have := h5 j u hj
        rwa [add_add] at this
      · rw [hz] at hz'; cases hz'; exact hG
    have hch : ∀ m, m ≤ len → ∃ ys : List α, ys.length = m ∧ ∀ i y, ys[i]? = some y → (∃ cs', cs'.length = d.sz ∧ d.K w y cs' ∧ ∀ j u, cs'[j]? = some u → w.cell? (a.add (i * d.sz + j)) = some u) ∧ ∀ z, elems[i]? = some z → ((∀ n ∈ z.1.weights P e, n ≤ reachBytes) → G y) := by
      intro m
      induction m with
      | zero => exact fun _ => ⟨[], rfl, fun i y hy => by simp at hy⟩
      | succ m ih =>
        intro hm'
        obtain ⟨ys, h1, h2⟩ := ih (by omega)
        obtain ⟨y, hy⟩ := hex m (by omega)
        refine ⟨ys ++ [y], by simp [h1], fun i z hz => ?_⟩
        rcases Nat.lt_or_ge i ys.length with hi | hi
        · rw [List.getElem?_append_left hi] at hz; exact h2 i z hz
        · have : i = m := by
            have := (List.getElem?_eq_some_iff.1 hz).1
            simp at this; omega
          subst this
          rw [List.getElem?_append_right (by omega), h1] at hz
          simp at hz
          subst hz; exact hy
    obtain ⟨ys, h1, h2⟩ := hch len (Nat.le_refl _)
    subst h1
    refine ⟨ys, ⟨some a, cap, rfl, hl, ⟨rfl, by unfold maxLen at hm; omega, fun _ => ⟨a, rfl, fun j p hj => (h2 j p hj).1⟩⟩⟩, fun hw => ⟨?_, fun y hy => ?_⟩⟩
    · have := hw (((elems.map (·.1)).length + (rest.map (·.1)).length) * P.bytesOf e) (by simp [DataW.weights, hu])
      rw [hb] at this
      refine Nat.le_trans (Nat.mul_le_mul_right _ ?_) this
      simp [hlen]
    · obtain ⟨i, hi, rfl⟩ := List.getElem_of_mem hy
      have hz : elems[i]? = some (elems[i]'(by omega)) := List.getElem?_eq_getElem (by omega)
      refine (h2 i _ (List.getElem?_eq_getElem hi)).2 _ hz (fun n hn => hw n ?_)
      simp only [DataW.weights, hu, List.mem_cons, List.mem_append]
      exact .inr (.inl (weights_all (List.mem_map.2 ⟨_, List.mem_of_getElem? hz, rfl⟩) n hn))
/-- Fields, one behind the other. -/
def RdsL {α : Type} (P : Program) (fs : List Field) (o : Nat) (d : Kd α) (G : α → Prop) : Prop :=
  ∀ {H : Type} {enc : TypeId × Value → H} {w : World} {base : Nat} {spare : Nat → Bool} {held : Bool} {fuel : Nat} {cs : List Value} {xs : List (DataW H × List MemPlace)},
    (∀ (i : Nat) (f : Field), fs[i]? = some f → DataW.trod enc P w base spare held fuel f.type ((cs.drop f.offset).take (P.cellsOf f.type)) = xs[i]?) → cs.length = o + d.sz → xs.length = fs.length →
    ∃ y : α, d.K w y (cs.drop o) ∧ ((∀ n ∈ DataW.weightsEach P (fs.map (·.type)) (xs.map (·.1)), n ≤ reachBytes) → G y)
theorem rdsL_one {α : Type} {d : Kd α} {G : α → Prop} {f : Field} {o : Nat} (ho : f.offset = o) (hc : P.cellsOf f.type = d.sz) (r : Rds P f.type d G) : RdsL P [f] o d G := by
  intro H enc w base spare held fuel cs xs h hl hx
  have h0 := h 0 f rfl
  obtain ⟨x, rfl⟩ : ∃ x, xs = [x] := by
    match xs, hx with
    | [x], _ => exact ⟨x, rfl⟩
  rw [ho, hc, List.take_of_length_le (by rw [List.length_drop]; omega)] at h0
  obtain ⟨y, hK, hG⟩ := r h0
  exact ⟨y, hK, fun hw => hG (fun n hn => hw n (by simpa [DataW.weightsEach] using hn))⟩
theorem rdsL_cons {α β : Type} {d : Kd α} {d' : Kd β} {G : α → Prop} {G' : β → Prop} {f : Field} {fs : List Field} {o : Nat} (ho : f.offset = o) (hc : P.cellsOf f.type = d.sz) (r : Rds P f.type d G) (r' : RdsL P fs (o + d.sz) d' G') :
    RdsL P (f :: fs) o (Kd.pair d d') (fun x => G x.1 ∧ G' x.2) := by
  intro H enc w base spare held fuel cs xs h hl hx
  obtain ⟨x, xs, rfl⟩ : ∃ x r, xs = x :: r := by
    match xs, hx with
    | x :: r, _ => exact ⟨x, r, rfl⟩
  have h0 := h 0 f rfl
  rw [ho, hc] at h0
  obtain ⟨y, hK, hG⟩ := r h0
  have hsz : (Kd.pair d d').sz = d.sz + d'.sz := rfl
  obtain ⟨y', hK', hG'⟩ := r' (xs := xs) (fun i f' hf => by simpa using h (i + 1) f' (by simpa using hf)) (by rw [hl, hsz]; omega) (by simpa using hx)
  refine ⟨(y, y'), ⟨(cs.drop o).take d.sz, cs.drop (o + d.sz), ?_, hK, hK'⟩, fun hw => ⟨hG fun n hn => hw n ?_, hG' fun n hn => hw n ?_⟩⟩
  · rw [← List.drop_drop, List.take_append_drop]
  · simp only [List.map_cons, DataW.weightsEach, List.mem_append]; exact .inl hn
  · simp only [List.map_cons, DataW.weightsEach, List.mem_append]; exact .inr hn
theorem rds_struct {α : Type} {d : Kd α} {G : α → Prop} {fs : Array Field} (hu : P.underlying t = some (.struct fs)) (hc : P.cellsOf t = d.sz) (r : RdsL P fs.toList 0 d G) : Rds P t d G := by
  intro H enc w base spare held fuel cs x h
  obtain ⟨xs, n, rfl, rfl, hl, hx, hf⟩ := DataW.trod_struct hu h
  obtain ⟨y, hK, hG⟩ := r (xs := xs) (fun i f hi => hf i f (by simpa using hi)) (by rw [hl, hc]; omega) (by rw [hx]; simp)
  refine ⟨y, by simpa using hK, fun hw => hG (fun n hn => hw n ?_)⟩
  simpa [DataW.weights, hu] using hn
theorem rds_iso {α β : Type} {d : Kd α} {G : α → Prop} {f : β → α} (g : α → β) (hg : ∀ x, f (g x) = x) (r : Rds P t d G) : Rds P t (Kd.iso d f) (fun y => G (f y)) := by
  intro H enc w base spare held fuel cs x h
  obtain ⟨y, hK, hG⟩ := r h
  refine ⟨g y, ?_, fun hw => ?_⟩
  · show d.K w (f (g y)) cs
    rw [hg]; exact hK
  · show G (f (g y))
    rw [hg]; exact hG hw
theorem weights_of_each {H : Type} {ts : List TypeId} {ds : List (DataW H)} (h : (DataW.weightsEach P ts ds).all (· ≤ reachBytes) = true) {j : Nat} {t : TypeId} {d : DataW H} (ht : ts[j]? = some t) (hd : ds[j]? = some d) : ∀ n ∈ d.weights P t, n ≤ reachBytes := fun n hn => by
  simpa using List.all_eq_true.1 h n (DataW.weights_mem_each ht hd n hn)
end
end Go.Proofs.Ytlmmeihgjpgooaa.P
namespace Go.Proofs.Ytlmmeihgjpgooaa.P
/-- A row of whole numbers is the same as itself. -/
theorem eqItems_self {P : Program} {e : TypeId} (hu : P.underlying e = some (.int .i64)) (hp : P.plainKey e = true) (xs : Array Value) (d : Nat) (w : World) : ∀ is : List Nat, (∀ j ∈ is, ∃ m, xs[j]? = some (.int .i64 m)) → (Op.eqItems (d + 1) e 1 xs xs is).run P w = .ok true w
  | [], _ => by simp [Op.eqItems]
  | i :: is, h => by
    obtain ⟨m, hm⟩ := h i (by simp)
    have he : (Op.equalIn (d + 1) e (.int .i64 m) (.int .i64 m)).run P w = .ok true w := by
      simp [Op.equalIn, Sem.run_bind, run_underlying hu]
    simp only [Op.eqItems, Sem.run_bind, Nat.mul_one, run_part_plain w hp hm, Result.andThen_ok, he, Bool.not_true, Bool.false_eq_true, if_false]
    exact eqItems_self hu hp xs d w is (fun j hj => h j (by simp [hj]))
theorem eqArr_self {P : Program} {t e : TypeId} {n : Nat} (ht : P.underlying t = some (.array n e)) (hu : P.underlying e = some (.int .i64)) (hp : P.plainKey e = true) (hc : P.cellsOf e = 1) (xs : Array Value) (d : Nat) (w : World) (h : ∀ j ∈ List.range n, ∃ m, xs[j]? = some (.int .i64 m)) : (Op.equalIn (d + 2) t (.agg xs) (.agg xs)).run P w = .ok true w := by
  obtain ⟨i, hi⟩ := info_of_underlying hu
  rw [run_equalIn_array w (d + 1) xs xs ht hi, hc]
  exact eqItems_self hu hp xs d w _ h
end Go.Proofs.Ytlmmeihgjpgooaa.P
