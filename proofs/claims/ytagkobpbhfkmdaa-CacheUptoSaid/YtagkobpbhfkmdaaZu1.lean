/- Zu: texts of this claim, laid together. -/
import Derived.SizedLaws
import Derived.ChangeSlices
import Derived.Deep.Slices
import Derived.ChangeArms
import Derived.WideShapes
import Derived.Test.YtagkobpbhfkmdaaZu0
/-! from Open -/
namespace Go.Proofs.Ytagkobpbhfkmdaa.Open
open Go.ChangeShapes Go.WideShapes Go.Deep Go.Proofs.YtagkobpbhfkmdaaW.PrintWords
/-- What a reading of type t tells: a value of the kind d, that is ok. -/
structure Opens {α : Type} (P : Program) (t : TypeId) (d : Kd α) (ok : α → Prop) : Prop where
  sz : d.sz = P.cellsOf t
  get : ∀ {H : Type} (enc : TypeId × Value → H) (w : World) (base : Nat) (spare : Nat → Bool) (held : Bool) (fuel : Nat) (cs : List Value) (x : DataW H × List MemPlace),
    DataW.trod enc P w base spare held fuel t cs = some x → (∀ n ∈ x.1.weights P t, n ≤ reachBytes) → ∃ a, d.K w a cs ∧ ok a
def okInt (k : IntKind) (x : Int) : Prop := (Lit.int k x).wf = true
def okBool (_ : Bool) : Prop := True
def okStr (s : ByteArray) : Prop := s.size ≤ 140737488351232
def okSl (b : Nat) {α : Type} (ok : α → Prop) (xs : List α) : Prop := xs.length ≤ maxLen ∧ xs.length * b ≤ 140737488351232 ∧ ∀ x ∈ xs, ok x
theorem opens_int {P : Program} {t : TypeId} {k : IntKind} (ht : P.underlying t = some (.int k)) (hc : P.cellsOf t = 1) : Opens P t (Kd.int k) (okInt k) :=
  ⟨hc.symm, fun enc w base spare held fuel cs x h _ => by
    obtain ⟨n, rfl, _, hw⟩ := DataW.trod_int ht h
    exact ⟨n, rfl, hw⟩⟩
theorem opens_bool {P : Program} {t : TypeId} (ht : P.underlying t = some .bool) (hc : P.cellsOf t = 1) : Opens P t Kd.bool okBool :=
  ⟨hc.symm, fun enc w base spare held fuel cs x h _ => by
    obtain ⟨n, rfl, _⟩ := DataW.trod_bool ht h
    exact ⟨n, rfl, trivial⟩⟩
theorem opens_string {P : Program} {t : TypeId} (ht : P.underlying t = some .string) (hc : P.cellsOf t = 1) : Opens P t Kd.string okStr :=
  ⟨hc.symm, fun enc w base spare held fuel cs x h hz => by
    obtain ⟨s, rfl, rfl, _⟩ := DataW.trod_string ht h
    refine ⟨s, rfl, ?_⟩
    have z := hz s.data.toList.length (by simp [DataW.weights])
    rw [Array.length_toList] at z
    exact z⟩
theorem list_of {α : Type} {Q : Nat → α → Prop} : ∀ n, (∀ i, i < n → ∃ a, Q i a) → ∃ xs : List α, xs.length = n ∧ ∀ j p, xs[j]? = some p → Q j p
  | 0, _ => ⟨[], rfl, fun j p h => by simp at h⟩
  | n + 1, h => by
    obtain ⟨xs, hl, hx⟩ := list_of n (fun i hi => h i (by omega))
    obtain ⟨a, ha⟩ := h n (by omega)
    refine ⟨xs ++ [a], by simp [hl], fun j p hj => ?_⟩
    by_cases hjn : j < xs.length
    · rw [List.getElem?_append_left hjn] at hj
      exact hx j p hj
    · rw [List.getElem?_append_right (by omega)] at hj
      have hlt := (List.getElem?_eq_some_iff.1 hj).1
      simp at hlt
      obtain rfl : j = n := by omega
      rw [hl, Nat.sub_self] at hj
      simp at hj
      subst hj
      exact ha
theorem weightsAll_mem {H : Type} {P : Program} {e : TypeId} : ∀ {l : List (DataW H)} {d : DataW H}, d ∈ l → ∀ n ∈ d.weights P e, n ∈ DataW.weightsAll P e l
  | [], _, h, _, _ => by simp at h
  | a :: r, d, h, n, hn => by
    rw [DataW.weightsAll, List.mem_append]
    rcases List.mem_cons.1 h with rfl | h
    · exact .inl hn
    · exact .inr (weightsAll_mem h n hn)
theorem opens_slice {α : Type} {P : Program} {t e : TypeId} {b : Nat} {d : Kd α} {ok : α → Prop} (ht : P.underlying t = some (.slice e)) (hc : P.cellsOf t = 1) (hb : P.bytesOf e = b) (he : Opens P e d ok) : Opens P t (Kd.slice e d) (okSl b ok) :=
  ⟨hc.symm, fun enc w base spare held fuel cs x h hz => by
    subst hb
    rcases open_slice ht h with ⟨rfl, _⟩ | ⟨a, len, cap, m, n, D, Pl, rfl, _, hl, hm, hmm, rfl, hi⟩
    · exact ⟨[], ⟨none, 0, rfl, Nat.le_refl _, rfl, by simp, fun h => absurd h (Nat.lt_irrefl 0)⟩, by simp, by simp, fun x hx => by simp at hx⟩
    · have hlm : len ≤ m := by rw [hmm]; split <;> omega
      have hlen : ((List.range len).map D).length = len := by simp
      have key : ∀ i, i < len → ∃ p, ok p ∧ ∃ c, c.length = d.sz ∧ d.K w p c ∧ ∀ j u, c[j]? = some u → w.cell? (a.add (i * d.sz + j)) = some u := by
        intro i hil
        obtain ⟨cs', hcs', ht'⟩ := hi i (by omega)
        obtain ⟨p, hK, hok⟩ := he.get enc w base spare held n cs' _ ht' (fun q hq => hz q (by
          rw [DataW.weights, ht]
          refine List.mem_cons_of_mem _ (List.mem_append_left _ (weightsAll_mem (d := D i) ?_ q hq))
          exact List.mem_map.2 ⟨i, List.mem_range.2 hil, rfl⟩))
        obtain ⟨_, hcl, hat⟩ := World.cells?_some hcs'
        refine ⟨p, hok, cs', d.K_len hK, hK, fun j u hju => ?_⟩
        have hj := (List.getElem?_eq_some_iff.1 hju).1
        have hc1 := hat j (by omega)
        rw [hju, Go.Deep.add_add] at hc1
        rw [he.sz]
        exact hc1
      obtain ⟨xs, hxl, hx⟩ := list_of len key
      have hz0 := hz ((((List.range len).map D).length + ((List.range (m - len)).map fun j => D (len + j)).length) * P.bytesOf e) (by rw [DataW.weights, ht]; exact List.mem_cons_self)
      rw [hlen] at hz0
      refine ⟨xs, ⟨some a, cap, by rw [hxl], by omega, by rw [hxl], by rw [hxl]; unfold maxLen at hm; omega, fun _ => ⟨a, rfl, fun j p hj => (hx j p hj).2⟩⟩, by rw [hxl]; omega, ?_, fun p hp => ?_⟩
      · rw [hxl]
        exact Nat.le_trans (Nat.mul_le_mul_right _ (Nat.le_add_right _ _)) hz0
      · obtain ⟨j, hj, rfl⟩ := List.mem_iff_getElem.1 hp
        exact (hx j _ (List.getElem?_eq_getElem hj)).1⟩
/-- The fields of a struct from one on, in line from cell 'off' on. -/
structure OpensFrom {α : Type} (P : Program) (fs : List Field) (off : Nat) (d : Kd α) (ok : α → Prop) : Prop where
  get : ∀ {H : Type} (enc : TypeId × Value → H) (w : World) (base : Nat) (spare : Nat → Bool) (held : Bool) (fuel : Nat) (cs : List Value) (ys : List (DataW H × List MemPlace)),
    cs.length = off + d.sz → ys.length = fs.length → (∀ (i : Nat) (f : Field), fs[i]? = some f → DataW.trod enc P w base spare held fuel f.type ((cs.drop f.offset).take (P.cellsOf f.type)) = ys[i]?) →
    (∀ n ∈ DataW.weightsEach P (fs.map (·.type)) (ys.map (·.1)), n ≤ reachBytes) → ∃ a, d.K w a (cs.drop off) ∧ ok a
theorem opens_one {α : Type} {P : Program} {f : Field} {off : Nat} {d : Kd α} {ok : α → Prop} (hf : f.offset = off) (h : Opens P f.type d ok) : OpensFrom P [f] off d ok := by
  refine ⟨?_⟩
  intro H enc w base spare held fuel cs ys hl hy ht hz
  match ys, hy with
  | [y], _ =>
    have h1 := ht 0 f rfl
    rw [hf, ← h.sz, List.take_of_length_le (by simp; omega)] at h1
    exact h.get enc w base spare held fuel _ y h1 (fun n hn => hz n (by simp [DataW.weightsEach, hn]))
theorem opens_cons {α β : Type} {P : Program} {f : Field} {fs : List Field} {off off' : Nat} {d : Kd α} {d' : Kd β} {ok : α → Prop} {ok' : β → Prop} (hf : f.offset = off) (h : Opens P f.type d ok) (ho : off' = off + d.sz) (hr : OpensFrom P fs off' d' ok') :
    OpensFrom P (f :: fs) off (Kd.pair d d') (fun x => ok x.1 ∧ ok' x.2) := by
  refine ⟨?_⟩
  intro H enc w base spare held fuel cs ys hl hy ht hz
  subst ho
  have hsz : (Kd.pair d d').sz = d.sz + d'.sz := rfl
  rw [hsz] at hl
  match ys, hy with
  | y :: yr, hy =>
    have h1 := ht 0 f rfl
    rw [hf, ← h.sz] at h1
    obtain ⟨a, ha, hoa⟩ := h.get enc w base spare held fuel _ y h1 (fun n hn => hz n (by simp [DataW.weightsEach, hn]))
    obtain ⟨b, hb, hob⟩ := hr.get enc w base spare held fuel cs yr (by omega) (by simpa using hy) (fun i g hg => by
      have := ht (i + 1) g (by simpa using hg)
      simpa using this) (fun n hn => hz n (by simp only [List.map_cons, DataW.weightsEach, List.mem_append]; exact .inr hn))
    refine ⟨(a, b), ⟨_, _, ?_, ha, hb⟩, hoa, hob⟩
    rw [← List.drop_drop, List.take_append_drop]
theorem opens_struct {α β : Type} {P : Program} {t : TypeId} {fs : Array Field} {d : Kd α} {ok : α → Prop} (ht : P.underlying t = some (.struct fs)) (f : β → α) (g : α → β) (hfg : ∀ x, f (g x) = x) (hc : P.cellsOf t = d.sz) (h : OpensFrom P fs.toList 0 d ok) :
    Opens P t (Kd.iso d f) (fun y => ok (f y)) :=
  ⟨hc.symm, fun enc w base spare held fuel cs x hx hz => by
    obtain ⟨xs, n, _, rfl, hl, hlen, hg⟩ := DataW.trod_struct ht hx
    obtain ⟨a, ha, hok⟩ := h.get enc w base spare held n cs xs (by rw [hl, hc, Nat.zero_add]) (by simpa using hlen) (fun i q hq => hg i q (by simpa using hq)) (fun m hm => hz m (by rw [DataW.weights, ht]; exact hm))
    refine ⟨g a, ?_, ?_⟩
    · show d.K w (f (g a)) cs
      rw [hfg]
      exact ha
    · show ok (f (g a))
      rw [hfg]
      exact hok⟩
/-- A parameter's reading, as the call's row hands it. -/
theorem arg {H : Type} {enc : TypeId × Value → H} {P : Program} {W : World} {t : TypeId} {v : Value} {dd : DataW H} {p : List MemPlace} {ts : List TypeId} {ds : List (DataW H)} {j : Nat} {α : Type} {d : Kd α} {ok : α → Prop}
    (ho : Opens P t d ok) (hsz : (DataW.weightsEach P ts ds).all (· ≤ reachBytes) = true) (ht : ts[j]? = some t) (hd : ds[j]? = some dd) (h : DataW.Trod enc P W 0 (fun _ => true) true t v dd p) : ∃ a, d.K W a v.cells.toList ∧ ok a := by
  obtain ⟨fuel, hf⟩ := h
  exact ho.get enc W 0 _ true fuel _ _ hf (fun n hn => by
    have := List.all_eq_true.1 hsz n (DataW.weights_mem_each ht hd n hn)
    simpa using this)
end Go.Proofs.Ytagkobpbhfkmdaa.Open
