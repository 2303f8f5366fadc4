/- The queue of timers: what its blocks hold; Len, Less, Swap. -/
import Derived.Test.YtjefeoohfalcaaaFR
import Derived.Test.YtjefeoohfalcaaaProg
import Derived.BigRegion
import Derived.BigQuiet
import Derived.Outline
import Derived.RegionTactic
import Derived.ChangeAlike
import Derived.Deep.DeepCutAuto
namespace Go.Proofs.Ytjefeoohfalcaaa.C
open Go.RowKit Go.ChangeMaps
set_option linter.unusedVariables false
set_option linter.unusedSimpArgs false
/-- The cells of timers. -/
def tcells (l : List (Int × Int)) : List Value := l.flatMap fun x => [.int .i64 x.1, .int .i64 x.2]
theorem tcells_len (l : List (Int × Int)) : (tcells l).length = l.length * 2 := by
  induction l with
  | nil => rfl
  | cons x r ih => simp only [tcells, List.flatMap_cons, List.length_append, List.length_cons, List.length_nil] at ih ⊢; omega
theorem tcells_at (l : List (Int × Int)) : ∀ (i : Nat) (x : Int × Int), l[i]? = some x → (tcells l)[i * 2]? = some (.int .i64 x.1) ∧ (tcells l)[i * 2 + 1]? = some (.int .i64 x.2) := by
  induction l with
  | nil => intro i x h; simp at h
  | cons y r ih =>
    intro i x h
    cases i with
    | zero => simp at h; subst h; exact ⟨rfl, rfl⟩
    | succ i =>
      have h' : r[i]? = some x := by simpa using h
      have := ih i x h'
      have e1 : (i + 1) * 2 = i * 2 + 1 + 1 := by omega
      rw [e1]
      simp only [tcells, List.flatMap_cons, List.cons_append, List.nil_append, List.getElem?_cons_succ] at this ⊢
      exact this
theorem tcells_append (l r : List (Int × Int)) : tcells (l ++ r) = tcells l ++ tcells r := by simp [tcells]
theorem tcells_take (l : List (Int × Int)) : ∀ n, (tcells l).take (n * 2) = tcells (l.take n) := by
  induction l with
  | nil => intro n; simp [tcells]
  | cons x r ih =>
    intro n
    cases n with
    | zero => simp [tcells]
    | succ n =>
      have := ih n
      have e1 : (n + 1) * 2 = n * 2 + 1 + 1 := by omega
      simp only [tcells, List.flatMap_cons, List.cons_append, List.nil_append, e1, List.take_succ_cons] at this ⊢
      rw [this]
theorem tcells_set (l : List (Int × Int)) : ∀ (i : Nat) (x : Int × Int), ((tcells l).set (i * 2) (.int .i64 x.1)).set (i * 2 + 1) (.int .i64 x.2) = tcells (l.set i x) := by
  induction l with
  | nil => intro i x; simp [tcells]
  | cons y r ih =>
    intro i x
    cases i with
    | zero => simp [tcells]
    | succ i =>
      have := ih i x
      have e1 : (i + 1) * 2 = i * 2 + 1 + 1 := by omega
      simp only [tcells, List.flatMap_cons, List.cons_append, List.nil_append, e1, List.set_cons_succ] at this ⊢
      rw [this]
/-- The row of a queue: block b, of capacity c, holds l at its head. -/
structure Row (w : World) (b c : Nat) (l : List (Int × Int)) : Prop where
  cur : ∃ cs : Array Value, w.heap[b]? = some (.cells cs 57 (0, 0)) ∧ cs.size = c * 2 ∧ cs.toList.take (l.length * 2) = tcells l
  cap : l.length ≤ c
  max : c ≤ maxLen
theorem Row.cells {w : World} {b c : Nat} {l : List (Int × Int)} (h : Row w b c l) {i : Nat} {x : Int × Int} (hx : l[i]? = some x) :
    w.cell? ⟨b, i * 2, none⟩ = some (.int .i64 x.1) ∧ w.cell? ⟨b, i * 2 + 1, none⟩ = some (.int .i64 x.2) := by
  obtain ⟨cs, hb, hs, ht⟩ := h.cur
  have hl := (List.getElem?_eq_some_iff.1 hx).1
  have h2 := tcells_at l i x hx
  rw [← ht, List.getElem?_take_of_lt (by omega), List.getElem?_take_of_lt (by omega)] at h2
  rw [cell_at hb, cell_at hb]
  simpa using h2
theorem Row.free {w : World} {b c : Nat} {l : List (Int × Int)} (h : Row w b c l) (j : Nat) : w.frozen? ⟨b, j, none⟩ = false := by
  obtain ⟨cs, hb, _⟩ := h.cur
  exact free_at hb j
theorem Row.lt {w : World} {b c : Nat} {l : List (Int × Int)} (h : Row w b c l) : b < w.heap.size := by
  obtain ⟨cs, hb, _⟩ := h.cur
  exact lt_of_block hb
theorem Row.keep {w w' : World} {b c : Nat} {l : List (Int × Int)} (h : Row w b c l) (e : w'.heap[b]? = w.heap[b]?) : Row w' b c l := by
  obtain ⟨⟨cs, hb, r⟩, h2, h3⟩ := h
  exact ⟨⟨cs, e.trans hb, r⟩, h2, h3⟩
/-- An element is stored. -/
theorem Row.store {w : World} {b c : Nat} {l : List (Int × Int)} (h : Row w b c l) (i : Nat) (x : Int × Int) (hi : i < l.length) : Row ((w.setCell ⟨b, i * 2, none⟩ (.int .i64 x.1)).setCell ⟨b, i * 2 + 1, none⟩ (.int .i64 x.2)) b c (l.set i x) := by
  obtain ⟨⟨cs, hb, hs, ht⟩, h2, h3⟩ := h
  refine ⟨⟨_, heap_setCell_eq _ (heap_setCell_eq _ hb), ?_, ?_⟩, by simpa using h2, h3⟩
  · simp [hs]
  · rw [List.length_set, ← tcells_set, ← ht]
    simp only [Array.toList_setIfInBounds]
    rw [List.take_set, List.take_set]
end Go.Proofs.Ytjefeoohfalcaaa.C
