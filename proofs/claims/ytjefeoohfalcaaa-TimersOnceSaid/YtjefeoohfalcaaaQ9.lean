/- Timers: Len, Next, Has, Stop, Set. -/
import Derived.Test.YtjefeoohfalcaaaQ8
import Derived.WalkSpells
namespace Go.Proofs.Ytjefeoohfalcaaa.C
open Go.RowKit
set_option linter.unusedVariables false
set_option linter.unusedSimpArgs false
/-- Timers: block T, what they hold (in the heap's row), which blocks are theirs. -/
def TM (w : World) (T : Nat) (l : List (Int × Int)) (fp : List Nat) : Prop :=
  (w.heap[T]? = some (.cells #[.slice none 0 0, .map none] 68 (0, 0)) ∧ l = [] ∧ fp = [T]) ∨
  (∃ b c m f, HRep w 68 T b c m l f ∧ HeapN l l.length ∧ fp = [T, b, m])
theorem TM.lt {w : World} {T : Nat} {l : List (Int × Int)} {fp : List Nat} (h : TM w T l fp) : ∀ k ∈ fp, k < w.heap.size := by
  rcases h with ⟨h1, _, rfl⟩ | ⟨b, c, m, f, h1, _, rfl⟩
  · intro k hk
    rw [List.mem_singleton.1 hk]
    exact lt_of_block h1
  · intro k hk
    obtain ⟨es, q, hm, _⟩ := h1.rep.map
    simp only [List.mem_cons, List.not_mem_nil, or_false] at hk
    rcases hk with rfl | rfl | rfl
    · exact lt_of_block h1.rep.box
    · exact h1.rep.row.lt
    · exact lt_of_block hm
theorem TM.mem {w : World} {T : Nat} {l : List (Int × Int)} {fp : List Nat} (h : TM w T l fp) : T ∈ fp := by
  rcases h with ⟨_, _, rfl⟩ | ⟨b, c, m, f, _, _, rfl⟩ <;> simp
theorem TM.keep {w w' : World} {T : Nat} {l : List (Int × Int)} {fp : List Nat} (h : TM w T l fp) (hk : ∀ k ∈ fp, w'.heap[k]? = w.heap[k]?) : TM w' T l fp := by
  rcases h with ⟨h1, h2, rfl⟩ | ⟨b, c, m, f, h1, h2, rfl⟩
  · exact .inl ⟨(hk T (by simp)).trans h1, h2, rfl⟩
  · exact .inr ⟨b, c, m, f, ⟨h1.rep.keep (hk T (by simp)) (hk b (by simp)) (hk m (by simp)), h1.ids, h1.at'⟩, h2, rfl⟩
theorem TM.ids {w : World} {T : Nat} {l : List (Int × Int)} {fp : List Nat} (h : TM w T l fp) : Ids l := by
  rcases h with ⟨_, rfl, _⟩ | ⟨b, c, m, f, h1, _, _⟩
  · exact List.nodup_nil
  · exact h1.ids
/-- The slice in the struct. -/
theorem TM.slice {w : World} {T : Nat} {l : List (Int × Int)} {fp : List Nat} (h : TM w T l fp) : ∃ A c, w.cell? ⟨T, 0, none⟩ = some (.slice A l.length c) ∧ l.length ≤ 9223372036854775807 := by
  rcases h with ⟨h1, rfl, _⟩ | ⟨b, c, m, f, h1, _, _⟩
  · exact ⟨none, 0, cell_at h1 0, by simp⟩
  · exact ⟨_, _, h1.cell, by have := h1.rep.row.max; have := h1.rep.row.cap; unfold maxLen at *; omega⟩
set_option maxHeartbeats 1000000 in
set_option maxRecDepth 100000 in
theorem tlen_calls (T : Nat) (l : List (Int × Int)) (fp : List Nat) (w : World) (h : TM w T l fp) : Calls Try.prog 25 #[.pointer (some ⟨T, 0, none⟩)] w fun e w' => e = .returned (.int .i64 l.length) ∧ w = w' := by
  obtain ⟨A, c, h1, h2⟩ := h.slice
  generalize l.length = n at *
  clear h
  go_enter Try.func25, Try.ntmps25
  go_wp2_with fail
  go_ret
  exact ⟨rfl, rfl⟩
def headOf (l : List (Int × Int)) : Int × Int := l.headD (0, 0)
set_option maxHeartbeats 1000000 in
set_option maxRecDepth 100000 in
theorem tnext_calls (T : Nat) (l : List (Int × Int)) (fp : List Nat) (w : World) (h : TM w T l fp) : Calls Try.prog 33 #[.pointer (some ⟨T, 0, none⟩)] w fun e w' => e = .returned (.tuple #[.agg #[.int .i64 (headOf l).1, .int .i64 (headOf l).2], .bool (!l.isEmpty)]) ∧ Below w.heap.size w w' := by
  rcases h with ⟨h1, rfl, _⟩ | ⟨b, c, m, f, h1, _, _⟩
  · have t0 : w.cell? ⟨T, 0, none⟩ = some (.slice none 0 0) := cell_at h1 0
    have hTl := lt_of_block h1
    have hTn : ¬ T = w.heap.size := by omega
    clear h1
    go_enter Try.func33, Try.ntmps33
    go_wp2_with fail
    exact bodyPost_ret (v := .tuple #[.agg #[.int .i64 0, .int .i64 0], .bool false]) (by simp [results, Try.results33, go_sem]) rfl ⟨rfl, by first | exact ((Below.refl _ _).alloc (Nat.le_refl _) _) | exact (((Below.refl _ _).alloc (Nat.le_refl _) _).setCell (by simp) _).setCell (by simp) _⟩
  · cases l with
    | nil =>
      have t0 : w.cell? ⟨T, 0, none⟩ = some (.slice (some ⟨b, 0, none⟩) 0 c) := h1.cell
      have hTl := lt_of_block h1.rep.box
      have hTn : ¬ T = w.heap.size := by omega
      clear h1
      go_enter Try.func33, Try.ntmps33
      go_wp2_with fail
      exact bodyPost_ret (v := .tuple #[.agg #[.int .i64 0, .int .i64 0], .bool false]) (by simp [results, Try.results33, go_sem]) rfl ⟨rfl, by first | exact ((Below.refl _ _).alloc (Nat.le_refl _) _) | exact (((Below.refl _ _).alloc (Nat.le_refl _) _).setCell (by simp) _).setCell (by simp) _⟩
    | cons x r =>
      have t0 : w.cell? ⟨T, 0, none⟩ = some (.slice (some ⟨b, 0, none⟩) (r.length + 1) c) := h1.cell
      obtain ⟨k1, k2⟩ := h1.rep.row.cells (i := 0) (x := x) rfl
      have hmx := h1.rep.row.max
      have hcp := h1.rep.row.cap
      unfold maxLen at hmx
      simp only [List.length_cons] at hcp
      simp only [Nat.zero_mul, Nat.zero_add] at k1 k2
      generalize r.length = n at *
      have hbl := h1.rep.row.lt
      have hbn : ¬ b = w.heap.size := by omega
      have hTl := lt_of_block h1.rep.box
      have hTn : ¬ T = w.heap.size := by omega
      clear h1
      go_enter Try.func33, Try.ntmps33
      go_wp2_with fail
      exact bodyPost_ret (v := .tuple #[.agg #[.int .i64 x.1, .int .i64 x.2], .bool true]) (by simp [results, Try.results33, go_sem]) rfl ⟨rfl, by first | exact ((Below.refl _ _).alloc (Nat.le_refl _) _) | exact (((Below.refl _ _).alloc (Nat.le_refl _) _).setCell (by simp) _).setCell (by simp) _⟩
end Go.Proofs.Ytjefeoohfalcaaa.C
