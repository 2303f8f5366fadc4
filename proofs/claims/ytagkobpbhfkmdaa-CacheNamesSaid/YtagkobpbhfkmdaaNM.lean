/- CacheNames: the walk. -/
import Derived.Test.YtagkobpbhfkmdaaAW
import Derived.Test.YtagkobpbhfkmdaaNL
import Derived.Test.YtagkobpbhfkmdaaCK
import Derived.Test.YtagkobpbhfkmdaaTO
namespace Go.Proofs.Ytagkobpbhfkmdaa.C
open Go.RowKit Go.ChangeMaps Go.Proofs.Ytagkobpbhfkmdaa.Q Go.Proofs.YtagkobpbhfkmdaaW.PrintLast Go.Proofs.YtagkobpbhfkmdaaW.PrintWords
set_option linter.unusedVariables false
set_option linter.unusedSimpArgs false
def cnL : List (Sd × Int) := [(⟨1, 1, 0, [], [], []⟩, 46),
  (⟨1, 0, 0, [], [], []⟩, 4),
  (⟨1, 2, 0, [], [], []⟩, 4),
  (⟨1, 1, (-1), [], [], []⟩, 4),
  (⟨1, 1, 1099511627777, [], [], []⟩, 4),
  (⟨0, 0, (-1), [], [], []⟩, 4),
  (⟨0, 0, 1099511627777, [], [], []⟩, 4),
  (⟨0, 0, 5, [], [⟨⟨#[97]⟩, ⟨#[]⟩, 1, 6⟩], []⟩, 4),
  (⟨2, 0, 5, [], [⟨⟨#[97]⟩, ⟨#[]⟩, 1, 5⟩], []⟩, 4),
  (⟨2, 0, (-1), [], [], []⟩, 4),
  (⟨2, 0, 5, [⟨#[97]⟩], [⟨⟨#[97]⟩, ⟨#[]⟩, 1, 5⟩], []⟩, 0),
  (⟨1, 1, 9, [], [], []⟩, 46),
  (⟨0, 0, 4, [], [], []⟩, 0),
  (⟨1, 6, 9, [], [], []⟩, 46),
  (⟨1, 1, 9, [], [], [⟨2, false, ⟨#[98]⟩, ⟨#[]⟩⟩, ⟨1, false, ⟨#[99]⟩, ⟨#[]⟩⟩]⟩, 4),
  (⟨1, 2, 9, [], [], [⟨1, false, ⟨#[99]⟩, ⟨#[]⟩⟩]⟩, 4),
  (⟨1, 2, 9, [], [], [⟨10, false, ⟨#[99]⟩, ⟨#[]⟩⟩]⟩, 4),
  (⟨1, 2, 9, [], [], [⟨3, false, ⟨#[]⟩, ⟨#[]⟩⟩]⟩, 4),
  (⟨1, 2, 9, [], [], [⟨3, true, ⟨#[99]⟩, ⟨#[120]⟩⟩]⟩, 4),
  (⟨1, 5, 4, [], [], []⟩, 0)]
def cnSt (k : Nat) : Fcts × Int := (cnL.take k).foldl (fun p s => (tellM p.1 p.2 s.1).1) (fun _ => none, -1)
theorem cn_len : cnL.length = 20 := rfl
theorem cn_step {k : Nat} {s : Sd × Int} (h : cnL[k]? = some s) : cnSt (k + 1) = (tellM (cnSt k).1 (cnSt k).2 s.1).1 := by
  unfold cnSt
  rw [List.take_add_one, h, List.foldl_append]
  rfl
def kBC : ByteArray := ⟨#[98, 32, 99]⟩
theorem cn_ok : ∀ k, k < 20 → (tellM (cnSt k).1 (cnSt k).2 (cnL.getD k (⟨0, 0, 0, [], [], []⟩, 0)).1).2 = (cnL.getD k (⟨0, 0, 0, [], [], []⟩, 0)).2 ∧ -1 ≤ (cnSt k).2 ∧ (cnSt k).2 ≤ 1099511627776 := by decide +kernel
theorem cn_few : ∀ k, k < 20 → (cnL.getD k (⟨0, 0, 0, [], [], []⟩, 0)).1.f3.length ≤ 300 ∧ (cnL.getD k (⟨0, 0, 0, [], [], []⟩, 0)).1.f4.length ≤ 300 ∧ (cnL.getD k (⟨0, 0, 0, [], [], []⟩, 0)).1.f5.length ≤ 300 ∧ (∀ x ∈ (cnL.getD k (⟨0, 0, 0, [], [], []⟩, 0)).1.f4, x.f0.size ≤ 100) ∧ (∀ x ∈ (cnL.getD k (⟨0, 0, 0, [], [], []⟩, 0)).1.f5, x.f2.size ≤ 100) := by decide +kernel
theorem cn_get : getM (cnSt 20).1 kA = (⟨⟨#[97]⟩, ⟨#[]⟩, 1, 5⟩, true) ∧ (cnSt 20).2 = 4 ∧ asofM (cnSt 20).1 (cnSt 20).2 kA = 5 ∧ asofM (cnSt 20).1 (cnSt 20).2 kB = 4 := by decide +kernel
theorem cn_k1 : (knownM (cnSt 20).1 (cnSt 20).2 kA kBC).2 = false := by decide +kernel
theorem cn_k2 : (knownM (cnSt 20).1 (cnSt 20).2 kA kB).2 = true ∧ (knownM (cnSt 20).1 (cnSt 20).2 kA kB).1.there = false ∧ (knownM (cnSt 20).1 (cnSt 20).2 kA kB).1.mod = 0 ∧ (knownM (cnSt 20).1 (cnSt 20).2 kA kB).1.tmod = 0 := by decide +kernel
theorem cn_k3 : (knownM (fun _ => none) (-1) kA kB).2 = false ∧ (clusterK kA kB).toList.isEmpty = false := by decide +kernel
theorem cn_few2 : ∀ k, k < 20 → Few (cnL.getD k (⟨0, 0, 0, [], [], []⟩, 0)).1 := by
  unfold Few
  decide +kernel
theorem cn_fok : ∀ k, k ≤ 20 → FOK (cnSt k).1 ∧ UOK (cnSt k).2
  | 0, _ => ⟨fun k v h => (by cases h), by show UOK (-1); unfold UOK; omega⟩
  | k + 1, h => by
    obtain ⟨s, hs⟩ : ∃ s, cnL[k]? = some s := ⟨_, List.getElem?_eq_getElem (by rw [cn_len]; omega)⟩
    have h1 := cn_few2 k (by omega)
    rw [List.getD_eq_getElem?_getD, hs] at h1
    rw [cn_step hs]
    obtain ⟨h2, h3⟩ := cn_fok k (by omega)
    exact tell_ok h2 h3 h1
def allocs (w : World) : List Obj → World
  | [] => w
  | o :: r => allocs (w.alloc o) r
theorem allocs_below : ∀ (os : List Obj) (w : World), Below w.heap.size w (allocs w os)
  | [], w => Below.refl _ _
  | o :: r, w => ((Below.refl _ w).alloc (Nat.le_refl _) o).trans ((allocs_below r (w.alloc o)).mono (by simp))
theorem allocs_get : ∀ (os : List Obj) (w : World) (i : Nat) (o : Obj), os[i]? = some o → (allocs w os).heap[w.heap.size + i]? = some o
  | [], w, i, o, h => by simp at h
  | o' :: r, w, 0, o, h => by
    cases h
    exact ((allocs_below r (w.alloc o')).block _ (by simp)).trans (heap_alloc_new w o')
  | o' :: r, w, i + 1, o, h => by
    have := allocs_get r (w.alloc o') i o h
    rw [World.size_alloc] at this
    rw [show w.heap.size + (i + 1) = w.heap.size + 1 + i by omega]
    exact this
def CN (w : World) (g B : Nat) : Prop := ∀ (k : Nat) (s : Sd × Int), cnL[k]? = some s → ∃ (A3 : Option Addr) (c3 : Nat) (A4 : Option Addr) (c4 : Nat) (A5 : Option Addr) (c5 : Nat),
  w.cell? ⟨g, k * 7, none⟩ = some (.int .u8 s.1.f0) ∧ w.cell? ⟨g, k * 7 + 1, none⟩ = some (.int .i64 s.1.f1) ∧ w.cell? ⟨g, k * 7 + 2, none⟩ = some (.int .i64 s.1.f2) ∧ w.cell? ⟨g, k * 7 + 3, none⟩ = some (.slice A3 s.1.f3.length c3) ∧ w.cell? ⟨g, k * 7 + 4, none⟩ = some (.slice A4 s.1.f4.length c4) ∧ w.cell? ⟨g, k * 7 + 5, none⟩ = some (.slice A5 s.1.f5.length c5) ∧ w.cell? ⟨g, k * 7 + 6, none⟩ = some (.int .i64 s.2) ∧
  Kd.string.C w A3 s.1.f3.length s.1.f3 ∧ Kd.C k46 w A4 s.1.f4.length s.1.f4 ∧ Kd.C k75 w A5 s.1.f5.length s.1.f5 ∧ (∀ ad, A3 = some ad → B ≤ ad.block) ∧ (∀ ad, A4 = some ad → B ≤ ad.block) ∧ (∀ ad, A5 = some ad → B ≤ ad.block)
theorem cn_rows {w : World} {B : Nat} (hq0 : w.heap[B]? = some (.cells #[Value.string { data := #[97] }, Value.string { data := #[] }, Value.int IntKind.i64 1, Value.int IntKind.i64 6] 46 (0, 0))) (hq1 : w.heap[B + 1]? = some (.cells #[Value.string { data := #[97] }, Value.string { data := #[] }, Value.int IntKind.i64 1, Value.int IntKind.i64 5] 46 (0, 0))) (hq2 : w.heap[B + 2]? = some (.cells #[Value.string { data := #[97] }] 9 (0, 0))) (hq3 : w.heap[B + 3]? = some (.cells #[Value.string { data := #[97] }, Value.string { data := #[] }, Value.int IntKind.i64 1, Value.int IntKind.i64 5] 46 (0, 0))) (hq4 : w.heap[B + 4]? = some (.cells #[Value.int IntKind.i64 2, Value.bool false, Value.string { data := #[98] }, Value.string { data := #[] }, Value.int IntKind.i64 1, Value.bool false, Value.string { data := #[99] }, Value.string { data := #[] }] 75 (0, 0))) (hq5 : w.heap[B + 5]? = some (.cells #[Value.int IntKind.i64 1, Value.bool false, Value.string { data := #[99] }, Value.string { data := #[] }] 75 (0, 0))) (hq6 : w.heap[B + 6]? = some (.cells #[Value.int IntKind.i64 10, Value.bool false, Value.string { data := #[99] }, Value.string { data := #[] }] 75 (0, 0))) (hq7 : w.heap[B + 7]? = some (.cells #[Value.int IntKind.i64 3, Value.bool false, Value.string { data := #[] }, Value.string { data := #[] }] 75 (0, 0))) (hq8 : w.heap[B + 8]? = some (.cells #[Value.int IntKind.i64 3, Value.bool true, Value.string { data := #[99] }, Value.string { data := #[120] }] 75 (0, 0))) (hG : w.heap[B + 9]? = some (.cells #[Value.int IntKind.u8 1, Value.int IntKind.i64 1, Value.int IntKind.i64 0, Value.slice none 0 0, Value.slice none 0 0, Value.slice none 0 0, Value.int IntKind.i64 46, Value.int IntKind.u8 1, Value.int IntKind.i64 0, Value.int IntKind.i64 0, Value.slice none 0 0, Value.slice none 0 0, Value.slice none 0 0, Value.int IntKind.i64 4, Value.int IntKind.u8 1, Value.int IntKind.i64 2, Value.int IntKind.i64 0, Value.slice none 0 0, Value.slice none 0 0, Value.slice none 0 0, Value.int IntKind.i64 4, Value.int IntKind.u8 1, Value.int IntKind.i64 1, Value.int IntKind.i64 (-1), Value.slice none 0 0, Value.slice none 0 0, Value.slice none 0 0, Value.int IntKind.i64 4, Value.int IntKind.u8 1, Value.int IntKind.i64 1, Value.int IntKind.i64 1099511627777, Value.slice none 0 0, Value.slice none 0 0, Value.slice none 0 0, Value.int IntKind.i64 4, Value.int IntKind.u8 0, Value.int IntKind.i64 0, Value.int IntKind.i64 (-1), Value.slice none 0 0, Value.slice none 0 0, Value.slice none 0 0, Value.int IntKind.i64 4, Value.int IntKind.u8 0, Value.int IntKind.i64 0, Value.int IntKind.i64 1099511627777, Value.slice none 0 0, Value.slice none 0 0, Value.slice none 0 0, Value.int IntKind.i64 4, Value.int IntKind.u8 0, Value.int IntKind.i64 0, Value.int IntKind.i64 5, Value.slice none 0 0, Value.slice (some { block := B, off := 0 }) 1 1, Value.slice none 0 0, Value.int IntKind.i64 4, Value.int IntKind.u8 2, Value.int IntKind.i64 0, Value.int IntKind.i64 5, Value.slice none 0 0, Value.slice (some { block := B + 1, off := 0 }) 1 1, Value.slice none 0 0, Value.int IntKind.i64 4, Value.int IntKind.u8 2, Value.int IntKind.i64 0, Value.int IntKind.i64 (-1), Value.slice none 0 0, Value.slice none 0 0, Value.slice none 0 0, Value.int IntKind.i64 4, Value.int IntKind.u8 2, Value.int IntKind.i64 0, Value.int IntKind.i64 5, Value.slice (some { block := B + 2, off := 0 }) 1 1, Value.slice (some { block := B + 3, off := 0 }) 1 1, Value.slice none 0 0, Value.int IntKind.i64 0, Value.int IntKind.u8 1, Value.int IntKind.i64 1, Value.int IntKind.i64 9, Value.slice none 0 0, Value.slice none 0 0, Value.slice none 0 0, Value.int IntKind.i64 46, Value.int IntKind.u8 0, Value.int IntKind.i64 0, Value.int IntKind.i64 4, Value.slice none 0 0, Value.slice none 0 0, Value.slice none 0 0, Value.int IntKind.i64 0, Value.int IntKind.u8 1, Value.int IntKind.i64 6, Value.int IntKind.i64 9, Value.slice none 0 0, Value.slice none 0 0, Value.slice none 0 0, Value.int IntKind.i64 46, Value.int IntKind.u8 1, Value.int IntKind.i64 1, Value.int IntKind.i64 9, Value.slice none 0 0, Value.slice none 0 0, Value.slice (some { block := B + 4, off := 0 }) 2 2, Value.int IntKind.i64 4, Value.int IntKind.u8 1, Value.int IntKind.i64 2, Value.int IntKind.i64 9, Value.slice none 0 0, Value.slice none 0 0, Value.slice (some { block := B + 5, off := 0 }) 1 1, Value.int IntKind.i64 4, Value.int IntKind.u8 1, Value.int IntKind.i64 2, Value.int IntKind.i64 9, Value.slice none 0 0, Value.slice none 0 0, Value.slice (some { block := B + 6, off := 0 }) 1 1, Value.int IntKind.i64 4, Value.int IntKind.u8 1, Value.int IntKind.i64 2, Value.int IntKind.i64 9, Value.slice none 0 0, Value.slice none 0 0, Value.slice (some { block := B + 7, off := 0 }) 1 1, Value.int IntKind.i64 4, Value.int IntKind.u8 1, Value.int IntKind.i64 2, Value.int IntKind.i64 9, Value.slice none 0 0, Value.slice none 0 0, Value.slice (some { block := B + 8, off := 0 }) 1 1, Value.int IntKind.i64 4, Value.int IntKind.u8 1, Value.int IntKind.i64 5, Value.int IntKind.i64 4, Value.slice none 0 0, Value.slice none 0 0, Value.slice none 0 0, Value.int IntKind.i64 0] 73 (0, 0))) : CN w (B + 9) B := by
  intro k s hs
  rcases k with _ | _ | _ | _ | _ | _ | _ | _ | _ | _ | _ | _ | _ | _ | _ | _ | _ | _ | _ | _ | k
  · obtain rfl : ((⟨1, 1, 0, [], [], []⟩, 46) : Sd × Int) = s := Option.some.inj hs
    exact ⟨none, 0, none, 0, none, 0, cell_at hG 0, cell_at hG 1, cell_at hG 2, cell_at hG 3, cell_at hG 4, cell_at hG 5, cell_at hG 6, Kd.C_nil _ _, Kd.C_nil _ _, Kd.C_nil _ _, fun ad e => (by cases e), fun ad e => (by cases e), fun ad e => (by cases e)⟩
  · obtain rfl : ((⟨1, 0, 0, [], [], []⟩, 4) : Sd × Int) = s := Option.some.inj hs
    exact ⟨none, 0, none, 0, none, 0, cell_at hG 7, cell_at hG 8, cell_at hG 9, cell_at hG 10, cell_at hG 11, cell_at hG 12, cell_at hG 13, Kd.C_nil _ _, Kd.C_nil _ _, Kd.C_nil _ _, fun ad e => (by cases e), fun ad e => (by cases e), fun ad e => (by cases e)⟩
  · obtain rfl : ((⟨1, 2, 0, [], [], []⟩, 4) : Sd × Int) = s := Option.some.inj hs
    exact ⟨none, 0, none, 0, none, 0, cell_at hG 14, cell_at hG 15, cell_at hG 16, cell_at hG 17, cell_at hG 18, cell_at hG 19, cell_at hG 20, Kd.C_nil _ _, Kd.C_nil _ _, Kd.C_nil _ _, fun ad e => (by cases e), fun ad e => (by cases e), fun ad e => (by cases e)⟩
  · obtain rfl : ((⟨1, 1, (-1), [], [], []⟩, 4) : Sd × Int) = s := Option.some.inj hs
    exact ⟨none, 0, none, 0, none, 0, cell_at hG 21, cell_at hG 22, cell_at hG 23, cell_at hG 24, cell_at hG 25, cell_at hG 26, cell_at hG 27, Kd.C_nil _ _, Kd.C_nil _ _, Kd.C_nil _ _, fun ad e => (by cases e), fun ad e => (by cases e), fun ad e => (by cases e)⟩
  · obtain rfl : ((⟨1, 1, 1099511627777, [], [], []⟩, 4) : Sd × Int) = s := Option.some.inj hs
    exact ⟨none, 0, none, 0, none, 0, cell_at hG 28, cell_at hG 29, cell_at hG 30, cell_at hG 31, cell_at hG 32, cell_at hG 33, cell_at hG 34, Kd.C_nil _ _, Kd.C_nil _ _, Kd.C_nil _ _, fun ad e => (by cases e), fun ad e => (by cases e), fun ad e => (by cases e)⟩
  · obtain rfl : ((⟨0, 0, (-1), [], [], []⟩, 4) : Sd × Int) = s := Option.some.inj hs
    exact ⟨none, 0, none, 0, none, 0, cell_at hG 35, cell_at hG 36, cell_at hG 37, cell_at hG 38, cell_at hG 39, cell_at hG 40, cell_at hG 41, Kd.C_nil _ _, Kd.C_nil _ _, Kd.C_nil _ _, fun ad e => (by cases e), fun ad e => (by cases e), fun ad e => (by cases e)⟩
  · obtain rfl : ((⟨0, 0, 1099511627777, [], [], []⟩, 4) : Sd × Int) = s := Option.some.inj hs
    exact ⟨none, 0, none, 0, none, 0, cell_at hG 42, cell_at hG 43, cell_at hG 44, cell_at hG 45, cell_at hG 46, cell_at hG 47, cell_at hG 48, Kd.C_nil _ _, Kd.C_nil _ _, Kd.C_nil _ _, fun ad e => (by cases e), fun ad e => (by cases e), fun ad e => (by cases e)⟩
  · obtain rfl : ((⟨0, 0, 5, [], [⟨⟨#[97]⟩, ⟨#[]⟩, 1, 6⟩], []⟩, 4) : Sd × Int) = s := Option.some.inj hs
    exact ⟨none, 0, some ⟨B, 0, none⟩, 1, none, 0, cell_at hG 49, cell_at hG 50, cell_at hG 51, cell_at hG 52, cell_at hG 53, cell_at hG 54, cell_at hG 55, Kd.C_nil _ _, row_one hq0 (k46_mk _ _) rfl, Kd.C_nil _ _, fun ad e => (by cases e), fun ad e => (by cases e; exact Nat.le_refl _), fun ad e => (by cases e)⟩
  · obtain rfl : ((⟨2, 0, 5, [], [⟨⟨#[97]⟩, ⟨#[]⟩, 1, 5⟩], []⟩, 4) : Sd × Int) = s := Option.some.inj hs
    exact ⟨none, 0, some ⟨B + 1, 0, none⟩, 1, none, 0, cell_at hG 56, cell_at hG 57, cell_at hG 58, cell_at hG 59, cell_at hG 60, cell_at hG 61, cell_at hG 62, Kd.C_nil _ _, row_one hq1 (k46_mk _ _) rfl, Kd.C_nil _ _, fun ad e => (by cases e), fun ad e => (by cases e; exact Nat.le_add_right _ _), fun ad e => (by cases e)⟩
  · obtain rfl : ((⟨2, 0, (-1), [], [], []⟩, 4) : Sd × Int) = s := Option.some.inj hs
    exact ⟨none, 0, none, 0, none, 0, cell_at hG 63, cell_at hG 64, cell_at hG 65, cell_at hG 66, cell_at hG 67, cell_at hG 68, cell_at hG 69, Kd.C_nil _ _, Kd.C_nil _ _, Kd.C_nil _ _, fun ad e => (by cases e), fun ad e => (by cases e), fun ad e => (by cases e)⟩
  · obtain rfl : ((⟨2, 0, 5, [⟨#[97]⟩], [⟨⟨#[97]⟩, ⟨#[]⟩, 1, 5⟩], []⟩, 0) : Sd × Int) = s := Option.some.inj hs
    exact ⟨some ⟨B + 2, 0, none⟩, 1, some ⟨B + 3, 0, none⟩, 1, none, 0, cell_at hG 70, cell_at hG 71, cell_at hG 72, cell_at hG 73, cell_at hG 74, cell_at hG 75, cell_at hG 76, row_one hq2 rfl rfl, row_one hq3 (k46_mk _ _) rfl, Kd.C_nil _ _, fun ad e => (by cases e; exact Nat.le_add_right _ _), fun ad e => (by cases e; exact Nat.le_add_right _ _), fun ad e => (by cases e)⟩
  · obtain rfl : ((⟨1, 1, 9, [], [], []⟩, 46) : Sd × Int) = s := Option.some.inj hs
    exact ⟨none, 0, none, 0, none, 0, cell_at hG 77, cell_at hG 78, cell_at hG 79, cell_at hG 80, cell_at hG 81, cell_at hG 82, cell_at hG 83, Kd.C_nil _ _, Kd.C_nil _ _, Kd.C_nil _ _, fun ad e => (by cases e), fun ad e => (by cases e), fun ad e => (by cases e)⟩
  · obtain rfl : ((⟨0, 0, 4, [], [], []⟩, 0) : Sd × Int) = s := Option.some.inj hs
    exact ⟨none, 0, none, 0, none, 0, cell_at hG 84, cell_at hG 85, cell_at hG 86, cell_at hG 87, cell_at hG 88, cell_at hG 89, cell_at hG 90, Kd.C_nil _ _, Kd.C_nil _ _, Kd.C_nil _ _, fun ad e => (by cases e), fun ad e => (by cases e), fun ad e => (by cases e)⟩
  · obtain rfl : ((⟨1, 6, 9, [], [], []⟩, 46) : Sd × Int) = s := Option.some.inj hs
    exact ⟨none, 0, none, 0, none, 0, cell_at hG 91, cell_at hG 92, cell_at hG 93, cell_at hG 94, cell_at hG 95, cell_at hG 96, cell_at hG 97, Kd.C_nil _ _, Kd.C_nil _ _, Kd.C_nil _ _, fun ad e => (by cases e), fun ad e => (by cases e), fun ad e => (by cases e)⟩
  · obtain rfl : ((⟨1, 1, 9, [], [], [⟨2, false, ⟨#[98]⟩, ⟨#[]⟩⟩, ⟨1, false, ⟨#[99]⟩, ⟨#[]⟩⟩]⟩, 4) : Sd × Int) = s := Option.some.inj hs
    exact ⟨none, 0, none, 0, some ⟨B + 4, 0, none⟩, 2, cell_at hG 98, cell_at hG 99, cell_at hG 100, cell_at hG 101, cell_at hG 102, cell_at hG 103, cell_at hG 104, Kd.C_nil _ _, Kd.C_nil _ _, row_two (cs := [_, _, _, _]) (ds := [_, _, _, _]) hq4 (k75_mk _ _) (k75_mk _ _) rfl rfl, fun ad e => (by cases e), fun ad e => (by cases e), fun ad e => (by cases e; exact Nat.le_add_right _ _)⟩
  · obtain rfl : ((⟨1, 2, 9, [], [], [⟨1, false, ⟨#[99]⟩, ⟨#[]⟩⟩]⟩, 4) : Sd × Int) = s := Option.some.inj hs
    exact ⟨none, 0, none, 0, some ⟨B + 5, 0, none⟩, 1, cell_at hG 105, cell_at hG 106, cell_at hG 107, cell_at hG 108, cell_at hG 109, cell_at hG 110, cell_at hG 111, Kd.C_nil _ _, Kd.C_nil _ _, row_one hq5 (k75_mk _ _) rfl, fun ad e => (by cases e), fun ad e => (by cases e), fun ad e => (by cases e; exact Nat.le_add_right _ _)⟩
  · obtain rfl : ((⟨1, 2, 9, [], [], [⟨10, false, ⟨#[99]⟩, ⟨#[]⟩⟩]⟩, 4) : Sd × Int) = s := Option.some.inj hs
    exact ⟨none, 0, none, 0, some ⟨B + 6, 0, none⟩, 1, cell_at hG 112, cell_at hG 113, cell_at hG 114, cell_at hG 115, cell_at hG 116, cell_at hG 117, cell_at hG 118, Kd.C_nil _ _, Kd.C_nil _ _, row_one hq6 (k75_mk _ _) rfl, fun ad e => (by cases e), fun ad e => (by cases e), fun ad e => (by cases e; exact Nat.le_add_right _ _)⟩
  · obtain rfl : ((⟨1, 2, 9, [], [], [⟨3, false, ⟨#[]⟩, ⟨#[]⟩⟩]⟩, 4) : Sd × Int) = s := Option.some.inj hs
    exact ⟨none, 0, none, 0, some ⟨B + 7, 0, none⟩, 1, cell_at hG 119, cell_at hG 120, cell_at hG 121, cell_at hG 122, cell_at hG 123, cell_at hG 124, cell_at hG 125, Kd.C_nil _ _, Kd.C_nil _ _, row_one hq7 (k75_mk _ _) rfl, fun ad e => (by cases e), fun ad e => (by cases e), fun ad e => (by cases e; exact Nat.le_add_right _ _)⟩
  · obtain rfl : ((⟨1, 2, 9, [], [], [⟨3, true, ⟨#[99]⟩, ⟨#[120]⟩⟩]⟩, 4) : Sd × Int) = s := Option.some.inj hs
    exact ⟨none, 0, none, 0, some ⟨B + 8, 0, none⟩, 1, cell_at hG 126, cell_at hG 127, cell_at hG 128, cell_at hG 129, cell_at hG 130, cell_at hG 131, cell_at hG 132, Kd.C_nil _ _, Kd.C_nil _ _, row_one hq8 (k75_mk _ _) rfl, fun ad e => (by cases e), fun ad e => (by cases e), fun ad e => (by cases e; exact Nat.le_add_right _ _)⟩
  · obtain rfl : ((⟨1, 5, 4, [], [], []⟩, 0) : Sd × Int) = s := Option.some.inj hs
    exact ⟨none, 0, none, 0, none, 0, cell_at hG 133, cell_at hG 134, cell_at hG 135, cell_at hG 136, cell_at hG 137, cell_at hG 138, cell_at hG 139, Kd.C_nil _ _, Kd.C_nil _ _, Kd.C_nil _ _, fun ad e => (by cases e), fun ad e => (by cases e), fun ad e => (by cases e)⟩
  · simp [cnL] at hs
theorem wp_world {P : Program} {c : Code} {Q : Exit → Act → World → Prop} {a : Act} {w : World} (h : ∀ W, W = w → c.wp P Q a W) : c.wp P Q a w := h w rfl
theorem cell_same {w w' : World} {b : Nat} (h : w'.heap[b]? = w.heap[b]?) (i : Nat) : w'.cell? ⟨b, i, none⟩ = w.cell? ⟨b, i, none⟩ := by
  unfold World.cell?
  rw [h]
def nm7T : Bool × List (List Nat × List Nat) := (true, [([], []), ([], []), ([1], [1]), ([0, 2], [0, 2]), ([], []), ([4], [4]), ([3, 5], [3, 5])])
def nm7B : List Nat := [0, 0, 2, 7, 0, 16, 63]
theorem nm7_tab : rtab .any (opsOf Try.f7 7) = nm7T := by kernel_rfl
theorem nm7_bits : waitsOk nm7T.2 nm7B = true := by kernel_rfl
set_option maxHeartbeats 8000000 in
set_option maxRecDepth 100000 in
theorem cacheNames_calls (w : World) : Calls Try.prog 7 #[] w fun e w' => e = .returned (.bool true) ∧ Below w.heap.size w w' := by
  go_enter Try.func7, Try.ntmps7
  go_wp2_with fail
  refine (awake_calls w).mono ?_
  rintro e w1 ⟨rfl, hb1⟩
  have HB1 := Aside.mk hb1
  clear hb1
  go_wp2_with fail
  refine (cnew_calls w1).mono ?_
  rintro e w3 ⟨C, M, rfl, hc3, hC, hM, hb3⟩
  have H3 : Aside (CA w3 C M (fun _ => none) (-1) ∧ w.heap.size ≤ C ∧ w.heap.size ≤ M ∧ Below w.heap.size w w3 ∧ w.heap.size ≤ w3.heap.size) := ⟨hc3, Nat.le_trans HB1.out.size hC, Nat.le_trans HB1.out.size hM, HB1.out.trans (hb3.mono HB1.out.size), Nat.le_trans HB1.out.size hb3.size⟩
  clear hc3 hb3 HB1 hC hM
  go_wp2_with fail
  refine wp_world (fun w4 hw4 => ?_)
  obtain ⟨B, hB⟩ : ∃ B, w3.heap.size = B := ⟨_, rfl⟩
  rw [hB] at hw4 ⊢
  obtain ⟨g, hg⟩ : ∃ g, B + 1 + 1 + 1 + 1 + 1 + 1 + 1 + 1 + 1 = g := ⟨_, rfl⟩
  rw [hg]
  have HA : w4 = allocs w3 [Obj.cells #[Value.string { data := #[97] }, Value.string { data := #[] }, Value.int IntKind.i64 1, Value.int IntKind.i64 6] 46, Obj.cells #[Value.string { data := #[97] }, Value.string { data := #[] }, Value.int IntKind.i64 1, Value.int IntKind.i64 5] 46, Obj.cells #[Value.string { data := #[97] }] 9, Obj.cells #[Value.string { data := #[97] }, Value.string { data := #[] }, Value.int IntKind.i64 1, Value.int IntKind.i64 5] 46, Obj.cells #[Value.int IntKind.i64 2, Value.bool false, Value.string { data := #[98] }, Value.string { data := #[] }, Value.int IntKind.i64 1, Value.bool false, Value.string { data := #[99] }, Value.string { data := #[] }] 75, Obj.cells #[Value.int IntKind.i64 1, Value.bool false, Value.string { data := #[99] }, Value.string { data := #[] }] 75, Obj.cells #[Value.int IntKind.i64 10, Value.bool false, Value.string { data := #[99] }, Value.string { data := #[] }] 75, Obj.cells #[Value.int IntKind.i64 3, Value.bool false, Value.string { data := #[] }, Value.string { data := #[] }] 75, Obj.cells #[Value.int IntKind.i64 3, Value.bool true, Value.string { data := #[99] }, Value.string { data := #[120] }] 75, Obj.cells #[Value.int IntKind.u8 1, Value.int IntKind.i64 1, Value.int IntKind.i64 0, Value.slice none 0 0, Value.slice none 0 0, Value.slice none 0 0, Value.int IntKind.i64 46, Value.int IntKind.u8 1, Value.int IntKind.i64 0, Value.int IntKind.i64 0, Value.slice none 0 0, Value.slice none 0 0, Value.slice none 0 0, Value.int IntKind.i64 4, Value.int IntKind.u8 1, Value.int IntKind.i64 2, Value.int IntKind.i64 0, Value.slice none 0 0, Value.slice none 0 0, Value.slice none 0 0, Value.int IntKind.i64 4, Value.int IntKind.u8 1, Value.int IntKind.i64 1, Value.int IntKind.i64 (-1), Value.slice none 0 0, Value.slice none 0 0, Value.slice none 0 0, Value.int IntKind.i64 4, Value.int IntKind.u8 1, Value.int IntKind.i64 1, Value.int IntKind.i64 1099511627777, Value.slice none 0 0, Value.slice none 0 0, Value.slice none 0 0, Value.int IntKind.i64 4, Value.int IntKind.u8 0, Value.int IntKind.i64 0, Value.int IntKind.i64 (-1), Value.slice none 0 0, Value.slice none 0 0, Value.slice none 0 0, Value.int IntKind.i64 4, Value.int IntKind.u8 0, Value.int IntKind.i64 0, Value.int IntKind.i64 1099511627777, Value.slice none 0 0, Value.slice none 0 0, Value.slice none 0 0, Value.int IntKind.i64 4, Value.int IntKind.u8 0, Value.int IntKind.i64 0, Value.int IntKind.i64 5, Value.slice none 0 0, Value.slice (some { block := B, off := 0 }) 1 1, Value.slice none 0 0, Value.int IntKind.i64 4, Value.int IntKind.u8 2, Value.int IntKind.i64 0, Value.int IntKind.i64 5, Value.slice none 0 0, Value.slice (some { block := B + 1, off := 0 }) 1 1, Value.slice none 0 0, Value.int IntKind.i64 4, Value.int IntKind.u8 2, Value.int IntKind.i64 0, Value.int IntKind.i64 (-1), Value.slice none 0 0, Value.slice none 0 0, Value.slice none 0 0, Value.int IntKind.i64 4, Value.int IntKind.u8 2, Value.int IntKind.i64 0, Value.int IntKind.i64 5, Value.slice (some { block := B + 2, off := 0 }) 1 1, Value.slice (some { block := B + 3, off := 0 }) 1 1, Value.slice none 0 0, Value.int IntKind.i64 0, Value.int IntKind.u8 1, Value.int IntKind.i64 1, Value.int IntKind.i64 9, Value.slice none 0 0, Value.slice none 0 0, Value.slice none 0 0, Value.int IntKind.i64 46, Value.int IntKind.u8 0, Value.int IntKind.i64 0, Value.int IntKind.i64 4, Value.slice none 0 0, Value.slice none 0 0, Value.slice none 0 0, Value.int IntKind.i64 0, Value.int IntKind.u8 1, Value.int IntKind.i64 6, Value.int IntKind.i64 9, Value.slice none 0 0, Value.slice none 0 0, Value.slice none 0 0, Value.int IntKind.i64 46, Value.int IntKind.u8 1, Value.int IntKind.i64 1, Value.int IntKind.i64 9, Value.slice none 0 0, Value.slice none 0 0, Value.slice (some { block := B + 4, off := 0 }) 2 2, Value.int IntKind.i64 4, Value.int IntKind.u8 1, Value.int IntKind.i64 2, Value.int IntKind.i64 9, Value.slice none 0 0, Value.slice none 0 0, Value.slice (some { block := B + 5, off := 0 }) 1 1, Value.int IntKind.i64 4, Value.int IntKind.u8 1, Value.int IntKind.i64 2, Value.int IntKind.i64 9, Value.slice none 0 0, Value.slice none 0 0, Value.slice (some { block := B + 6, off := 0 }) 1 1, Value.int IntKind.i64 4, Value.int IntKind.u8 1, Value.int IntKind.i64 2, Value.int IntKind.i64 9, Value.slice none 0 0, Value.slice none 0 0, Value.slice (some { block := B + 7, off := 0 }) 1 1, Value.int IntKind.i64 4, Value.int IntKind.u8 1, Value.int IntKind.i64 2, Value.int IntKind.i64 9, Value.slice none 0 0, Value.slice none 0 0, Value.slice (some { block := B + 8, off := 0 }) 1 1, Value.int IntKind.i64 4, Value.int IntKind.u8 1, Value.int IntKind.i64 5, Value.int IntKind.i64 4, Value.slice none 0 0, Value.slice none 0 0, Value.slice none 0 0, Value.int IntKind.i64 0] 73] := hw4
  have hG : w4.heap[g]? = some (Obj.cells #[Value.int IntKind.u8 1, Value.int IntKind.i64 1, Value.int IntKind.i64 0, Value.slice none 0 0, Value.slice none 0 0, Value.slice none 0 0, Value.int IntKind.i64 46, Value.int IntKind.u8 1, Value.int IntKind.i64 0, Value.int IntKind.i64 0, Value.slice none 0 0, Value.slice none 0 0, Value.slice none 0 0, Value.int IntKind.i64 4, Value.int IntKind.u8 1, Value.int IntKind.i64 2, Value.int IntKind.i64 0, Value.slice none 0 0, Value.slice none 0 0, Value.slice none 0 0, Value.int IntKind.i64 4, Value.int IntKind.u8 1, Value.int IntKind.i64 1, Value.int IntKind.i64 (-1), Value.slice none 0 0, Value.slice none 0 0, Value.slice none 0 0, Value.int IntKind.i64 4, Value.int IntKind.u8 1, Value.int IntKind.i64 1, Value.int IntKind.i64 1099511627777, Value.slice none 0 0, Value.slice none 0 0, Value.slice none 0 0, Value.int IntKind.i64 4, Value.int IntKind.u8 0, Value.int IntKind.i64 0, Value.int IntKind.i64 (-1), Value.slice none 0 0, Value.slice none 0 0, Value.slice none 0 0, Value.int IntKind.i64 4, Value.int IntKind.u8 0, Value.int IntKind.i64 0, Value.int IntKind.i64 1099511627777, Value.slice none 0 0, Value.slice none 0 0, Value.slice none 0 0, Value.int IntKind.i64 4, Value.int IntKind.u8 0, Value.int IntKind.i64 0, Value.int IntKind.i64 5, Value.slice none 0 0, Value.slice (some { block := B, off := 0 }) 1 1, Value.slice none 0 0, Value.int IntKind.i64 4, Value.int IntKind.u8 2, Value.int IntKind.i64 0, Value.int IntKind.i64 5, Value.slice none 0 0, Value.slice (some { block := B + 1, off := 0 }) 1 1, Value.slice none 0 0, Value.int IntKind.i64 4, Value.int IntKind.u8 2, Value.int IntKind.i64 0, Value.int IntKind.i64 (-1), Value.slice none 0 0, Value.slice none 0 0, Value.slice none 0 0, Value.int IntKind.i64 4, Value.int IntKind.u8 2, Value.int IntKind.i64 0, Value.int IntKind.i64 5, Value.slice (some { block := B + 2, off := 0 }) 1 1, Value.slice (some { block := B + 3, off := 0 }) 1 1, Value.slice none 0 0, Value.int IntKind.i64 0, Value.int IntKind.u8 1, Value.int IntKind.i64 1, Value.int IntKind.i64 9, Value.slice none 0 0, Value.slice none 0 0, Value.slice none 0 0, Value.int IntKind.i64 46, Value.int IntKind.u8 0, Value.int IntKind.i64 0, Value.int IntKind.i64 4, Value.slice none 0 0, Value.slice none 0 0, Value.slice none 0 0, Value.int IntKind.i64 0, Value.int IntKind.u8 1, Value.int IntKind.i64 6, Value.int IntKind.i64 9, Value.slice none 0 0, Value.slice none 0 0, Value.slice none 0 0, Value.int IntKind.i64 46, Value.int IntKind.u8 1, Value.int IntKind.i64 1, Value.int IntKind.i64 9, Value.slice none 0 0, Value.slice none 0 0, Value.slice (some { block := B + 4, off := 0 }) 2 2, Value.int IntKind.i64 4, Value.int IntKind.u8 1, Value.int IntKind.i64 2, Value.int IntKind.i64 9, Value.slice none 0 0, Value.slice none 0 0, Value.slice (some { block := B + 5, off := 0 }) 1 1, Value.int IntKind.i64 4, Value.int IntKind.u8 1, Value.int IntKind.i64 2, Value.int IntKind.i64 9, Value.slice none 0 0, Value.slice none 0 0, Value.slice (some { block := B + 6, off := 0 }) 1 1, Value.int IntKind.i64 4, Value.int IntKind.u8 1, Value.int IntKind.i64 2, Value.int IntKind.i64 9, Value.slice none 0 0, Value.slice none 0 0, Value.slice (some { block := B + 7, off := 0 }) 1 1, Value.int IntKind.i64 4, Value.int IntKind.u8 1, Value.int IntKind.i64 2, Value.int IntKind.i64 9, Value.slice none 0 0, Value.slice none 0 0, Value.slice (some { block := B + 8, off := 0 }) 1 1, Value.int IntKind.i64 4, Value.int IntKind.u8 1, Value.int IntKind.i64 5, Value.int IntKind.i64 4, Value.slice none 0 0, Value.slice none 0 0, Value.slice none 0 0, Value.int IntKind.i64 0] 73) := by
    rw [HA, ← hg, ← hB]
    exact allocs_get _ w3 9 _ rfl
  have HCN : Aside (CN w4 g B) := ⟨by
    rw [← hg]
    rw [← hB]
    have hq0 : w4.heap[w3.heap.size]? = some (Obj.cells #[Value.string { data := #[97] }, Value.string { data := #[] }, Value.int IntKind.i64 1, Value.int IntKind.i64 6] 46) := by
      rw [HA]
      exact allocs_get _ w3 0 _ rfl
    have hq1 : w4.heap[w3.heap.size + 1]? = some (Obj.cells #[Value.string { data := #[97] }, Value.string { data := #[] }, Value.int IntKind.i64 1, Value.int IntKind.i64 5] 46) := by
      rw [HA]
      exact allocs_get _ w3 1 _ rfl
    have hq2 : w4.heap[w3.heap.size + 2]? = some (Obj.cells #[Value.string { data := #[97] }] 9) := by
      rw [HA]
      exact allocs_get _ w3 2 _ rfl
    have hq3 : w4.heap[w3.heap.size + 3]? = some (Obj.cells #[Value.string { data := #[97] }, Value.string { data := #[] }, Value.int IntKind.i64 1, Value.int IntKind.i64 5] 46) := by
      rw [HA]
      exact allocs_get _ w3 3 _ rfl
    have hq4 : w4.heap[w3.heap.size + 4]? = some (Obj.cells #[Value.int IntKind.i64 2, Value.bool false, Value.string { data := #[98] }, Value.string { data := #[] }, Value.int IntKind.i64 1, Value.bool false, Value.string { data := #[99] }, Value.string { data := #[] }] 75) := by
      rw [HA]
      exact allocs_get _ w3 4 _ rfl
    have hq5 : w4.heap[w3.heap.size + 5]? = some (Obj.cells #[Value.int IntKind.i64 1, Value.bool false, Value.string { data := #[99] }, Value.string { data := #[] }] 75) := by
      rw [HA]
      exact allocs_get _ w3 5 _ rfl
    have hq6 : w4.heap[w3.heap.size + 6]? = some (Obj.cells #[Value.int IntKind.i64 10, Value.bool false, Value.string { data := #[99] }, Value.string { data := #[] }] 75) := by
      rw [HA]
      exact allocs_get _ w3 6 _ rfl
    have hq7 : w4.heap[w3.heap.size + 7]? = some (Obj.cells #[Value.int IntKind.i64 3, Value.bool false, Value.string { data := #[] }, Value.string { data := #[] }] 75) := by
      rw [HA]
      exact allocs_get _ w3 7 _ rfl
    have hq8 : w4.heap[w3.heap.size + 8]? = some (Obj.cells #[Value.int IntKind.i64 3, Value.bool true, Value.string { data := #[99] }, Value.string { data := #[120] }] 75) := by
      rw [HA]
      exact allocs_get _ w3 8 _ rfl
    have hG2 : w4.heap[w3.heap.size + 9]? = some (Obj.cells #[Value.int IntKind.u8 1, Value.int IntKind.i64 1, Value.int IntKind.i64 0, Value.slice none 0 0, Value.slice none 0 0, Value.slice none 0 0, Value.int IntKind.i64 46, Value.int IntKind.u8 1, Value.int IntKind.i64 0, Value.int IntKind.i64 0, Value.slice none 0 0, Value.slice none 0 0, Value.slice none 0 0, Value.int IntKind.i64 4, Value.int IntKind.u8 1, Value.int IntKind.i64 2, Value.int IntKind.i64 0, Value.slice none 0 0, Value.slice none 0 0, Value.slice none 0 0, Value.int IntKind.i64 4, Value.int IntKind.u8 1, Value.int IntKind.i64 1, Value.int IntKind.i64 (-1), Value.slice none 0 0, Value.slice none 0 0, Value.slice none 0 0, Value.int IntKind.i64 4, Value.int IntKind.u8 1, Value.int IntKind.i64 1, Value.int IntKind.i64 1099511627777, Value.slice none 0 0, Value.slice none 0 0, Value.slice none 0 0, Value.int IntKind.i64 4, Value.int IntKind.u8 0, Value.int IntKind.i64 0, Value.int IntKind.i64 (-1), Value.slice none 0 0, Value.slice none 0 0, Value.slice none 0 0, Value.int IntKind.i64 4, Value.int IntKind.u8 0, Value.int IntKind.i64 0, Value.int IntKind.i64 1099511627777, Value.slice none 0 0, Value.slice none 0 0, Value.slice none 0 0, Value.int IntKind.i64 4, Value.int IntKind.u8 0, Value.int IntKind.i64 0, Value.int IntKind.i64 5, Value.slice none 0 0, Value.slice (some { block := w3.heap.size, off := 0 }) 1 1, Value.slice none 0 0, Value.int IntKind.i64 4, Value.int IntKind.u8 2, Value.int IntKind.i64 0, Value.int IntKind.i64 5, Value.slice none 0 0, Value.slice (some { block := w3.heap.size + 1, off := 0 }) 1 1, Value.slice none 0 0, Value.int IntKind.i64 4, Value.int IntKind.u8 2, Value.int IntKind.i64 0, Value.int IntKind.i64 (-1), Value.slice none 0 0, Value.slice none 0 0, Value.slice none 0 0, Value.int IntKind.i64 4, Value.int IntKind.u8 2, Value.int IntKind.i64 0, Value.int IntKind.i64 5, Value.slice (some { block := w3.heap.size + 2, off := 0 }) 1 1, Value.slice (some { block := w3.heap.size + 3, off := 0 }) 1 1, Value.slice none 0 0, Value.int IntKind.i64 0, Value.int IntKind.u8 1, Value.int IntKind.i64 1, Value.int IntKind.i64 9, Value.slice none 0 0, Value.slice none 0 0, Value.slice none 0 0, Value.int IntKind.i64 46, Value.int IntKind.u8 0, Value.int IntKind.i64 0, Value.int IntKind.i64 4, Value.slice none 0 0, Value.slice none 0 0, Value.slice none 0 0, Value.int IntKind.i64 0, Value.int IntKind.u8 1, Value.int IntKind.i64 6, Value.int IntKind.i64 9, Value.slice none 0 0, Value.slice none 0 0, Value.slice none 0 0, Value.int IntKind.i64 46, Value.int IntKind.u8 1, Value.int IntKind.i64 1, Value.int IntKind.i64 9, Value.slice none 0 0, Value.slice none 0 0, Value.slice (some { block := w3.heap.size + 4, off := 0 }) 2 2, Value.int IntKind.i64 4, Value.int IntKind.u8 1, Value.int IntKind.i64 2, Value.int IntKind.i64 9, Value.slice none 0 0, Value.slice none 0 0, Value.slice (some { block := w3.heap.size + 5, off := 0 }) 1 1, Value.int IntKind.i64 4, Value.int IntKind.u8 1, Value.int IntKind.i64 2, Value.int IntKind.i64 9, Value.slice none 0 0, Value.slice none 0 0, Value.slice (some { block := w3.heap.size + 6, off := 0 }) 1 1, Value.int IntKind.i64 4, Value.int IntKind.u8 1, Value.int IntKind.i64 2, Value.int IntKind.i64 9, Value.slice none 0 0, Value.slice none 0 0, Value.slice (some { block := w3.heap.size + 7, off := 0 }) 1 1, Value.int IntKind.i64 4, Value.int IntKind.u8 1, Value.int IntKind.i64 2, Value.int IntKind.i64 9, Value.slice none 0 0, Value.slice none 0 0, Value.slice (some { block := w3.heap.size + 8, off := 0 }) 1 1, Value.int IntKind.i64 4, Value.int IntKind.u8 1, Value.int IntKind.i64 5, Value.int IntKind.i64 4, Value.slice none 0 0, Value.slice none 0 0, Value.slice none 0 0, Value.int IntKind.i64 0] 73) := by
      rw [HA, ← hB]
      exact allocs_get _ w3 9 _ rfl
    exact cn_rows hq0 hq1 hq2 hq3 hq4 hq5 hq6 hq7 hq8 hG2⟩
  have HCA : Aside (OC w.heap.size w w4 C M (fun _ => none) (-1) ∧ C < B ∧ M < B ∧ B ≤ w4.heap.size ∧ g < w4.heap.size ∧ B ≤ g) := ⟨by
    obtain ⟨h1, h2, h3, h4, h5⟩ := H3.out
    have hbb : Below w3.heap.size w3 w4 := by rw [HA]; exact allocs_below _ _
    have h6 := h1.ltC
    have h7 := h1.ltM
    have h8 := hbb.size
    have h9 := lt_of_block hG
    exact ⟨⟨h1.below hbb, h2, h3, h4.trans (hbb.mono h5), by omega⟩, by omega, by omega, by omega, h9, by omega⟩⟩
  clear H3 HA hw4 hG
  go_loopw [80] (fun v80 wr => ∃ k : Nat, k ≤ 20 ∧ v80 = .int .i64 k ∧ Aside (CA wr C M (cnSt k).1 (cnSt k).2 ∧ Fr (fun k => k = C ∨ k = M) w4 wr)) (fun v80 _ => 20 - (intOf v80).toNat)
  case atStart => exact ⟨0, by omega, rfl, ⟨HCA.out.1.ca, Fr.refl _ _⟩⟩
  case round =>
    obtain ⟨k, hk, rfl, HI⟩ := hrel
    by_cases hkn : k < 20
    · obtain ⟨s, hs⟩ : ∃ s, cnL[k]? = some s := ⟨_, List.getElem?_eq_getElem (by rw [cn_len]; omega)⟩
      have hok := cn_ok k hkn
      have hfw := cn_few k hkn
      rw [List.getD_eq_getElem?_getD, hs] at hok hfw
      simp only [Option.getD_some] at hok hfw
      have hst := cn_step hs
      obtain ⟨A3, c3, A4, c4, A5, c5, p0, p1, p2, p3, p4, p5, p6, g3, g4, g5, o3, o4, o5⟩ := HCN.out k s hs
      obtain ⟨hoc, hCB, hMB, hB4, hgl, hBg⟩ := HCA.out
      have hgs : wr.heap[g]? = w4.heap[g]? := HI.out.2.block g hgl (by omega)
      rw [← cell_same hgs] at p0 p1 p2 p3 p4 p5 p6
      have hne : ∀ (A : Option Addr), (∀ ad, A = some ad → B ≤ ad.block) → ∀ ad, A = some ad → ¬ (ad.block = C ∨ ad.block = M) := fun A h ad e => by have := h ad e; omega
      obtain ⟨⟨s0, s1, s2, s3, s4, s5⟩, er⟩ := s
      dsimp only at p0 p1 p2 p3 p4 p5 p6 g3 g4 g5 hok hfw
      have hE := heap_alloc_new wr (Obj.cells #[.int .u8 s0, .int .i64 s1, .int .i64 s2, .slice A3 s3.length c3, .slice A4 s4.length c4, .slice A5 s5.length c5, .int .i64 er] 73 (0, 0))
      have hCw := HI.out.1.below ((Below.refl wr.heap.size wr).alloc (Nat.le_refl _) (Obj.cells #[.int .u8 s0, .int .i64 s1, .int .i64 s2, .slice A3 s3.length c3, .slice A4 s4.length c4, .slice A5 s5.length c5, .int .i64 er] 73 (0, 0)))
      have hFw := HI.out.2.alloc (Obj.cells #[.int .u8 s0, .int .i64 s1, .int .i64 s2, .slice A3 s3.length c3, .slice A4 s4.length c4, .slice A5 s5.length c5, .int .i64 er] 73 (0, 0))
      obtain ⟨b3, hb3⟩ : ∃ b, wr.heap.size = b := ⟨_, rfl⟩
      have hlC := HI.out.1.ltC
      have hlM := HI.out.1.ltM
      rw [hb3] at hE hlC hlM
      obtain ⟨T, hT⟩ : ∃ T, tellM (cnSt k).1 (cnSt k).2 ⟨s0, s1, s2, s3, s4, s5⟩ = T := ⟨_, rfl⟩
      have HST : Aside (cnSt (k + 1) = T.1) := ⟨by rw [hst, ← hT]⟩
      have hTe : T.2 = er := by rw [← hT]; exact hok.1
      have HX := Aside.mk (And.intro g3 (And.intro g4 (And.intro g5 (And.intro (hne A3 o3) (And.intro (hne A4 o4) (And.intro (hne A5 o5) (And.intro hfw (And.intro hok.2 (And.intro hT hTe)))))))))
      clear hok hfw hst g3 g4 g5 o3 o4 o5 hoc hCB hMB hB4 hgl hBg hgs hne hs hT hTe
      go_upto_region 7 with fail
      generalize (wr.alloc (Obj.cells #[.int .u8 s0, .int .i64 s1, .int .i64 s2, .slice A3 s3.length c3, .slice A4 s4.length c4, .slice A5 s5.length c5, .int .i64 er] 73 (0, 0))) = wb at *
      have HFB : Aside (Fr (fun k => k = C ∨ k = M) w4 wb.drew) := ⟨hFw.drew⟩
      have HB3 : Aside (wb.drew.heap[b3]? = some (Obj.cells #[.int .u8 s0, .int .i64 s1, .int .i64 s2, .slice A3 s3.length c3, .slice A4 s4.length c4, .slice A5 s5.length c5, .int .i64 er] 73 (0, 0)) ∧ b3 ≠ C ∧ b3 ≠ M) := ⟨hE, by omega, by omega⟩
      have HT : Aside (Calls Try.prog 11 #[.pointer (some ⟨C, 0, none⟩), .agg #[.int .u8 s0, .int .i64 s1, .int .i64 s2, .slice A3 s3.length c3, .slice A4 s4.length c4, .slice A5 s5.length c5]] wb.drew fun e w' => e = .returned (.int .i64 er) ∧ CA w' C M T.1.1 T.1.2 ∧ Fr (fun k => k = C ∨ k = M) wb.drew w') := ⟨by
        obtain ⟨g3, g4, g5, o3, o4, o5, hfw, hok, hT, hTe⟩ := HX.out
        have := tell_calls C M (cnSt k).1 (cnSt k).2 ⟨s0, s1, s2, s3, s4, s5⟩ A3 A4 A5 c3 c4 c5 wb.drew (hCw.keep rfl rfl) (row_fr (F := fun k => k = C ∨ k = M) (fun h => h) g3 HFB.out o3) (row_fr (F := fun k => k = C ∨ k = M) (fun h => h) g4 HFB.out o4) (row_fr (F := fun k => k = C ∨ k = M) (fun h => h) g5 HFB.out o5) hfw.1 hfw.2.1 hfw.2.2.1 (fun x hx => by have := hfw.2.2.2.1 x hx; omega) (fun x hx => by have := hfw.2.2.2.2 x hx; omega) hok
        rw [hT] at this
        rw [← hTe]
        exact this⟩
      have t0 : wb.drew.cell? ⟨b3, 0, none⟩ = some (.int .u8 s0) ∧ wb.drew.cell? ⟨b3, 1, none⟩ = some (.int .i64 s1) ∧ wb.drew.cell? ⟨b3, 2, none⟩ = some (.int .i64 s2) ∧ wb.drew.cell? ⟨b3, 3, none⟩ = some (.slice A3 s3.length c3) ∧ wb.drew.cell? ⟨b3, 4, none⟩ = some (.slice A4 s4.length c4) ∧ wb.drew.cell? ⟨b3, 5, none⟩ = some (.slice A5 s5.length c5) ∧ wb.drew.cell? ⟨b3, 6, none⟩ = some (.int .i64 er) := ⟨cell_at HB3.out.1 0, cell_at HB3.out.1 1, cell_at HB3.out.1 2, cell_at HB3.out.1 3, cell_at HB3.out.1 4, cell_at HB3.out.1 5, cell_at HB3.out.1 6⟩
      clear hE hCw hFw HX hlC hlM p0 p1 p2 p3 p4 p5 p6 hb3
      refine start_ (n := 7) (S := (fun w' => w'.cell? ⟨b3, 0, none⟩ = some (.int .u8 s0) ∧ w'.cell? ⟨b3, 1, none⟩ = some (.int .i64 s1) ∧ w'.cell? ⟨b3, 2, none⟩ = some (.int .i64 s2) ∧ w'.cell? ⟨b3, 3, none⟩ = some (.slice A3 s3.length c3) ∧ w'.cell? ⟨b3, 4, none⟩ = some (.slice A4 s4.length c4) ∧ w'.cell? ⟨b3, 5, none⟩ = some (.slice A5 s5.length c5) ∧ w'.cell? ⟨b3, 6, none⟩ = some (.int .i64 er))) (ds := []) #[false, false, false, false, false, false, false] (by kernel_rfl) rfl rfl t0 (fun hHeld => ?_); refine with_tabW nm7_tab nm7_bits (fun HT_ HW_ => ?_)
      refine pure_ (i := 0) (N := (some 84)) (v := ?_) (a' := ?_) #[true, false, false, false, false, false, false] rfl rfl (any_of HT_.out (by kernel_rfl)) (fun _ _ _ h => h) (Or.inl ⟨by rfl, ?_⟩) ?_ ?_
      rotate_left
      · intro w'
        go_simp
        with_reducible rfl
      rotate_left
      · simp only [Act.put, List.setIfInBounds_toArray, List.set_cons_zero, List.set_cons_succ, i64_w, i32_w]
        rfl
      refine pure_ (i := 1) (N := (some 85)) (v := ?_) (a' := ?_) #[true, true, false, false, false, false, false] rfl rfl (any_of HT_.out (by kernel_rfl)) (fun _ _ _ h => h) (Or.inl ⟨by rfl, ?_⟩) ?_ ?_
      rotate_left
      · intro w'
        go_simp
        with_reducible rfl
      rotate_left
      · simp only [Act.put, List.setIfInBounds_toArray, List.set_cons_zero, List.set_cons_succ, i64_w, i32_w]
        rfl
      refine take_ (i := 2) (N := (some 86)) (v := ?_) (a' := ?_) #[true, true, true, false, false, false, false] rfl rfl (take_ofW HT_.out HW_.out (by kernel_rfl)) (fun _ _ _ h => h) (Or.inl ⟨by rfl, ?_⟩) hHeld ?_ ?_
      rotate_left
      · rintro w' ⟨z0, z1, z2, z3, z4, z5, _⟩
        go_simp
        with_reducible rfl
      rotate_left
      · simp only [Act.put, List.setIfInBounds_toArray, List.set_cons_zero, List.set_cons_succ, i64_w, i32_w]
        rfl
      refine pure_ (i := 4) (N := (some 88)) (v := ?_) (a' := ?_) #[true, true, true, false, true, false, false] rfl rfl (any_of HT_.out (by kernel_rfl)) (fun _ _ _ h => h) (Or.inl ⟨by rfl, ?_⟩) ?_ ?_
      rotate_left
      · intro w'
        go_simp
        with_reducible rfl
      rotate_left
      · simp only [Act.put, List.setIfInBounds_toArray, List.set_cons_zero, List.set_cons_succ, i64_w, i32_w]
        rfl
      refine take_ (i := 5) (N := (some 89)) (v := ?_) (a' := ?_) #[true, true, true, false, true, true, false] rfl rfl (take_ofW HT_.out HW_.out (by kernel_rfl)) (fun _ _ _ h => h) (Or.inl ⟨by rfl, ?_⟩) hHeld ?_ ?_
      rotate_left
      · rintro w' ⟨_, _, _, _, _, _, z6⟩
        go_simp
        with_reducible rfl
      rotate_left
      · simp only [Act.put, List.setIfInBounds_toArray, List.set_cons_zero, List.set_cons_succ, i64_w, i32_w]
        rfl
      refine one_ (i := 3) (N := (some 87)) #[true, true, true, true, true, true, false] rfl rfl (one_of HT_.out (by kernel_rfl)) (by decide) (fun K9 hK => ?_)
      refine goes_ Try.func11 (by kernel_rfl) rfl #[.pointer (some ⟨C, 0, none⟩), .agg #[.int .u8 s0, .int .i64 s1, .int .i64 s2, .slice A3 s3.length c3, .slice A4 s4.length c4, .slice A5 s5.length c5]] (by rfl) rfl rfl (by (try simp only [List.map_toArray, List.map_cons, List.map_nil]); first | done | rfl) ?_
      refine (HT.out).mono ?_
      rintro e w5 ⟨rfl, hC5, hF5⟩
      refine ⟨_, rfl, ?_⟩
      have hb5 : w5.heap[b3]? = _ := (hF5.block b3 (lt_of_block HB3.out.1) (fun e => by rcases e with e | e; exact HB3.out.2.1 e; exact HB3.out.2.2 e)).trans HB3.out.1
      have HF5 : Aside (CA w5 C M T.1.1 T.1.2 ∧ Fr (fun k => k = C ∨ k = M) w4 w5) := ⟨hC5, HFB.out.trans hF5 (fun _ _ h => h)⟩
      clear hC5 hF5
      refine hK.out _ _ ⟨cell_at hb5 0, cell_at hb5 1, cell_at hb5 2, cell_at hb5 3, cell_at hb5 4, cell_at hb5 5, cell_at hb5 6⟩ (fun hHeld => ?_)
      clear hK K9
      refine norm_ (a' := ?_) ?_ ?_
      rotate_left
      · show Act.put _ (some 87) _ = _
        simp only [Act.put, List.setIfInBounds_toArray, List.set_cons_zero, List.set_cons_succ]
        rfl
      refine pure_ (i := 6) (N := (some 90)) (v := .bool false) (a' := ?_) #[true, true, true, true, true, true, true] rfl rfl (any_of HT_.out (by kernel_rfl)) (fun _ _ _ h => h) (Or.inl ⟨by rfl, ?_⟩) ?_ ?_
      · intro w'
        first | (go_simp; done) | (go_simp; with_reducible rfl) | (go_simp; simp [*]; done) | (go_simp; simp; omega)
      rotate_left
      · simp only [Act.put, List.setIfInBounds_toArray, List.set_cons_zero, List.set_cons_succ, i64_w, i32_w]
        rfl
      refine done_ (done_of HT_.out (by kernel_rfl)) ?_
      clear HT_ HW_ hHeld
      go_wp2_with fail
      go_roundw
      case rel => exact ⟨k + 1, by omega, by go_num, ⟨by rw [HST.out]; exact HF5.out.1, HF5.out.2⟩⟩
      case measure => simp [intOf]; omega
    · obtain rfl : k = 20 := by omega
      have hfo := (cn_fok 20 (Nat.le_refl _)).1
      have hgt := cn_get
      have hk1 := cn_k1
      have hk2 := cn_k2
      obtain ⟨hoc, hCB, hMB, hB4, hgl, hBg⟩ := HCA.out
      have H0 : Aside (OC w.heap.size w wr C M (cnSt 20).1 (cnSt 20).2) := ⟨hoc.step HI.out.1 HI.out.2⟩
      obtain ⟨f, hf⟩ : ∃ f, (cnSt 20).1 = f := ⟨_, rfl⟩
      obtain ⟨u, hu⟩ : ∃ u, (cnSt 20).2 = u := ⟨_, rfl⟩
      rw [hf, hu] at H0 hgt hk1 hk2
      rw [hf] at hfo
      obtain ⟨hgt, hu4, ha1, ha2⟩ := hgt
      have hval : ∀ k v, f k = some v → v.x.val.size ≤ 1000000 := fun k v h => (hfo k v h).1
      have hg0 := fun W hc => cget_calls C M f u kA W hc
      rw [hgt] at hg0
      dsimp only at hg0
      have hn1 := fun W hc => known_calls C M f u kA kBC (by decide) (by decide) hval W hc
      have hn2 := fun W hc => known_calls C M f u kA kB (by decide) (by decide) hval W hc
      obtain ⟨X, hX⟩ : ∃ X, knownM f u kA kBC = X := ⟨_, rfl⟩
      obtain ⟨Y, hY⟩ : ∃ Y, knownM f u kA kB = Y := ⟨_, rfl⟩
      rw [hX] at hn1 hk1
      rw [hY] at hn2 hk2
      obtain ⟨X, X2⟩ := X
      obtain ⟨Y, Y2⟩ := Y
      dsimp only at hn1 hn2 hk1 hk2
      obtain ⟨hy2, hy3, hy4, hy5⟩ := hk2
      have hn1 := fun W hc => (hn1 W hc).mono (fun e w' h => (show e = .returned (.tuple #[.agg #[Value.string X.r.rep, Value.int IntKind.i64 X.r.ep, Value.int IntKind.i64 X.r.tm, Value.bool X.r.gone, Value.bool X.there, Value.int IntKind.i64 X.mod, Value.int IntKind.i64 X.t.live, Value.int IntKind.i64 X.t.epochs, Value.int IntKind.i64 X.tmod], .bool X2]) ∧ Below W.heap.size W w' from h))
      have hn2 := fun W hc => (hn2 W hc).mono (fun e w' h => (show e = .returned (.tuple #[.agg #[Value.string Y.r.rep, Value.int IntKind.i64 Y.r.ep, Value.int IntKind.i64 Y.r.tm, Value.bool Y.r.gone, Value.bool Y.there, Value.int IntKind.i64 Y.mod, Value.int IntKind.i64 Y.t.live, Value.int IntKind.i64 Y.t.epochs, Value.int IntKind.i64 Y.tmod], .bool Y2]) ∧ Below W.heap.size W w' from h))
      rw [hk1] at hn1
      rw [hy2, hy3, hy4, hy5] at hn2
      have hs1 := fun W hc => casof_calls C M f u kA W hc
      have hs2 := fun W hc => casof_calls C M f u kB W hc
      rw [ha1] at hs1
      rw [ha2] at hs2
      have hup := fun W hc => (cupto_calls C M f u W hc).mono (fun e w' h => (show e = .returned (.int .i64 4) ∧ W = w' from ⟨h.1.trans (by rw [hu4]), h.2⟩))
      have HF := Aside.mk (And.intro hg0 (And.intro hn1 (And.intro hn2 (And.intro hs1 (And.intro hs2 hup)))))
      clear hfo hgt hk1 hoc hCB hMB hB4 hgl hBg hf hu hu4 ha1 ha2 hval hg0 hn1 hn2 hs1 hs2 hup hX hY hy2 hy3 hy4 hy5 HCA HCN HI
      go_wp2_with fail
      refine (HF.out.1 wr H0.out.ca).mono ?_
      rintro e w5 ⟨rfl, hb5⟩
      have H5 := Aside.mk (H0.out.below hb5)
      clear hb5 H0
      go_upto_region 11 with fail
      have hE6 := heap_alloc_new w5 (Obj.cells #[Value.string { data := #[97] }, Value.string { data := #[] }, Value.int IntKind.i64 1, Value.int IntKind.i64 5] 46 (0, 0))
      have H6 := Aside.mk (H5.out.below ((Below.refl w5.heap.size w5).alloc (Nat.le_refl _) (Obj.cells #[Value.string { data := #[97] }, Value.string { data := #[] }, Value.int IntKind.i64 1, Value.int IntKind.i64 5] 46 (0, 0))))
      obtain ⟨b4, hb4⟩ : ∃ b, w5.heap.size = b := ⟨_, rfl⟩
      rw [hb4] at hE6 ⊢
      generalize (w5.alloc (Obj.cells #[Value.string { data := #[97] }, Value.string { data := #[] }, Value.int IntKind.i64 1, Value.int IntKind.i64 5] 46 (0, 0))) = w6 at *
      clear H5
      go_wp2_with fail
      refine (HF.out.2.1 w6 H6.out.ca).mono ?_
      rintro e w7 ⟨rfl, hb7⟩
      have H7 := Aside.mk (And.intro (H6.out.below hb7) ((hb7.block b4 (lt_of_block hE6)).trans hE6))
      clear hb7 H6 hE6 hb4
      go_upto_region 12 with fail
      have H8 := Aside.mk (And.intro (H7.out.1.below ((Below.refl w7.heap.size w7).alloc (Nat.le_refl _) (Obj.cells #[Value.string X.r.rep, Value.int IntKind.i64 X.r.ep, Value.int IntKind.i64 X.r.tm, Value.bool X.r.gone, Value.bool X.there, Value.int IntKind.i64 X.mod, Value.int IntKind.i64 X.t.live, Value.int IntKind.i64 X.t.epochs, Value.int IntKind.i64 X.tmod] 39 (0, 0)))) (blk_al H7.out.2 (Obj.cells #[Value.string X.r.rep, Value.int IntKind.i64 X.r.ep, Value.int IntKind.i64 X.r.tm, Value.bool X.r.gone, Value.bool X.there, Value.int IntKind.i64 X.mod, Value.int IntKind.i64 X.t.live, Value.int IntKind.i64 X.t.epochs, Value.int IntKind.i64 X.tmod] 39 (0, 0))))
      generalize (w7.alloc (Obj.cells #[Value.string X.r.rep, Value.int IntKind.i64 X.r.ep, Value.int IntKind.i64 X.r.tm, Value.bool X.r.gone, Value.bool X.there, Value.int IntKind.i64 X.mod, Value.int IntKind.i64 X.t.live, Value.int IntKind.i64 X.t.epochs, Value.int IntKind.i64 X.tmod] 39 (0, 0))) = w8 at *
      clear H7
      go_wp2_with fail
      refine (HF.out.2.2.1 w8 H8.out.1.ca).mono ?_
      rintro e w9 ⟨rfl, hb9⟩
      have H9 := Aside.mk (And.intro (H8.out.1.below hb9) ((hb9.block b4 (lt_of_block H8.out.2)).trans H8.out.2))
      clear hb9 H8
      go_upto_region 13 with fail
      have hE10 := heap_alloc_new w9 (Obj.cells #[Value.string Y.r.rep, Value.int IntKind.i64 Y.r.ep, Value.int IntKind.i64 Y.r.tm, Value.bool Y.r.gone, Value.bool false, Value.int IntKind.i64 0, Value.int IntKind.i64 Y.t.live, Value.int IntKind.i64 Y.t.epochs, Value.int IntKind.i64 0] 39 (0, 0))
      have H10 := Aside.mk (And.intro (H9.out.1.below ((Below.refl w9.heap.size w9).alloc (Nat.le_refl _) (Obj.cells #[Value.string Y.r.rep, Value.int IntKind.i64 Y.r.ep, Value.int IntKind.i64 Y.r.tm, Value.bool Y.r.gone, Value.bool false, Value.int IntKind.i64 0, Value.int IntKind.i64 Y.t.live, Value.int IntKind.i64 Y.t.epochs, Value.int IntKind.i64 0] 39 (0, 0)))) (blk_al H9.out.2 (Obj.cells #[Value.string Y.r.rep, Value.int IntKind.i64 Y.r.ep, Value.int IntKind.i64 Y.r.tm, Value.bool Y.r.gone, Value.bool false, Value.int IntKind.i64 0, Value.int IntKind.i64 Y.t.live, Value.int IntKind.i64 Y.t.epochs, Value.int IntKind.i64 0] 39 (0, 0))))
      obtain ⟨b8, hb8⟩ : ∃ b, w9.heap.size = b := ⟨_, rfl⟩
      rw [hb8] at hE10 ⊢
      generalize (w9.alloc (Obj.cells #[Value.string Y.r.rep, Value.int IntKind.i64 Y.r.ep, Value.int IntKind.i64 Y.r.tm, Value.bool Y.r.gone, Value.bool false, Value.int IntKind.i64 0, Value.int IntKind.i64 Y.t.live, Value.int IntKind.i64 Y.t.epochs, Value.int IntKind.i64 0] 39 (0, 0))) = w10 at *
      clear H9
      go_wp2_with fail
      refine (cnew_calls w10).mono ?_
      rintro e w11 ⟨C', M', rfl, hc11, hC', hM', hb11⟩
      have H11 := Aside.mk (And.intro (H10.out.1.below hb11) (And.intro ((hb11.block b4 (lt_of_block H10.out.2)).trans H10.out.2) ((hb11.block b8 (lt_of_block hE10)).trans hE10)))
      have hn3 := known_calls C' M' (fun _ => none) (-1) kA kB (by decide) (by decide) (fun k v h => (by cases h)) w11 hc11
      have hk3 := cn_k3.1
      obtain ⟨Z, hZ⟩ : ∃ Z, knownM (fun _ => none) (-1) kA kB = Z := ⟨_, rfl⟩
      rw [hZ] at hn3 hk3
      obtain ⟨Z, Z2⟩ := Z
      dsimp only at hn3 hk3
      replace hn3 := hn3.mono (fun e w' h => (show e = .returned (.tuple #[.agg #[Value.string Z.r.rep, Value.int IntKind.i64 Z.r.ep, Value.int IntKind.i64 Z.r.tm, Value.bool Z.r.gone, Value.bool Z.there, Value.int IntKind.i64 Z.mod, Value.int IntKind.i64 Z.t.live, Value.int IntKind.i64 Z.t.epochs, Value.int IntKind.i64 Z.tmod], .bool Z2]) ∧ Below w11.heap.size w11 w' from h))
      rw [hk3] at hn3
      clear hb11 H10 hE10 hc11 hC' hM' hZ hk3 hb8
      go_wp2_with fail
      refine hn3.mono ?_
      rintro e w12 ⟨rfl, hb12⟩
      have H12 := Aside.mk (And.intro (H11.out.1.below hb12) (And.intro ((hb12.block b4 (lt_of_block H11.out.2.1)).trans H11.out.2.1) ((hb12.block b8 (lt_of_block H11.out.2.2)).trans H11.out.2.2)))
      clear hb12 H11 hn3
      go_upto_region 14 with fail
      have H13 := Aside.mk (And.intro (H12.out.1.below ((Below.refl w12.heap.size w12).alloc (Nat.le_refl _) (Obj.cells #[Value.string Z.r.rep, Value.int IntKind.i64 Z.r.ep, Value.int IntKind.i64 Z.r.tm, Value.bool Z.r.gone, Value.bool Z.there, Value.int IntKind.i64 Z.mod, Value.int IntKind.i64 Z.t.live, Value.int IntKind.i64 Z.t.epochs, Value.int IntKind.i64 Z.tmod] 39 (0, 0)))) (And.intro (blk_al H12.out.2.1 (Obj.cells #[Value.string Z.r.rep, Value.int IntKind.i64 Z.r.ep, Value.int IntKind.i64 Z.r.tm, Value.bool Z.r.gone, Value.bool Z.there, Value.int IntKind.i64 Z.mod, Value.int IntKind.i64 Z.t.live, Value.int IntKind.i64 Z.t.epochs, Value.int IntKind.i64 Z.tmod] 39 (0, 0))) (blk_al H12.out.2.2 (Obj.cells #[Value.string Z.r.rep, Value.int IntKind.i64 Z.r.ep, Value.int IntKind.i64 Z.r.tm, Value.bool Z.r.gone, Value.bool Z.there, Value.int IntKind.i64 Z.mod, Value.int IntKind.i64 Z.t.live, Value.int IntKind.i64 Z.t.epochs, Value.int IntKind.i64 Z.tmod] 39 (0, 0)))))
      generalize (w12.alloc (Obj.cells #[Value.string Z.r.rep, Value.int IntKind.i64 Z.r.ep, Value.int IntKind.i64 Z.r.tm, Value.bool Z.r.gone, Value.bool Z.there, Value.int IntKind.i64 Z.mod, Value.int IntKind.i64 Z.t.live, Value.int IntKind.i64 Z.t.epochs, Value.int IntKind.i64 Z.tmod] 39 (0, 0))) = w13 at *
      clear H12
      go_wp2_with fail
      refine (nil_known kA kB (by decide) (by decide) cn_k3.2 w13).mono ?_
      rintro e w14 ⟨rfl, hb14⟩
      have H14 := Aside.mk (And.intro (H13.out.1.below hb14) (And.intro ((hb14.block b4 (lt_of_block H13.out.2.1)).trans H13.out.2.1) ((hb14.block b8 (lt_of_block H13.out.2.2)).trans H13.out.2.2)))
      clear hb14 H13
      go_upto_region 16 with fail
      have H15 := Aside.mk (And.intro (H14.out.1.below ((Below.refl w14.heap.size w14).alloc (Nat.le_refl _) (Obj.cells #[Value.string (ByteArray.mk #[]), Value.int IntKind.i64 0, Value.int IntKind.i64 0, Value.bool false, Value.bool false, Value.int IntKind.i64 0, Value.int IntKind.i64 0, Value.int IntKind.i64 0, Value.int IntKind.i64 0] 39 (0, 0)))) (And.intro (blk_al H14.out.2.1 (Obj.cells #[Value.string (ByteArray.mk #[]), Value.int IntKind.i64 0, Value.int IntKind.i64 0, Value.bool false, Value.bool false, Value.int IntKind.i64 0, Value.int IntKind.i64 0, Value.int IntKind.i64 0, Value.int IntKind.i64 0] 39 (0, 0))) (blk_al H14.out.2.2 (Obj.cells #[Value.string (ByteArray.mk #[]), Value.int IntKind.i64 0, Value.int IntKind.i64 0, Value.bool false, Value.bool false, Value.int IntKind.i64 0, Value.int IntKind.i64 0, Value.int IntKind.i64 0, Value.int IntKind.i64 0] 39 (0, 0)))))
      generalize (w14.alloc (Obj.cells #[Value.string (ByteArray.mk #[]), Value.int IntKind.i64 0, Value.int IntKind.i64 0, Value.bool false, Value.bool false, Value.int IntKind.i64 0, Value.int IntKind.i64 0, Value.int IntKind.i64 0, Value.int IntKind.i64 0] 39 (0, 0))) = w15 at *
      clear H14
      go_wp2_with fail
      refine (nil_get kA w15).mono ?_
      rintro e w16 ⟨rfl, hb16⟩
      have H16 := Aside.mk (And.intro (H15.out.1.below hb16) (And.intro ((hb16.block b4 (lt_of_block H15.out.2.1)).trans H15.out.2.1) ((hb16.block b8 (lt_of_block H15.out.2.2)).trans H15.out.2.2)))
      clear hb16 H15
      go_upto_region 17 with fail
      have H17 := Aside.mk (And.intro (H16.out.1.below ((Below.refl w16.heap.size w16).alloc (Nat.le_refl _) (Obj.cells #[Value.string (ByteArray.mk #[]), Value.string (ByteArray.mk #[]), Value.int IntKind.i64 0, Value.int IntKind.i64 0] 46 (0, 0)))) (And.intro (blk_al H16.out.2.1 (Obj.cells #[Value.string (ByteArray.mk #[]), Value.string (ByteArray.mk #[]), Value.int IntKind.i64 0, Value.int IntKind.i64 0] 46 (0, 0))) (blk_al H16.out.2.2 (Obj.cells #[Value.string (ByteArray.mk #[]), Value.string (ByteArray.mk #[]), Value.int IntKind.i64 0, Value.int IntKind.i64 0] 46 (0, 0)))))
      generalize (w16.alloc (Obj.cells #[Value.string (ByteArray.mk #[]), Value.string (ByteArray.mk #[]), Value.int IntKind.i64 0, Value.int IntKind.i64 0] 46 (0, 0))) = w17 at *
      clear H16
      have v3 : w17.cell? ⟨b4, 3, none⟩ = some (.int .i64 5) := cell_at H17.out.2.1 3
      go_wp2_with fail
      refine (HF.out.2.2.2.2.2 w17 H17.out.1.ca).mono ?_
      rintro e w18 ⟨rfl, rfl⟩
      go_wp2_with fail
      refine (HF.out.2.2.2.1 w17 H17.out.1.ca).mono ?_
      rintro e w18 ⟨rfl, hb18⟩
      have H18 := Aside.mk (And.intro (H17.out.1.below hb18) ((hb18.block b8 (lt_of_block H17.out.2.2)).trans H17.out.2.2))
      clear hb18 H17 v3
      go_wp2_with fail
      refine (HF.out.2.2.2.2.1 w18 H18.out.1.ca).mono ?_
      rintro e w19 ⟨rfl, hb19⟩
      have H19 := Aside.mk (And.intro (H18.out.1.below hb19) ((hb19.block b8 (lt_of_block H18.out.2)).trans H18.out.2))
      clear hb19 H18
      have y4 : w19.cell? ⟨b8, 4, none⟩ = some (.bool false) := cell_at H19.out.2 4
      have y5 : w19.cell? ⟨b8, 5, none⟩ = some (.int .i64 0) := cell_at H19.out.2 5
      have y8 : w19.cell? ⟨b8, 8, none⟩ = some (.int .i64 0) := cell_at H19.out.2 8
      go_wp2_with fail
      refine (nil_list (.slice none 0 0) 0 w19).mono ?_
      rintro e w20 ⟨rfl, hb20⟩
      have H20 := Aside.mk (H19.out.1.below hb20)
      clear hb20 H19 y4 y5 y8
      go_wp2_with fail
      refine (nil_watch (.slice none 0 0) 1 1 w20).mono ?_
      rintro e w21 ⟨rfl, rfl⟩
      go_wp2_with fail
      refine (nil_learn 0 w20).mono ?_
      rintro e w21 ⟨rfl, hb21⟩
      have H21 := Aside.mk (H20.out.below hb21)
      clear hb21 H20
      go_wp2_with fail
      refine (nil_upto w21).mono ?_
      rintro e w22 ⟨rfl, rfl⟩
      go_wp2_with fail
      refine (nil_asof kA w21).mono ?_
      rintro e w22 ⟨rfl, rfl⟩
      go_wp2_with fail
      refine (nil_entries ⟨#[]⟩ w21).mono ?_
      rintro e w22 ⟨rfl, rfl⟩
      go_wp2_with fail
      refine (nil_copy w21).mono ?_
      rintro e w22 ⟨rfl, rfl⟩
      go_wp2_with fail
      go_ret
      exact ⟨rfl, H21.out.bel⟩
theorem names_walk (w : World) : Calls Try.prog 7 #[] w fun e w' => e = .returned (.bool true) ∧ Below w.heap.size w w' := cacheNames_calls w
end Go.Proofs.Ytagkobpbhfkmdaa.C
