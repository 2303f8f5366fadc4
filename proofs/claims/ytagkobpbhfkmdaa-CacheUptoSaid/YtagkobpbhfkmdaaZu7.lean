/- Zu: texts of this claim, laid together. -/
import Derived.Test.YtagkobpbhfkmdaaZu4
import Derived.Test.YtagkobpbhfkmdaaZu6
/-! from KY -/
namespace Go.Proofs.Ytagkobpbhfkmdaa.C
open Go.RowKit Go.Proofs.Ytagkobpbhfkmdaa.Q Go.Proofs.YtagkobpbhfkmdaaW.PrintLast Go.Proofs.YtagkobpbhfkmdaaW.PrintWords
set_option linter.unusedVariables false
set_option linter.unusedSimpArgs false
def kindI (x : Int) : Int := if (97 ≤ x ∧ x ≤ 122) ∨ (65 ≤ x ∧ x ≤ 90) ∨ (48 ≤ x ∧ x ≤ 57) ∨ x = 45 ∨ x = 95 ∨ x = 46 then 2 else if x = 47 then 1 else 0
theorem j2_is (k : Nat) (x : Int) (b : Bool) (h : b = true → (97 ≤ x ∧ x ≤ 122) ∨ (65 ≤ x ∧ x ≤ 90) ∨ (48 ≤ x ∧ x ≤ 57) ∨ x = 45 ∨ x = 95 ∨ x = 46) (h' : b = false → ¬ ((97 ≤ x ∧ x ≤ 122) ∨ (65 ≤ x ∧ x ≤ 90) ∨ (48 ≤ x ∧ x ≤ 57) ∨ x = 45 ∨ x = 95 ∨ x = 46)) : keys_of.j2 (k + 1) x 0 b = some (kindI x) := by
  simp only [keys_of.j2]
  have e2 : wrap64 (wrap64 (0 + 1) + 1) = 2 := by unfold wrap64; omega
  have e1 : wrap64 (0 + 1) = 1 := by unfold wrap64; omega
  rw [e2, e1]
  cases b with
  | true => rw [if_pos rfl]; unfold kindI; rw [if_pos (h rfl)]
  | false =>
    rw [if_neg (by simp)]
    unfold kindI
    rw [if_neg (h' rfl)]
    by_cases e : x = 47
    · rw [if_pos e, if_pos e]
    · rw [if_neg e, if_neg e]
theorem j1_is (k : Nat) (x : Int) (b : Bool) (h : b = true → (97 ≤ x ∧ x ≤ 122) ∨ (65 ≤ x ∧ x ≤ 90) ∨ (48 ≤ x ∧ x ≤ 57)) (h' : b = false → ¬ ((97 ≤ x ∧ x ≤ 122) ∨ (65 ≤ x ∧ x ≤ 90) ∨ (48 ≤ x ∧ x ≤ 57))) : keys_of.j1 (k + 2) x 0 b = some (kindI x) := by
  simp only [keys_of.j1]
  have e2 : wrap64 (wrap64 (0 + 1) + 1) = 2 := by unfold wrap64; omega
  rw [e2]
  cases b with
  | true => rw [if_pos rfl]; unfold kindI; rw [if_pos (by have := h rfl; omega)]
  | false =>
    rw [if_neg (by simp)]
    have hn := h' rfl
    by_cases e : x = 45
    · rw [if_pos e]
      exact j2_is k x _ (fun _ => by omega) (fun hb => by simp at hb; omega)
    · rw [if_neg e]
      by_cases e' : x = 95
      · rw [if_pos e']
        exact j2_is k x _ (fun _ => by omega) (fun hb => by simp at hb; omega)
      · rw [if_neg e']
        exact j2_is k x _ (fun hb => by simp at hb; omega) (fun hb => by simp at hb; omega)
theorem j0_is (k : Nat) (x : Int) (b : Bool) (h : b = true → (97 ≤ x ∧ x ≤ 122)) (h' : b = false → ¬ (97 ≤ x ∧ x ≤ 122)) : keys_of.j0 (k + 3) x 0 b = some (kindI x) := by
  simp only [keys_of.j0]
  cases b with
  | true => rw [if_pos rfl]; exact j1_is k x _ (fun _ => by have := h rfl; omega) (fun hb => by simp at hb)
  | false =>
    rw [if_neg (by simp)]
    have hn := h' rfl
    by_cases e : x ≥ 65
    · rw [if_pos e]
      by_cases e2 : x ≤ 90
      · rw [if_pos e2]
        exact j1_is k x _ (fun hb => by simp at hb; omega) (fun hb => by simp at hb; omega)
      · rw [if_neg e2]
        by_cases e3 : x ≥ 48
        · rw [if_pos e3]
          exact j1_is k x _ (fun hb => by simp at hb; omega) (fun hb => by simp at hb; omega)
        · rw [if_neg e3]
          exact j1_is k x _ (fun hb => by simp at hb) (fun hb => by omega)
    · rw [if_neg e]
      by_cases e3 : x ≥ 48
      · rw [if_pos e3]
        exact j1_is k x _ (fun hb => by simp at hb; omega) (fun hb => by simp at hb; omega)
      · rw [if_neg e3]
        exact j1_is k x _ (fun hb => by simp at hb) (fun hb => by omega)
theorem of_is (k : Nat) (x : Int) : keys_of.f (k + 3) x = some (kindI x) := by
  unfold keys_of.f
  by_cases h : x ≥ 97
  · rw [if_pos h]
    exact j0_is k x _ (fun hb => by simp at hb; omega) (fun hb => by simp at hb; omega)
  · rw [if_neg h]
    exact j0_is k x _ (fun hb => by simp at hb) (fun hb => by omega)
/-- Are all bytes from i on in something? -/
def allFrom (s : ByteArray) (least : Int) (i : Nat) : Bool := (s.data.toList.drop i).all fun c => decide (least ≤ kindI c.toNat)
def allK (s : ByteArray) (least most : Int) : Bool := allFrom s least 0 && decide ((s.size : Int) ≤ most)
theorem allFrom_step {s : ByteArray} {least : Int} {i : Nat} (h : i < s.size) : allFrom s least i = (decide (least ≤ kindI (bt s i)) && allFrom s least (i + 1)) := by
  unfold allFrom
  have h' : i < s.data.toList.length := by simpa using h
  rw [List.drop_eq_getElem_cons h', List.all_cons]
  congr 2
  have : bt s i = (s.data.toList[i].toNat : Int) := by
    unfold bt
    rw [dif_pos (by simpa using h)]
    simp only [Int.toNat_natCast]
    rfl
  rw [this]
theorem all_l0 (s : ByteArray) (least most : Int) (hs : s.size ≤ 9000000000000000000) : ∀ (d i : Nat), i + d = s.size → ∀ k, d + 5 < k → keys_all.l0 k s least most (s.size : Int) (i : Int) = some (allFrom s least i && decide ((s.size : Int) ≤ most)) := by
  intro d
  induction d with
  | zero =>
    intro i hi k hk
    obtain ⟨k, rfl⟩ : ∃ m, k = m + 1 := ⟨k - 1, by omega⟩
    simp only [keys_all.l0]
    rw [if_neg (by omega)]
    have : allFrom s least i = true := by unfold allFrom; rw [List.drop_eq_nil_of_le (by have : s.data.toList.length = s.size := by simp
                                                                                         omega)]; rfl
    rw [this, Bool.true_and]
  | succ d ih =>
    intro i hi k hk
    obtain ⟨k, rfl⟩ : ∃ m, k = m + 1 := ⟨k - 1, by omega⟩
    simp only [keys_all.l0]
    rw [if_pos (by omega), if_pos (by omega), if_pos (by omega)]
    obtain ⟨q, hq⟩ : ∃ q, k = q + 3 := ⟨k - 3, by omega⟩
    rw [hq, of_is, ← hq]
    simp only [Option.bind_some]
    rw [allFrom_step (by omega)]
    by_cases hl : kindI (bt s i) < least
    · rw [if_pos hl]
      have : ¬ least ≤ kindI (bt s i) := by omega
      simp [this]
    · rw [if_neg hl]
      have hw : wrap64 ((i : Int) + 1) = ((i + 1 : Nat) : Int) := by unfold wrap64; omega
      rw [hw, ih (i + 1) (by omega) k (by omega)]
      have : least ≤ kindI (bt s i) := by omega
      simp [this]
theorem all_is (s : ByteArray) (least most : Int) (hs : s.size ≤ 9000000000000000000) (k : Nat) (hk : s.size + 5 < k) : keys_all.f k s least most = some (allK s least most) := by
  unfold keys_all.f allK
  have := all_l0 s least most hs s.size 0 (by omega) k hk
  simpa using this
def keyB (s : ByteArray) : Bool := !s.toList.isEmpty && allK s 1 64
theorem key_is (s : ByteArray) (hs : s.size ≤ 9000000000000000000) (k : Nat) (hk : s.size + 5 < k) : keys_Key.f k s = some (keyB s) := by
  unfold keys_Key.f keyB
  by_cases h : s.toList = []
  · rw [if_pos h, h]; rfl
  · rw [if_neg h, all_is s 1 64 hs k hk]
    cases hl : s.toList with
    | nil => exact absurd hl h
    | cons a r => rfl
def mayOpB (del : Bool) (k v : ByteArray) : Bool := keyB k && (decide ((v.size : Int) ≤ 128) && (!del || v.toList == []))
theorem mayOp_is (del : Bool) (s v : ByteArray) (hs : s.size ≤ 9000000000000000000) (k : Nat) (hk : s.size + 5 < k) : tree_mayOp.f k del s v = some (mayOpB del s v) := by
  unfold tree_mayOp.f mayOpB
  rw [key_is s hs k hk]
  simp only [Option.bind_some]
  cases keyB s with
  | false => rfl
  | true =>
    rw [if_pos rfl]
    by_cases h : (v.size : Int) ≤ 128
    · rw [if_pos h]
      cases del <;> simp [h]
    · rw [if_neg h]; simp [h]
theorem drawn_below {w w' : World} (h : Drawn0 w w') : Below w.heap.size w w' := by
  obtain ⟨n, rfl⟩ := h.out
  exact ⟨rfl, rfl, rfl, Nat.le_refl _, fun _ _ => rfl⟩
theorem blk_al {w : World} {g : Nat} {o : Obj} (h : w.heap[g]? = some o) (o' : Obj) : (w.alloc o').heap[g]? = some o := (Below.heap_alloc w o' g (lt_of_block h)).trans h
theorem at_world {P : Program} {fn : Func} {R : Ending → World → Prop} {x : Exit} {a : Act} {w : World} (h : ∀ W, W = w → bodyPost P fn R x a W) : bodyPost P fn R x a w := h w rfl
theorem set4 {w : World} {b : Nat} {T : TypeId} {y0 y1 y2 y3 : Value} (h : w.heap[b]? = some (.cells #[y0, y1, y2, y3] T (0, 0))) (a0 a1 a2 a3 : Value) : ((((w.setCell ⟨b, 0, none⟩ a0).setCell ⟨b, 1, none⟩ a1).setCell ⟨b, 2, none⟩ a2).setCell ⟨b, 3, none⟩ a3).heap[b]? = some (.cells #[a0, a1, a2, a3] T (0, 0)) := by
  rw [heap_setCell_eq _ (heap_setCell_eq _ (heap_setCell_eq _ (heap_setCell_eq _ h)))]
  rfl
end Go.Proofs.Ytagkobpbhfkmdaa.C
/-! from KN -/
namespace Go.Proofs.Ytagkobpbhfkmdaa.C
open Go.RowKit Go.Proofs.Ytagkobpbhfkmdaa.Q Go.Proofs.YtagkobpbhfkmdaaW.PrintLast Go.Proofs.YtagkobpbhfkmdaaW.PrintWords
set_option linter.unusedVariables false
set_option linter.unusedSimpArgs false
theorem drawn_fr {w w' : World} (h : Drawn0 w w') : ∃ q, w' = w.drewN q := by
  obtain ⟨n, rfl⟩ := h.out
  exact ⟨n, rfl⟩
end Go.Proofs.Ytagkobpbhfkmdaa.C
