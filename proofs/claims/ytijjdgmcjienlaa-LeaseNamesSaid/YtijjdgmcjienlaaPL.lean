/- What names, configurations and records may be, and what is done with a request: the printed functions of the program and of the document come to plain functions of their arguments. -/
import Derived.Test.YtijjdgmcjienlaaQx3
import Derived.Test.YtijjdgmcjienlaaQx4
import Derived.Test.YtijjdgmcjienlaaQx5
import Derived.Test.YtijjdgmcjienlaaQx7
namespace Go.Proofs.Ytijjdgmcjienlaa.PL
open Go.RowKit Go.Proofs.Ytijjdgmcjienlaa.Q Go.Proofs.YtijjdgmcjienlaaW.PrintWords Go.Proofs.YtijjdgmcjienlaaW.PrintLast
set_option linter.unusedVariables false

theorem ev_ite {α : Type} {c : Prop} [Decidable c] {f g : Nat → Option α} {r : α} (h1 : c → Ev f r) (h2 : ¬ c → Ev g r) : Ev (fun k => if c then f k else g k) r := by
  by_cases h : c
  · exact Ev.congr (fun k => by rw [if_pos h]) (h1 h)
  · exact Ev.congr (fun k => by rw [if_neg h]) (h2 h)
theorem ev_some {α : Type} {a r : α} (h : a = r) : Ev (fun _ => some a) r := by
  subst h
  exact Ev.now _
theorem ev_shift {α : Type} {g : Nat → Option α} {r : α} (h : Ev (fun k => g (k + 1)) r) : Ev g r := Ev.step (fun _ => rfl) h
theorem ev_is {α : Type} {g : Nat → Option α} {r r' : α} (h : Ev g r) (e : r = r') : Ev g r' := e ▸ h

def allFrom (p : Nat → Bool) : Nat → Nat → Bool
  | _, 0 => true
  | i, d + 1 => p i && allFrom p (i + 1) d
def anyFrom (p : Nat → Bool) : Nat → Nat → Bool
  | _, 0 => false
  | i, d + 1 => p i || anyFrom p (i + 1) d
theorem allFrom_congr {p q : Nat → Bool} (h : ∀ i, p i = q i) : ∀ d i, allFrom p i d = allFrom q i d
  | 0, _ => rfl
  | d + 1, i => by rw [allFrom, allFrom, h i, allFrom_congr h d]
theorem wrap_succ {i : Nat} {n : Nat} (h : i < n) (hn : n ≤ 140737488351232) : wrap64 ((i : Int) + 1) = ((i + 1 : Nat) : Int) := by
  unfold wrap64
  omega
theorem wrap_in {x : Int} (h1 : -9223372036854775808 ≤ x) (h2 : x ≤ 9223372036854775807) : wrap64 x = x := by
  unfold wrap64
  omega

/-! ### keys -/
def ofI (c : Int) : Int :=
  if c ≥ 97 ∧ c ≤ 122 ∨ c ≥ 65 ∧ c ≤ 90 ∨ c ≥ 48 ∧ c ≤ 57 ∨ c = 45 ∨ c = 95 ∨ c = 46 then 2 else if c = 47 then 1 else 0
theorem of2 {c : Int} (h : c ≥ 97 ∧ c ≤ 122 ∨ c ≥ 65 ∧ c ≤ 90 ∨ c ≥ 48 ∧ c ≤ 57 ∨ c = 45 ∨ c = 95 ∨ c = 46) : (2 : Int) = ofI c := by
  unfold ofI
  rw [if_pos h]
theorem of1 {c : Int} (h : c = 47) : (1 : Int) = ofI c := by
  subst h
  decide
theorem of0 {c : Int} (h : ¬ (c ≥ 97 ∧ c ≤ 122 ∨ c ≥ 65 ∧ c ≤ 90 ∨ c ≥ 48 ∧ c ≤ 57 ∨ c = 45 ∨ c = 95 ∨ c = 46)) (h' : ¬ c = 47) : (0 : Int) = ofI c := by
  unfold ofI
  rw [if_neg h, if_neg h']
theorem w2 : wrap64 (wrap64 (0 + 1) + 1) = 2 := by simp [wrap64]
theorem w1 : wrap64 (0 + 1) = 1 := by simp [wrap64]
theorem ev_of (c : Int) : Ev (fun k => keys_of.f k c) (ofI c) := by
  have hj2 : ∀ b : Bool, (b = true → c = 46 ∨ c = 45 ∨ c = 95) → (b = false → ¬ (c ≥ 97 ∧ c ≤ 122 ∨ c ≥ 65 ∧ c ≤ 90 ∨ c ≥ 48 ∧ c ≤ 57 ∨ c = 45 ∨ c = 95 ∨ c = 46)) → Ev (fun k => keys_of.j2 k c 0 b) (ofI c) := by
    intro b h1 h0
    refine ev_shift ?_
    simp only [keys_of.j2]
    cases b with
    | true =>
      simp only [if_true]
      exact ev_some (by rw [w2]; exact of2 (by have := h1 rfl; omega))
    | false =>
      simp only [Bool.false_eq_true, if_false]
      exact ev_ite (fun h => ev_some (by rw [w1]; exact of1 h)) (fun h => ev_some (of0 (h0 rfl) h))
  have hj1 : ∀ b : Bool, (b = true → c ≥ 97 ∧ c ≤ 122 ∨ c ≥ 65 ∧ c ≤ 90 ∨ c ≥ 48 ∧ c ≤ 57) → (b = false → ¬ (c ≥ 97 ∧ c ≤ 122 ∨ c ≥ 65 ∧ c ≤ 90 ∨ c ≥ 48 ∧ c ≤ 57)) → Ev (fun k => keys_of.j1 k c 0 b) (ofI c) := by
    intro b h1 h0
    refine ev_shift ?_
    simp only [keys_of.j1]
    cases b with
    | true =>
      simp only [if_true]
      exact ev_some (by rw [w2]; exact of2 (by have := h1 rfl; omega))
    | false =>
      simp only [Bool.false_eq_true, if_false]
      have n0 := h0 rfl
      refine ev_ite (fun h => hj2 _ (fun _ => by omega) (fun e => by simp at e; omega)) (fun h => ev_ite (fun h' => hj2 _ (fun _ => by omega) (fun e => by simp at e; omega)) (fun h' => hj2 _ (fun e => by simp at e; omega) (fun e => by simp at e; omega)))
  have hj0 : ∀ b : Bool, (b = true → c ≥ 97 ∧ c ≤ 122) → (b = false → ¬ (c ≥ 97 ∧ c ≤ 122)) → Ev (fun k => keys_of.j0 k c 0 b) (ofI c) := by
    intro b h1 h0
    refine ev_shift ?_
    simp only [keys_of.j0]
    cases b with
    | true =>
      simp only [if_true]
      exact hj1 _ (fun _ => by have := h1 rfl; omega) (fun e => by cases e)
    | false =>
      simp only [Bool.false_eq_true, if_false]
      have n0 := h0 rfl
      refine ev_ite (fun h => ev_ite (fun h' => hj1 _ (fun _ => by omega) (fun e => by simp at e; omega)) (fun h' => ev_ite (fun g => hj1 _ (fun e => by simp at e; omega) (fun e => by simp at e; omega)) (fun g => hj1 _ (fun e => by cases e) (fun _ => by omega)))) (fun h => ev_ite (fun g => hj1 _ (fun e => by simp at e; omega) (fun e => by simp at e; omega)) (fun g => hj1 _ (fun e => by cases e) (fun _ => by omega)))
  unfold keys_of.f
  exact ev_ite (fun h => hj0 _ (fun e => by simp at e; omega) (fun e => by simp at e; omega)) (fun h => hj0 _ (fun e => by cases e) (fun _ => by omega))
theorem ev_all (s : ByteArray) (x1 x2 : Int) (hs : s.size ≤ 140737488351232) : ∀ d i : Nat, i + d = s.size → Ev (fun k => keys_all.l0 k s x1 x2 (s.size : Int) (i : Int)) (allFrom (fun j => decide (x1 ≤ ofI (bt s j))) i d && decide ((s.size : Int) ≤ x2))
  | 0, i, h => by
    refine ev_shift ?_
    simp only [keys_all.l0]
    exact ev_ite (fun g => by omega) (fun g => ev_some (by simp [allFrom]))
  | d + 1, i, h => by
    refine ev_shift ?_
    simp only [keys_all.l0]
    refine ev_ite (fun g => ev_ite (fun g1 => ev_ite (fun g2 => Ev.bind (ev_of _) (ev_ite (fun g3 => ev_some ?_) (fun g3 => ?_))) (fun g2 => absurd g g2)) (fun g1 => by omega)) (fun g => by omega)
    · have e : decide (x1 ≤ ofI (bt s i)) = false := decide_eq_false (by omega)
      rw [allFrom, e]
      rfl
    · rw [wrap_succ (n := s.size) (by omega) hs]
      refine ev_is (ev_all s x1 x2 hs d (i + 1) (by omega)) ?_
      have e : decide (x1 ≤ ofI (bt s i)) = true := decide_eq_true (by omega)
      rw [allFrom, e, Bool.true_and]
theorem toList_nil (s : ByteArray) : s.toList = ([] : List UInt8) ↔ s.size = 0 := by
  rw [ByteArray.toList_eq, ← List.length_eq_zero_iff, Array.length_toList]
  rfl
def nameB (s : ByteArray) : Bool := decide (0 < s.size) && (allFrom (fun j => decide (2 ≤ ofI (bt s j))) 0 s.size && decide (s.size ≤ 24))
theorem ev_name (s : ByteArray) (hs : s.size ≤ 140737488351232) : Ev (fun k => keys_Name.f k s) (nameB s) := by
  unfold keys_Name.f nameB
  refine ev_ite (fun h => ev_some ?_) (fun h => Ev.bind (a := nameB s) ?_ (ev_some rfl))
  · have := (toList_nil s).1 h
    rw [decide_eq_false (by omega)]
    rfl
  · unfold keys_all.f nameB
    refine ev_is (ev_all s 2 24 hs s.size 0 (by omega)) ?_
    have : ¬ s.size = 0 := fun e => h ((toList_nil s).2 e)
    rw [decide_eq_true (show 0 < s.size by omega), Bool.true_and]
    congr 1
    simp
    omega
/-! ### labels -/
def alnum (c : Int) : Bool := decide (c ≥ 97 ∧ c ≤ 122 ∨ c ≥ 65 ∧ c ≤ 90 ∨ c = 95)
def digit (c : Int) : Bool := decide (c ≥ 48 ∧ c ≤ 57)
theorem ev_letter (c : Int) (b : Bool) : Ev (fun k => labels_letter.f k c b) (alnum c || (digit c && !b)) := by
  have hj1 : ∀ q : Bool, (q = true → c ≥ 97 ∧ c ≤ 122 ∨ c ≥ 65 ∧ c ≤ 90) → (q = false → ¬ (c ≥ 97 ∧ c ≤ 122 ∨ c ≥ 65 ∧ c ≤ 90)) → Ev (fun k => labels_letter.j1 k c b q) (alnum c || (digit c && !b)) := by
    intro q h1 h0
    refine ev_shift ?_
    simp only [labels_letter.j1]
    cases q with
    | true =>
      simp only [if_true]
      have := h1 rfl
      exact ev_some (by rw [show alnum c = true from decide_eq_true (by omega)]; rfl)
    | false =>
      simp only [Bool.false_eq_true, if_false]
      have n0 := h0 rfl
      refine ev_ite (fun h => ev_some (by rw [show alnum c = true from decide_eq_true (by omega)]; rfl)) (fun h => ?_)
      rw [show alnum c = false from decide_eq_false (by omega), Bool.false_or]
      exact ev_ite (fun g => ev_ite (fun g' => ev_some (by rw [show digit c = true from decide_eq_true (by omega)]; rfl)) (fun g' => ev_some (by rw [show digit c = false from decide_eq_false (by omega)]; rfl))) (fun g => ev_some (by rw [show digit c = false from decide_eq_false (by omega)]; rfl))
  have hj0 : ∀ q : Bool, (q = true → c ≥ 97 ∧ c ≤ 122) → (q = false → ¬ (c ≥ 97 ∧ c ≤ 122)) → Ev (fun k => labels_letter.j0 k c b q) (alnum c || (digit c && !b)) := by
    intro q h1 h0
    refine ev_shift ?_
    simp only [labels_letter.j0]
    cases q with
    | true =>
      simp only [if_true]
      have := h1 rfl
      exact ev_some (by rw [show alnum c = true from decide_eq_true (by omega)]; rfl)
    | false =>
      simp only [Bool.false_eq_true, if_false]
      have n0 := h0 rfl
      exact ev_ite (fun h => hj1 _ (fun e => by simp at e; omega) (fun e => by simp at e; omega)) (fun h => hj1 _ (fun e => by cases e) (fun _ => by omega))
  unfold labels_letter.f
  exact ev_ite (fun h => hj0 _ (fun e => by simp at e; omega) (fun e => by simp at e; omega)) (fun h => hj0 _ (fun e => by cases e) (fun _ => by omega))
def lets (s : ByteArray) (j : Nat) : Bool := alnum (bt s j) || (digit (bt s j) && !((j : Int) == 0))
def mayNameB (s : ByteArray) : Bool := allFrom (lets s) 0 s.size && (decide (0 < s.size) && decide (s.size ≤ 64))
theorem ev_mayName_l (s : ByteArray) (hs : s.size ≤ 140737488351232) : ∀ d i : Nat, i + d = s.size → Ev (fun k => labels_MayName.l0 k s (s.size : Int) (i : Int)) (allFrom (lets s) i d && (decide (0 < s.size) && decide (s.size ≤ 64)))
  | 0, i, h => by
    refine ev_shift ?_
    simp only [labels_MayName.l0]
    refine ev_ite (fun g => by omega) (fun g => ev_ite (fun e => ev_some ?_) (fun e => ev_some ?_))
    · rw [decide_eq_false (p := 0 < s.size) (by have := (toList_nil s).1 e; omega)]
      simp
    · rw [decide_eq_true (p := 0 < s.size) (by have : ¬ s.size = 0 := fun e' => e ((toList_nil s).2 e'); omega)]
      simp [allFrom]
      omega
  | d + 1, i, h => by
    refine ev_shift ?_
    simp only [labels_MayName.l0]
    refine ev_ite (fun g => ev_ite (fun g1 => ev_ite (fun g2 => Ev.bind (ev_letter _ _) (ev_ite (fun g3 => ?_) (fun g3 => ev_some ?_))) (fun g2 => absurd g g2)) (fun g1 => by omega)) (fun g => by omega)
    · rw [wrap_succ (n := s.size) (by omega) hs]
      refine ev_is (ev_mayName_l s hs d (i + 1) (by omega)) ?_
      have e : lets s i = true := g3
      rw [allFrom, e, Bool.true_and]
    · have e : lets s i = false := Bool.eq_false_iff.mpr g3
      rw [allFrom, e]
      rfl
theorem ev_mayName (s : ByteArray) (hs : s.size ≤ 140737488351232) : Ev (fun k => labels_MayName.f k s) (mayNameB s) := ev_mayName_l s hs s.size 0 (by omega)

/-- The document's: no digit at the begin. -/
theorem ev_ref05_l (s : ByteArray) (hs : s.size ≤ 140737488351232) : ∀ d i : Nat, i + d = s.size → Ev (fun k => batonref05_MayName.l0 k s (i : Int)) (allFrom (fun j => alnum (bt s j) || digit (bt s j)) i d)
  | 0, i, h => by
    refine ev_shift ?_
    simp only [batonref05_MayName.l0]
    exact ev_ite (fun g => by omega) (fun g => ev_some rfl)
  | d + 1, i, h => by
    refine ev_shift ?_
    simp only [batonref05_MayName.l0]
    have yes : (alnum (bt s i) || digit (bt s i)) = true → Ev (fun k => batonref05_MayName.l0 k s (wrap64 ((i : Int) + 1))) (allFrom (fun j => alnum (bt s j) || digit (bt s j)) i (d + 1)) := by
      intro e
      rw [wrap_succ (n := s.size) (by omega) hs]
      refine ev_is (ev_ref05_l s hs d (i + 1) (by omega)) ?_
      rw [allFrom, e, Bool.true_and]
    have no : (alnum (bt s i) || digit (bt s i)) = false → Ev (fun _ => some false) (allFrom (fun j => alnum (bt s j) || digit (bt s j)) i (d + 1)) := by
      intro e
      refine ev_some ?_
      rw [allFrom, e]
      rfl
    have y : (bt s i ≥ 97 ∧ bt s i ≤ 122 ∨ bt s i ≥ 65 ∧ bt s i ≤ 90 ∨ bt s i = 95 ∨ bt s i ≥ 48 ∧ bt s i ≤ 57) → (alnum (bt s i) || digit (bt s i)) = true := by
      intro h
      simp [alnum, digit]
      omega
    have n : ¬ (bt s i ≥ 97 ∧ bt s i ≤ 122 ∨ bt s i ≥ 65 ∧ bt s i ≤ 90 ∨ bt s i = 95 ∨ bt s i ≥ 48 ∧ bt s i ≤ 57) → (alnum (bt s i) || digit (bt s i)) = false := by
      intro h
      simp [alnum, digit]
      omega
    refine ev_ite (fun g => ev_ite (fun g1 => ?_) (fun g1 => by omega)) (fun g => by omega)
    repeat' (refine ev_ite (fun _ => ?_) (fun _ => ?_))
    all_goals first | exact yes (y (by omega)) | exact no (n (by omega))
theorem allFrom_eq {p q : Nat → Bool} : ∀ d i, (∀ j, i ≤ j → j < i + d → p j = q j) → allFrom p i d = allFrom q i d
  | 0, _, _ => rfl
  | d + 1, i, h => by rw [allFrom, allFrom, h i (by omega) (by omega), allFrom_eq d (i + 1) (fun j h1 h2 => h j (by omega) (by omega))]
theorem mayName_eq (s : ByteArray) (h0 : 0 < s.size) (h1 : s.size ≤ 64) : mayNameB s = (!digit (bt s 0) && allFrom (fun j => alnum (bt s j) || digit (bt s j)) 0 s.size) := by
  unfold mayNameB
  rw [decide_eq_true h0, decide_eq_true h1]
  obtain ⟨d, hd⟩ : ∃ d, s.size = d + 1 := ⟨s.size - 1, by omega⟩
  rw [hd, allFrom, allFrom]
  have e : allFrom (lets s) (0 + 1) d = allFrom (fun j => alnum (bt s j) || digit (bt s j)) (0 + 1) d := by
    refine allFrom_eq d 1 (fun j h2 _ => ?_)
    unfold lets
    have : ((j : Int) == 0) = false := by simp; omega
    rw [this]
    simp
  rw [e]
  unfold lets
  have hx : alnum (bt s ((0 : Nat) : Int)) = true → digit (bt s ((0 : Nat) : Int)) = false := by
    intro h
    simp [alnum] at h
    simp [digit]
    omega
  generalize alnum (bt s ((0 : Nat) : Int)) = a at *
  have : bt s 0 = bt s ((0 : Nat) : Int) := rfl
  rw [this]
  generalize digit (bt s ((0 : Nat) : Int)) = b at *
  generalize allFrom (fun j => alnum (bt s j) || digit (bt s j)) (0 + 1) d = c
  cases a <;> cases b <;> simp_all
theorem ev_ref05 (s : ByteArray) (hs : s.size ≤ 140737488351232) : Ev (fun k => batonref05_MayName.f k s) (mayNameB s) := by
  have hj : ∀ q : Bool, Ev (fun k => batonref05_MayName.j0 k s q) (!q && allFrom (fun j => alnum (bt s j) || digit (bt s j)) 0 s.size) := by
    intro q
    refine ev_shift ?_
    simp only [batonref05_MayName.j0]
    cases q with
    | true => exact ev_some rfl
    | false =>
      simp only [Bool.false_eq_true, if_false]
      exact ev_is (ev_ref05_l s hs s.size 0 (by omega)) (by simp)
  unfold batonref05_MayName.f
  refine ev_ite (fun h => ?_) (fun h => ev_ite (fun g => ?_) (fun g => ev_ite (fun h0 => ev_ite (fun h1 => ?_) (fun h1 => ?_)) (fun h0 => ?_)))
  · refine ev_is (hj true) ?_
    unfold mayNameB
    rw [decide_eq_false (p := 0 < s.size) (by have := (toList_nil s).1 h; omega)]
    simp
  · refine ev_is (hj true) ?_
    unfold mayNameB
    rw [decide_eq_false (p := s.size ≤ 64) (by omega)]
    simp
  · refine ev_is (hj _) ?_
    rw [mayName_eq s (by omega) (by omega)]
    congr 2
    unfold digit
    by_cases h2 : bt s 0 ≤ 57
    · rw [decide_eq_true h2, decide_eq_true ⟨h1, h2⟩]
    · rw [decide_eq_false h2, decide_eq_false (fun x => h2 x.2)]
  · refine ev_is (hj _) ?_
    rw [mayName_eq s (by omega) (by omega)]
    congr 2
    unfold digit
    rw [decide_eq_false (fun x => h1 x.1)]
  · have : ¬ s.size = 0 := fun e => h ((toList_nil s).2 e)
    omega
/-! ### the document's names -/
def signs : ByteArray := (⟨#[97, 98, 99, 100, 101, 102, 103, 104, 105, 106, 107, 108, 109, 110, 111, 112, 113, 114, 115, 116, 117, 118, 119, 120, 121, 122, 65, 66, 67, 68, 69, 70, 71, 72, 73, 74, 75, 76, 77, 78, 79, 80, 81, 82, 83, 84, 85, 86, 87, 88, 89, 90, 48, 49, 50, 51, 52, 53, 54, 55, 56, 57, 45, 95, 46]⟩ : ByteArray)
theorem ev_in (c : Int) (x : ByteArray) (hx : x.size ≤ 1000) : ∀ d i : Nat, i + d = x.size → Ev (fun k => batonref11_in.l0 k c x (i : Int)) (anyFrom (fun j => decide (bt x j = c)) i d)
  | 0, i, h => by
    refine ev_shift ?_
    simp only [batonref11_in.l0]
    exact ev_ite (fun g => by omega) (fun g => ev_some rfl)
  | d + 1, i, h => by
    refine ev_shift ?_
    simp only [batonref11_in.l0]
    refine ev_ite (fun g => ev_ite (fun g1 => ev_ite (fun g2 => ev_some ?_) (fun g2 => ?_)) (fun g1 => by omega)) (fun g => by omega)
    · rw [anyFrom, decide_eq_true g2]
      rfl
    · rw [wrap_succ (n := x.size) (by omega) (by omega)]
      refine ev_is (ev_in c x hx d (i + 1) (by omega)) ?_
      rw [anyFrom, decide_eq_false g2]
      rfl
theorem signs_all : (List.range 256).all (fun c => anyFrom (fun j => decide (bt signs j = (c : Int))) 0 65 == decide (2 ≤ ofI c)) = true := by decide +kernel
theorem signs_is (s : ByteArray) (j : Int) : anyFrom (fun i => decide (bt signs i = bt s j)) 0 65 = decide (2 ≤ ofI (bt s j)) := by
  obtain ⟨h0, h1⟩ := bt_range s j
  obtain ⟨n, hn⟩ : ∃ n : Nat, bt s j = n := ⟨(bt s j).toNat, by omega⟩
  have := List.all_eq_true.1 signs_all n (List.mem_range.2 (by omega))
  rw [hn]
  exact eq_of_beq this
theorem ev_made (s : ByteArray) (hs : s.size ≤ 140737488351232) : ∀ d i : Nat, i + d = s.size → Ev (fun k => batonref11_made.l0 k s signs (i : Int)) (allFrom (fun j => decide (2 ≤ ofI (bt s j))) i d)
  | 0, i, h => by
    refine ev_shift ?_
    simp only [batonref11_made.l0]
    exact ev_ite (fun g => by omega) (fun g => ev_some rfl)
  | d + 1, i, h => by
    refine ev_shift ?_
    simp only [batonref11_made.l0]
    have hin : Ev (fun k => batonref11_in.f k (bt s i) signs) (decide (2 ≤ ofI (bt s i))) := ev_is (ev_in (bt s i) signs (by decide +kernel) 65 0 (by decide +kernel)) (signs_is s i)
    refine ev_ite (fun g => ev_ite (fun g1 => Ev.bind hin (ev_ite (fun g2 => ?_) (fun g2 => ev_some ?_))) (fun g1 => by omega)) (fun g => by omega)
    · rw [wrap_succ (n := s.size) (by omega) hs]
      refine ev_is (ev_made s hs d (i + 1) (by omega)) ?_
      rw [allFrom, g2, Bool.true_and]
    · rw [allFrom, Bool.eq_false_iff.mpr g2]
      rfl
theorem ev_ref11 (s : ByteArray) (hs : s.size ≤ 140737488351232) : Ev (fun k => batonref11_Name.f k s) (nameB s) := by
  unfold batonref11_Name.f
  refine ev_ite (fun h => Ev.bind (a := nameB s) ?_ (ev_some rfl)) (fun h => ev_some ?_)
  · unfold batonref11_made.f nameB
    rw [decide_eq_true (p := 0 < s.size) (by omega), Bool.true_and]
    refine ev_ite (fun g => ev_some ?_) (fun g => ?_)
    · rw [decide_eq_false (p := s.size ≤ 24) (by omega), Bool.and_false]
    · rw [decide_eq_true (p := s.size ≤ 24) (by omega), Bool.and_true]
      exact ev_made s hs s.size 0 (by omega)
  · unfold nameB
    rw [decide_eq_false (p := 0 < s.size) (by omega)]
    rfl

/-! ### records -/
def recB (p : ByteArray) (e a : Int) : Bool := nameB p && (decide (1 ≤ e) && (decide (e ≤ 1099511627776) && (decide (0 ≤ a) && decide (a ≤ 1125899906842624))))
theorem ev_rec_tail (p : ByteArray) (e a : Int) : (if nameB p = true then (if e ≥ 1 then (if e ≤ 1099511627776 then (if a ≥ 0 then (some (decide (a ≤ 1125899906842624))) else (some false)) else (some false)) else (some false)) else (some false)) = some (recB p e a) := by
  unfold recB
  cases nameB p with
  | false => rfl
  | true =>
    simp only [if_true, Bool.true_and]
    by_cases h1 : e ≥ 1
    · rw [if_pos h1, decide_eq_true (p := 1 ≤ e) h1]
      by_cases h2 : e ≤ 1099511627776
      · rw [if_pos h2, decide_eq_true h2]
        by_cases h3 : a ≥ 0
        · rw [if_pos h3, decide_eq_true (p := 0 ≤ a) h3]
          rfl
        · rw [if_neg h3, decide_eq_false (p := 0 ≤ a) h3]
          rfl
      · rw [if_neg h2, decide_eq_false h2]
        rfl
    · rw [if_neg h1, decide_eq_false (p := 1 ≤ e) h1]
      rfl
theorem ev_rec (p : ByteArray) (e a : Int) (g : Bool) (hs : p.size ≤ 140737488351232) : Ev (fun k => record_May.f k p e a g) (recB p e a) := by
  unfold record_May.f
  refine Ev.bind (ev_name p hs) ?_
  exact Ev.congr (fun _ => ev_rec_tail p e a) (Ev.now _)
theorem ev_ref18 (p : ByteArray) (e a : Int) (g : Bool) (hs : p.size ≤ 140737488351232) : Ev (fun k => batonref18_May.f k p e a g) (recB p e a) := by
  unfold batonref18_May.f
  refine Ev.bind (ev_ref11 p hs) ?_
  exact Ev.congr (fun _ => ev_rec_tail p e a) (Ev.now _)
end Go.Proofs.Ytijjdgmcjienlaa.PL
