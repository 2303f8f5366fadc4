/- Heaps of timers in a list: what a swap, a way up, a way down keep. Plain. -/
import Derived.Test.YtjefeoohfalcaaaQ2
namespace Go.Proofs.Ytjefeoohfalcaaa.C
set_option linter.unusedVariables false
theorem ahead_trans {a b c : Int × Int} (h1 : aheadB a b = true) (h2 : aheadB b c = true) : aheadB a c = true := by
  unfold aheadB at *; simp only [decide_eq_true_eq] at *; omega
theorem ahead_irrefl (a : Int × Int) : aheadB a a = false := by unfold aheadB; simp
/-- b is not ahead of a. -/
def le (a b : Int × Int) : Prop := aheadB b a = false
theorem le_trans {a b c : Int × Int} (h1 : le a b) (h2 : le b c) : le a c := by
  unfold le aheadB at *; simp only [decide_eq_false_iff_not] at *; omega
theorem le_of_ahead {a b : Int × Int} (h : aheadB a b = true) : le a b := by
  unfold le; unfold aheadB at *; simp only [decide_eq_false_iff_not, decide_eq_true_eq] at *; omega
theorem le_refl (a : Int × Int) : le a a := ahead_irrefl a
theorem le_or (a b : Int × Int) : le a b ∨ le b a := by
  unfold le aheadB; simp only [decide_eq_false_iff_not]; omega
def leAt (l : List (Int × Int)) (a b : Nat) : Prop := ∀ x y, l[a]? = some x → l[b]? = some y → le x y
/-- A heap of n, but for what is asked of k by X. -/
def HeapX (l : List (Int × Int)) (n : Nat) (X : Nat → Prop) : Prop := ∀ k, 0 < k → k < n → ¬ X k → leAt l ((k - 1) / 2) k
def HeapN (l : List (Int × Int)) (n : Nat) : Prop := HeapX l n (fun _ => False)
/-- The children of j are not ahead of j's parent. -/
def Grand (l : List (Int × Int)) (n j : Nat) : Prop := ∀ k, 0 < k → k < n → (k - 1) / 2 = j → 0 < j → leAt l ((j - 1) / 2) k
def UpBut (l : List (Int × Int)) (n j : Nat) : Prop := HeapX l n (fun k => k = j) ∧ Grand l n j
def DownBut (l : List (Int × Int)) (n i : Nat) : Prop := HeapX l n (fun k => (k - 1) / 2 = i) ∧ Grand l n i
def BothBut (l : List (Int × Int)) (n i : Nat) : Prop := HeapX l n (fun k => k = i ∨ (k - 1) / 2 = i) ∧ Grand l n i
theorem swap_get {l : List (Int × Int)} {i j : Nat} (x y : Int × Int) (hi : i < l.length) (hj : j < l.length) (hij : i ≠ j) (k : Nat) :
    (swapL l i j x y)[k]? = if k = j then some x else if k = i then some y else l[k]? := by
  unfold swapL
  rw [List.getElem?_set, List.getElem?_set]
  by_cases h1 : j = k
  · subst h1
    simp [hj]
  · have h1' : ¬ k = j := fun e => h1 e.symm
    by_cases h2 : i = k
    · subst h2
      simp [hi, h1, h1']
    · have h2' : ¬ k = i := fun e => h2 e.symm
      simp [h1, h2, h1', h2']
theorem leAt_of {l : List (Int × Int)} {a b : Nat} {x y : Int × Int} (hx : l[a]? = some x) (hy : l[b]? = some y) (h : le x y) : leAt l a b := fun x' y' h1 h2 => by
  rw [hx] at h1; rw [hy] at h2; cases h1; cases h2; exact h
theorem up_step {l : List (Int × Int)} {n j : Nat} {x y : Int × Int} (h : UpBut l n j) (h0 : 0 < j) (hn : j < n) (hl : n ≤ l.length) (hx : l[(j - 1) / 2]? = some x) (hy : l[j]? = some y) (ha : aheadB y x = true) :
    UpBut (swapL l ((j - 1) / 2) j x y) n ((j - 1) / 2) := by
  have hij : (j - 1) / 2 ≠ j := by omega
  have g := swap_get x y (i := (j - 1) / 2) (j := j) (l := l) (by omega) (by omega) hij
  refine ⟨fun k h1 h2 h3 => ?_, fun k h1 h2 h3 h4 => ?_⟩
  · by_cases e1 : k = j
    · subst e1
      refine leAt_of (x := y) (y := x) ?_ ?_ (le_of_ahead ha)
      · rw [g]; rw [if_neg hij, if_pos rfl]
      · rw [g]; rw [if_pos rfl]
    · intro p q hp hq
      rw [g] at hp hq
      rw [if_neg e1] at hq
      by_cases e2 : k = (j - 1) / 2
      · exact absurd e2 h3
      · rw [if_neg e2] at hq
        by_cases e3 : (k - 1) / 2 = j
        · rw [if_pos e3] at hp
          cases hp
          exact h.2 k h1 h2 e3 h0 _ _ hx hq
        · rw [if_neg e3] at hp
          by_cases e4 : (k - 1) / 2 = (j - 1) / 2
          · rw [if_pos e4] at hp
            cases hp
            have := h.1 k h1 h2 e1 x q (by rw [e4]; exact hx) hq
            exact le_trans (le_of_ahead ha) this
          · rw [if_neg e4] at hp
            exact h.1 k h1 h2 e1 _ _ hp hq
  · intro p q hp hq
    rw [g] at hp hq
    have a1 : ¬ ((j - 1) / 2 - 1) / 2 = j := by omega
    have a2 : ¬ ((j - 1) / 2 - 1) / 2 = (j - 1) / 2 := by omega
    rw [if_neg a1, if_neg a2] at hp
    have hpx : le p x := h.1 ((j - 1) / 2) h4 (by omega) hij p x hp hx
    by_cases e1 : k = j
    · rw [if_pos e1] at hq
      cases hq
      exact hpx
    · rw [if_neg e1, if_neg (by omega)] at hq
      have := h.1 k h1 h2 e1 x q (by rw [h3]; exact hx) hq
      exact le_trans hpx this
theorem up_stop0 {l : List (Int × Int)} {n : Nat} (h : UpBut l n 0) : HeapN l n := fun k h1 h2 _ => h.1 k h1 h2 (by omega)
theorem up_stop {l : List (Int × Int)} {n j : Nat} {x y : Int × Int} (h : UpBut l n j) (hx : l[(j - 1) / 2]? = some x) (hy : l[j]? = some y) (ha : aheadB y x = false) : HeapN l n := fun k h1 h2 _ => by
  by_cases e : k = j
  · subst e; exact leAt_of hx hy ha
  · exact h.1 k h1 h2 e
theorem up_all {l : List (Int × Int)} {n j : Nat} (h : UpBut l n j) (hj : n ≤ j) : HeapN l n := fun k h1 h2 _ => h.1 k h1 h2 (by omega)
/-- A step down: j is the child of i that is not behind the other one. -/
theorem down_step {l : List (Int × Int)} {n i j : Nat} {x y : Int × Int} (h : BothBut l n i) (hj : j < n) (hl : n ≤ l.length) (hc : (j - 1) / 2 = i) (h0 : 0 < j) (hx : l[i]? = some x) (hy : l[j]? = some y) (ha : aheadB y x = true)
    (hleast : ∀ k, 0 < k → k < n → (k - 1) / 2 = i → leAt l j k) : DownBut (swapL l i j x y) n j := by
  have hij : i ≠ j := by omega
  have hi : i < l.length := by omega
  have g := swap_get x y (i := i) (j := j) (l := l) hi (by omega) hij
  refine ⟨fun k h1 h2 h3 => ?_, fun k h1 h2 h3 h4 => ?_⟩
  · intro p q hp hq
    rw [g] at hp hq
    rw [if_neg h3] at hp
    by_cases e1 : k = j
    · rw [if_pos e1] at hq
      cases hq
      subst e1
      rw [if_pos hc] at hp
      cases hp
      exact le_of_ahead ha
    · rw [if_neg e1] at hq
      by_cases e2 : k = i
      · rw [if_pos e2] at hq
        cases hq
        subst e2
        rw [if_neg (by omega)] at hp
        exact h.2 j h0 hj hc h1 p y hp hy
      · rw [if_neg e2] at hq
        by_cases e3 : (k - 1) / 2 = i
        · rw [if_pos e3] at hp
          cases hp
          exact hleast k h1 h2 e3 y q hy hq
        · rw [if_neg e3] at hp
          exact h.1 k h1 h2 (by omega) p q hp hq
  · intro p q hp hq
    rw [g] at hp hq
    rw [hc, if_neg hij, if_pos rfl] at hp
    cases hp
    rw [if_neg (by omega), if_neg (by omega)] at hq
    exact h.1 k h1 h2 (by omega) y q (by rw [h3]; exact hy) hq
theorem DownBut.both {l : List (Int × Int)} {n i : Nat} (h : DownBut l n i) : BothBut l n i := ⟨fun k h1 h2 h3 => h.1 k h1 h2 (fun e => h3 (.inr e)), h.2⟩
theorem UpBut.both {l : List (Int × Int)} {n i : Nat} (h : UpBut l n i) : BothBut l n i := ⟨fun k h1 h2 h3 => h.1 k h1 h2 (fun e => h3 (.inl e)), h.2⟩
/-- No step down: i's children are not ahead of it. -/
theorem down_stop {l : List (Int × Int)} {n i : Nat} (h : DownBut l n i) (hk : ∀ k, 0 < k → k < n → (k - 1) / 2 = i → leAt l i k) : HeapN l n := fun k h1 h2 _ => by
  by_cases e : (k - 1) / 2 = i
  · rw [e]; exact hk k h1 h2 e
  · exact h.1 k h1 h2 e
theorem both_stop {l : List (Int × Int)} {n i : Nat} (h : BothBut l n i) (hk : ∀ k, 0 < k → k < n → (k - 1) / 2 = i → leAt l i k) : UpBut l n i := ⟨fun k h1 h2 h3 => by
  by_cases e : (k - 1) / 2 = i
  · rw [e]; exact hk k h1 h2 e
  · exact h.1 k h1 h2 (by omega), h.2⟩
/-- The head of a heap is not behind any. -/
theorem heap_head {l : List (Int × Int)} {n : Nat} (h : HeapN l n) (hl : n ≤ l.length) : ∀ k, k < n → leAt l 0 k := by
  intro k
  induction k using Nat.strongRecOn with
  | _ k ih =>
    intro hk
    by_cases e : k = 0
    · subst e
      intro x y hx hy
      rw [hx] at hy; cases hy
      exact le_refl x
    · intro x y hx hy
      have h1 : (k - 1) / 2 < l.length := by omega
      have h2 := ih ((k - 1) / 2) (by omega) (by omega) x _ hx (List.getElem?_eq_getElem h1)
      exact le_trans h2 (h k (by omega) hk (fun f => f) _ _ (List.getElem?_eq_getElem h1) hy)
/-! ### places -/
def Ids (l : List (Int × Int)) : Prop := (l.map (·.1)).Nodup
/-- f tells where each number lies. -/
def Placed (l : List (Int × Int)) (f : Int → Option Int) : Prop := ∀ (id i : Int), f id = some i ↔ ∃ k : Nat, (k : Int) = i ∧ (l[k]?).map (·.1) = some id
theorem Ids.inj {l : List (Int × Int)} (h : Ids l) {i j : Nat} {x y : Int × Int} (hx : l[i]? = some x) (hy : l[j]? = some y) (e : x.1 = y.1) : i = j := by
  have h1 : (l.map (·.1))[i]? = some x.1 := by rw [List.getElem?_map, hx]; rfl
  have h2 : (l.map (·.1))[j]? = some x.1 := by rw [List.getElem?_map, hy, e]; rfl
  exact (List.getElem?_inj (List.getElem?_eq_some_iff.1 h1).1 h).1 (h1.trans h2.symm)
theorem Placed.at {l : List (Int × Int)} {f : Int → Option Int} (h : Placed l f) {i : Nat} {x : Int × Int} (hx : l[i]? = some x) : f x.1 = some (i : Int) := (h _ _).2 ⟨i, rfl, by rw [hx]; rfl⟩
theorem Placed.isSome {l : List (Int × Int)} {f : Int → Option Int} (h : Placed l f) {i : Nat} {x : Int × Int} (hx : l[i]? = some x) : (f x.1).isSome = true := by rw [h.at hx]; rfl
theorem swap_perm {l : List (Int × Int)} {i j : Nat} {x y : Int × Int} (hx : l[i]? = some x) (hy : l[j]? = some y) (hij : i ≠ j) : (swapL l i j x y).Perm l := by
  have hi := (List.getElem?_eq_some_iff.1 hx).1
  have hj := (List.getElem?_eq_some_iff.1 hy).1
  unfold swapL
  have e1 : x = l[i] := (List.getElem?_eq_some_iff.1 hx).2.symm
  have e2 : y = l[j] := (List.getElem?_eq_some_iff.1 hy).2.symm
  subst e1; subst e2
  exact List.set_set_perm hi hj
theorem swap_placed {l : List (Int × Int)} {f : Int → Option Int} {i j : Nat} {x y : Int × Int} (hI : Ids l) (hP : Placed l f) (hx : l[i]? = some x) (hy : l[j]? = some y) (hij : i ≠ j) :
    Placed (swapL l i j x y) (upd (upd f y.1 (some (i : Int))) x.1 (some (j : Int))) := by
  have hi := (List.getElem?_eq_some_iff.1 hx).1
  have hj := (List.getElem?_eq_some_iff.1 hy).1
  have hxy : x.1 ≠ y.1 := fun e => hij (hI.inj hx hy e)
  have g := swap_get x y hi hj hij
  intro id p
  by_cases e1 : id = x.1
  · subst e1
    rw [upd_same]
    constructor
    · intro h
      cases h
      exact ⟨j, rfl, by rw [g, if_pos rfl]; rfl⟩
    · rintro ⟨k, rfl, hk⟩
      rw [g] at hk
      by_cases e2 : k = j
      · subst e2; rfl
      · rw [if_neg e2] at hk
        by_cases e3 : k = i
        · rw [if_pos e3] at hk
          simp at hk
          exact absurd hk.symm hxy
        · rw [if_neg e3] at hk
          obtain ⟨z, hz, hz2⟩ := Option.map_eq_some_iff.1 hk
          exact absurd (hI.inj hz hx hz2) e3
  · rw [upd_other _ _ e1]
    by_cases e4 : id = y.1
    · subst e4
      rw [upd_same]
      constructor
      · intro h
        cases h
        exact ⟨i, rfl, by rw [g, if_neg hij, if_pos rfl]; rfl⟩
      · rintro ⟨k, rfl, hk⟩
        rw [g] at hk
        by_cases e2 : k = j
        · rw [if_pos e2] at hk
          simp at hk
          exact absurd hk hxy
        · rw [if_neg e2] at hk
          by_cases e3 : k = i
          · subst e3; rfl
          · rw [if_neg e3] at hk
            obtain ⟨z, hz, hz2⟩ := Option.map_eq_some_iff.1 hk
            exact absurd (hI.inj hz hy hz2) e2
    · rw [upd_other _ _ e4]
      rw [hP id p]
      constructor
      · rintro ⟨k, hk, h2⟩
        refine ⟨k, hk, ?_⟩
        rw [g]
        obtain ⟨z, hz, hz2⟩ := Option.map_eq_some_iff.1 h2
        rw [if_neg (fun e => e4 (by subst e; rw [hy] at hz; cases hz; exact hz2.symm)), if_neg (fun e => e1 (by subst e; rw [hx] at hz; cases hz; exact hz2.symm))]
        exact h2
      · rintro ⟨k, hk, h2⟩
        refine ⟨k, hk, ?_⟩
        rw [g] at h2
        by_cases e2 : k = j
        · rw [if_pos e2] at h2
          simp at h2
          exact absurd h2.symm e1
        · rw [if_neg e2] at h2
          by_cases e3 : k = i
          · rw [if_pos e3] at h2
            simp at h2
            exact absurd h2.symm e4
          · rw [if_neg e3] at h2
            exact h2
theorem Ids.perm {l l' : List (Int × Int)} (h : Ids l) (hp : l'.Perm l) : Ids l' := by
  have := (hp.map (fun x : Int × Int => x.1)).nodup_iff.2 h
  exact this
end Go.Proofs.Ytjefeoohfalcaaa.C
