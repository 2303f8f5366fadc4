/- Zu: texts of this claim, laid together. -/
import Derived.Below
import Derived.OneCell
import Derived.Laws.Tables
import Derived.Laws.OwnMore
import Derived.Deep.Draws
import Derived.Deep.QuietTactic
import Derived.Test.YtagkobpbhfkmdaaZu5
/-! from FR -/
namespace Go.Proofs.Ytagkobpbhfkmdaa.C
open Go.RowKit Go.ChangeMaps
set_option linter.unusedVariables false
/-- w' is w with new blocks, and of the old ones those of F alone may have turned. -/
structure Fr (F : Nat → Prop) (w w' : World) : Prop where
  os : w'.os = w.os
  tape : w'.tape = w.tape
  output : w'.output = w.output
  size : w.heap.size ≤ w'.heap.size
  block : ∀ k, k < w.heap.size → ¬ F k → w'.heap[k]? = w.heap[k]?
theorem Fr.refl (F : Nat → Prop) (w : World) : Fr F w w := ⟨rfl, rfl, rfl, Nat.le_refl _, fun _ _ _ => rfl⟩
theorem Fr.trans {F G : Nat → Prop} {a b c : World} (h : Fr F a b) (k : Fr G b c) (hG : ∀ i, i < a.heap.size → G i → F i) : Fr F a c :=
  ⟨k.os.trans h.os, k.tape.trans h.tape, k.output.trans h.output, Nat.le_trans h.size k.size, fun i hi hn => (k.block i (Nat.lt_of_lt_of_le hi h.size) (fun g => hn (hG i hi g))).trans (h.block i hi hn)⟩
theorem Fr.mono {F G : Nat → Prop} {a b : World} (h : Fr F a b) (hG : ∀ i, F i → G i) : Fr G a b := ⟨h.os, h.tape, h.output, h.size, fun k hk hn => h.block k hk (fun f => hn (hG k f))⟩
theorem Fr.drew {F : Nat → Prop} {a w : World} (h : Fr F a w) : Fr F a w.drew := ⟨h.os, h.tape, h.output, h.size, h.block⟩
theorem Fr.drewN {F : Nat → Prop} {a w : World} (h : Fr F a w) (n : Nat) : Fr F a (w.drewN n) := ⟨h.os, h.tape, h.output, h.size, h.block⟩
theorem Fr.alloc {F : Nat → Prop} {a w : World} (h : Fr F a w) (o : Obj) : Fr F a (w.alloc o) :=
  h.trans (G := fun _ => False) ⟨rfl, rfl, rfl, by simp, fun k hk _ => Below.heap_alloc _ _ _ (by omega)⟩ (fun _ _ f => f.elim)
theorem Fr.setCell {F : Nat → Prop} {a w : World} (h : Fr F a w) {p : Addr} (hp : F p.block ∨ a.heap.size ≤ p.block) (u : Value) : Fr F a (w.setCell p u) :=
  h.trans (G := fun k => k = p.block) ⟨rfl, rfl, rfl, by simp [World.setCell], fun k hk hn => Below.heap_setCell _ _ _ _ hn⟩ (fun i hi e => by subst e; rcases hp with hp | hp; exact hp; omega)
theorem Fr.setBlock {F : Nat → Prop} {a w : World} (h : Fr F a w) {g : Nat} (hp : F g ∨ a.heap.size ≤ g) (o : Obj) : Fr F a (setBlock w g o) :=
  h.trans (G := fun k => k = g) ⟨rfl, rfl, rfl, by simp [ChangeMaps.setBlock], fun k hk hn => by
    simp only [ChangeMaps.setBlock]
    rw [Array.getElem?_setIfInBounds_ne (fun e => hn e.symm)]⟩ (fun i hi e => by subst e; rcases hp with hp | hp; exact hp; omega)
theorem Fr.below {F : Nat → Prop} {a w : World} (h : Fr F a w) {B : Nat} (hB : B ≤ a.heap.size) (hF : ∀ k, F k → B ≤ k) : Below B a w :=
  ⟨h.os, h.tape, h.output, h.size, fun k hk => h.block k (by omega) (fun f => by have := hF k f; omega)⟩
theorem Fr.of_below {a w : World} {B : Nat} (h : Below B a w) : Fr (fun k => B ≤ k) a w := ⟨h.os, h.tape, h.output, h.size, fun k hk hn => h.block k (by omega)⟩
theorem Fr.of_new {F : Nat → Prop} {a w : World} (h : Below a.heap.size a w) : Fr F a w := ⟨h.os, h.tape, h.output, h.size, fun k hk hn => h.block k hk⟩
theorem Fr.of_grown {F : Nat → Prop} {a w : World} {row : Option Nat} (h : a.grownBy w row) (hr : ∀ k, row = some k → F k) : Fr F a w := ⟨h.os, h.tape, h.output, h.size, fun k hk hn => h.block k hk (fun e => hn (hr k e.symm))⟩
/-- Then something new: what is new behind the first part may be written by the second. -/
theorem Fr.then {F G : Nat → Prop} {a b c : World} (h : Fr F a b) (k : Fr G b c) (hG : ∀ i, G i → F i ∨ a.heap.size ≤ i) : Fr F a c :=
  h.trans k (fun i hi g => by rcases hG i g with f | f; exact f; omega)
theorem Fr.heap {F : Nat → Prop} {a w : World} (h : Fr F a w) {g : Nat} {o : Obj} (hg : a.heap[g]? = some o) (hn : ¬ F g) : w.heap[g]? = some o := (h.block g (lt_of_block hg) hn).trans hg
theorem heap_setBlock_ne (w : World) {b g : Nat} (o : Obj) (h : b ≠ g) : (setBlock w b o).heap[g]? = w.heap[g]? := by
  simp only [ChangeMaps.setBlock]
  rw [Array.getElem?_setIfInBounds_ne h]
theorem heap_setBlock_eq {w : World} {b : Nat} {o : Obj} (o' : Obj) (h : w.heap[b]? = some o) : (setBlock w b o').heap[b]? = some o' := by
  have hlt := lt_of_block h
  simp only [ChangeMaps.setBlock]
  rw [Array.getElem?_setIfInBounds_self_of_lt hlt]
theorem heap_setCell_eq {w : World} {g j : Nat} {cs : Array Value} {t : TypeId} {fr : Nat × Nat} (v : Value) (h : w.heap[g]? = some (.cells cs t fr)) : (w.setCell ⟨g, j, none⟩ v).heap[g]? = some (.cells (cs.setIfInBounds j v) t fr) := by
  have hlt := lt_of_block h
  have h' : w.heap[g] = .cells cs t fr := by simpa [Array.getElem?_eq_getElem hlt] using h
  show (w.heap.modify g _)[g]? = _
  rw [Array.getElem?_eq_getElem (by simpa using hlt), Array.getElem_modify_self, h']
  rfl
theorem cell_at {w : World} {g : Nat} {t : TypeId} {cs : Array Value} (h : w.heap[g]? = some (.cells cs t (0, 0))) (i : Nat) : w.cell? ⟨g, i, none⟩ = cs[i]? := by simp [World.cell?, h]
theorem free_at {w : World} {g : Nat} {t : TypeId} {cs : Array Value} (h : w.heap[g]? = some (.cells cs t (0, 0))) (i : Nat) : w.frozen? ⟨g, i, none⟩ = false := by simp [World.frozen?, h]
/-- A fact set aside. -/
structure Aside (p : Prop) : Prop where
  out : p
end Go.Proofs.Ytagkobpbhfkmdaa.C
/-! from TP -/
namespace Go.Proofs.Ytagkobpbhfkmdaa.C
open Go.RowKit
set_option linter.unusedVariables false
/-- An entry. -/
structure Ent where
  key : ByteArray
  val : ByteArray
  made : Int
  mod : Int
deriving DecidableEq
/-- One text ahead of another one, as Go has it. -/
def slt (a b : ByteArray) : Bool := Op.bytesLess a.toList b.toList
/-- A tree of entries by keys, as it lies. -/
inductive Shf
  | nil
  | node (k : ByteArray) (e : Ent) (l r : Shf) (h : Int)
namespace Shf
def ht : Shf → Int
  | nil => 0
  | node _ _ _ _ h => h
def cnt : Shf → Nat
  | nil => 0
  | node _ _ l r _ => cnt l + cnt r + 1
/-- The heights are what they should be. -/
def ok : Shf → Prop
  | nil => True
  | node _ _ l r h => ok l ∧ ok r ∧ h = 1 + max l.ht r.ht
def wth (k : ByteArray) (e : Ent) (l r : Shf) : Shf := node k e l r (1 + max l.ht r.ht)
/-- A left side that is higher by two. -/
def lvlL (k : ByteArray) (e : Ent) (l r : Shf) : Shf :=
  match l with
  | nil => nil
  | node lk le ll lr _ =>
    if lr.ht ≤ ll.ht then wth lk le ll (wth k e lr r)
    else match lr with
      | nil => nil
      | node mk me ml mr _ => wth mk me (wth lk le ll ml) (wth k e mr r)
def lvlR (k : ByteArray) (e : Ent) (l r : Shf) : Shf :=
  match r with
  | nil => nil
  | node rk re rl rr _ =>
    if rl.ht ≤ rr.ht then wth rk re (wth k e l rl) rr
    else match rl with
      | nil => nil
      | node mk me ml mr _ => wth mk me (wth k e l ml) (wth rk re mr rr)
def lvl (k : ByteArray) (e : Ent) (l r : Shf) : Shf :=
  if 1 < l.ht - r.ht then lvlL k e l r else if l.ht - r.ht < -1 then lvlR k e l r else wth k e l r
def put (k : ByteArray) (e : Ent) : Shf → Shf
  | nil => node k e nil nil 1
  | node sk se l r h => if slt k sk = true then lvl sk se (put k e l) r else if (slt k sk || k.toList == sk.toList) = false then lvl sk se l (put k e r) else node k e l r h
theorem ht_pos : ∀ {t : Shf}, ok t → 0 ≤ t.ht
  | nil, _ => Int.le_refl _
  | node _ _ l r h, ⟨hl, hr, e⟩ => by have := ht_pos hl; have := ht_pos hr; show 0 ≤ h; omega
theorem ht_cnt : ∀ {t : Shf}, ok t → t.ht ≤ t.cnt
  | nil, _ => Int.le_refl _
  | node _ _ l r h, ⟨hl, hr, e⟩ => by have := ht_cnt hl; have := ht_cnt hr; show h ≤ ((cnt l + cnt r + 1 : Nat) : Int); omega
theorem wth_ok {k : ByteArray} {e : Ent} {l r : Shf} (hl : ok l) (hr : ok r) : ok (wth k e l r) := ⟨hl, hr, rfl⟩
theorem wth_cnt (k : ByteArray) (e : Ent) (l r : Shf) : (wth k e l r).cnt = l.cnt + r.cnt + 1 := rfl
theorem ht_nil : (nil : Shf).ht = 0 := rfl
theorem lvlL_a {k lk : ByteArray} {e le : Ent} {ll lr r : Shf} {h : Int} (hc : lr.ht ≤ ll.ht) : lvlL k e (node lk le ll lr h) r = wth lk le ll (wth k e lr r) := if_pos hc
theorem lvlL_b {k lk mk : ByteArray} {e le me : Ent} {ll ml mr r : Shf} {h mh : Int} (hc : ¬ (node mk me ml mr mh).ht ≤ ll.ht) : lvlL k e (node lk le ll (node mk me ml mr mh) h) r = wth mk me (wth lk le ll ml) (wth k e mr r) := if_neg hc
theorem lvlR_a {k rk : ByteArray} {e re : Ent} {rl rr l : Shf} {h : Int} (hc : rl.ht ≤ rr.ht) : lvlR k e l (node rk re rl rr h) = wth rk re (wth k e l rl) rr := if_pos hc
theorem lvlR_b {k rk mk : ByteArray} {e re me : Ent} {rr ml mr l : Shf} {h mh : Int} (hc : ¬ (node mk me ml mr mh).ht ≤ rr.ht) : lvlR k e l (node rk re (node mk me ml mr mh) rr h) = wth mk me (wth k e l ml) (wth rk re mr rr) := if_neg hc
theorem lvl_L {k : ByteArray} {e : Ent} {l r : Shf} (h : 1 < l.ht - r.ht) : lvl k e l r = lvlL k e l r := if_pos h
theorem lvl_R {k : ByteArray} {e : Ent} {l r : Shf} (h1 : ¬ 1 < l.ht - r.ht) (h : l.ht - r.ht < -1) : lvl k e l r = lvlR k e l r := by unfold lvl; rw [if_neg h1, if_pos h]
theorem lvlL_ok {k : ByteArray} {e : Ent} {l r : Shf} (hl : ok l) (hr : ok r) (h : 1 < l.ht - r.ht) : ok (lvlL k e l r) ∧ (lvlL k e l r).cnt = l.cnt + r.cnt + 1 := by
  cases l with
  | nil => have := ht_pos hr; rw [ht_nil] at h; omega
  | node lk le ll lr lh =>
    obtain ⟨h1, h2, h3⟩ := hl
    by_cases hc : lr.ht ≤ ll.ht
    · rw [lvlL_a hc]
      exact ⟨wth_ok h1 (wth_ok h2 hr), by simp only [wth_cnt, cnt]; omega⟩
    · cases lr with
      | nil => have := ht_pos h1; rw [ht_nil] at hc; omega
      | node mk me ml mr mh =>
        rw [lvlL_b hc]
        obtain ⟨h4, h5, _⟩ := h2
        exact ⟨wth_ok (wth_ok h1 h4) (wth_ok h5 hr), by simp only [wth_cnt, cnt]; omega⟩
theorem lvlR_ok {k : ByteArray} {e : Ent} {l r : Shf} (hl : ok l) (hr : ok r) (h : l.ht - r.ht < -1) : ok (lvlR k e l r) ∧ (lvlR k e l r).cnt = l.cnt + r.cnt + 1 := by
  cases r with
  | nil => have := ht_pos hl; rw [ht_nil] at h; omega
  | node rk re rl rr rh =>
    obtain ⟨h1, h2, h3⟩ := hr
    by_cases hc : rl.ht ≤ rr.ht
    · rw [lvlR_a hc]
      exact ⟨wth_ok (wth_ok hl h1) h2, by simp only [wth_cnt, cnt]; omega⟩
    · cases rl with
      | nil => have := ht_pos h2; rw [ht_nil] at hc; omega
      | node mk me ml mr mh =>
        rw [lvlR_b hc]
        obtain ⟨h4, h5, _⟩ := h1
        exact ⟨wth_ok (wth_ok hl h4) (wth_ok h5 h2), by simp only [wth_cnt, cnt]; omega⟩
theorem lvl_ok {k : ByteArray} {e : Ent} {l r : Shf} (hl : ok l) (hr : ok r) : ok (lvl k e l r) ∧ (lvl k e l r).cnt = l.cnt + r.cnt + 1 := by
  unfold lvl
  split
  · exact lvlL_ok hl hr (by assumption)
  · split
    · exact lvlR_ok hl hr (by assumption)
    · exact ⟨wth_ok hl hr, rfl⟩
theorem put_ok (k : ByteArray) (e : Ent) : ∀ {t : Shf}, ok t → ok (put k e t) ∧ (put k e t).cnt ≤ t.cnt + 1
  | nil, _ => ⟨⟨trivial, trivial, rfl⟩, Nat.le_refl _⟩
  | node sk se l r h, ⟨hl, hr, he⟩ => by
    unfold put
    split
    · have h1 := put_ok k e hl
      have h2 := lvl_ok (k := sk) (e := se) h1.1 hr
      exact ⟨h2.1, by rw [h2.2]; simp only [cnt]; omega⟩
    · split
      · have h1 := put_ok k e hr
        have h2 := lvl_ok (k := sk) (e := se) hl h1.1
        exact ⟨h2.1, by rw [h2.2]; simp only [cnt]; omega⟩
      · exact ⟨⟨hl, hr, he⟩, by simp only [cnt]; omega⟩
end Shf
end Go.Proofs.Ytagkobpbhfkmdaa.C
