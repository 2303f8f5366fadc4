/- What tells come to, plain: upto stays in its bounds, texts stay short. -/
import Derived.Test.YtagkobpbhfkmdaaCT
import Derived.Test.YtagkobpbhfkmdaaKN
namespace Go.Proofs.Ytagkobpbhfkmdaa.C
open Go.RowKit Go.Proofs.Ytagkobpbhfkmdaa.Q Go.Proofs.YtagkobpbhfkmdaaW.PrintLast Go.Proofs.YtagkobpbhfkmdaaW.PrintWords
set_option linter.unusedVariables false
def Few (s : S33) : Prop := s.f3.length ≤ 300 ∧ s.f4.length ≤ 300 ∧ s.f5.length ≤ 300 ∧ (∀ x ∈ s.f3, x.size < 20000) ∧ (∀ x ∈ s.f4, x.f0.size < 20000 ∧ x.f1.size < 20000) ∧ (∀ x ∈ s.f5, x.f2.size < 20000 ∧ x.f3.size < 20000)
def FOK (f : Fcts) : Prop := ∀ k v, f k = some v → v.x.val.size ≤ 1000000 ∧ (v.there = false → v.x = entZ)
def UOK (u : Int) : Prop := -1 ≤ u ∧ u ≤ 1099511627776
theorem FOK.upd {f : Fcts} (h : FOK f) {k : ByteArray} {v : Fct} (hv : v.x.val.size ≤ 1000000 ∧ (v.there = false → v.x = entZ)) : FOK (upd f k (some v)) := fun k2 v2 h2 => by
  by_cases e : k2 = k
  · subst e; rw [upd_same] at h2; cases h2; exact hv
  · rw [upd_other _ _ e] at h2; exact h k2 v2 h2
theorem FOK.drop {f : Fcts} (h : FOK f) (rev : Int) : FOK (dropM f rev) := fun k v hv => by
  unfold dropM at hv
  cases hf : f k with
  | none => rw [hf] at hv; cases hv
  | some v2 =>
    rw [hf] at hv
    dsimp only at hv
    split at hv
    · cases hv
    · cases hv; exact h k _ hf
theorem foldl_ok {α : Type} (g : Fcts → α → Fcts) : ∀ (l : List α) (f : Fcts), FOK f → (∀ f x, x ∈ l → FOK f → FOK (g f x)) → FOK (l.foldl g f)
  | [], f, h, _ => h
  | x :: l, f, h, hg => foldl_ok g l (g f x) (hg f x (by simp) h) (fun f y hy hf => hg f y (by simp [hy]) hf)
theorem list_ok {f : Fcts} {u : Int} (h : FOK f) (hu : UOK u) (rev : Int) (l : List En) (hl : ∀ x ∈ l, x.f1.size < 20000) : FOK (listM f u rev l).1.1 ∧ UOK (listM f u rev l).1.2 := by
  unfold listM
  by_cases ho : ofOK l rev = true
  · rw [if_pos ho]
    by_cases hr : rev ≤ u
    · rw [if_pos hr]; exact ⟨h, hu⟩
    · rw [if_neg hr]
      refine ⟨foldl_ok _ _ _ (h.drop rev) (fun f x hx hf => ?_), ?_⟩
      · unfold addL
        split
        · exact hf
        · exact hf.upd ⟨by have := hl x hx; show x.f1.size ≤ _; omega, fun h => by cases h⟩
      · unfold ofOK at ho
        simp only [Bool.and_eq_true, decide_eq_true_eq] at ho
        exact ⟨by show -1 ≤ rev; omega, ho.2.1⟩
  · rw [if_neg ho]; exact ⟨h, hu⟩
theorem watch_ok {f : Fcts} {u : Int} (h : FOK f) (hu : UOK u) (fr rev : Int) (l : List Ev) (hl : ∀ x ∈ l, x.f3.size < 20000) : FOK (watchM f u fr rev l).1.1 ∧ UOK (watchM f u fr rev l).1.2 := by
  unfold watchM
  by_cases ho : cmayB fr rev l = true
  · rw [if_pos ho]
    by_cases hr : u = -1 ∨ u + 1 < fr
    · rw [if_pos hr]; exact ⟨h, hu⟩
    · rw [if_neg hr]
      refine ⟨foldl_ok _ _ _ h (fun f x hx hf => ?_), ?_⟩
      · unfold stepW
        split
        · unfold happM
          refine hf.upd ?_
          have := hl x hx
          cases x.f1 with
          | true => exact ⟨Nat.zero_le _, fun _ => rfl⟩
          | false => exact ⟨by show x.f3.size ≤ _; omega, fun h => by cases h⟩
        · exact hf
      · unfold cmayB at ho
        simp only [Bool.and_eq_true, decide_eq_true_eq] at ho
        obtain ⟨h1, h2⟩ := hu
        show -1 ≤ maxI u rev ∧ maxI u rev ≤ 1099511627776
        unfold maxI
        constructor <;> (split <;> omega)
  · rw [if_neg ho]; exact ⟨h, hu⟩
theorem learn_ok {f : Fcts} (h : FOK f) (u rev : Int) (names : List ByteArray) (l : List En) (hl : ∀ x ∈ l, x.f1.size < 20000) : FOK (learnM f u rev names l).1 := by
  unfold learnM
  split
  · split
    · exact h
    · refine foldl_ok _ _ _ h (fun f k hk hf => ?_)
      unfold addN
      split
      · exact hf
      · refine hf.upd ?_
        unfold fndF
        cases hf2 : l.find? (fun x => eqT x.f0 k) with
        | none => exact ⟨Nat.zero_le _, fun _ => rfl⟩
        | some x =>
          have := hl x (List.mem_of_find?_eq_some hf2)
          exact ⟨by show x.f1.size ≤ _; omega, fun h => by cases h⟩
  · exact h
theorem tell_ok {f : Fcts} {u : Int} (h : FOK f) (hu : UOK u) {s : Sd} (hs : Few s) : FOK (tellM f u s).1.1 ∧ UOK (tellM f u s).1.2 := by
  unfold tellM
  split
  · exact list_ok h hu _ _ (fun x hx => (hs.2.2.2.2.1 x hx).2)
  · split
    · exact watch_ok h hu _ _ _ (fun x hx => (hs.2.2.2.2.2 x hx).2)
    · exact ⟨learn_ok h _ _ _ _ (fun x hx => (hs.2.2.2.2.1 x hx).2), hu⟩
theorem asofM_ge {f : Fcts} {u : Int} (hu : UOK u) (k : ByteArray) : -1 ≤ asofM f u k := by
  unfold asofM
  obtain ⟨h1, h2⟩ := hu
  cases f k with
  | none => exact h1
  | some v => dsimp only; split <;> omega
theorem getM_none {f : Fcts} (h : FOK f) (k : ByteArray) (hn : (getM f k).2 = false) : (getM f k).1 = entZ := by
  unfold getM at *
  cases hf : f k with
  | none => rfl
  | some v => rw [hf] at hn; exact (h k v hf).2 hn
theorem clusterK_some {t c : ByteArray} (ht : nameB t = true) (hc : nameB c = true) : (clusterK t c).toList.isEmpty = false := by
  have hs : 3 ≤ (clusterK t c).size := by
    unfold clusterK clustersK
    rw [ht, hc, if_pos rfl, show (true && true) = true from rfl, if_pos rfl]
    simp only [ByteArray.size_append]
    show 3 ≤ 2 + t.size + 1 + c.size
    omega
  rw [ByteArray.toList_eq]
  cases hd : (clusterK t c).data.toList with
  | nil =>
    rw [show (clusterK t c).size = (clusterK t c).data.toList.length from rfl, hd] at hs
    exact absurd hs (by decide)
  | cons _ _ => rfl
end Go.Proofs.Ytagkobpbhfkmdaa.C
