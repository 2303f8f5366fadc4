/- What events may be told: cache.may, plain. -/
import Derived.Test.YtagkobpbhfkmdaaCA
import Derived.Test.YtagkobpbhfkmdaaWAt
namespace Go.Proofs.Ytagkobpbhfkmdaa.C
open Go.RowKit Go.Proofs.Ytagkobpbhfkmdaa.Q Go.Proofs.YtagkobpbhfkmdaaW.PrintLast Go.Proofs.YtagkobpbhfkmdaaW.PrintWords
set_option linter.unusedVariables false
set_option linter.unusedSimpArgs false
abbrev Ev := S75
def evB (last rev : Int) (x : Ev) : Bool := !decide (x.f0 < last) && (!decide (x.f0 > rev) && (keyB x.f2 && (!decide ((x.f3.size : Int) > 128) && (!x.f1 || x.f3.toList == []))))
def evsB (rev : Int) : Int → List Ev → Bool
  | _, [] => true
  | last, x :: l => evB last rev x && evsB rev x.f0 l
def cmayB (fr rev : Int) (l : List Ev) : Bool := decide (0 ≤ rev ∧ rev ≤ 1099511627776 ∧ 1 ≤ fr ∧ fr ≤ rev + 1) && evsB rev fr l
theorem may_l0 (rev : Int) (l : List Ev) (hl : l.length ≤ 1000000000) (hs : ∀ x ∈ l, x.f2.size ≤ 100000) : ∀ (d i : Nat), i + d = l.length → ∀ (last : Int) (k : Nat), d + 100010 < k → cache_may.l0 k rev last l (l.length : Int) (i : Int) = some (evsB rev last (l.drop i)) := by
  intro d
  induction d with
  | zero =>
    intro i hi last k hk
    obtain ⟨k, rfl⟩ : ∃ m, k = m + 1 := ⟨k - 1, by omega⟩
    simp only [cache_may.l0]
    rw [if_neg (by omega), List.drop_eq_nil_of_le (by omega)]
    rfl
  | succ d ih =>
    intro i hi last k hk
    obtain ⟨k, rfl⟩ : ∃ m, k = m + 1 := ⟨k - 1, by omega⟩
    have hlt : i < l.length := by omega
    have hx : rd_T75 l (i : Int) = l[i] := by
      unfold rd_T75
      rw [Int.toNat_natCast, List.getD_eq_getElem?_getD, List.getElem?_eq_getElem hlt]
      rfl
    have hd : l.drop i = l[i] :: l.drop (i + 1) := List.drop_eq_getElem_cons hlt
    have hw : wrap64 ((i : Int) + 1) = ((i + 1 : Nat) : Int) := by unfold wrap64; omega
    simp only [cache_may.l0]
    rw [if_pos (by omega), if_pos (by omega), if_pos (by omega), hx, hd, hw, key_is _ (by have := hs _ (List.getElem_mem hlt); omega) k (by have := hs _ (List.getElem_mem hlt); omega)]
    simp only [Option.bind_some]
    show _ = some (evB last rev l[i] && evsB rev l[i].f0 (l.drop (i + 1)))
    unfold evB
    by_cases h1 : l[i].f0 < last
    · rw [if_pos h1, decide_eq_true h1]; rfl
    · rw [if_neg h1, decide_eq_false h1]
      by_cases h2 : l[i].f0 > rev
      · rw [if_pos h2, decide_eq_true h2]; rfl
      · rw [if_neg h2, decide_eq_false h2]
        cases hk : keyB l[i].f2 with
        | false => rfl
        | true =>
          rw [if_pos rfl]
          by_cases h3 : (l[i].f3.size : Int) > 128
          · rw [if_pos h3, decide_eq_true h3]; rfl
          · rw [if_neg h3, decide_eq_false h3]
            cases hd : l[i].f1 with
            | false =>
              rw [if_neg (by decide), ih (i + 1) (by omega) _ k (by omega)]
              simp
            | true =>
              rw [if_pos rfl]
              by_cases h4 : l[i].f3.toList = []
              · rw [if_pos h4, ih (i + 1) (by omega) _ k (by omega), h4]
                simp
              · rw [if_neg h4]
                simp [h4]
theorem cmay_is (fr rev : Int) (l : List Ev) (hl : l.length ≤ 1000000000) (hs : ∀ x ∈ l, x.f2.size ≤ 100000) : cache_may.f (l.length + 100020) fr rev l = some (cmayB fr rev l) := by
  unfold cache_may.f cmayB
  have hj : ∀ b, cache_may.j0 (l.length + 100020) fr rev l b = some (!b && evsB rev fr l) := fun b => by
    simp only [cache_may.j0]
    cases b with
    | true => rw [if_pos rfl]; rfl
    | false =>
      rw [if_neg (by decide)]
      have := may_l0 rev l hl hs l.length 0 (by omega) fr (l.length + 100019) (by omega)
      simpa using this
  rw [hj, hj]
  by_cases h1 : rev < 0
  · rw [if_pos h1, decide_eq_false (by omega)]; rfl
  · rw [if_neg h1]
    by_cases h2 : rev > 1099511627776
    · rw [if_pos h2, decide_eq_false (by omega)]; rfl
    · rw [if_neg h2]
      have hw : wrap64 (rev + 1) = rev + 1 := by unfold wrap64; omega
      rw [hw]
      by_cases h3 : fr < 1
      · rw [if_pos h3, decide_eq_false (by omega)]; rfl
      · rw [if_neg h3]
        congr 2
        rw [Bool.eq_iff_iff]
        simp
        omega
end Go.Proofs.Ytagkobpbhfkmdaa.C
