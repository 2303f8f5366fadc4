/- The draw for a record, as a plain function: the printed Draw comes to it. -/
import Derived.Test.YtijjdgmcjienlaaQx17
import Derived.Laws.Bits64
namespace Go.Proofs.Ytijjdgmcjienlaa.PD
open Go.RowKit Go.Proofs.Ytijjdgmcjienlaa.Q Go.Proofs.YtijjdgmcjienlaaW.PrintWords Go.Proofs.YtijjdgmcjienlaaW.PrintLast
set_option linter.unusedVariables false

def big : Int := 18446744073709551616
def drawAt (n : Nat) (t gate : Int) : Int := ((t % big + gate % big) % big) % (n : Int)
def drawI (l : List Int) (t gate j : Int) : Int := if l.length = 0 then 0 else if j < 0 then 0 else (rd l (drawAt l.length t gate) % big) % (j + 1)

theorem u64_is (n : Int) : IntKind.u64.wrap n = n % big := IntKind.wrap_u64 n
theorem mod_big (n : Int) : 0 ≤ n % big ∧ n % big < big := ⟨Int.emod_nonneg _ (by decide), Int.emod_lt_of_pos _ (by decide)⟩
theorem in_big {n : Int} (h0 : 0 ≤ n) (h1 : n < 18446744073709551616) : n % big = n := Int.emod_eq_of_lt h0 h1

theorem draw_is (l : List Int) (r0 : ByteArray) (r1 t : Int) (r3 : Bool) (gate j : Int) (hl : l.length ≤ 140737488351232) (hj : j ≤ 9223372036854775807) : lease_Draw.f l r0 r1 t r3 gate j = some (drawI l t gate j) := by
  unfold lease_Draw.f drawI
  by_cases h0 : l.length = 0
  · rw [if_pos (by omega), if_pos h0]
  · rw [if_neg (show ¬ (l.length : Int) = 0 by omega), if_neg h0]
    by_cases h1 : j < 0
    · rw [if_pos h1, if_pos h1]
    · rw [if_neg h1, if_neg h1]
      have hL : IntKind.u64.wrap (l.length : Int) = (l.length : Int) := by rw [u64_is, in_big (by omega) (by omega)]
      have hJ : IntKind.u64.wrap (IntKind.u64.wrap j + 1) = j + 1 := by rw [u64_is j, in_big (n := j) (by omega) (by omega), u64_is, in_big (by omega) (by omega)]
      have hA : (IntKind.u64.wrap (IntKind.u64.wrap t + IntKind.u64.wrap gate)).tmod (l.length : Int) = drawAt l.length t gate := by
        rw [u64_is, u64_is, u64_is, Int.tmod_eq_emod_of_nonneg (mod_big _).1]
        rfl
      rw [hL, hJ, hA]
      have p0 : 0 ≤ drawAt l.length t gate := Int.emod_nonneg _ (by omega)
      have p1 : drawAt l.length t gate < (l.length : Int) := Int.emod_lt_of_pos _ (by omega)
      rw [if_neg (by omega), if_pos p0, if_pos p1, if_neg (by omega)]
      congr 1
      rw [u64_is, Int.tmod_eq_emod_of_nonneg (mod_big _).1]
      have q0 : 0 ≤ rd l (drawAt l.length t gate) % big % (j + 1) := Int.emod_nonneg _ (by omega)
      have q1 : rd l (drawAt l.length t gate) % big % (j + 1) < j + 1 := Int.emod_lt_of_pos _ (by omega)
      generalize rd l (drawAt l.length t gate) % big % (j + 1) = z at *
      unfold wrap64
      omega
theorem drawI_nonneg (l : List Int) (t gate j : Int) : 0 ≤ drawI l t gate j := by
  unfold drawI
  split
  · omega
  · split
    · omega
    · exact Int.emod_nonneg _ (by omega)
theorem drawI_le (l : List Int) (t gate j : Int) : drawI l t gate j ≤ mx j 0 := by
  unfold drawI mx
  have h := Int.emod_lt_of_pos (rd l (drawAt l.length t gate) % big) (b := j + 1)
  by_cases h1 : j < 0
  · rw [if_pos h1, if_pos h1]
    split <;> omega
  · rw [if_neg h1, if_neg h1]
    have := h (by omega)
    split <;> omega
theorem drawI_zero (l : List Int) (t gate : Int) : drawI l t gate 0 = 0 := by
  unfold drawI
  split
  · rfl
  · simp
theorem drawI_one (l : List Int) (t gate j : Int) (h : 0 < l.length) (h0 : 0 ≤ rd l 0) (h1 : rd l 0 ≤ j) (hj : j ≤ 9223372036854775807) : drawI (l.take 1) t gate j = rd l 0 := by
  unfold drawI
  have hl : (l.take 1).length = 1 := by simp; omega
  rw [if_neg (by omega), if_neg (by omega), hl]
  have e : drawAt 1 t gate = 0 := by
    unfold drawAt
    simp
  rw [e]
  have e2 : rd (l.take 1) 0 = rd l 0 := by
    cases l with
    | nil => simp at h
    | cons a r => simp [rd]
  rw [e2, in_big h0 (by omega), Int.emod_eq_of_lt h0 (by omega)]
end Go.Proofs.Ytijjdgmcjienlaa.PD
