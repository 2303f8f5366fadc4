/- The queue of timers: Len, Less. -/
import Derived.Test.YtjefeoohfalcaaaQ0
import Derived.Test.YtjefeoohfalcaaaQx2
import Derived.StillTailTactics
namespace Go.Proofs.Ytjefeoohfalcaaa.C
open Go.RowKit Go.Proofs.Ytjefeoohfalcaaa.Q Go.Proofs.YtjefeoohfalcaaaW.PrintWords
set_option linter.unusedVariables false
set_option linter.unusedSimpArgs false
def cmpI (x y : Int) : Int := if x < y then -1 else if x > y then 1 else 0
def aheadI (a b : Int × Int) : Int := if cmpI a.2 b.2 = 0 then cmpI a.1 b.1 else cmpI a.2 b.2
/-- a comes ahead of b. -/
def aheadB (a b : Int × Int) : Bool := decide (a.2 < b.2 ∨ a.2 = b.2 ∧ a.1 < b.1)
theorem cmp_is (x y : Int) : cmp_Compare_int64.f x y = some (cmpI x y) := by
  unfold cmp_Compare_int64.f cmp_isNaN_int64.f cmpI
  simp only [bne_self_eq_false, Option.bind_some, Bool.false_eq_true, if_false]
  split
  · rfl
  · split <;> rfl
theorem or_is (x y : Int) : cmp_Or_int.f 4 [x, y] = some (if x = 0 then y else x) := by
  unfold cmp_Or_int.f
  by_cases hx : x = 0
  · by_cases hy : y = 0
    · subst hx; subst hy; decide +kernel
    · subst hx
      simp [cmp_Or_int.l0, rd, hy, wrap64]
  · simp [cmp_Or_int.l0, rd, hx]
theorem ahead_is (a b : Int × Int) : clock_ahead.f 4 a.1 a.2 b.1 b.2 = some (aheadI a b) := by
  unfold clock_ahead.f
  rw [cmp_is, cmp_is]
  simp only [Option.bind_some]
  rw [or_is]
  rfl
theorem aheadI_lt (a b : Int × Int) : decide (aheadI a b < 0) = aheadB a b := by
  unfold aheadI aheadB cmpI
  apply decide_eq_decide.2
  split <;> split <;> (try split) <;> (try split) <;> omega
theorem ahead_calls (a b : Int × Int) (w : World) : Calls Try.prog 47 #[.agg #[.int .i64 a.1, .int .i64 a.2], .agg #[.int .i64 b.1, .int .i64 b.2]] w fun e w' => e = .returned (.int .i64 (aheadI a b)) ∧ Below w.heap.size w w' :=
  clock_ahead.calls 4 a.1 a.2 b.1 b.2 _ w (ahead_is a b)
theorem below_of_drew {w w1 : World} (h : Below w.drew.heap.size w.drew w1) : Below w.heap.size w w1 := ⟨h.os, h.tape, h.output, h.size, h.block⟩
set_option maxHeartbeats 1000000 in
set_option maxRecDepth 100000 in
theorem len_calls (T n c : Nat) (A : Option Addr) (w : World) (hT : w.cell? ⟨T, 0, none⟩ = some (.slice A n c)) : Calls Try.prog 96 #[.pointer (some ⟨T, 0, none⟩)] w fun e w' => e = .returned (.int .i64 n) ∧ w = w' := by
  go_enter Try.func96, Try.ntmps96
  go_wp2_with fail
  go_ret
  exact ⟨rfl, rfl⟩
set_option maxHeartbeats 1000000 in
set_option maxRecDepth 100000 in
theorem less_calls (T b c i j : Nat) (l : List (Int × Int)) (x y : Int × Int) (w : World) (hT : w.cell? ⟨T, 0, none⟩ = some (.slice (some ⟨b, 0, none⟩) l.length c)) (hR : Row w b c l) (hx : l[i]? = some x) (hy : l[j]? = some y) :
    Calls Try.prog 97 #[.pointer (some ⟨T, 0, none⟩), .int .i64 i, .int .i64 j] w fun e w' => e = .returned (.bool (aheadB x y)) ∧ Below w.heap.size w w' := by
  have hi := (List.getElem?_eq_some_iff.1 hx).1
  have hj := (List.getElem?_eq_some_iff.1 hy).1
  obtain ⟨h1, h2⟩ := hR.cells hx
  obtain ⟨h3, h4⟩ := hR.cells hy
  have hm := hR.max
  have hc := hR.cap
  unfold maxLen at hm
  generalize l.length = n at *
  clear hx hy hR
  go_enter Try.func97, Try.ntmps97
  go_upto_region 1 with fail
  go_still_tail 14, (by kernel_rfl)
  go_wp2_with fail
  refine (ahead_calls x y _).mono ?_
  rintro e w1 ⟨rfl, hb⟩
  obtain ⟨r, hr⟩ : ∃ r, Aside (aheadI x y = r) := ⟨_, ⟨rfl⟩⟩
  have HG : Aside (decide (r < 0) = aheadB x y) := ⟨by rw [← hr.out]; exact aheadI_lt x y⟩
  rw [hr.out]
  go_wp2_with fail
  go_ret
  exact ⟨by show Ending.returned (.bool (decide (r < 0))) = _; rw [HG.out], below_of_drew hb⟩
end Go.Proofs.Ytjefeoohfalcaaa.C
