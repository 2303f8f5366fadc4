/- The document's MayConfig: what the walk of its text answers, as one conjunction; and that it is the program's. -/
import Derived.Test.YtijjdgmcjienlaaPL
namespace Go.Proofs.Ytijjdgmcjienlaa.PL
open Go.RowKit Go.Proofs.Ytijjdgmcjienlaa.Q Go.Proofs.YtijjdgmcjienlaaW.PrintWords Go.Proofs.YtijjdgmcjienlaaW.PrintLast
set_option linter.unusedVariables false
def spanB (n l : Int) : Bool := decide (n ≥ l) && decide (n ≤ 1073741824)
def countB (n l : Int) : Bool := decide (n ≥ l) && decide (n ≤ 1048576)
theorem span_is (n l : Int) (w : World) : Calls Try.prog 37 #[.int .i64 n, .int .i64 l] w fun e w' => e = .returned (.bool (spanB n l)) ∧ Drawn0 w w' :=
  batonref19_span.calls n l _ w (by unfold batonref19_span.f spanB; by_cases h : n ≥ l; (rw [if_pos h, decide_eq_true h, Bool.true_and]); (rw [if_neg h, decide_eq_false h]; rfl))
theorem count_is (n l : Int) (w : World) : Calls Try.prog 38 #[.int .i64 n, .int .i64 l] w fun e w' => e = .returned (.bool (countB n l)) ∧ Drawn0 w w' :=
  batonref19_count.calls n l _ w (by unfold batonref19_count.f countB; by_cases h : n ≥ l; (rw [if_pos h, decide_eq_true h, Bool.true_and]); (rw [if_neg h, decide_eq_false h]; rfl))
theorem ref05_is (s : ByteArray) (hs : s.size ≤ 140737488351232) (w : World) : Calls Try.prog 39 #[.string s] w fun e w' => e = .returned (.bool (mayNameB s)) ∧ Drawn0 w w' := by
  obtain ⟨k, h⟩ := (ev_ref05 s hs).rounds
  exact batonref05_MayName.calls k s _ w h
def refConj (a0 a1 a2 a3 a4 a5 a6 a7 a8 a9 a10 a11 a12 a13 a14 a15 a16 a17 : Int) (n0 n1 : ByteArray) : Bool := (spanB a1 1 && (spanB a2 1 && (spanB a3 1 && (spanB a6 1 && (spanB a7 1 && (spanB a8 1 && (spanB a4 0 && (spanB a5 0 && (!decide (a1 ≤ wrap64 (a3 + a4)) && (!decide (a2 < wrap64 (a1 + wrap64 (2 * a5))) && (!decide (a6 < a2) && (!decide (a0 < 1) && (!decide (3 < a0) && (!decide (a9 < 1) && (!decide (16 < a9) && (!decide (a10 < 1) && (!decide (65536 < a10) && (!decide (a15 < 64) && (!decide (1048576 < a15) && (countB a11 1 && (countB a12 1 && (countB a13 1 && (countB a14 1 && (countB a16 1 && (countB a17 0 && (mayNameB n0 && (mayNameB n1 && !(n0.toList == n1.toList))))))))))))))))))))))))))))
end Go.Proofs.Ytijjdgmcjienlaa.PL
