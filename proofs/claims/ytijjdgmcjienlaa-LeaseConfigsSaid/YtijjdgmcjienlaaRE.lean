/- The document's MayConfig as one conjunction is the program's. -/
import Derived.Test.YtijjdgmcjienlaaRCH
import Derived.Test.YtijjdgmcjienlaaPJ
namespace Go.Proofs.Ytijjdgmcjienlaa.PL
open Go.RowKit Go.Proofs.Ytijjdgmcjienlaa.Q Go.Proofs.YtijjdgmcjienlaaW.PrintWords Go.Proofs.YtijjdgmcjienlaaW.PrintLast
set_option linter.unusedVariables false
set_option maxRecDepth 100000 in
theorem refConj_is (c : Cfg) : refConj c.c0 c.c1 c.c2 c.c3 c.c4 c.c5 c.c6 c.c7 c.c8 c.c9 c.c10 c.c11 c.c12 c.c13 c.c14 c.c15 c.c16 c.c17 c.n0 c.n1 = cfgB c := by
  rw [Bool.eq_iff_iff, cfg_iff]
  unfold refConj spanB countB CfgR
  simp only [Bool.and_eq_true, Bool.not_eq_true', decide_eq_true_eq, decide_eq_false_iff_not, ge_iff_le]
  constructor
  · rintro ⟨s1, s2, s3, s6, s7, s8, s4, s5, w1, w2, w3, x1, x2, x3, x4, x5, x6, x7, x8, y1, y2, y3, y4, y5, y6, m0, m1, ne⟩
    rw [wrap_in (x := c.c3 + c.c4) (by omega) (by omega)] at w1
    rw [wrap_in (x := 2 * c.c5) (by omega) (by omega), wrap_in (x := c.c1 + 2 * c.c5) (by omega) (by omega)] at w2
    and_intros <;> first | assumption | omega
  · rintro ⟨h, m0, m1, ne⟩
    rw [wrap_in (x := c.c3 + c.c4) (by omega) (by omega), wrap_in (x := 2 * c.c5) (by omega) (by omega), wrap_in (x := c.c1 + 2 * c.c5) (by omega) (by omega)]
    and_intros <;> first | assumption | omega
end Go.Proofs.Ytijjdgmcjienlaa.PL
