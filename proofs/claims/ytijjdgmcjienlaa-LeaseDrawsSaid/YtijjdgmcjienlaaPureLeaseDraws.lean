/- LeaseDraws: a draw is from 0 to the jitter, and hangs on the record's At alone; of one number it is always that, if it is no more than the jitter; with a jitter of 0 it is 0. For every input. -/
import Derived.Test.YtijjdgmcjienlaaQx19
import Derived.Test.YtijjdgmcjienlaaPD
import Derived.OpenShut
namespace Go.Proofs.Ytijjdgmcjienlaa.Pure
open Go.RowKit Go.ChangeShapes Go.Proofs.Ytijjdgmcjienlaa.Q Go.Proofs.Ytijjdgmcjienlaa.PD Go.Proofs.YtijjdgmcjienlaaW.PrintWords Go.Proofs.YtijjdgmcjienlaaW.PrintLast
theorem LeaseDraws : batonlaw19_LeaseDraws.Pure := by
  intro l p e t g p' e' t' g' gate j hl _ _ _ _ _ _ _ hj
  have hlen : l.length ≤ 140737488351232 := by have := hl.2.1; omega
  have hj' : j ≤ 9223372036854775807 := by
    have := bounds_i64 hj
    exact this.2
  refine ⟨2, ?_⟩
  unfold batonlaw19_LeaseDraws.f batonlaw19_awake.f
  by_cases hb : (l.length : Int) > 1000
  · rw [if_pos hb]
    simp only [batonlaw19_LeaseDraws.j0, if_true]
    rfl
  · rw [if_neg hb]
    simp only [Option.bind_some, Bool.not_true, batonlaw19_LeaseDraws.j0, Bool.false_eq_true, if_false]
    rw [draw_is l p e t g gate j hlen hj', draw_is l p' e' t g' gate j hlen hj', draw_is l p e t g gate 0 hlen (by omega)]
    simp only [Option.bind_some]
    rw [if_neg (by have := drawI_nonneg l t gate j; omega), if_neg (by have := drawI_le l t gate j; omega), if_pos trivial, drawI_zero]
    simp only [batonlaw19_LeaseDraws.j1]
    rw [if_neg (by simp)]
    by_cases h0 : (l.length : Int) = 0
    · rw [if_pos h0]
      have : drawI l t gate j = 0 := by
        unfold drawI
        rw [if_pos (by omega)]
      rw [this]
      rfl
    · rw [if_neg h0, if_pos (by omega), draw_is (l.take 1) p e t g gate j (by simp; omega) hj']
      simp only [Option.bind_some]
      by_cases h1 : j < 0
      · rw [if_pos h1]
      · rw [if_neg h1, if_pos (by omega)]
        by_cases h2 : rd l 0 < 0
        · rw [if_pos h2]
        · rw [if_neg h2]
          by_cases h3 : rd l 0 > j
          · rw [if_pos h3]
          · rw [if_neg h3, drawI_one l t gate j (by omega) (by omega) (by omega) hj']
            simp
end Go.Proofs.Ytijjdgmcjienlaa.Pure
