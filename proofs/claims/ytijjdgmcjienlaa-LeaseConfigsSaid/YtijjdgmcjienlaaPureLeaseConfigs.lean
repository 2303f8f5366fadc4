/- LeaseConfigs: whether any configuration may be, and any draw, are the document's; the draws stay as they are. For every input. -/
import Derived.Test.YtijjdgmcjienlaaQ18h
import Derived.Test.YtijjdgmcjienlaaRE
import Derived.Test.YtijjdgmcjienlaaRD
import Derived.OpenShut
namespace Go.Proofs.Ytijjdgmcjienlaa.Pure
open Go.RowKit Go.ChangeShapes Go.Proofs.Ytijjdgmcjienlaa.Q Go.Proofs.Ytijjdgmcjienlaa.PL Go.Proofs.Ytijjdgmcjienlaa.PD Go.Proofs.YtijjdgmcjienlaaW.PrintWords Go.Proofs.YtijjdgmcjienlaaW.PrintLast
theorem configs_loop (l : List Int) (hl : l.length ≤ 1000) : ∀ (m k : Nat) (i : Int), 0 ≤ i → i + m = l.length → batonlaw19_LeaseConfigs.l0 (k + m + 1) l l i = some true
  | 0, k, i, h0, h => by
    unfold batonlaw19_LeaseConfigs.l0
    rw [if_neg (by omega)]
    rfl
  | m + 1, k, i, h0, h => by
    rw [show k + (m + 1) + 1 = (k + m + 1) + 1 by omega]
    unfold batonlaw19_LeaseConfigs.l0
    rw [if_pos (by omega), if_pos h0, if_pos (by omega), if_pos rfl, wrap_in (by omega) (by omega)]
    exact configs_loop l hl m k (i + 1) (by omega) (by omega)
set_option maxRecDepth 100000 in
theorem LeaseConfigs : batonlaw19_LeaseConfigs.Pure := by
  unfold batonlaw19_LeaseConfigs.Pure
  intro a0 a1 a2 a3 a4 a5 a6 a7 a8 a9 a10 a11 a12 a13 a14 a15 a16 a17 n0 n1 l p e t g gate j
  intros
  rename_i hz0 hz1 hl _ _ _ _ hj
  have hlen : l.length ≤ 140737488351232 := by have := hl.2.1; omega
  have hj' : j ≤ 9223372036854775807 := (bounds_i64 hj).2
  obtain ⟨k0, h0⟩ := (ev_cfg ⟨a0, a1, a2, a3, a4, a5, a6, a7, a8, a9, a10, a11, a12, a13, a14, a15, a16, a17, n0, n1⟩ ⟨hz0, hz1⟩)
  have hr := refConj_is ⟨a0, a1, a2, a3, a4, a5, a6, a7, a8, a9, a10, a11, a12, a13, a14, a15, a16, a17, n0, n1⟩
  dsimp only at h0 hr
  refine ⟨k0 + 1 + l.length + 1 + 1, ?_⟩
  unfold batonlaw19_LeaseConfigs.f batonlaw19_long.f
  have main : ∀ b : Bool, (b = false → l.length ≤ 1000) → batonlaw19_LeaseConfigs.j0 (k0 + 1 + l.length + 1 + 1) l gate j b a0 a1 a2 a3 a4 a5 a6 a7 a8 a9 a10 a11 a12 a13 a14 a15 a16 a17 n0 n1 p e t g = some true := by
    intro b hb
    unfold batonlaw19_LeaseConfigs.j0
    cases b with
    | true => rfl
    | false =>
      have h1000 := hb rfl
      simp only [Bool.false_eq_true, if_false, Option.bind_some, List.nil_append, List.length_nil]
      rw [if_pos (by omega), h0 (k0 + 1 + l.length + 1) (by omega)]
      unfold batonref19_MayConfig.f
      rw [if_pos ⟨hz0, hz1⟩, hr]
      simp only [Option.bind_some, bne_self_eq_false, Bool.false_eq_true, if_false]
      rw [draw_is l p e t g gate j hlen hj', rdraw_is l p e t g gate j hlen hj']
      simp only [Option.bind_some, bne_self_eq_false]
      unfold batonlaw19_LeaseConfigs.j1
      simp only [Bool.false_eq_true, if_false]
      rw [show k0 + 1 + l.length = k0 + l.length + 1 by omega]
      exact configs_loop l h1000 l.length k0 0 (by omega) (by omega)
  have m1 := main true (by simp)
  have m2 := main (decide ((l.length : Int) > 1000)) (by intro h; have := of_decide_eq_false h; omega)
  simp only [m1, m2, ite_self]
  (repeat' split) <;> rfl
end Go.Proofs.Ytijjdgmcjienlaa.Pure
