/- The document's draw is the program's; both as contracts. -/
import Derived.Test.YtijjdgmcjienlaaPD
namespace Go.Proofs.Ytijjdgmcjienlaa.PD
open Go.RowKit Go.Proofs.Ytijjdgmcjienlaa.Q Go.Proofs.YtijjdgmcjienlaaW.PrintWords Go.Proofs.YtijjdgmcjienlaaW.PrintLast
set_option linter.unusedVariables false
theorem rdraw_f (l : List Int) (r0 : ByteArray) (r1 t : Int) (r3 : Bool) (gate j : Int) : batonref19_Draw.f l r0 r1 t r3 gate j = lease_Draw.f l r0 r1 t r3 gate j := by
  unfold batonref19_Draw.f lease_Draw.f
  rfl
theorem rdraw_is (l : List Int) (r0 : ByteArray) (r1 t : Int) (r3 : Bool) (gate j : Int) (hl : l.length ≤ 140737488351232) (hj : j ≤ 9223372036854775807) : batonref19_Draw.f l r0 r1 t r3 gate j = some (drawI l t gate j) :=
  (rdraw_f l r0 r1 t r3 gate j).trans (draw_is l r0 r1 t r3 gate j hl hj)
end Go.Proofs.Ytijjdgmcjienlaa.PD
