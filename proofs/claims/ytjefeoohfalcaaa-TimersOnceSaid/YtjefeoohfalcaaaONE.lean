/- TimersOnce, whole. -/
import Derived.Test.YtjefeoohfalcaaaOND
namespace Go.Proofs.Ytjefeoohfalcaaa.C
open Go.Shelf Go.RowKit Go.Proofs.Ytjefeoohfalcaaa.Q Go.Proofs.YtjefeoohfalcaaaW.PrintLast Go.Proofs.YtjefeoohfalcaaaW.PrintWords
theorem once_walk (A : Option Addr) (c : Nat) (l : List S57) (stop again at' : Int) {W : World} (g : Kd.C k57 W A l.length l) (hlc : l.length ≤ c) (ok : Open.okSl 16 ok57 l) (hat : (Lit.int .i64 at').wf = true) :
    Calls Try.prog 5 #[.slice A l.length c, .int .i64 stop, .int .i64 again, .int .i64 at'] W fun e w' => e = .returned (.bool true) ∧ Below W.heap.size W w' := by
  by_cases h : l.length ≤ 150
  · exact once_short A c l stop again at' W g hlc (fun y hy => (wf_le (ok.2.2 y hy).2).1) (wf_le hat).1 h
  · exact once_long A l.length c stop again at' W (by omega)
end Go.Proofs.Ytjefeoohfalcaaa.C
