/- The document's MayConfig: what the walk of its text answers, as one conjunction. -/
import Derived.Test.YtijjdgmcjienlaaRC0
import Derived.Test.YtijjdgmcjienlaaRC1
import Derived.Test.YtijjdgmcjienlaaRC2
import Derived.Test.YtijjdgmcjienlaaRC3
import Derived.Test.YtijjdgmcjienlaaRC4
import Derived.Test.YtijjdgmcjienlaaRC5
import Derived.Test.YtijjdgmcjienlaaRC6
namespace Go.Proofs.Ytijjdgmcjienlaa.PL
open Go.RowKit Go.Proofs.Ytijjdgmcjienlaa.Q Go.Proofs.YtijjdgmcjienlaaW.PrintWords Go.Proofs.YtijjdgmcjienlaaW.PrintLast
set_option linter.unusedVariables false
theorem refcfg_is (C : Array Value) (a0 a1 a2 a3 a4 a5 a6 a7 a8 a9 a10 a11 a12 a13 a14 a15 a16 a17 : Int) (n0 n1 : ByteArray) (hc0 : C[0]? = some (.int .i64 a0)) (hc1 : C[1]? = some (.int .i64 a1)) (hc2 : C[2]? = some (.int .i64 a2)) (hc3 : C[3]? = some (.int .i64 a3)) (hc4 : C[4]? = some (.int .i64 a4)) (hc5 : C[5]? = some (.int .i64 a5)) (hc6 : C[6]? = some (.int .i64 a6)) (hc7 : C[7]? = some (.int .i64 a7)) (hc8 : C[8]? = some (.int .i64 a8)) (hc9 : C[9]? = some (.int .i64 a9)) (hc10 : C[10]? = some (.int .i64 a10)) (hc11 : C[11]? = some (.int .i64 a11)) (hc12 : C[12]? = some (.int .i64 a12)) (hc13 : C[13]? = some (.int .i64 a13)) (hc14 : C[14]? = some (.int .i64 a14)) (hc15 : C[15]? = some (.int .i64 a15)) (hc16 : C[16]? = some (.int .i64 a16)) (hc17 : C[17]? = some (.int .i64 a17)) (hc18 : C[18]? = some (.string n0)) (hc19 : C[19]? = some (.string n1)) (w : World) (z0 : n0.size ≤ 140737488351232) (z1 : n1.size ≤ 140737488351232) :
    Calls Try.prog 24 #[.agg C] w fun e w' => e = .returned (.bool (refConj a0 a1 a2 a3 a4 a5 a6 a7 a8 a9 a10 a11 a12 a13 a14 a15 a16 a17 n0 n1)) ∧ Below w.heap.size w w' := by
  unfold refConj
  cases s0 : spanB a1 1 with
  | false =>
    simpa only [Bool.not_true, Bool.not_false, Bool.true_and, Bool.false_and] using refcfg_0 C a0 a1 a2 a3 a4 a5 a6 a7 a8 a9 a10 a11 a12 a13 a14 a15 a16 a17 n0 n1 hc0 hc1 hc2 hc3 hc4 hc5 hc6 hc7 hc8 hc9 hc10 hc11 hc12 hc13 hc14 hc15 hc16 hc17 hc18 hc19 w z0 z1 s0
  | true =>
  cases s1 : spanB a2 1 with
  | false =>
    simpa only [Bool.not_true, Bool.not_false, Bool.true_and, Bool.false_and] using refcfg_1 C a0 a1 a2 a3 a4 a5 a6 a7 a8 a9 a10 a11 a12 a13 a14 a15 a16 a17 n0 n1 hc0 hc1 hc2 hc3 hc4 hc5 hc6 hc7 hc8 hc9 hc10 hc11 hc12 hc13 hc14 hc15 hc16 hc17 hc18 hc19 w z0 z1 s0 s1
  | true =>
  cases s2 : spanB a3 1 with
  | false =>
    simpa only [Bool.not_true, Bool.not_false, Bool.true_and, Bool.false_and] using refcfg_2 C a0 a1 a2 a3 a4 a5 a6 a7 a8 a9 a10 a11 a12 a13 a14 a15 a16 a17 n0 n1 hc0 hc1 hc2 hc3 hc4 hc5 hc6 hc7 hc8 hc9 hc10 hc11 hc12 hc13 hc14 hc15 hc16 hc17 hc18 hc19 w z0 z1 s0 s1 s2
  | true =>
  cases s3 : spanB a6 1 with
  | false =>
    simpa only [Bool.not_true, Bool.not_false, Bool.true_and, Bool.false_and] using refcfg_3 C a0 a1 a2 a3 a4 a5 a6 a7 a8 a9 a10 a11 a12 a13 a14 a15 a16 a17 n0 n1 hc0 hc1 hc2 hc3 hc4 hc5 hc6 hc7 hc8 hc9 hc10 hc11 hc12 hc13 hc14 hc15 hc16 hc17 hc18 hc19 w z0 z1 s0 s1 s2 s3
  | true =>
  cases s4 : spanB a7 1 with
  | false =>
    simpa only [Bool.not_true, Bool.not_false, Bool.true_and, Bool.false_and] using refcfg_4 C a0 a1 a2 a3 a4 a5 a6 a7 a8 a9 a10 a11 a12 a13 a14 a15 a16 a17 n0 n1 hc0 hc1 hc2 hc3 hc4 hc5 hc6 hc7 hc8 hc9 hc10 hc11 hc12 hc13 hc14 hc15 hc16 hc17 hc18 hc19 w z0 z1 s0 s1 s2 s3 s4
  | true =>
  cases s5 : spanB a8 1 with
  | false =>
    simpa only [Bool.not_true, Bool.not_false, Bool.true_and, Bool.false_and] using refcfg_5 C a0 a1 a2 a3 a4 a5 a6 a7 a8 a9 a10 a11 a12 a13 a14 a15 a16 a17 n0 n1 hc0 hc1 hc2 hc3 hc4 hc5 hc6 hc7 hc8 hc9 hc10 hc11 hc12 hc13 hc14 hc15 hc16 hc17 hc18 hc19 w z0 z1 s0 s1 s2 s3 s4 s5
  | true =>
  cases s6 : spanB a4 0 with
  | false =>
    simpa only [Bool.not_true, Bool.not_false, Bool.true_and, Bool.false_and] using refcfg_6 C a0 a1 a2 a3 a4 a5 a6 a7 a8 a9 a10 a11 a12 a13 a14 a15 a16 a17 n0 n1 hc0 hc1 hc2 hc3 hc4 hc5 hc6 hc7 hc8 hc9 hc10 hc11 hc12 hc13 hc14 hc15 hc16 hc17 hc18 hc19 w z0 z1 s0 s1 s2 s3 s4 s5 s6
  | true =>
  cases s7 : spanB a5 0 with
  | false =>
    simpa only [Bool.not_true, Bool.not_false, Bool.true_and, Bool.false_and] using refcfg_7 C a0 a1 a2 a3 a4 a5 a6 a7 a8 a9 a10 a11 a12 a13 a14 a15 a16 a17 n0 n1 hc0 hc1 hc2 hc3 hc4 hc5 hc6 hc7 hc8 hc9 hc10 hc11 hc12 hc13 hc14 hc15 hc16 hc17 hc18 hc19 w z0 z1 s0 s1 s2 s3 s4 s5 s6 s7
  | true =>
  cases s8 : decide (a1 ≤ wrap64 (a3 + a4)) with
  | true =>
    simpa only [Bool.not_true, Bool.not_false, Bool.true_and, Bool.false_and] using refcfg_8 C a0 a1 a2 a3 a4 a5 a6 a7 a8 a9 a10 a11 a12 a13 a14 a15 a16 a17 n0 n1 hc0 hc1 hc2 hc3 hc4 hc5 hc6 hc7 hc8 hc9 hc10 hc11 hc12 hc13 hc14 hc15 hc16 hc17 hc18 hc19 w z0 z1 s0 s1 s2 s3 s4 s5 s6 s7 s8
  | false =>
  cases s9 : decide (a2 < wrap64 (a1 + wrap64 (2 * a5))) with
  | true =>
    simpa only [Bool.not_true, Bool.not_false, Bool.true_and, Bool.false_and] using refcfg_9 C a0 a1 a2 a3 a4 a5 a6 a7 a8 a9 a10 a11 a12 a13 a14 a15 a16 a17 n0 n1 hc0 hc1 hc2 hc3 hc4 hc5 hc6 hc7 hc8 hc9 hc10 hc11 hc12 hc13 hc14 hc15 hc16 hc17 hc18 hc19 w z0 z1 s0 s1 s2 s3 s4 s5 s6 s7 s8 s9
  | false =>
  cases s10 : decide (a6 < a2) with
  | true =>
    simpa only [Bool.not_true, Bool.not_false, Bool.true_and, Bool.false_and] using refcfg_10 C a0 a1 a2 a3 a4 a5 a6 a7 a8 a9 a10 a11 a12 a13 a14 a15 a16 a17 n0 n1 hc0 hc1 hc2 hc3 hc4 hc5 hc6 hc7 hc8 hc9 hc10 hc11 hc12 hc13 hc14 hc15 hc16 hc17 hc18 hc19 w z0 z1 s0 s1 s2 s3 s4 s5 s6 s7 s8 s9 s10
  | false =>
  cases s11 : decide (a0 < 1) with
  | true =>
    simpa only [Bool.not_true, Bool.not_false, Bool.true_and, Bool.false_and] using refcfg_11 C a0 a1 a2 a3 a4 a5 a6 a7 a8 a9 a10 a11 a12 a13 a14 a15 a16 a17 n0 n1 hc0 hc1 hc2 hc3 hc4 hc5 hc6 hc7 hc8 hc9 hc10 hc11 hc12 hc13 hc14 hc15 hc16 hc17 hc18 hc19 w z0 z1 s0 s1 s2 s3 s4 s5 s6 s7 s8 s9 s10 s11
  | false =>
  cases s12 : decide (3 < a0) with
  | true =>
    simpa only [Bool.not_true, Bool.not_false, Bool.true_and, Bool.false_and] using refcfg_12 C a0 a1 a2 a3 a4 a5 a6 a7 a8 a9 a10 a11 a12 a13 a14 a15 a16 a17 n0 n1 hc0 hc1 hc2 hc3 hc4 hc5 hc6 hc7 hc8 hc9 hc10 hc11 hc12 hc13 hc14 hc15 hc16 hc17 hc18 hc19 w z0 z1 s0 s1 s2 s3 s4 s5 s6 s7 s8 s9 s10 s11 s12
  | false =>
  cases s13 : decide (a9 < 1) with
  | true =>
    simpa only [Bool.not_true, Bool.not_false, Bool.true_and, Bool.false_and] using refcfg_13 C a0 a1 a2 a3 a4 a5 a6 a7 a8 a9 a10 a11 a12 a13 a14 a15 a16 a17 n0 n1 hc0 hc1 hc2 hc3 hc4 hc5 hc6 hc7 hc8 hc9 hc10 hc11 hc12 hc13 hc14 hc15 hc16 hc17 hc18 hc19 w z0 z1 s0 s1 s2 s3 s4 s5 s6 s7 s8 s9 s10 s11 s12 s13
  | false =>
  cases s14 : decide (16 < a9) with
  | true =>
    simpa only [Bool.not_true, Bool.not_false, Bool.true_and, Bool.false_and] using refcfg_14 C a0 a1 a2 a3 a4 a5 a6 a7 a8 a9 a10 a11 a12 a13 a14 a15 a16 a17 n0 n1 hc0 hc1 hc2 hc3 hc4 hc5 hc6 hc7 hc8 hc9 hc10 hc11 hc12 hc13 hc14 hc15 hc16 hc17 hc18 hc19 w z0 z1 s0 s1 s2 s3 s4 s5 s6 s7 s8 s9 s10 s11 s12 s13 s14
  | false =>
  cases s15 : decide (a10 < 1) with
  | true =>
    simpa only [Bool.not_true, Bool.not_false, Bool.true_and, Bool.false_and] using refcfg_15 C a0 a1 a2 a3 a4 a5 a6 a7 a8 a9 a10 a11 a12 a13 a14 a15 a16 a17 n0 n1 hc0 hc1 hc2 hc3 hc4 hc5 hc6 hc7 hc8 hc9 hc10 hc11 hc12 hc13 hc14 hc15 hc16 hc17 hc18 hc19 w z0 z1 s0 s1 s2 s3 s4 s5 s6 s7 s8 s9 s10 s11 s12 s13 s14 s15
  | false =>
  cases s16 : decide (65536 < a10) with
  | true =>
    simpa only [Bool.not_true, Bool.not_false, Bool.true_and, Bool.false_and] using refcfg_16 C a0 a1 a2 a3 a4 a5 a6 a7 a8 a9 a10 a11 a12 a13 a14 a15 a16 a17 n0 n1 hc0 hc1 hc2 hc3 hc4 hc5 hc6 hc7 hc8 hc9 hc10 hc11 hc12 hc13 hc14 hc15 hc16 hc17 hc18 hc19 w z0 z1 s0 s1 s2 s3 s4 s5 s6 s7 s8 s9 s10 s11 s12 s13 s14 s15 s16
  | false =>
  cases s17 : decide (a15 < 64) with
  | true =>
    simpa only [Bool.not_true, Bool.not_false, Bool.true_and, Bool.false_and] using refcfg_17 C a0 a1 a2 a3 a4 a5 a6 a7 a8 a9 a10 a11 a12 a13 a14 a15 a16 a17 n0 n1 hc0 hc1 hc2 hc3 hc4 hc5 hc6 hc7 hc8 hc9 hc10 hc11 hc12 hc13 hc14 hc15 hc16 hc17 hc18 hc19 w z0 z1 s0 s1 s2 s3 s4 s5 s6 s7 s8 s9 s10 s11 s12 s13 s14 s15 s16 s17
  | false =>
  cases s18 : decide (1048576 < a15) with
  | true =>
    simpa only [Bool.not_true, Bool.not_false, Bool.true_and, Bool.false_and] using refcfg_18 C a0 a1 a2 a3 a4 a5 a6 a7 a8 a9 a10 a11 a12 a13 a14 a15 a16 a17 n0 n1 hc0 hc1 hc2 hc3 hc4 hc5 hc6 hc7 hc8 hc9 hc10 hc11 hc12 hc13 hc14 hc15 hc16 hc17 hc18 hc19 w z0 z1 s0 s1 s2 s3 s4 s5 s6 s7 s8 s9 s10 s11 s12 s13 s14 s15 s16 s17 s18
  | false =>
  cases s19 : countB a11 1 with
  | false =>
    simpa only [Bool.not_true, Bool.not_false, Bool.true_and, Bool.false_and] using refcfg_19 C a0 a1 a2 a3 a4 a5 a6 a7 a8 a9 a10 a11 a12 a13 a14 a15 a16 a17 n0 n1 hc0 hc1 hc2 hc3 hc4 hc5 hc6 hc7 hc8 hc9 hc10 hc11 hc12 hc13 hc14 hc15 hc16 hc17 hc18 hc19 w z0 z1 s0 s1 s2 s3 s4 s5 s6 s7 s8 s9 s10 s11 s12 s13 s14 s15 s16 s17 s18 s19
  | true =>
  cases s20 : countB a12 1 with
  | false =>
    simpa only [Bool.not_true, Bool.not_false, Bool.true_and, Bool.false_and] using refcfg_20 C a0 a1 a2 a3 a4 a5 a6 a7 a8 a9 a10 a11 a12 a13 a14 a15 a16 a17 n0 n1 hc0 hc1 hc2 hc3 hc4 hc5 hc6 hc7 hc8 hc9 hc10 hc11 hc12 hc13 hc14 hc15 hc16 hc17 hc18 hc19 w z0 z1 s0 s1 s2 s3 s4 s5 s6 s7 s8 s9 s10 s11 s12 s13 s14 s15 s16 s17 s18 s19 s20
  | true =>
  cases s21 : countB a13 1 with
  | false =>
    simpa only [Bool.not_true, Bool.not_false, Bool.true_and, Bool.false_and] using refcfg_21 C a0 a1 a2 a3 a4 a5 a6 a7 a8 a9 a10 a11 a12 a13 a14 a15 a16 a17 n0 n1 hc0 hc1 hc2 hc3 hc4 hc5 hc6 hc7 hc8 hc9 hc10 hc11 hc12 hc13 hc14 hc15 hc16 hc17 hc18 hc19 w z0 z1 s0 s1 s2 s3 s4 s5 s6 s7 s8 s9 s10 s11 s12 s13 s14 s15 s16 s17 s18 s19 s20 s21
  | true =>
  cases s22 : countB a14 1 with
  | false =>
    simpa only [Bool.not_true, Bool.not_false, Bool.true_and, Bool.false_and] using refcfg_22 C a0 a1 a2 a3 a4 a5 a6 a7 a8 a9 a10 a11 a12 a13 a14 a15 a16 a17 n0 n1 hc0 hc1 hc2 hc3 hc4 hc5 hc6 hc7 hc8 hc9 hc10 hc11 hc12 hc13 hc14 hc15 hc16 hc17 hc18 hc19 w z0 z1 s0 s1 s2 s3 s4 s5 s6 s7 s8 s9 s10 s11 s12 s13 s14 s15 s16 s17 s18 s19 s20 s21 s22
  | true =>
  cases s23 : countB a16 1 with
  | false =>
    simpa only [Bool.not_true, Bool.not_false, Bool.true_and, Bool.false_and] using refcfg_23 C a0 a1 a2 a3 a4 a5 a6 a7 a8 a9 a10 a11 a12 a13 a14 a15 a16 a17 n0 n1 hc0 hc1 hc2 hc3 hc4 hc5 hc6 hc7 hc8 hc9 hc10 hc11 hc12 hc13 hc14 hc15 hc16 hc17 hc18 hc19 w z0 z1 s0 s1 s2 s3 s4 s5 s6 s7 s8 s9 s10 s11 s12 s13 s14 s15 s16 s17 s18 s19 s20 s21 s22 s23
  | true =>
  cases s24 : countB a17 0 with
  | false =>
    simpa only [Bool.not_true, Bool.not_false, Bool.true_and, Bool.false_and] using refcfg_24 C a0 a1 a2 a3 a4 a5 a6 a7 a8 a9 a10 a11 a12 a13 a14 a15 a16 a17 n0 n1 hc0 hc1 hc2 hc3 hc4 hc5 hc6 hc7 hc8 hc9 hc10 hc11 hc12 hc13 hc14 hc15 hc16 hc17 hc18 hc19 w z0 z1 s0 s1 s2 s3 s4 s5 s6 s7 s8 s9 s10 s11 s12 s13 s14 s15 s16 s17 s18 s19 s20 s21 s22 s23 s24
  | true =>
  cases s25 : mayNameB n0 with
  | false =>
    simpa only [Bool.not_true, Bool.not_false, Bool.true_and, Bool.false_and] using refcfg_25 C a0 a1 a2 a3 a4 a5 a6 a7 a8 a9 a10 a11 a12 a13 a14 a15 a16 a17 n0 n1 hc0 hc1 hc2 hc3 hc4 hc5 hc6 hc7 hc8 hc9 hc10 hc11 hc12 hc13 hc14 hc15 hc16 hc17 hc18 hc19 w z0 z1 s0 s1 s2 s3 s4 s5 s6 s7 s8 s9 s10 s11 s12 s13 s14 s15 s16 s17 s18 s19 s20 s21 s22 s23 s24 s25
  | true =>
  cases s26 : mayNameB n1 with
  | false =>
    simpa only [Bool.not_true, Bool.not_false, Bool.true_and, Bool.false_and] using refcfg_26 C a0 a1 a2 a3 a4 a5 a6 a7 a8 a9 a10 a11 a12 a13 a14 a15 a16 a17 n0 n1 hc0 hc1 hc2 hc3 hc4 hc5 hc6 hc7 hc8 hc9 hc10 hc11 hc12 hc13 hc14 hc15 hc16 hc17 hc18 hc19 w z0 z1 s0 s1 s2 s3 s4 s5 s6 s7 s8 s9 s10 s11 s12 s13 s14 s15 s16 s17 s18 s19 s20 s21 s22 s23 s24 s25 s26
  | true =>
  simpa only [Bool.not_true, Bool.not_false, Bool.true_and, Bool.false_and] using refcfg_27 C a0 a1 a2 a3 a4 a5 a6 a7 a8 a9 a10 a11 a12 a13 a14 a15 a16 a17 n0 n1 hc0 hc1 hc2 hc3 hc4 hc5 hc6 hc7 hc8 hc9 hc10 hc11 hc12 hc13 hc14 hc15 hc16 hc17 hc18 hc19 w z0 z1 s0 s1 s2 s3 s4 s5 s6 s7 s8 s9 s10 s11 s12 s13 s14 s15 s16 s17 s18 s19 s20 s21 s22 s23 s24 s25 s26
end Go.Proofs.Ytijjdgmcjienlaa.PL
