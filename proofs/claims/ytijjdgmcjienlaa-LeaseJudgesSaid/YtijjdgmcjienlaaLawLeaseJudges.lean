-- Written by this session's own program (wip/myprint.py), in the form of the kit's print; checked by Lean alone.
import Derived.Test.YtijjdgmcjienlaaRows
import Derived.Test.YtijjdgmcjienlaaQx0
import Derived.Test.YtijjdgmcjienlaaJudges
import Derived.Test.YtijjdgmcjienlaaOpen
import Derived.WalkKit
import Derived.ProofKit
import Derived.OpenShut
import Derived.ShutString
import Derived.ChangeOld
import Derived.Below
import Derived.SizedLaws
namespace Go.Proofs.Ytijjdgmcjienlaa.leaseJudges
open Go.ChangeShapes Go.WideShapes Go.ChangeAt Go.RowKit
open Go.ChangeMaps (open_string shut_string)
set_option linter.unusedVariables false
theorem own : ownKnob Try.prog.godebug = none := by kernel_rfl
theorem laidOut : laidOutB Try.prog = true := by kernel_rfl
set_option maxHeartbeats 1000000 in
set_option maxRecDepth 100000 in
theorem lifted (os : Os) (started : os.Started) (H : Type) (enc : TypeId × Value → H) :
    ReturnsInHanded {} Try.checked os 3 .any (Rows.leaseJudgesSpec.pre6 enc Try.prog Try.f3 Rows.leaseJudgesRow.domain false) (Rows.leaseJudgesSpec.post enc Try.prog Try.f3 false true false false) := by
  refine returnsInHanded_of_change_sized (C := Try.checked) own started (by kernel_rfl) Try.func3
    (ChangeSpec.witness6 (enc := enc) (C := Try.checked) false ⟨#[], #[.agg #[.string ByteArray.empty, .int .i64 0, .int .i64 0, .bool false], .bool false, .string ByteArray.empty, .int .i64 0, .int .i64 0, .agg #[.int .i64 0, .int .i64 0, .int .i64 0, .int .i64 0, .int .i64 0, .int .i64 0, .int .i64 0, .int .i64 0, .int .i64 0, .int .i64 0, .int .i64 0, .int .i64 0, .int .i64 0, .int .i64 0, .int .i64 0, .int .i64 0, .int .i64 0, .int .i64 0, .string ByteArray.empty, .string ByteArray.empty]], []⟩ 8 (by kernel_rfl) (by kernel_rfl) (by kernel_rfl) (by kernel_rfl)) ?_
  intro W base args ds gs before hval0 hW hcnd hsz0 _
  have hsz : (DataW.weightsEach Try.prog (Try.f3.params.toList ++ Rows.leaseJudgesSpec.plain.varTypes Try.prog) (ds ++ gs)).all (· ≤ reachBytes) = true := hsz0
  have hval : ∀ (j : Nat) t v, Try.f3.params[j]? = some t → args[j]? = some v → Value.okWide Try.prog W .any base t v := hval0
  have hW' := hW
  obtain ⟨p, q, hA0, hV, rfl, hfz, hnd⟩ := hW
  have hA : DataW.TrodAll enc Try.prog W 0 (fun _ => true) true Try.f3.params.toList args.toList ds p := hA0
  rw [Try.params3] at hA hval hsz
  obtain ⟨v0, vs0, d0, ds0, p0, q0, hargs, rfl, rfl, h0, r0⟩ := trodAll_cons hA
  obtain ⟨v1, vs1, d1, ds1, p1, q1, rfl, rfl, rfl, h1, r1⟩ := trodAll_cons r0
  obtain ⟨v2, vs2, d2, ds2, p2, q2, rfl, rfl, rfl, h2, r2⟩ := trodAll_cons r1
  obtain ⟨v3, vs3, d3, ds3, p3, q3, rfl, rfl, rfl, h3, r3⟩ := trodAll_cons r2
  obtain ⟨v4, vs4, d4, ds4, p4, q4, rfl, rfl, rfl, h4, r4⟩ := trodAll_cons r3
  obtain ⟨v5, vs5, d5, ds5, p5, q5, rfl, rfl, rfl, h5, r5⟩ := trodAll_cons r4
  obtain ⟨rfl, rfl, rfl⟩ := trodAll_nil r5
  obtain rfl : args = #[v0, v1, v2, v3, v4, v5] := by cases args; simp_all
  obtain ⟨rfl, rfl⟩ := trodVars_none hV
  have k0 := h0
  have lt0 : ∀ x ∈ p0, x.block < W.heap.size := by obtain ⟨m, hm⟩ := k0; exact DataW.trod_lt m _ _ _ hm
  obtain ⟨x0, K0, ok0⟩ := Go.Proofs.Ytijjdgmcjienlaa.Open.arg Go.Proofs.Ytijjdgmcjienlaa.Q.opens23 hsz (j := 0) rfl rfl h0
  obtain ⟨cs0, rfl, cq0⟩ := Go.Proofs.Ytijjdgmcjienlaa.Open.arg_agg Try.underlying23 (hval 0 23 v0 rfl rfl)
  rw [cq0] at K0
  obtain ec0 := Go.Proofs.Ytijjdgmcjienlaa.Q.k23_open K0
  obtain rfl := Go.Proofs.Ytijjdgmcjienlaa.Open.arr_eq ec0
  obtain ⟨ok0_0, ok0_1, ok0_2, ok0_3⟩ : Go.Proofs.Ytijjdgmcjienlaa.Open.okStr x0.f0 ∧ (Go.Proofs.Ytijjdgmcjienlaa.Open.okInt .i64) x0.f1 ∧ (Go.Proofs.Ytijjdgmcjienlaa.Open.okInt .i64) x0.f2 ∧ Go.Proofs.Ytijjdgmcjienlaa.Open.okBool x0.f3 := ok0
  obtain ⟨a1, rfl, rfl, rfl⟩ := open_bool Try.underlying4 (hval 1 4 v1 rfl rfl) h1
  obtain ⟨a2, rfl, rfl, rfl, y2⟩ := open_string Try.underlying9 (hval 2 9 v2 rfl rfl) h2
  have w2 : a2.size ≤ 140737488351232 := by
    have z := sized_string hsz (j := 2) (t := 9) rfl rfl
    rw [Array.length_toList] at z
    exact z
  obtain ⟨a3, rfl, rfl, rfl, w3⟩ := open_int Try.underlying2 (hval 3 2 v3 rfl rfl) h3
  obtain ⟨a4, rfl, rfl, rfl, w4⟩ := open_int Try.underlying2 (hval 4 2 v4 rfl rfl) h4
  have k5 := h5
  have lt5 : ∀ x ∈ p5, x.block < W.heap.size := by obtain ⟨m, hm⟩ := k5; exact DataW.trod_lt m _ _ _ hm
  obtain ⟨x5, K5, ok5⟩ := Go.Proofs.Ytijjdgmcjienlaa.Open.arg Go.Proofs.Ytijjdgmcjienlaa.Q.opens25 hsz (j := 5) rfl rfl h5
  obtain ⟨cs5, rfl, cq5⟩ := Go.Proofs.Ytijjdgmcjienlaa.Open.arg_agg Try.underlying25 (hval 5 25 v5 rfl rfl)
  rw [cq5] at K5
  obtain ec5 := Go.Proofs.Ytijjdgmcjienlaa.Q.k25_open K5
  obtain rfl := Go.Proofs.Ytijjdgmcjienlaa.Open.arr_eq ec5
  obtain ⟨ok5_0, ok5_1, ok5_2, ok5_3, ok5_4, ok5_5, ok5_6, ok5_7, ok5_8, ok5_9, ok5_10, ok5_11, ok5_12, ok5_13, ok5_14, ok5_15, ok5_16, ok5_17, ok5_18, ok5_19⟩ : (Go.Proofs.Ytijjdgmcjienlaa.Open.okInt .i64) x5.f0 ∧ (Go.Proofs.Ytijjdgmcjienlaa.Open.okInt .i64) x5.f1 ∧ (Go.Proofs.Ytijjdgmcjienlaa.Open.okInt .i64) x5.f2 ∧ (Go.Proofs.Ytijjdgmcjienlaa.Open.okInt .i64) x5.f3 ∧ (Go.Proofs.Ytijjdgmcjienlaa.Open.okInt .i64) x5.f4 ∧ (Go.Proofs.Ytijjdgmcjienlaa.Open.okInt .i64) x5.f5 ∧ (Go.Proofs.Ytijjdgmcjienlaa.Open.okInt .i64) x5.f6 ∧ (Go.Proofs.Ytijjdgmcjienlaa.Open.okInt .i64) x5.f7 ∧ (Go.Proofs.Ytijjdgmcjienlaa.Open.okInt .i64) x5.f8 ∧ (Go.Proofs.Ytijjdgmcjienlaa.Open.okInt .i64) x5.f9 ∧ (Go.Proofs.Ytijjdgmcjienlaa.Open.okInt .i64) x5.f10 ∧ (Go.Proofs.Ytijjdgmcjienlaa.Open.okInt .i64) x5.f11 ∧ (Go.Proofs.Ytijjdgmcjienlaa.Open.okInt .i64) x5.f12 ∧ (Go.Proofs.Ytijjdgmcjienlaa.Open.okInt .i64) x5.f13 ∧ (Go.Proofs.Ytijjdgmcjienlaa.Open.okInt .i64) x5.f14 ∧ (Go.Proofs.Ytijjdgmcjienlaa.Open.okInt .i64) x5.f15 ∧ (Go.Proofs.Ytijjdgmcjienlaa.Open.okInt .i64) x5.f16 ∧ (Go.Proofs.Ytijjdgmcjienlaa.Open.okInt .i64) x5.f17 ∧ Go.Proofs.Ytijjdgmcjienlaa.Open.okStr x5.f18 ∧ Go.Proofs.Ytijjdgmcjienlaa.Open.okStr x5.f19 := ok5
  clear hA0 hval0 hsz0 hsz
  refine (Go.Proofs.Ytijjdgmcjienlaa.PL.judges_walk ⟨x0.f0, x0.f1, x0.f2, x0.f3⟩ a1 a2 a3 a4 ⟨x5.f0, x5.f1, x5.f2, x5.f3, x5.f4, x5.f5, x5.f6, x5.f7, x5.f8, x5.f9, x5.f10, x5.f11, x5.f12, x5.f13, x5.f14, x5.f15, x5.f16, x5.f17, x5.f18, x5.f19⟩ ok0_0 w2 ⟨ok5_18, ok5_19⟩ W).mono fun e W' ⟨he, bel⟩ => ?_
  subst he
  exact ⟨_, rfl, _, _, _, [], _, [], hW', trodAll_mk1 (shut_bool Try.underlying4 _), (trodAll_cons_mk (Below.trod laidOut (by kernel_rfl) (of_decide_eq_true (by kernel_rfl)) k0 bel lt0) (trodAll_cons_mk (shut_bool Try.underlying4 _) (trodAll_cons_mk (shut_string Try.underlying9 y2) (trodAll_cons_mk (shut_int Try.underlying2 w3) (trodAll_cons_mk (shut_int Try.underlying2 w4) (trodAll_cons_mk (Below.trod laidOut (by kernel_rfl) (of_decide_eq_true (by kernel_rfl)) k5 bel lt5) trodAll_mk0)))))), rfl, bel.frame _, fun h => by cases h⟩
theorem over : Rows.leaseJudgesRow.holds Try.pinned (OpenSpec.ofChange Rows.leaseJudgesSpec) :=
  OpenClaim.holds_of_wide 3 Try.f3 rfl rfl rfl rfl rfl rfl rfl ⟨rfl, rfl, rfl, rfl, rfl⟩ rfl rfl rfl rfl rfl (by kernel_rfl) Try.func3 (by kernel_rfl)
    (of_decide_eq_true (by kernel_rfl)) (by unfold Func.isWrapper; first | (rw [if_pos (by decide +kernel)]; kernel_rfl) | (rw [if_neg (by decide +kernel)]; exact ⟨rfl, rfl⟩))
    (fun os started H enc _ => lifted os started H enc)
theorem proved : Rows.LeaseJudgesSaid := over
#print axioms proved
end Go.Proofs.Ytijjdgmcjienlaa.leaseJudges
namespace Go.Proofs.Ytijjdgmcjienlaa
/-- The row, under a short name, for the claim. -/
theorem leaseJudges_holds : Rows.LeaseJudgesSaid := leaseJudges.proved
end Go.Proofs.Ytijjdgmcjienlaa
