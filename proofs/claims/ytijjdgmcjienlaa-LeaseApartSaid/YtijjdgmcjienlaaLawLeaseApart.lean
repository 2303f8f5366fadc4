-- Written by this session's own program (wip/myprint.py), in the form of the kit's print; checked by Lean alone.
import Derived.Test.YtijjdgmcjienlaaRows
import Derived.Test.YtijjdgmcjienlaaQx0
import Derived.Test.YtijjdgmcjienlaaApart
import Derived.Test.YtijjdgmcjienlaaOpen
import Derived.WalkKit
import Derived.ProofKit
import Derived.OpenShut
import Derived.ShutString
import Derived.ChangeOld
import Derived.Below
import Derived.SizedLaws
namespace Go.Proofs.Ytijjdgmcjienlaa.leaseApart
open Go.ChangeShapes Go.WideShapes Go.ChangeAt Go.RowKit
open Go.ChangeMaps (open_string shut_string)
set_option linter.unusedVariables false
theorem own : ownKnob Try.prog.godebug = none := by kernel_rfl
theorem laidOut : laidOutB Try.prog = true := by kernel_rfl
set_option maxHeartbeats 1000000 in
set_option maxRecDepth 100000 in
theorem lifted (os : Os) (started : os.Started) (H : Type) (enc : TypeId × Value → H) :
    ReturnsInHanded {} Try.checked os 4 .any (Rows.leaseApartSpec.pre6 enc Try.prog Try.f4 Rows.leaseApartRow.domain false) (Rows.leaseApartSpec.post enc Try.prog Try.f4 false true false false) := by
  refine returnsInHanded_of_change_sized (C := Try.checked) own started (by kernel_rfl) Try.func4
    (ChangeSpec.witness6 (enc := enc) (C := Try.checked) false ⟨#[], #[.agg #[.string ByteArray.empty, .int .i64 0, .int .i64 0, .bool false], .int .i64 0, .string ByteArray.empty, .agg #[.int .i64 0, .int .i64 0, .int .i64 0, .int .i64 0, .int .i64 0, .int .i64 0, .int .i64 0, .int .i64 0, .int .i64 0, .int .i64 0, .int .i64 0, .int .i64 0, .int .i64 0, .int .i64 0, .int .i64 0, .int .i64 0, .int .i64 0, .int .i64 0, .string ByteArray.empty, .string ByteArray.empty], .int .i64 0, .int .i64 0, .int .i64 0, .int .i64 0, .int .i64 0, .int .i64 0], []⟩ 8 (by kernel_rfl) (by kernel_rfl) (by kernel_rfl) (by kernel_rfl)) ?_
  intro W base args ds gs before hval0 hW hcnd hsz0 _
  have hsz : (DataW.weightsEach Try.prog (Try.f4.params.toList ++ Rows.leaseApartSpec.plain.varTypes Try.prog) (ds ++ gs)).all (· ≤ reachBytes) = true := hsz0
  have hval : ∀ (j : Nat) t v, Try.f4.params[j]? = some t → args[j]? = some v → Value.okWide Try.prog W .any base t v := hval0
  have hW' := hW
  obtain ⟨p, q, hA0, hV, rfl, hfz, hnd⟩ := hW
  have hA : DataW.TrodAll enc Try.prog W 0 (fun _ => true) true Try.f4.params.toList args.toList ds p := hA0
  rw [Try.params4] at hA hval hsz
  obtain ⟨v0, vs0, d0, ds0, p0, q0, hargs, rfl, rfl, h0, r0⟩ := trodAll_cons hA
  obtain ⟨v1, vs1, d1, ds1, p1, q1, rfl, rfl, rfl, h1, r1⟩ := trodAll_cons r0
  obtain ⟨v2, vs2, d2, ds2, p2, q2, rfl, rfl, rfl, h2, r2⟩ := trodAll_cons r1
  obtain ⟨v3, vs3, d3, ds3, p3, q3, rfl, rfl, rfl, h3, r3⟩ := trodAll_cons r2
  obtain ⟨v4, vs4, d4, ds4, p4, q4, rfl, rfl, rfl, h4, r4⟩ := trodAll_cons r3
  obtain ⟨v5, vs5, d5, ds5, p5, q5, rfl, rfl, rfl, h5, r5⟩ := trodAll_cons r4
  obtain ⟨v6, vs6, d6, ds6, p6, q6, rfl, rfl, rfl, h6, r6⟩ := trodAll_cons r5
  obtain ⟨v7, vs7, d7, ds7, p7, q7, rfl, rfl, rfl, h7, r7⟩ := trodAll_cons r6
  obtain ⟨v8, vs8, d8, ds8, p8, q8, rfl, rfl, rfl, h8, r8⟩ := trodAll_cons r7
  obtain ⟨v9, vs9, d9, ds9, p9, q9, rfl, rfl, rfl, h9, r9⟩ := trodAll_cons r8
  obtain ⟨rfl, rfl, rfl⟩ := trodAll_nil r9
  obtain rfl : args = #[v0, v1, v2, v3, v4, v5, v6, v7, v8, v9] := by cases args; simp_all
  obtain ⟨rfl, rfl⟩ := trodVars_none hV
  have k0 := h0
  have lt0 : ∀ x ∈ p0, x.block < W.heap.size := by obtain ⟨m, hm⟩ := k0; exact DataW.trod_lt m _ _ _ hm
  obtain ⟨x0, K0, ok0⟩ := Go.Proofs.Ytijjdgmcjienlaa.Open.arg Go.Proofs.Ytijjdgmcjienlaa.Q.opens23 hsz (j := 0) rfl rfl h0
  obtain ⟨cs0, rfl, cq0⟩ := Go.Proofs.Ytijjdgmcjienlaa.Open.arg_agg Try.underlying23 (hval 0 23 v0 rfl rfl)
  rw [cq0] at K0
  obtain ec0 := Go.Proofs.Ytijjdgmcjienlaa.Q.k23_open K0
  obtain rfl := Go.Proofs.Ytijjdgmcjienlaa.Open.arr_eq ec0
  obtain ⟨ok0_0, ok0_1, ok0_2, ok0_3⟩ : Go.Proofs.Ytijjdgmcjienlaa.Open.okStr x0.f0 ∧ (Go.Proofs.Ytijjdgmcjienlaa.Open.okInt .i64) x0.f1 ∧ (Go.Proofs.Ytijjdgmcjienlaa.Open.okInt .i64) x0.f2 ∧ Go.Proofs.Ytijjdgmcjienlaa.Open.okBool x0.f3 := ok0
  obtain ⟨a1, rfl, rfl, rfl, w1⟩ := open_int Try.underlying2 (hval 1 2 v1 rfl rfl) h1
  obtain ⟨a2, rfl, rfl, rfl, y2⟩ := open_string Try.underlying9 (hval 2 9 v2 rfl rfl) h2
  have w2 : a2.size ≤ 140737488351232 := by
    have z := sized_string hsz (j := 2) (t := 9) rfl rfl
    rw [Array.length_toList] at z
    exact z
  have k3 := h3
  have lt3 : ∀ x ∈ p3, x.block < W.heap.size := by obtain ⟨m, hm⟩ := k3; exact DataW.trod_lt m _ _ _ hm
  obtain ⟨x3, K3, ok3⟩ := Go.Proofs.Ytijjdgmcjienlaa.Open.arg Go.Proofs.Ytijjdgmcjienlaa.Q.opens25 hsz (j := 3) rfl rfl h3
  obtain ⟨cs3, rfl, cq3⟩ := Go.Proofs.Ytijjdgmcjienlaa.Open.arg_agg Try.underlying25 (hval 3 25 v3 rfl rfl)
  rw [cq3] at K3
  obtain ec3 := Go.Proofs.Ytijjdgmcjienlaa.Q.k25_open K3
  obtain rfl := Go.Proofs.Ytijjdgmcjienlaa.Open.arr_eq ec3
  obtain ⟨ok3_0, ok3_1, ok3_2, ok3_3, ok3_4, ok3_5, ok3_6, ok3_7, ok3_8, ok3_9, ok3_10, ok3_11, ok3_12, ok3_13, ok3_14, ok3_15, ok3_16, ok3_17, ok3_18, ok3_19⟩ : (Go.Proofs.Ytijjdgmcjienlaa.Open.okInt .i64) x3.f0 ∧ (Go.Proofs.Ytijjdgmcjienlaa.Open.okInt .i64) x3.f1 ∧ (Go.Proofs.Ytijjdgmcjienlaa.Open.okInt .i64) x3.f2 ∧ (Go.Proofs.Ytijjdgmcjienlaa.Open.okInt .i64) x3.f3 ∧ (Go.Proofs.Ytijjdgmcjienlaa.Open.okInt .i64) x3.f4 ∧ (Go.Proofs.Ytijjdgmcjienlaa.Open.okInt .i64) x3.f5 ∧ (Go.Proofs.Ytijjdgmcjienlaa.Open.okInt .i64) x3.f6 ∧ (Go.Proofs.Ytijjdgmcjienlaa.Open.okInt .i64) x3.f7 ∧ (Go.Proofs.Ytijjdgmcjienlaa.Open.okInt .i64) x3.f8 ∧ (Go.Proofs.Ytijjdgmcjienlaa.Open.okInt .i64) x3.f9 ∧ (Go.Proofs.Ytijjdgmcjienlaa.Open.okInt .i64) x3.f10 ∧ (Go.Proofs.Ytijjdgmcjienlaa.Open.okInt .i64) x3.f11 ∧ (Go.Proofs.Ytijjdgmcjienlaa.Open.okInt .i64) x3.f12 ∧ (Go.Proofs.Ytijjdgmcjienlaa.Open.okInt .i64) x3.f13 ∧ (Go.Proofs.Ytijjdgmcjienlaa.Open.okInt .i64) x3.f14 ∧ (Go.Proofs.Ytijjdgmcjienlaa.Open.okInt .i64) x3.f15 ∧ (Go.Proofs.Ytijjdgmcjienlaa.Open.okInt .i64) x3.f16 ∧ (Go.Proofs.Ytijjdgmcjienlaa.Open.okInt .i64) x3.f17 ∧ Go.Proofs.Ytijjdgmcjienlaa.Open.okStr x3.f18 ∧ Go.Proofs.Ytijjdgmcjienlaa.Open.okStr x3.f19 := ok3
  obtain ⟨a4, rfl, rfl, rfl, w4⟩ := open_int Try.underlying2 (hval 4 2 v4 rfl rfl) h4
  obtain ⟨a5, rfl, rfl, rfl, w5⟩ := open_int Try.underlying2 (hval 5 2 v5 rfl rfl) h5
  obtain ⟨a6, rfl, rfl, rfl, w6⟩ := open_int Try.underlying2 (hval 6 2 v6 rfl rfl) h6
  obtain ⟨a7, rfl, rfl, rfl, w7⟩ := open_int Try.underlying2 (hval 7 2 v7 rfl rfl) h7
  obtain ⟨a8, rfl, rfl, rfl, w8⟩ := open_int Try.underlying2 (hval 8 2 v8 rfl rfl) h8
  obtain ⟨a9, rfl, rfl, rfl, w9⟩ := open_int Try.underlying2 (hval 9 2 v9 rfl rfl) h9
  clear hA0 hval0 hsz0 hsz
  refine (Go.Proofs.Ytijjdgmcjienlaa.PL.apart_walk ⟨x0.f0, x0.f1, x0.f2, x0.f3⟩ a1 a2 ⟨x3.f0, x3.f1, x3.f2, x3.f3, x3.f4, x3.f5, x3.f6, x3.f7, x3.f8, x3.f9, x3.f10, x3.f11, x3.f12, x3.f13, x3.f14, x3.f15, x3.f16, x3.f17, x3.f18, x3.f19⟩ a4 a5 a6 a7 a8 a9 ok0_0 w2 ⟨ok3_18, ok3_19⟩ W).mono fun e W' ⟨he, bel⟩ => ?_
  subst he
  exact ⟨_, rfl, _, _, _, [], _, [], hW', trodAll_mk1 (shut_bool Try.underlying4 _), (trodAll_cons_mk (Below.trod laidOut (by kernel_rfl) (of_decide_eq_true (by kernel_rfl)) k0 bel lt0) (trodAll_cons_mk (shut_int Try.underlying2 w1) (trodAll_cons_mk (shut_string Try.underlying9 y2) (trodAll_cons_mk (Below.trod laidOut (by kernel_rfl) (of_decide_eq_true (by kernel_rfl)) k3 bel lt3) (trodAll_cons_mk (shut_int Try.underlying2 w4) (trodAll_cons_mk (shut_int Try.underlying2 w5) (trodAll_cons_mk (shut_int Try.underlying2 w6) (trodAll_cons_mk (shut_int Try.underlying2 w7) (trodAll_cons_mk (shut_int Try.underlying2 w8) (trodAll_cons_mk (shut_int Try.underlying2 w9) trodAll_mk0)))))))))), rfl, bel.frame _, fun h => by cases h⟩
theorem over : Rows.leaseApartRow.holds Try.pinned (OpenSpec.ofChange Rows.leaseApartSpec) :=
  OpenClaim.holds_of_wide 4 Try.f4 rfl rfl rfl rfl rfl rfl rfl ⟨rfl, rfl, rfl, rfl, rfl⟩ rfl rfl rfl rfl rfl (by kernel_rfl) Try.func4 (by kernel_rfl)
    (of_decide_eq_true (by kernel_rfl)) (by unfold Func.isWrapper; first | (rw [if_pos (by decide +kernel)]; kernel_rfl) | (rw [if_neg (by decide +kernel)]; exact ⟨rfl, rfl⟩))
    (fun os started H enc _ => lifted os started H enc)
theorem proved : Rows.LeaseApartSaid := over
#print axioms proved
end Go.Proofs.Ytijjdgmcjienlaa.leaseApart
namespace Go.Proofs.Ytijjdgmcjienlaa
/-- The row, under a short name, for the claim. -/
theorem leaseApart_holds : Rows.LeaseApartSaid := leaseApart.proved
end Go.Proofs.Ytijjdgmcjienlaa
