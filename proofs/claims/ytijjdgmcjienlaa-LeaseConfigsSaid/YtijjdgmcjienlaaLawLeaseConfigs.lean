-- Written by this session's own program (wip/myprint.py), in the form of the kit's print; checked by Lean alone.
import Derived.Test.YtijjdgmcjienlaaRows
import Derived.Test.YtijjdgmcjienlaaQ18h
import Derived.Test.YtijjdgmcjienlaaPureLeaseConfigs
import Derived.Test.YtijjdgmcjienlaaOpen
import Derived.WalkKit
import Derived.ProofKit
import Derived.OpenShut
import Derived.ShutString
import Derived.ChangeOld
import Derived.Below
import Derived.SizedLaws
namespace Go.Proofs.Ytijjdgmcjienlaa.leaseConfigs
open Go.ChangeShapes Go.WideShapes Go.ChangeAt Go.RowKit
open Go.ChangeMaps (open_string shut_string)
set_option linter.unusedVariables false
theorem own : ownKnob Try.prog.godebug = none := by kernel_rfl
theorem laidOut : laidOutB Try.prog = true := by kernel_rfl
set_option maxHeartbeats 1000000 in
set_option maxRecDepth 100000 in
theorem lifted (os : Os) (started : os.Started) (H : Type) (enc : TypeId × Value → H) :
    ReturnsInHanded {} Try.checked os 9 .any (Rows.leaseConfigsSpec.pre6 enc Try.prog Try.f9 Rows.leaseConfigsRow.domain false) (Rows.leaseConfigsSpec.post enc Try.prog Try.f9 false true false false) := by
  refine returnsInHanded_of_change_sized (C := Try.checked) own started (by kernel_rfl) Try.func9
    (ChangeSpec.witness6 (enc := enc) (C := Try.checked) false ⟨#[], #[.agg #[.int .i64 0, .int .i64 0, .int .i64 0, .int .i64 0, .int .i64 0, .int .i64 0, .int .i64 0, .int .i64 0, .int .i64 0, .int .i64 0, .int .i64 0, .int .i64 0, .int .i64 0, .int .i64 0, .int .i64 0, .int .i64 0, .int .i64 0, .int .i64 0, .string ByteArray.empty, .string ByteArray.empty], .slice none 0 0, .agg #[.string ByteArray.empty, .int .i64 0, .int .i64 0, .bool false], .int .i64 0, .int .i64 0], []⟩ 8 (by kernel_rfl) (by kernel_rfl) (by kernel_rfl) (by kernel_rfl)) ?_
  intro W base args ds gs before hval0 hW hcnd hsz0 _
  have hsz : (DataW.weightsEach Try.prog (Try.f9.params.toList ++ Rows.leaseConfigsSpec.plain.varTypes Try.prog) (ds ++ gs)).all (· ≤ reachBytes) = true := hsz0
  have hval : ∀ (j : Nat) t v, Try.f9.params[j]? = some t → args[j]? = some v → Value.okWide Try.prog W .any base t v := hval0
  have hW' := hW
  obtain ⟨p, q, hA0, hV, rfl, hfz, hnd⟩ := hW
  have hA : DataW.TrodAll enc Try.prog W 0 (fun _ => true) true Try.f9.params.toList args.toList ds p := hA0
  rw [Try.params9] at hA hval hsz
  obtain ⟨v0, vs0, d0, ds0, p0, q0, hargs, rfl, rfl, h0, r0⟩ := trodAll_cons hA
  obtain ⟨v1, vs1, d1, ds1, p1, q1, rfl, rfl, rfl, h1, r1⟩ := trodAll_cons r0
  obtain ⟨v2, vs2, d2, ds2, p2, q2, rfl, rfl, rfl, h2, r2⟩ := trodAll_cons r1
  obtain ⟨v3, vs3, d3, ds3, p3, q3, rfl, rfl, rfl, h3, r3⟩ := trodAll_cons r2
  obtain ⟨v4, vs4, d4, ds4, p4, q4, rfl, rfl, rfl, h4, r4⟩ := trodAll_cons r3
  obtain ⟨rfl, rfl, rfl⟩ := trodAll_nil r4
  obtain rfl : args = #[v0, v1, v2, v3, v4] := by cases args; simp_all
  obtain ⟨rfl, rfl⟩ := trodVars_none hV
  have k0 := h0
  have lt0 : ∀ x ∈ p0, x.block < W.heap.size := by obtain ⟨m, hm⟩ := k0; exact DataW.trod_lt m _ _ _ hm
  obtain ⟨x0, K0, ok0⟩ := Go.Proofs.Ytijjdgmcjienlaa.Open.arg Go.Proofs.Ytijjdgmcjienlaa.Q.opens25 hsz (j := 0) rfl rfl h0
  obtain ⟨cs0, rfl, cq0⟩ := Go.Proofs.Ytijjdgmcjienlaa.Open.arg_agg Try.underlying25 (hval 0 25 v0 rfl rfl)
  rw [cq0] at K0
  obtain ec0 := Go.Proofs.Ytijjdgmcjienlaa.Q.k25_open K0
  obtain rfl := Go.Proofs.Ytijjdgmcjienlaa.Open.arr_eq ec0
  obtain ⟨ok0_0, ok0_1, ok0_2, ok0_3, ok0_4, ok0_5, ok0_6, ok0_7, ok0_8, ok0_9, ok0_10, ok0_11, ok0_12, ok0_13, ok0_14, ok0_15, ok0_16, ok0_17, ok0_18, ok0_19⟩ : (Go.Proofs.Ytijjdgmcjienlaa.Open.okInt .i64) x0.f0 ∧ (Go.Proofs.Ytijjdgmcjienlaa.Open.okInt .i64) x0.f1 ∧ (Go.Proofs.Ytijjdgmcjienlaa.Open.okInt .i64) x0.f2 ∧ (Go.Proofs.Ytijjdgmcjienlaa.Open.okInt .i64) x0.f3 ∧ (Go.Proofs.Ytijjdgmcjienlaa.Open.okInt .i64) x0.f4 ∧ (Go.Proofs.Ytijjdgmcjienlaa.Open.okInt .i64) x0.f5 ∧ (Go.Proofs.Ytijjdgmcjienlaa.Open.okInt .i64) x0.f6 ∧ (Go.Proofs.Ytijjdgmcjienlaa.Open.okInt .i64) x0.f7 ∧ (Go.Proofs.Ytijjdgmcjienlaa.Open.okInt .i64) x0.f8 ∧ (Go.Proofs.Ytijjdgmcjienlaa.Open.okInt .i64) x0.f9 ∧ (Go.Proofs.Ytijjdgmcjienlaa.Open.okInt .i64) x0.f10 ∧ (Go.Proofs.Ytijjdgmcjienlaa.Open.okInt .i64) x0.f11 ∧ (Go.Proofs.Ytijjdgmcjienlaa.Open.okInt .i64) x0.f12 ∧ (Go.Proofs.Ytijjdgmcjienlaa.Open.okInt .i64) x0.f13 ∧ (Go.Proofs.Ytijjdgmcjienlaa.Open.okInt .i64) x0.f14 ∧ (Go.Proofs.Ytijjdgmcjienlaa.Open.okInt .i64) x0.f15 ∧ (Go.Proofs.Ytijjdgmcjienlaa.Open.okInt .i64) x0.f16 ∧ (Go.Proofs.Ytijjdgmcjienlaa.Open.okInt .i64) x0.f17 ∧ Go.Proofs.Ytijjdgmcjienlaa.Open.okStr x0.f18 ∧ Go.Proofs.Ytijjdgmcjienlaa.Open.okStr x0.f19 := ok0
  have k1 := h1
  have lt1 : ∀ x ∈ p1, x.block < W.heap.size := by obtain ⟨m, hm⟩ := k1; exact DataW.trod_lt m _ _ _ hm
  obtain ⟨x1, K1, ok1⟩ := Go.Proofs.Ytijjdgmcjienlaa.Open.arg (Go.Proofs.Ytijjdgmcjienlaa.Open.opens_slice (P := Try.prog) (t := 39) (b := 8) Try.underlying39 (by kernel_rfl) (by kernel_rfl) (Go.Proofs.Ytijjdgmcjienlaa.Open.opens_int (P := Try.prog) (t := 2) Try.underlying2 (by kernel_rfl))) hsz (j := 1) rfl rfl h1
  obtain ⟨aa1, len1, cap1, rfl⟩ := okWide_slice Try.underlying39 (hval 1 39 v1 rfl rfl)
  obtain ⟨A1, c1, e1, l1, g1⟩ := K1
  simp only [Value.cells, List.cons.injEq, Value.slice.injEq, and_true] at e1
  obtain ⟨rfl, rfl, rfl⟩ := e1
  have k2 := h2
  have lt2 : ∀ x ∈ p2, x.block < W.heap.size := by obtain ⟨m, hm⟩ := k2; exact DataW.trod_lt m _ _ _ hm
  obtain ⟨x2, K2, ok2⟩ := Go.Proofs.Ytijjdgmcjienlaa.Open.arg Go.Proofs.Ytijjdgmcjienlaa.Q.opens23 hsz (j := 2) rfl rfl h2
  obtain ⟨cs2, rfl, cq2⟩ := Go.Proofs.Ytijjdgmcjienlaa.Open.arg_agg Try.underlying23 (hval 2 23 v2 rfl rfl)
  rw [cq2] at K2
  obtain ec2 := Go.Proofs.Ytijjdgmcjienlaa.Q.k23_open K2
  obtain rfl := Go.Proofs.Ytijjdgmcjienlaa.Open.arr_eq ec2
  obtain ⟨ok2_0, ok2_1, ok2_2, ok2_3⟩ : Go.Proofs.Ytijjdgmcjienlaa.Open.okStr x2.f0 ∧ (Go.Proofs.Ytijjdgmcjienlaa.Open.okInt .i64) x2.f1 ∧ (Go.Proofs.Ytijjdgmcjienlaa.Open.okInt .i64) x2.f2 ∧ Go.Proofs.Ytijjdgmcjienlaa.Open.okBool x2.f3 := ok2
  obtain ⟨a3, rfl, rfl, rfl, w3⟩ := open_int Try.underlying3 (hval 3 3 v3 rfl rfl) h3
  obtain ⟨a4, rfl, rfl, rfl, w4⟩ := open_int Try.underlying2 (hval 4 2 v4 rfl rfl) h4
  clear hA0 hval0 hsz0 hsz
  obtain ⟨kk, hh⟩ := Pure.LeaseConfigs x0.f0 x0.f1 x0.f2 x0.f3 x0.f4 x0.f5 x0.f6 x0.f7 x0.f8 x0.f9 x0.f10 x0.f11 x0.f12 x0.f13 x0.f14 x0.f15 x0.f16 x0.f17 x0.f18 x0.f19 x1 x2.f0 x2.f1 x2.f2 x2.f3 a3 a4 ok0_0 ok0_1 ok0_2 ok0_3 ok0_4 ok0_5 ok0_6 ok0_7 ok0_8 ok0_9 ok0_10 ok0_11 ok0_12 ok0_13 ok0_14 ok0_15 ok0_16 ok0_17 ok0_18 ok0_19 ok1 ok2_0 ok2_1 ok2_2 w3 w4
  refine (Go.Proofs.Ytijjdgmcjienlaa.Q.batonlaw19_LeaseConfigs.calls kk x0.f0 x0.f1 x0.f2 x0.f3 x0.f4 x0.f5 x0.f6 x0.f7 x0.f8 x0.f9 x0.f10 x0.f11 x0.f12 x0.f13 x0.f14 x0.f15 x0.f16 x0.f17 x0.f18 x0.f19 _ _ x1 x2.f0 x2.f1 x2.f2 x2.f3 a3 a4 true W g1 l1 hh).mono fun e W' ⟨he, bel0⟩ => ?_
  have bel : Below W.heap.size W W' := bel0
  subst he
  exact ⟨_, rfl, _, _, _, [], _, [], hW', trodAll_mk1 (shut_bool Try.underlying4 _), (trodAll_cons_mk (Below.trod laidOut (by kernel_rfl) (of_decide_eq_true (by kernel_rfl)) k0 bel lt0) (trodAll_cons_mk (Below.trod laidOut (by kernel_rfl) (of_decide_eq_true (by kernel_rfl)) k1 bel lt1) (trodAll_cons_mk (Below.trod laidOut (by kernel_rfl) (of_decide_eq_true (by kernel_rfl)) k2 bel lt2) (trodAll_cons_mk (shut_int Try.underlying3 w3) (trodAll_cons_mk (shut_int Try.underlying2 w4) trodAll_mk0))))), rfl, bel.frame _, fun h => by cases h⟩
theorem over : Rows.leaseConfigsRow.holds Try.pinned (OpenSpec.ofChange Rows.leaseConfigsSpec) :=
  OpenClaim.holds_of_wide 9 Try.f9 rfl rfl rfl rfl rfl rfl rfl ⟨rfl, rfl, rfl, rfl, rfl⟩ rfl rfl rfl rfl rfl (by kernel_rfl) Try.func9 (by kernel_rfl)
    (of_decide_eq_true (by kernel_rfl)) (by unfold Func.isWrapper; first | (rw [if_pos (by decide +kernel)]; kernel_rfl) | (rw [if_neg (by decide +kernel)]; exact ⟨rfl, rfl⟩))
    (fun os started H enc _ => lifted os started H enc)
theorem proved : Rows.LeaseConfigsSaid := over
#print axioms proved
end Go.Proofs.Ytijjdgmcjienlaa.leaseConfigs
namespace Go.Proofs.Ytijjdgmcjienlaa
/-- The row, under a short name, for the claim. -/
theorem leaseConfigs_holds : Rows.LeaseConfigsSaid := leaseConfigs.proved
end Go.Proofs.Ytijjdgmcjienlaa
