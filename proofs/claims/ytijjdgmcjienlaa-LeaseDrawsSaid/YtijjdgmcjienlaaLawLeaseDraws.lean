-- Written by this session's own program (wip/myprint.py), in the form of the kit's print; checked by Lean alone.
import Derived.Test.YtijjdgmcjienlaaRows
import Derived.Test.YtijjdgmcjienlaaQx19
import Derived.Test.YtijjdgmcjienlaaPureLeaseDraws
import Derived.Test.YtijjdgmcjienlaaOpen
import Derived.WalkKit
import Derived.ProofKit
import Derived.OpenShut
import Derived.ShutString
import Derived.ChangeOld
import Derived.Below
import Derived.SizedLaws
namespace Go.Proofs.Ytijjdgmcjienlaa.leaseDraws
open Go.ChangeShapes Go.WideShapes Go.ChangeAt Go.RowKit
open Go.ChangeMaps (open_string shut_string)
set_option linter.unusedVariables false
theorem own : ownKnob Try.prog.godebug = none := by kernel_rfl
theorem laidOut : laidOutB Try.prog = true := by kernel_rfl
set_option maxHeartbeats 1000000 in
set_option maxRecDepth 100000 in
theorem lifted (os : Os) (started : os.Started) (H : Type) (enc : TypeId × Value → H) :
    ReturnsInHanded {} Try.checked os 10 .any (Rows.leaseDrawsSpec.pre6 enc Try.prog Try.f10 Rows.leaseDrawsRow.domain false) (Rows.leaseDrawsSpec.post enc Try.prog Try.f10 false true false false) := by
  refine returnsInHanded_of_change_sized (C := Try.checked) own started (by kernel_rfl) Try.func10
    (ChangeSpec.witness6 (enc := enc) (C := Try.checked) false ⟨#[], #[.slice none 0 0, .agg #[.string ByteArray.empty, .int .i64 0, .int .i64 0, .bool false], .agg #[.string ByteArray.empty, .int .i64 0, .int .i64 0, .bool false], .int .i64 0, .int .i64 0], []⟩ 8 (by kernel_rfl) (by kernel_rfl) (by kernel_rfl) (by kernel_rfl)) ?_
  intro W base args ds gs before hval0 hW hcnd hsz0 _
  have hsz : (DataW.weightsEach Try.prog (Try.f10.params.toList ++ Rows.leaseDrawsSpec.plain.varTypes Try.prog) (ds ++ gs)).all (· ≤ reachBytes) = true := hsz0
  have hval : ∀ (j : Nat) t v, Try.f10.params[j]? = some t → args[j]? = some v → Value.okWide Try.prog W .any base t v := hval0
  have hW' := hW
  obtain ⟨p, q, hA0, hV, rfl, hfz, hnd⟩ := hW
  have hA : DataW.TrodAll enc Try.prog W 0 (fun _ => true) true Try.f10.params.toList args.toList ds p := hA0
  rw [Try.params10] at hA hval hsz
  obtain ⟨v0, vs0, d0, ds0, p0, q0, hargs, rfl, rfl, h0, r0⟩ := trodAll_cons hA
  obtain ⟨v1, vs1, d1, ds1, p1, q1, rfl, rfl, rfl, h1, r1⟩ := trodAll_cons r0
  obtain ⟨v2, vs2, d2, ds2, p2, q2, rfl, rfl, rfl, h2, r2⟩ := trodAll_cons r1
  obtain ⟨v3, vs3, d3, ds3, p3, q3, rfl, rfl, rfl, h3, r3⟩ := trodAll_cons r2
  obtain ⟨v4, vs4, d4, ds4, p4, q4, rfl, rfl, rfl, h4, r4⟩ := trodAll_cons r3
  obtain ⟨rfl, rfl, rfl⟩ := trodAll_nil r4
  obtain rfl : args = #[v0, v1, v2, v3, v4] := by cases args; simp_all
  obtain ⟨rfl, rfl⟩ := trodVars_none hV
  have k0 := h0
  have lt0 : ∀ x ∈ p0, x.block < W.heap.size := by obtain ⟨m, hm⟩ := k0; exact DataW.trod_lt m _ _ _ hm
  obtain ⟨x0, K0, ok0⟩ := Go.Proofs.Ytijjdgmcjienlaa.Open.arg (Go.Proofs.Ytijjdgmcjienlaa.Open.opens_slice (P := Try.prog) (t := 39) (b := 8) Try.underlying39 (by kernel_rfl) (by kernel_rfl) (Go.Proofs.Ytijjdgmcjienlaa.Open.opens_int (P := Try.prog) (t := 2) Try.underlying2 (by kernel_rfl))) hsz (j := 0) rfl rfl h0
  obtain ⟨aa0, len0, cap0, rfl⟩ := okWide_slice Try.underlying39 (hval 0 39 v0 rfl rfl)
  obtain ⟨A0, c0, e0, l0, g0⟩ := K0
  simp only [Value.cells, List.cons.injEq, Value.slice.injEq, and_true] at e0
  obtain ⟨rfl, rfl, rfl⟩ := e0
  have k1 := h1
  have lt1 : ∀ x ∈ p1, x.block < W.heap.size := by obtain ⟨m, hm⟩ := k1; exact DataW.trod_lt m _ _ _ hm
  obtain ⟨x1, K1, ok1⟩ := Go.Proofs.Ytijjdgmcjienlaa.Open.arg Go.Proofs.Ytijjdgmcjienlaa.Q.opens23 hsz (j := 1) rfl rfl h1
  obtain ⟨cs1, rfl, cq1⟩ := Go.Proofs.Ytijjdgmcjienlaa.Open.arg_agg Try.underlying23 (hval 1 23 v1 rfl rfl)
  rw [cq1] at K1
  obtain ec1 := Go.Proofs.Ytijjdgmcjienlaa.Q.k23_open K1
  obtain rfl := Go.Proofs.Ytijjdgmcjienlaa.Open.arr_eq ec1
  obtain ⟨ok1_0, ok1_1, ok1_2, ok1_3⟩ : Go.Proofs.Ytijjdgmcjienlaa.Open.okStr x1.f0 ∧ (Go.Proofs.Ytijjdgmcjienlaa.Open.okInt .i64) x1.f1 ∧ (Go.Proofs.Ytijjdgmcjienlaa.Open.okInt .i64) x1.f2 ∧ Go.Proofs.Ytijjdgmcjienlaa.Open.okBool x1.f3 := ok1
  have k2 := h2
  have lt2 : ∀ x ∈ p2, x.block < W.heap.size := by obtain ⟨m, hm⟩ := k2; exact DataW.trod_lt m _ _ _ hm
  obtain ⟨x2, K2, ok2⟩ := Go.Proofs.Ytijjdgmcjienlaa.Open.arg Go.Proofs.Ytijjdgmcjienlaa.Q.opens23 hsz (j := 2) rfl rfl h2
  obtain ⟨cs2, rfl, cq2⟩ := Go.Proofs.Ytijjdgmcjienlaa.Open.arg_agg Try.underlying23 (hval 2 23 v2 rfl rfl)
  rw [cq2] at K2
  obtain ec2 := Go.Proofs.Ytijjdgmcjienlaa.Q.k23_open K2
  obtain rfl := Go.Proofs.Ytijjdgmcjienlaa.Open.arr_eq ec2
  obtain ⟨ok2_0, ok2_1, ok2_2, ok2_3⟩ : Go.Proofs.Ytijjdgmcjienlaa.Open.okStr x2.f0 ∧ (Go.Proofs.Ytijjdgmcjienlaa.Open.okInt .i64) x2.f1 ∧ (Go.Proofs.Ytijjdgmcjienlaa.Open.okInt .i64) x2.f2 ∧ Go.Proofs.Ytijjdgmcjienlaa.Open.okBool x2.f3 := ok2
  obtain ⟨a3, rfl, rfl, rfl, w3⟩ := open_int Try.underlying3 (hval 3 3 v3 rfl rfl) h3
  obtain ⟨a4, rfl, rfl, rfl, w4⟩ := open_int Try.underlying2 (hval 4 2 v4 rfl rfl) h4
  clear hA0 hval0 hsz0 hsz
  obtain ⟨kk, hh⟩ := Pure.LeaseDraws x0 x1.f0 x1.f1 x1.f2 x1.f3 x2.f0 x2.f1 x2.f2 x2.f3 a3 a4 ok0 ok1_0 ok1_1 ok1_2 ok2_0 ok2_1 ok2_2 w3 w4
  refine (Go.Proofs.Ytijjdgmcjienlaa.Q.batonlaw19_LeaseDraws.calls kk _ _ x0 x1.f0 x1.f1 x1.f2 x1.f3 x2.f0 x2.f1 x2.f2 x2.f3 a3 a4 true W g0 l0 hh).mono fun e W' ⟨he, bel0⟩ => ?_
  have bel : Below W.heap.size W W' := bel0
  subst he
  exact ⟨_, rfl, _, _, _, [], _, [], hW', trodAll_mk1 (shut_bool Try.underlying4 _), (trodAll_cons_mk (Below.trod laidOut (by kernel_rfl) (of_decide_eq_true (by kernel_rfl)) k0 bel lt0) (trodAll_cons_mk (Below.trod laidOut (by kernel_rfl) (of_decide_eq_true (by kernel_rfl)) k1 bel lt1) (trodAll_cons_mk (Below.trod laidOut (by kernel_rfl) (of_decide_eq_true (by kernel_rfl)) k2 bel lt2) (trodAll_cons_mk (shut_int Try.underlying3 w3) (trodAll_cons_mk (shut_int Try.underlying2 w4) trodAll_mk0))))), rfl, bel.frame _, fun h => by cases h⟩
theorem over : Rows.leaseDrawsRow.holds Try.pinned (OpenSpec.ofChange Rows.leaseDrawsSpec) :=
  OpenClaim.holds_of_wide 10 Try.f10 rfl rfl rfl rfl rfl rfl rfl ⟨rfl, rfl, rfl, rfl, rfl⟩ rfl rfl rfl rfl rfl (by kernel_rfl) Try.func10 (by kernel_rfl)
    (of_decide_eq_true (by kernel_rfl)) (by unfold Func.isWrapper; first | (rw [if_pos (by decide +kernel)]; kernel_rfl) | (rw [if_neg (by decide +kernel)]; exact ⟨rfl, rfl⟩))
    (fun os started H enc _ => lifted os started H enc)
theorem proved : Rows.LeaseDrawsSaid := over
#print axioms proved
end Go.Proofs.Ytijjdgmcjienlaa.leaseDraws
namespace Go.Proofs.Ytijjdgmcjienlaa
/-- The row, under a short name, for the claim. -/
theorem leaseDraws_holds : Rows.LeaseDrawsSaid := leaseDraws.proved
end Go.Proofs.Ytijjdgmcjienlaa
