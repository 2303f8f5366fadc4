/- Nobody's cache: every method at nil. -/
import Derived.Test.YtagkobpbhfkmdaaAW
import Derived.Test.YtagkobpbhfkmdaaCK
namespace Go.Proofs.Ytagkobpbhfkmdaa.C
open Go.RowKit Go.ChangeMaps Go.Proofs.Ytagkobpbhfkmdaa.Q Go.Proofs.YtagkobpbhfkmdaaW.PrintLast Go.Proofs.YtagkobpbhfkmdaaW.PrintWords
set_option linter.unusedVariables false
set_option linter.unusedSimpArgs false
set_option maxHeartbeats 1000000 in
set_option maxRecDepth 100000 in
theorem nil_upto (w : World) : Calls Try.prog 20 #[.pointer none] w fun e w' => e = .returned (.int .i64 (-1)) ∧ w = w' := by
  go_enter Try.func20, Try.ntmps20
  go_wp2_with fail
  go_ret
  exact ⟨rfl, rfl⟩
set_option maxHeartbeats 1000000 in
set_option maxRecDepth 100000 in
theorem nil_asof (k : ByteArray) (w : World) : Calls Try.prog 17 #[.pointer none, .string k] w fun e w' => e = .returned (.int .i64 (-1)) ∧ w = w' := by
  go_enter Try.func17, Try.ntmps17
  go_wp2_with fail
  go_ret
  exact ⟨rfl, rfl⟩
set_option maxHeartbeats 1000000 in
set_option maxRecDepth 100000 in
theorem nil_list (v : Value) (r : Int) (w : World) : Calls Try.prog 24 #[.pointer none, v, .int .i64 r] w fun e w' => e = .returned (.int .i64 2) ∧ Below w.heap.size w w' := by
  go_enter Try.func24, Try.ntmps24
  go_wp2_with fail
  go_ret
  exact ⟨rfl, by repeat (first | exact Below.refl _ _ | refine Below.alloc ?_ (by simp <;> omega) _)⟩
set_option maxHeartbeats 1000000 in
set_option maxRecDepth 100000 in
theorem nil_watch (v : Value) (a r : Int) (w : World) : Calls Try.prog 27 #[.pointer none, .int .i64 a, .int .i64 r, v] w fun e w' => e = .returned (.int .i64 2) ∧ w = w' := by
  go_enter Try.func27, Try.ntmps27
  go_wp2_with fail
  go_ret
  exact ⟨rfl, rfl⟩
set_option maxHeartbeats 1000000 in
set_option maxRecDepth 100000 in
theorem nil_learn (r : Int) (w : World) : Calls Try.prog 18 #[.pointer none, .slice none 0 0, .slice none 0 0, .int .i64 r] w fun e w' => e = .returned (.int .i64 2) ∧ Below w.heap.size w w' := by
  go_enter Try.func18, Try.ntmps18
  go_wp2_with fail
  go_ret
  exact ⟨rfl, by repeat (first | exact Below.refl _ _ | refine Below.alloc ?_ (by simp <;> omega) _)⟩
set_option maxHeartbeats 1000000 in
set_option maxRecDepth 100000 in
theorem nil_entries (k : ByteArray) (w : World) : Calls Try.prog 19 #[.pointer none, .string k] w fun e w' => e = .returned (.slice none 0 0) ∧ w = w' := by
  go_enter Try.func19, Try.ntmps19
  go_wp2_with fail
  go_ret
  exact ⟨rfl, rfl⟩
set_option maxHeartbeats 1000000 in
set_option maxRecDepth 100000 in
theorem nil_copy (w : World) : Calls Try.prog 29 #[.pointer none] w fun e w' => e = .returned (.pointer none) ∧ w = w' := by
  go_enter Try.func29, Try.ntmps29
  go_wp2_with fail
  go_ret
  exact ⟨rfl, rfl⟩
set_option maxHeartbeats 1000000 in
set_option maxRecDepth 100000 in
theorem nil_get (k : ByteArray) (w : World) : Calls Try.prog 16 #[.pointer none, .string k] w fun e w' => e = .returned (.tuple #[.agg #[Value.string (ByteArray.mk #[]), Value.string (ByteArray.mk #[]), Value.int IntKind.i64 0, Value.int IntKind.i64 0], .bool false]) ∧ Below w.heap.size w w' := by
  have hz := heap_alloc_new w (Obj.cells #[Value.string (ByteArray.mk #[]), Value.string (ByteArray.mk #[]), Value.int IntKind.i64 0, Value.int IntKind.i64 0] 46 (0, 0))
  have hF0 := (Fr.refl (fun _ => False) w).alloc (Obj.cells #[Value.string (ByteArray.mk #[]), Value.string (ByteArray.mk #[]), Value.int IntKind.i64 0, Value.int IntKind.i64 0] 46 (0, 0))
  obtain ⟨b0, hb0⟩ : ∃ b0, w.heap.size = b0 := ⟨_, rfl⟩
  rw [hb0] at hz
  have HZ := Aside.mk (And.intro hz hF0)
  have HB := Aside.mk hb0
  clear hF0
  go_enter Try.func16, Try.ntmps16
  go_upto_region 1 with fail
  try rw [hb0]
  clear hb0
  generalize w.alloc (Obj.cells #[Value.string (ByteArray.mk #[]), Value.string (ByteArray.mk #[]), Value.int IntKind.i64 0, Value.int IntKind.i64 0] 46 (0, 0)) = w1 at *
  have y0 := cell_at hz 0
  have y1 := cell_at hz 1
  have y2 := cell_at hz 2
  have y3 := cell_at hz 3
  have v0 := free_at hz 0
  have v1 := free_at hz 1
  have v2 := free_at hz 2
  have v3 := free_at hz 3
  go_wp2_with fail
  refine at_world (fun W hW => ?_)
  have hw0 : W.heap[b0]? = some (Obj.cells #[Value.string (ByteArray.mk #[]), Value.string (ByteArray.mk #[]), Value.int IntKind.i64 0, Value.int IntKind.i64 0] 46 (0, 0)) := by
    rw [hW]
    exact set4 (T := 46) HZ.out.1 _ _ _ _
  have z0 := cell_at hw0 0
  have z1 := cell_at hw0 1
  have z2 := cell_at hw0 2
  have z3 := cell_at hw0 3
  refine bodyPost_ret (by simp [results, Try.results16, go_sem, z0, z1, z2, z3]; try rfl) rfl ?_
  subst hW
  have hb0 := HB.out
  exact ⟨rfl, (Fr.below (F := fun _ => False) ((((HZ.out.2.setCell (p := ⟨b0, 0, none⟩) (.inr (by show w.heap.size ≤ b0; omega)) _).setCell (p := ⟨b0, 1, none⟩) (.inr (by show w.heap.size ≤ b0; omega)) _).setCell (p := ⟨b0, 2, none⟩) (.inr (by show w.heap.size ≤ b0; omega)) _).setCell (p := ⟨b0, 3, none⟩) (.inr (by show w.heap.size ≤ b0; omega)) _) (by omega) (fun k h => h.elim))⟩
set_option maxHeartbeats 2000000 in
set_option maxRecDepth 100000 in
theorem nil_known (tn cl : ByteArray) (htn : tn.size ≤ 1000000) (hcl : cl.size ≤ 1000000) (hke : (clusterK tn cl).toList.isEmpty = false) (w : World) : Calls Try.prog 12 #[.pointer none, .string tn, .string cl] w fun e w' => e = .returned (.tuple #[.agg #[Value.string (ByteArray.mk #[]), Value.int IntKind.i64 0, Value.int IntKind.i64 0, Value.bool false, Value.bool false, Value.int IntKind.i64 0, Value.int IntKind.i64 0, Value.int IntKind.i64 0, Value.int IntKind.i64 0], .bool false]) ∧ Below w.heap.size w w' := by
  have hkc := fun v => cluster_calls tn cl htn hcl v
  have hta := fun v => tenant_calls tn htn v
  obtain ⟨key, hkey⟩ : ∃ key, clusterK tn cl = key := ⟨_, rfl⟩
  obtain ⟨above, habove⟩ : ∃ above, tenantK tn = above := ⟨_, rfl⟩
  rw [hkey] at hkc hke
  rw [habove] at hta
  have hz := heap_alloc_new w (Obj.cells #[Value.string (ByteArray.mk #[]), Value.int IntKind.i64 0, Value.int IntKind.i64 0, Value.bool false, Value.bool false, Value.int IntKind.i64 0, Value.int IntKind.i64 0, Value.int IntKind.i64 0, Value.int IntKind.i64 0] 39 (0, 0))
  have hF0 := (Fr.refl (fun _ => False) w).alloc (Obj.cells #[Value.string (ByteArray.mk #[]), Value.int IntKind.i64 0, Value.int IntKind.i64 0, Value.bool false, Value.bool false, Value.int IntKind.i64 0, Value.int IntKind.i64 0, Value.int IntKind.i64 0, Value.int IntKind.i64 0] 39 (0, 0))
  obtain ⟨b0, hb0⟩ : ∃ b0, w.heap.size = b0 := ⟨_, rfl⟩
  rw [hb0] at hz
  have HC := Aside.mk (And.intro hkc hta)
  have H0 := Aside.mk (And.intro hz hF0)
  clear hkc hta hz hF0 htn hcl hkey habove
  go_enter Try.func12, Try.ntmps12
  go_wp2_with fail
  refine (HC.out.1 _).mono ?_
  rintro e w1 ⟨rfl, q1, rfl⟩
  go_wp2_with fail
  refine (HC.out.2 _).mono ?_
  rintro e w1 ⟨rfl, q2, rfl⟩
  have H1 : Aside ((((w.alloc (Obj.cells #[Value.string (ByteArray.mk #[]), Value.int IntKind.i64 0, Value.int IntKind.i64 0, Value.bool false, Value.bool false, Value.int IntKind.i64 0, Value.int IntKind.i64 0, Value.int IntKind.i64 0, Value.int IntKind.i64 0] 39 (0, 0))).drewN q1).drewN q2).heap[b0]? = some (Obj.cells #[Value.string (ByteArray.mk #[]), Value.int IntKind.i64 0, Value.int IntKind.i64 0, Value.bool false, Value.bool false, Value.int IntKind.i64 0, Value.int IntKind.i64 0, Value.int IntKind.i64 0, Value.int IntKind.i64 0] 39 (0, 0)) ∧ Fr (fun _ => False) w (((w.alloc (Obj.cells #[Value.string (ByteArray.mk #[]), Value.int IntKind.i64 0, Value.int IntKind.i64 0, Value.bool false, Value.bool false, Value.int IntKind.i64 0, Value.int IntKind.i64 0, Value.int IntKind.i64 0, Value.int IntKind.i64 0] 39 (0, 0))).drewN q1).drewN q2)) := ⟨H0.out.1, (H0.out.2.drewN q1).drewN q2⟩
  generalize ((w.alloc (Obj.cells #[Value.string (ByteArray.mk #[]), Value.int IntKind.i64 0, Value.int IntKind.i64 0, Value.bool false, Value.bool false, Value.int IntKind.i64 0, Value.int IntKind.i64 0, Value.int IntKind.i64 0, Value.int IntKind.i64 0] 39 (0, 0))).drewN q1).drewN q2 = w1 at *
  clear H0
  go_wp2_with fail
  refine (nil_asof key w1).mono ?_
  rintro e w2 ⟨rfl, rfl⟩
  have hz1 := H1.out.1
  have y0 : w1.cell? ⟨b0, 0, none⟩ = some (Value.string (ByteArray.mk #[])) := cell_at hz1 0
  have v0 : w1.frozen? ⟨b0, 0, none⟩ = false := free_at hz1 0
  have y1 : w1.cell? ⟨b0, 1, none⟩ = some (Value.int IntKind.i64 0) := cell_at hz1 1
  have v1 : w1.frozen? ⟨b0, 1, none⟩ = false := free_at hz1 1
  have y2 : w1.cell? ⟨b0, 2, none⟩ = some (Value.int IntKind.i64 0) := cell_at hz1 2
  have v2 : w1.frozen? ⟨b0, 2, none⟩ = false := free_at hz1 2
  have y3 : w1.cell? ⟨b0, 3, none⟩ = some (Value.bool false) := cell_at hz1 3
  have v3 : w1.frozen? ⟨b0, 3, none⟩ = false := free_at hz1 3
  have y4 : w1.cell? ⟨b0, 4, none⟩ = some (Value.bool false) := cell_at hz1 4
  have v4 : w1.frozen? ⟨b0, 4, none⟩ = false := free_at hz1 4
  have y5 : w1.cell? ⟨b0, 5, none⟩ = some (Value.int IntKind.i64 0) := cell_at hz1 5
  have v5 : w1.frozen? ⟨b0, 5, none⟩ = false := free_at hz1 5
  have y6 : w1.cell? ⟨b0, 6, none⟩ = some (Value.int IntKind.i64 0) := cell_at hz1 6
  have v6 : w1.frozen? ⟨b0, 6, none⟩ = false := free_at hz1 6
  have y7 : w1.cell? ⟨b0, 7, none⟩ = some (Value.int IntKind.i64 0) := cell_at hz1 7
  have v7 : w1.frozen? ⟨b0, 7, none⟩ = false := free_at hz1 7
  have y8 : w1.cell? ⟨b0, 8, none⟩ = some (Value.int IntKind.i64 0) := cell_at hz1 8
  have v8 : w1.frozen? ⟨b0, 8, none⟩ = false := free_at hz1 8
  go_wp2_with fail
  refine at_world (fun W hW => ?_)
  have hw0 : W.heap[b0]? = some (Obj.cells #[Value.string (ByteArray.mk #[]), Value.int IntKind.i64 0, Value.int IntKind.i64 0, Value.bool false, Value.bool false, Value.int IntKind.i64 0, Value.int IntKind.i64 0, Value.int IntKind.i64 0, Value.int IntKind.i64 0] 39 (0, 0)) := by
    rw [hW]
    exact set9 (b := b0) (T := 39) hz1 _ _ _ _ _ _ _ _ _
  have z0 := cell_at hw0 0
  have z1 := cell_at hw0 1
  have z2 := cell_at hw0 2
  have z3 := cell_at hw0 3
  have z4 := cell_at hw0 4
  have z5 := cell_at hw0 5
  have z6 := cell_at hw0 6
  have z7 := cell_at hw0 7
  have z8 := cell_at hw0 8
  refine bodyPost_ret (by simp [results, Try.results12, go_sem, z0, z1, z2, z3, z4, z5, z6, z7, z8]; try rfl) rfl ?_
  subst hW
  exact ⟨rfl, (H1.out.2.set9 (b := b0) (.inr (by omega)) _ _ _ _ _ _ _ _ _).below (Nat.le_refl _) (fun k h => h.elim)⟩
end Go.Proofs.Ytagkobpbhfkmdaa.C
