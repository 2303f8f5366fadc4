/- The cache: Known. -/
import Derived.Test.YtagkobpbhfkmdaaCE
import Derived.Test.YtagkobpbhfkmdaaRET
namespace Go.Proofs.Ytagkobpbhfkmdaa.C
open Go.RowKit Go.ChangeMaps Go.Proofs.Ytagkobpbhfkmdaa.Q Go.Proofs.YtagkobpbhfkmdaaW.PrintLast Go.Proofs.YtagkobpbhfkmdaaW.PrintWords
set_option linter.unusedVariables false
set_option linter.unusedSimpArgs false
structure Knw where
  r : Rec
  there : Bool
  mod : Int
  t : Ten
  tmod : Int
def knwZ : Knw := ⟨recZ, false, 0, tenZ, 0⟩
def knwC (k : Knw) : Array Value := #[.string k.r.rep, .int .i64 k.r.ep, .int .i64 k.r.tm, .bool k.r.gone, .bool k.there, .int .i64 k.mod, .int .i64 k.t.live, .int .i64 k.t.epochs, .int .i64 k.tmod]
/-- What an election must know, of what stands at its two keys. -/
def knownX (a b : Ent × Bool) : Knw × Bool :=
  if (a.2 = true ∧ (decRec a.1.val).2 ≠ 0) ∨ (b.2 = true ∧ (decTen b.1.val).2 ≠ 0) then (knwZ, false)
  else (⟨if a.2 = true then (decRec a.1.val).1 else recZ, a.2, if a.2 = true then a.1.mod else 0, if b.2 = true then (decTen b.1.val).1 else tenZ, if b.2 = true then b.1.mod else 0⟩, true)
def knownM (f : Fcts) (u : Int) (t c : ByteArray) : Knw × Bool :=
  if (clusterK t c).toList.isEmpty = true ∨ asofM f u (clusterK t c) = -1 ∨ asofM f u (tenantK t) = -1 then (knwZ, false) else knownX (getM f (clusterK t c)) (getM f (tenantK t))
theorem set9 {w : World} {b : Nat} {T : TypeId} {y0 y1 y2 y3 y4 y5 y6 y7 y8 : Value} (h : w.heap[b]? = some (.cells #[y0, y1, y2, y3, y4, y5, y6, y7, y8] T (0, 0))) (a0 a1 a2 a3 a4 a5 a6 a7 a8 : Value) : (((((((((w.setCell ⟨b, 0, none⟩ a0).setCell ⟨b, 1, none⟩ a1).setCell ⟨b, 2, none⟩ a2).setCell ⟨b, 3, none⟩ a3).setCell ⟨b, 4, none⟩ a4).setCell ⟨b, 5, none⟩ a5).setCell ⟨b, 6, none⟩ a6).setCell ⟨b, 7, none⟩ a7).setCell ⟨b, 8, none⟩ a8).heap[b]? = some (.cells #[a0, a1, a2, a3, a4, a5, a6, a7, a8] T (0, 0)) := by
  rw [heap_setCell_eq _ (heap_setCell_eq _ (heap_setCell_eq _ (heap_setCell_eq _ (heap_setCell_eq _ (heap_setCell_eq _ (heap_setCell_eq _ (heap_setCell_eq _ (heap_setCell_eq _ h))))))))]
  simp only [List.setIfInBounds_toArray, List.set_cons_zero, List.set_cons_succ]
theorem Fr.set9 {F : Nat → Prop} {a w : World} (h : Fr F a w) {b : Nat} (hb : F b ∨ a.heap.size ≤ b) (v0 v1 v2 v3 v4 v5 v6 v7 v8 : Value) : Fr F a (((((((((w.setCell ⟨b, 0, none⟩ v0).setCell ⟨b, 1, none⟩ v1).setCell ⟨b, 2, none⟩ v2).setCell ⟨b, 3, none⟩ v3).setCell ⟨b, 4, none⟩ v4).setCell ⟨b, 5, none⟩ v5).setCell ⟨b, 6, none⟩ v6).setCell ⟨b, 7, none⟩ v7).setCell ⟨b, 8, none⟩ v8) := (((h.set6 hb v0 v1 v2 v3 v4 v5).setCell (p := ⟨b, 6, none⟩) hb _).setCell (p := ⟨b, 7, none⟩) hb _).setCell (p := ⟨b, 8, none⟩) hb _
theorem getM_val {f : Fcts} (h : ∀ k v, f k = some v → v.x.val.size ≤ 1000000) (k : ByteArray) : (getM f k).1.val.size ≤ 1000000 := by
  unfold getM
  cases hf : f k with
  | none => exact Nat.zero_le _
  | some v => exact h k v hf
def ck8T : Bool × List (List Nat × List Nat) := (true, [([], []), ([0], [0]), ([], []), ([2], [2]), ([0, 1, 2, 3], []), ([4, 1, 3, 0, 1, 2, 3], [1, 4])])
def ck8B : List Nat := [0, 1, 0, 4, 15, 31]
theorem ck8_tab : rtab .any (opsOf Try.f12 8) = ck8T := by kernel_rfl
theorem ck8_bits : waitsOk ck8T.2 ck8B = true := by kernel_rfl

set_option maxHeartbeats 8000000 in
set_option maxRecDepth 100000 in
theorem known_calls (C M : Nat) (f : Fcts) (u : Int) (tn cl : ByteArray) (htn : tn.size ≤ 1000000) (hcl : cl.size ≤ 1000000) (hval : ∀ k v, f k = some v → v.x.val.size ≤ 1000000) (w : World) (h : CA w C M f u) :
    Calls Try.prog 12 #[.pointer (some ⟨C, 0, none⟩), .string tn, .string cl] w fun e w' => e = .returned (.tuple #[.agg (knwC (knownM f u tn cl).1), .bool (knownM f u tn cl).2]) ∧ Below w.heap.size w w' := by
  have hkc := fun v => cluster_calls tn cl htn hcl v
  have hta := fun v => tenant_calls tn htn v
  obtain ⟨X, hX⟩ : ∃ X, knownM f u tn cl = X := ⟨_, rfl⟩
  rw [hX]
  unfold knownM at hX
  obtain ⟨key, hkey⟩ : ∃ key, clusterK tn cl = key := ⟨_, rfl⟩
  obtain ⟨above, habove⟩ : ∃ above, tenantK tn = above := ⟨_, rfl⟩
  rw [hkey] at hkc hX
  rw [habove] at hta hX
  have hbE := (Below.refl w.heap.size w).alloc (Nat.le_refl _) (Obj.cells #[Value.string (ByteArray.mk #[]), Value.int IntKind.i64 0, Value.int IntKind.i64 0, Value.bool false, Value.bool false, Value.int IntKind.i64 0, Value.int IntKind.i64 0, Value.int IntKind.i64 0, Value.int IntKind.i64 0] 39 (0, 0))
  have hZ0 := heap_alloc_new w (Obj.cells #[Value.string (ByteArray.mk #[]), Value.int IntKind.i64 0, Value.int IntKind.i64 0, Value.bool false, Value.bool false, Value.int IntKind.i64 0, Value.int IntKind.i64 0, Value.int IntKind.i64 0, Value.int IntKind.i64 0] 39 (0, 0))
  have hC0 := h.below hbE
  have hF0 := (Fr.refl (fun _ => False) w).alloc (Obj.cells #[Value.string (ByteArray.mk #[]), Value.int IntKind.i64 0, Value.int IntKind.i64 0, Value.bool false, Value.bool false, Value.int IntKind.i64 0, Value.int IntKind.i64 0, Value.int IntKind.i64 0, Value.int IntKind.i64 0] 39 (0, 0))
  obtain ⟨b0, hb0⟩ : ∃ b0, w.heap.size = b0 := ⟨_, rfl⟩
  rw [hb0] at hZ0
  have hs0 : (w.alloc (Obj.cells #[Value.string (ByteArray.mk #[]), Value.int IntKind.i64 0, Value.int IntKind.i64 0, Value.bool false, Value.bool false, Value.int IntKind.i64 0, Value.int IntKind.i64 0, Value.int IntKind.i64 0, Value.int IntKind.i64 0] 39 (0, 0))).heap.size = b0 + 1 := by simp [hb0]
  obtain ⟨a1, ha1⟩ : ∃ a1, asofM f u key = a1 := ⟨_, rfl⟩
  obtain ⟨a2, ha2⟩ : ∃ a2, asofM f u above = a2 := ⟨_, rfl⟩
  have hs1 := fun v hv => casof_calls C M f u key v hv
  have hs2 := fun v hv => casof_calls C M f u above v hv
  rw [ha1] at hs1 hX
  rw [ha2] at hs2 hX
  have hg1 := fun v hv => cget_calls C M f u key v hv
  have hg2 := fun v hv => cget_calls C M f u above v hv
  have hv1 := getM_val hval key
  have hv2 := getM_val hval above
  obtain ⟨⟨xa, ia⟩, hxa⟩ : ∃ g, getM f key = g := ⟨_, rfl⟩
  obtain ⟨⟨xb, ib⟩, hxb⟩ : ∃ g, getM f above = g := ⟨_, rfl⟩
  rw [hxa] at hg1 hv1 hX
  rw [hxb] at hg2 hv2 hX
  dsimp only at hg1 hg2 hv1 hv2
  have hd1 := fun v => decode_calls xa.val (by omega) v
  have hd2 := fun v => decodet_calls xb.val (by omega) v
  unfold knownX at hX
  dsimp only at hX
  obtain ⟨D, hD⟩ : ∃ D, decRec xa.val = D := ⟨_, rfl⟩
  obtain ⟨T, hT⟩ : ∃ T, decTen xb.val = T := ⟨_, rfl⟩
  rw [hD] at hd1 hX
  rw [hT] at hd2 hX
  have hd1 := fun v => (hd1 v).mono (fun e w' h => (show e = .returned (.tuple #[.agg #[.string D.1.rep, .int .i64 D.1.ep, .int .i64 D.1.tm, .bool D.1.gone], .int .i64 D.2]) ∧ Below v.heap.size v w' from h))
  have hd2 := fun v => (hd2 v).mono (fun e w' h => (show e = .returned (.tuple #[.agg #[.int .i64 T.1.live, .int .i64 T.1.epochs], .int .i64 T.2]) ∧ Below v.heap.size v w' from h))
  have HX := Aside.mk hX
  have HC := Aside.mk (And.intro hkc (And.intro hta (And.intro hs1 (And.intro hs2 (And.intro hg1 (And.intro hg2 (And.intro hd1 hd2)))))))
  have H0 := Aside.mk (And.intro hC0 (And.intro hZ0 hF0))
  clear hkc hta hs1 hs2 hg1 hg2 hd1 hd2 hX hv1 hv2 hxa hxb hval ha1 ha2 hC0 hZ0 hF0 hbE h htn hcl hkey habove hD hT
  go_enter Try.func12, Try.ntmps12
  go_wp2_with fail
  refine (HC.out.1 _).mono ?_
  rintro e w1 ⟨rfl, q1, rfl⟩
  go_wp2_with fail
  refine (HC.out.2.1 _).mono ?_
  rintro e w1 ⟨rfl, q2, rfl⟩
  have H1 : Aside (CA (((w.alloc (Obj.cells #[Value.string (ByteArray.mk #[]), Value.int IntKind.i64 0, Value.int IntKind.i64 0, Value.bool false, Value.bool false, Value.int IntKind.i64 0, Value.int IntKind.i64 0, Value.int IntKind.i64 0, Value.int IntKind.i64 0] 39 (0, 0))).drewN q1).drewN q2) C M f u ∧ (((w.alloc (Obj.cells #[Value.string (ByteArray.mk #[]), Value.int IntKind.i64 0, Value.int IntKind.i64 0, Value.bool false, Value.bool false, Value.int IntKind.i64 0, Value.int IntKind.i64 0, Value.int IntKind.i64 0, Value.int IntKind.i64 0] 39 (0, 0))).drewN q1).drewN q2).heap[b0]? = some (Obj.cells #[Value.string (ByteArray.mk #[]), Value.int IntKind.i64 0, Value.int IntKind.i64 0, Value.bool false, Value.bool false, Value.int IntKind.i64 0, Value.int IntKind.i64 0, Value.int IntKind.i64 0, Value.int IntKind.i64 0] 39 (0, 0)) ∧ Fr (fun _ => False) w (((w.alloc (Obj.cells #[Value.string (ByteArray.mk #[]), Value.int IntKind.i64 0, Value.int IntKind.i64 0, Value.bool false, Value.bool false, Value.int IntKind.i64 0, Value.int IntKind.i64 0, Value.int IntKind.i64 0, Value.int IntKind.i64 0] 39 (0, 0))).drewN q1).drewN q2) ∧ (((w.alloc (Obj.cells #[Value.string (ByteArray.mk #[]), Value.int IntKind.i64 0, Value.int IntKind.i64 0, Value.bool false, Value.bool false, Value.int IntKind.i64 0, Value.int IntKind.i64 0, Value.int IntKind.i64 0, Value.int IntKind.i64 0] 39 (0, 0))).drewN q1).drewN q2).heap.size = b0 + 1) := ⟨H0.out.1.keep rfl rfl, H0.out.2.1, (H0.out.2.2.drewN q1).drewN q2, hs0⟩
  generalize ((w.alloc (Obj.cells #[Value.string (ByteArray.mk #[]), Value.int IntKind.i64 0, Value.int IntKind.i64 0, Value.bool false, Value.bool false, Value.int IntKind.i64 0, Value.int IntKind.i64 0, Value.int IntKind.i64 0, Value.int IntKind.i64 0] 39 (0, 0))).drewN q1).drewN q2 = w1 at *
  clear H0 hs0
  cases hke : key.toList.isEmpty with
  | true =>
    have HX2 : Aside (X = (knwZ, false)) := ⟨by rw [← HX.out, if_pos (.inl hke)]⟩
    have hz1 := H1.out.2.1
    have y0 : w1.cell? ⟨b0, 0, none⟩ = some (Value.string (ByteArray.mk #[])) := cell_at hz1 0
    have y1 : w1.cell? ⟨b0, 1, none⟩ = some (Value.int IntKind.i64 0) := cell_at hz1 1
    have y2 : w1.cell? ⟨b0, 2, none⟩ = some (Value.int IntKind.i64 0) := cell_at hz1 2
    have y3 : w1.cell? ⟨b0, 3, none⟩ = some (Value.bool false) := cell_at hz1 3
    have y4 : w1.cell? ⟨b0, 4, none⟩ = some (Value.bool false) := cell_at hz1 4
    have y5 : w1.cell? ⟨b0, 5, none⟩ = some (Value.int IntKind.i64 0) := cell_at hz1 5
    have y6 : w1.cell? ⟨b0, 6, none⟩ = some (Value.int IntKind.i64 0) := cell_at hz1 6
    have y7 : w1.cell? ⟨b0, 7, none⟩ = some (Value.int IntKind.i64 0) := cell_at hz1 7
    have y8 : w1.cell? ⟨b0, 8, none⟩ = some (Value.int IntKind.i64 0) := cell_at hz1 8
    have v0 : w1.frozen? ⟨b0, 0, none⟩ = false := free_at hz1 0
    have v1 : w1.frozen? ⟨b0, 1, none⟩ = false := free_at hz1 1
    have v2 : w1.frozen? ⟨b0, 2, none⟩ = false := free_at hz1 2
    have v3 : w1.frozen? ⟨b0, 3, none⟩ = false := free_at hz1 3
    have v4 : w1.frozen? ⟨b0, 4, none⟩ = false := free_at hz1 4
    have v5 : w1.frozen? ⟨b0, 5, none⟩ = false := free_at hz1 5
    have v6 : w1.frozen? ⟨b0, 6, none⟩ = false := free_at hz1 6
    have v7 : w1.frozen? ⟨b0, 7, none⟩ = false := free_at hz1 7
    have v8 : w1.frozen? ⟨b0, 8, none⟩ = false := free_at hz1 8
    go_wp2_with fail
    refine at_world (fun W hW => ?_)
    have hw0 : W.heap[b0]? = some (Obj.cells #[Value.string (ByteArray.mk #[]), Value.int IntKind.i64 0, Value.int IntKind.i64 0, Value.bool false, Value.bool false, Value.int IntKind.i64 0, Value.int IntKind.i64 0, Value.int IntKind.i64 0, Value.int IntKind.i64 0] 39 (0, 0)) := by
      rw [hW]
      exact set9 (b := b0) (T := 39) hz1 _ _ _ _ _ _ _ _ _
    have z0 := cell_at hw0 0
    have z1 := cell_at hw0 1
    have z2 := cell_at hw0 2
    have z3 := cell_at hw0 3
    have z4 := cell_at hw0 4
    have z5 := cell_at hw0 5
    have z6 := cell_at hw0 6
    have z7 := cell_at hw0 7
    have z8 := cell_at hw0 8
    refine bodyPost_ret (by simp [results, Try.results12, go_sem, z0, z1, z2, z3, z4, z5, z6, z7, z8]; try rfl) rfl ?_
    subst hW
    rw [HX2.out]
    exact ⟨rfl, (H1.out.2.2.1.set9 (b := b0) (.inr (by omega)) _ _ _ _ _ _ _ _ _).below (Nat.le_refl _) (fun k h => h.elim)⟩
  | false =>
    go_wp2_with fail
    refine (HC.out.2.2.1 _ H1.out.1).mono ?_
    rintro e w2 ⟨rfl, hb2⟩
    have hz2 := (hb2.block b0 (by rw [H1.out.2.2.2]; omega)).trans H1.out.2.1
    have H2 : Aside (CA w2 C M f u ∧ w2.heap[b0]? = some (Obj.cells #[Value.string (ByteArray.mk #[]), Value.int IntKind.i64 0, Value.int IntKind.i64 0, Value.bool false, Value.bool false, Value.int IntKind.i64 0, Value.int IntKind.i64 0, Value.int IntKind.i64 0, Value.int IntKind.i64 0] 39 (0, 0)) ∧ Fr (fun _ => False) w w2) := ⟨H1.out.1.below hb2, hz2, H1.out.2.2.1.trans (Fr.of_new hb2) (fun _ _ h => h)⟩
    have hss2 : b0 + 1 ≤ w2.heap.size := by rw [← H1.out.2.2.2]; exact hb2.size
    clear hb2 H1 hz2
    by_cases h1 : a1 = -1
    · have h1b : (a1 == -1) = true := by rw [h1]; rfl
      have HX2 : Aside (X = (knwZ, false)) := ⟨by rw [← HX.out, if_pos (.inr (.inl h1))]⟩
      have hz2 := H2.out.2.1
      clear h1
      have y0 : w2.cell? ⟨b0, 0, none⟩ = some (Value.string (ByteArray.mk #[])) := cell_at hz2 0
      have y1 : w2.cell? ⟨b0, 1, none⟩ = some (Value.int IntKind.i64 0) := cell_at hz2 1
      have y2 : w2.cell? ⟨b0, 2, none⟩ = some (Value.int IntKind.i64 0) := cell_at hz2 2
      have y3 : w2.cell? ⟨b0, 3, none⟩ = some (Value.bool false) := cell_at hz2 3
      have y4 : w2.cell? ⟨b0, 4, none⟩ = some (Value.bool false) := cell_at hz2 4
      have y5 : w2.cell? ⟨b0, 5, none⟩ = some (Value.int IntKind.i64 0) := cell_at hz2 5
      have y6 : w2.cell? ⟨b0, 6, none⟩ = some (Value.int IntKind.i64 0) := cell_at hz2 6
      have y7 : w2.cell? ⟨b0, 7, none⟩ = some (Value.int IntKind.i64 0) := cell_at hz2 7
      have y8 : w2.cell? ⟨b0, 8, none⟩ = some (Value.int IntKind.i64 0) := cell_at hz2 8
      have v0 : w2.frozen? ⟨b0, 0, none⟩ = false := free_at hz2 0
      have v1 : w2.frozen? ⟨b0, 1, none⟩ = false := free_at hz2 1
      have v2 : w2.frozen? ⟨b0, 2, none⟩ = false := free_at hz2 2
      have v3 : w2.frozen? ⟨b0, 3, none⟩ = false := free_at hz2 3
      have v4 : w2.frozen? ⟨b0, 4, none⟩ = false := free_at hz2 4
      have v5 : w2.frozen? ⟨b0, 5, none⟩ = false := free_at hz2 5
      have v6 : w2.frozen? ⟨b0, 6, none⟩ = false := free_at hz2 6
      have v7 : w2.frozen? ⟨b0, 7, none⟩ = false := free_at hz2 7
      have v8 : w2.frozen? ⟨b0, 8, none⟩ = false := free_at hz2 8
      go_wp2_with fail
      refine at_world (fun W hW => ?_)
      have hw0 : W.heap[b0]? = some (Obj.cells #[Value.string (ByteArray.mk #[]), Value.int IntKind.i64 0, Value.int IntKind.i64 0, Value.bool false, Value.bool false, Value.int IntKind.i64 0, Value.int IntKind.i64 0, Value.int IntKind.i64 0, Value.int IntKind.i64 0] 39 (0, 0)) := by
        rw [hW]
        exact set9 (b := b0) (T := 39) hz2 _ _ _ _ _ _ _ _ _
      have z0 := cell_at hw0 0
      have z1 := cell_at hw0 1
      have z2 := cell_at hw0 2
      have z3 := cell_at hw0 3
      have z4 := cell_at hw0 4
      have z5 := cell_at hw0 5
      have z6 := cell_at hw0 6
      have z7 := cell_at hw0 7
      have z8 := cell_at hw0 8
      refine bodyPost_ret (by simp [results, Try.results12, go_sem, z0, z1, z2, z3, z4, z5, z6, z7, z8]; try rfl) rfl ?_
      subst hW
      rw [HX2.out]
      exact ⟨rfl, (H2.out.2.2.set9 (b := b0) (.inr (by omega)) _ _ _ _ _ _ _ _ _).below (Nat.le_refl _) (fun k h => h.elim)⟩
    · have h1b : (a1 == -1) = false := by rw [beq_eq_false_iff_ne]; exact h1
      go_wp2_with fail
      refine (HC.out.2.2.2.1 _ H2.out.1).mono ?_
      rintro e w3 ⟨rfl, hb3⟩
      have hz3 := (hb3.block b0 (by omega)).trans H2.out.2.1
      have H3 : Aside (CA w3 C M f u ∧ w3.heap[b0]? = some (Obj.cells #[Value.string (ByteArray.mk #[]), Value.int IntKind.i64 0, Value.int IntKind.i64 0, Value.bool false, Value.bool false, Value.int IntKind.i64 0, Value.int IntKind.i64 0, Value.int IntKind.i64 0, Value.int IntKind.i64 0] 39 (0, 0)) ∧ Fr (fun _ => False) w w3) := ⟨H2.out.1.below hb3, hz3, H2.out.2.2.trans (Fr.of_new hb3) (fun _ _ h => h)⟩
      have hss3 : b0 + 1 ≤ w3.heap.size := Nat.le_trans hss2 hb3.size
      clear hb3 H2 hz3
      by_cases h2 : a2 = -1
      · have h2b : (a2 == -1) = true := by rw [h2]; rfl
        have HX2 : Aside (X = (knwZ, false)) := ⟨by rw [← HX.out, if_pos (.inr (.inr h2))]⟩
        have hz3 := H3.out.2.1
        clear h2
        have y0 : w3.cell? ⟨b0, 0, none⟩ = some (Value.string (ByteArray.mk #[])) := cell_at hz3 0
        have y1 : w3.cell? ⟨b0, 1, none⟩ = some (Value.int IntKind.i64 0) := cell_at hz3 1
        have y2 : w3.cell? ⟨b0, 2, none⟩ = some (Value.int IntKind.i64 0) := cell_at hz3 2
        have y3 : w3.cell? ⟨b0, 3, none⟩ = some (Value.bool false) := cell_at hz3 3
        have y4 : w3.cell? ⟨b0, 4, none⟩ = some (Value.bool false) := cell_at hz3 4
        have y5 : w3.cell? ⟨b0, 5, none⟩ = some (Value.int IntKind.i64 0) := cell_at hz3 5
        have y6 : w3.cell? ⟨b0, 6, none⟩ = some (Value.int IntKind.i64 0) := cell_at hz3 6
        have y7 : w3.cell? ⟨b0, 7, none⟩ = some (Value.int IntKind.i64 0) := cell_at hz3 7
        have y8 : w3.cell? ⟨b0, 8, none⟩ = some (Value.int IntKind.i64 0) := cell_at hz3 8
        have v0 : w3.frozen? ⟨b0, 0, none⟩ = false := free_at hz3 0
        have v1 : w3.frozen? ⟨b0, 1, none⟩ = false := free_at hz3 1
        have v2 : w3.frozen? ⟨b0, 2, none⟩ = false := free_at hz3 2
        have v3 : w3.frozen? ⟨b0, 3, none⟩ = false := free_at hz3 3
        have v4 : w3.frozen? ⟨b0, 4, none⟩ = false := free_at hz3 4
        have v5 : w3.frozen? ⟨b0, 5, none⟩ = false := free_at hz3 5
        have v6 : w3.frozen? ⟨b0, 6, none⟩ = false := free_at hz3 6
        have v7 : w3.frozen? ⟨b0, 7, none⟩ = false := free_at hz3 7
        have v8 : w3.frozen? ⟨b0, 8, none⟩ = false := free_at hz3 8
        go_wp2_with fail
        refine at_world (fun W hW => ?_)
        have hw0 : W.heap[b0]? = some (Obj.cells #[Value.string (ByteArray.mk #[]), Value.int IntKind.i64 0, Value.int IntKind.i64 0, Value.bool false, Value.bool false, Value.int IntKind.i64 0, Value.int IntKind.i64 0, Value.int IntKind.i64 0, Value.int IntKind.i64 0] 39 (0, 0)) := by
          rw [hW]
          exact set9 (b := b0) (T := 39) hz3 _ _ _ _ _ _ _ _ _
        have z0 := cell_at hw0 0
        have z1 := cell_at hw0 1
        have z2 := cell_at hw0 2
        have z3 := cell_at hw0 3
        have z4 := cell_at hw0 4
        have z5 := cell_at hw0 5
        have z6 := cell_at hw0 6
        have z7 := cell_at hw0 7
        have z8 := cell_at hw0 8
        refine bodyPost_ret (by simp [results, Try.results12, go_sem, z0, z1, z2, z3, z4, z5, z6, z7, z8]; try rfl) rfl ?_
        subst hW
        rw [HX2.out]
        exact ⟨rfl, (H3.out.2.2.set9 (b := b0) (.inr (by omega)) _ _ _ _ _ _ _ _ _).below (Nat.le_refl _) (fun k h => h.elim)⟩
      · have h2b : (a2 == -1) = false := by rw [beq_eq_false_iff_ne]; exact h2
        have hx := HX.out
        rw [if_neg (by rw [hke]; simp [h1, h2])] at hx
        have HX := Aside.mk hx
        have hK4 := heap_alloc_new w3 (Obj.cells #[Value.string (ByteArray.mk #[]), Value.int IntKind.i64 0, Value.int IntKind.i64 0, Value.bool false, Value.bool false, Value.int IntKind.i64 0, Value.int IntKind.i64 0, Value.int IntKind.i64 0, Value.int IntKind.i64 0] 39 (0, 0))
        have hZ4 := blk_al H3.out.2.1 (Obj.cells #[Value.string (ByteArray.mk #[]), Value.int IntKind.i64 0, Value.int IntKind.i64 0, Value.bool false, Value.bool false, Value.int IntKind.i64 0, Value.int IntKind.i64 0, Value.int IntKind.i64 0, Value.int IntKind.i64 0] 39 (0, 0))
        have hC4 := H3.out.1.below ((Below.refl w3.heap.size w3).alloc (Nat.le_refl _) (Obj.cells #[Value.string (ByteArray.mk #[]), Value.int IntKind.i64 0, Value.int IntKind.i64 0, Value.bool false, Value.bool false, Value.int IntKind.i64 0, Value.int IntKind.i64 0, Value.int IntKind.i64 0, Value.int IntKind.i64 0] 39 (0, 0)))
        have hF4 := H3.out.2.2.alloc (Obj.cells #[Value.string (ByteArray.mk #[]), Value.int IntKind.i64 0, Value.int IntKind.i64 0, Value.bool false, Value.bool false, Value.int IntKind.i64 0, Value.int IntKind.i64 0, Value.int IntKind.i64 0, Value.int IntKind.i64 0] 39 (0, 0))
        obtain ⟨b1, hb1⟩ : ∃ b1, w3.heap.size = b1 := ⟨_, rfl⟩
        rw [hb1] at hK4 hss3
        have hs4 : (w3.alloc (Obj.cells #[Value.string (ByteArray.mk #[]), Value.int IntKind.i64 0, Value.int IntKind.i64 0, Value.bool false, Value.bool false, Value.int IntKind.i64 0, Value.int IntKind.i64 0, Value.int IntKind.i64 0, Value.int IntKind.i64 0] 39 (0, 0))).heap.size = b1 + 1 := by simp [hb1]
        have H4 := Aside.mk (And.intro hC4 (And.intro hZ4 (And.intro hF4 hK4)))
        have hne01 : b0 ≠ b1 := by omega
        have hwb0 : w.heap.size ≤ b0 := by omega
        clear hx h1 h2 hK4 hZ4 hC4 hF4 H3
        go_wp2_with fail
        refine (HC.out.2.2.2.2.1 _ H4.out.1).mono ?_
        generalize (w3.alloc (Obj.cells #[Value.string (ByteArray.mk #[]), Value.int IntKind.i64 0, Value.int IntKind.i64 0, Value.bool false, Value.bool false, Value.int IntKind.i64 0, Value.int IntKind.i64 0, Value.int IntKind.i64 0, Value.int IntKind.i64 0] 39 (0, 0))) = w4 at *
        rintro e w5 ⟨rfl, hb5⟩
        have hK5 := (hb5.block b1 (by omega)).trans H4.out.2.2.2
        have hZ5 := (hb5.block b0 (by omega)).trans H4.out.2.1
        have hC5 := H4.out.1.below hb5
        have hF5 := H4.out.2.2.1.trans (Fr.of_new hb5) (fun _ _ h => h)
        have hE6 := heap_alloc_new w5 (Obj.cells #[Value.string xa.key, Value.string xa.val, Value.int IntKind.i64 xa.made, Value.int IntKind.i64 xa.mod] 46 (0, 0))
        have hK6 := blk_al hK5 (Obj.cells #[Value.string xa.key, Value.string xa.val, Value.int IntKind.i64 xa.made, Value.int IntKind.i64 xa.mod] 46 (0, 0))
        have hZ6 := blk_al hZ5 (Obj.cells #[Value.string xa.key, Value.string xa.val, Value.int IntKind.i64 xa.made, Value.int IntKind.i64 xa.mod] 46 (0, 0))
        have hC6 := hC5.below ((Below.refl w5.heap.size w5).alloc (Nat.le_refl _) (Obj.cells #[Value.string xa.key, Value.string xa.val, Value.int IntKind.i64 xa.made, Value.int IntKind.i64 xa.mod] 46 (0, 0)))
        have hF6 := hF5.alloc (Obj.cells #[Value.string xa.key, Value.string xa.val, Value.int IntKind.i64 xa.made, Value.int IntKind.i64 xa.mod] 46 (0, 0))
        obtain ⟨b2, hb2⟩ : ∃ b2, w5.heap.size = b2 := ⟨_, rfl⟩
        have hss5 : b1 + 1 ≤ b2 := by rw [← hb2, ← hs4]; exact hb5.size
        rw [hb2] at hE6
        have hs6 : (w5.alloc (Obj.cells #[Value.string xa.key, Value.string xa.val, Value.int IntKind.i64 xa.made, Value.int IntKind.i64 xa.mod] 46 (0, 0))).heap.size = b2 + 1 := by simp [hb2]
        have H6 := Aside.mk (And.intro hC6 (And.intro hZ6 (And.intro hF6 (And.intro hK6 hE6))))
        clear hK5 hZ5 hC5 hF5 hE6 hK6 hZ6 hC6 hF6 hb5 H4
        cases ia with
        | true =>
          have hCb1 : C ≠ b1 := fun e => by
            have h1 := H6.out.1.box
            rw [e, H6.out.2.2.2.1] at h1
            have := (Obj.cells.injEq _ _ _ _ _ _).mp (Option.some.inj h1)
            exact absurd this.2.1 (by decide)
          have hMb1 : M ≠ b1 := fun e => by
            obtain ⟨es, cc, hm, hg⟩ := H6.out.1.map
            rw [e, H6.out.2.2.2.1] at hm
            cases hm
          go_upto_region 8 with fail
          generalize (w5.alloc (Obj.cells #[Value.string xa.key, Value.string xa.val, Value.int IntKind.i64 xa.made, Value.int IntKind.i64 xa.mod] 46 (0, 0))) = w6 at *
          have hE := H6.out.2.2.2.2
          have hKK := H6.out.2.2.2.1
          have hK6d : w6.drew.heap[b1]? = some (Obj.cells #[Value.string (ByteArray.mk #[]), Value.int IntKind.i64 0, Value.int IntKind.i64 0, Value.bool false, Value.bool false, Value.int IntKind.i64 0, Value.int IntKind.i64 0, Value.int IntKind.i64 0, Value.int IntKind.i64 0] 39 (0, 0)) := hKK
          have t0 : w6.drew.cell? ⟨b2, 3, none⟩ = some (.int .i64 xa.mod) := cell_at hE 3
          have x1 : w6.cell? ⟨b2, 1, none⟩ = some (.string xa.val) := cell_at hE 1
          have z4 : w6.drew.cell? ⟨b1, 4, none⟩ = some (Value.bool false) := cell_at hK6d 4
          have u4 : w6.drew.frozen? ⟨b1, 4, none⟩ = false := free_at hK6d 4
          refine start_ (n := 6) (S := (fun w' => w'.cell? ⟨b2, 3, none⟩ = some (.int .i64 xa.mod))) (ds := [5]) #[false, false, false, false, false, false] (by kernel_rfl) rfl rfl t0 (fun hHeld => ?_); refine with_tabW ck8_tab ck8_bits (fun HT_ HW_ => ?_)
          refine pure_ (i := 0) (N := (some 44)) (v := ?_) (a' := ?_) #[true, false, false, false, false, false] rfl rfl (any_of HT_.out (by kernel_rfl)) (fun _ _ _ h => h) (Or.inl ⟨by rfl, ?_⟩) ?_ ?_
          rotate_left
          · intro w'
            go_simp
            with_reducible rfl
          rotate_left
          · simp only [Act.put, List.setIfInBounds_toArray, List.set_cons_zero, List.set_cons_succ, i64_w, i32_w]
            rfl
          refine take_ (i := 1) (N := (some 45)) (v := ?_) (a' := ?_) #[true, true, false, false, false, false] rfl rfl (take_ofW HT_.out HW_.out (by kernel_rfl)) (fun _ _ _ h => h) (Or.inl ⟨by rfl, ?_⟩) hHeld ?_ ?_
          rotate_left
          · rintro w' s1
            go_simp
            with_reducible rfl
          rotate_left
          · simp only [Act.put, List.setIfInBounds_toArray, List.set_cons_zero, List.set_cons_succ, i64_w, i32_w]
            rfl
          refine pure_ (i := 2) (N := (some 46)) (v := ?_) (a' := ?_) #[true, true, true, false, false, false] rfl rfl (any_of HT_.out (by kernel_rfl)) (fun _ _ _ h => h) (Or.inl ⟨by rfl, ?_⟩) ?_ ?_
          rotate_left
          · intro w'
            go_simp
            with_reducible rfl
          rotate_left
          · simp only [Act.put, List.setIfInBounds_toArray, List.set_cons_zero, List.set_cons_succ, i64_w, i32_w]
            rfl
          refine one_ (i := 3) (N := none) #[true, true, true, true, false, false] rfl rfl (one_of HT_.out (by kernel_rfl)) (by decide) (fun K9 hK => ?_)
          have hw7 : (w6.drew.setCell ⟨b1, 4, none⟩ (.bool true)).heap[b1]? = some (Obj.cells #[Value.string (ByteArray.mk #[]), Value.int IntKind.i64 0, Value.int IntKind.i64 0, Value.bool false, Value.bool true, Value.int IntKind.i64 0, Value.int IntKind.i64 0, Value.int IntKind.i64 0, Value.int IntKind.i64 0] 39 (0, 0)) := by rw [heap_setCell_eq _ hK6d]; rfl
          have hF7 := (Fr.refl (fun k => k = b1) w6.drew).setCell (p := ⟨b1, 4, none⟩) (.inl rfl) (.bool true)
          have hm7 : (w6.drew.setCell ⟨b1, 4, none⟩ (.bool true)).cell? ⟨b2, 3, none⟩ = some (.int .i64 xa.mod) := (cell_blk (Below.heap_setCell _ _ _ _ (show b2 ≠ b1 by omega))).trans t0
          refine skip_ (w1 := w6.drew.setCell ⟨b1, 4, none⟩ (.bool true)) (by rfl) rfl (by unfold execOp; go_simp) ?_
          refine hK.out _ _ hm7 (fun hHeld => ?_)
          clear hK K9 hm7
          generalize (w6.drew.setCell ⟨b1, 4, none⟩ (.bool true)) = w7 at *
          have z5' : w7.cell? ⟨b1, 5, none⟩ = some (Value.int IntKind.i64 0) := cell_at hw7 5
          have u5' : w7.frozen? ⟨b1, 5, none⟩ = false := free_at hw7 5
          refine pure_ (i := 4) (N := (some 47)) (v := ?_) (a' := ?_) #[true, true, true, true, true, false] rfl rfl (any_of HT_.out (by kernel_rfl)) (fun _ _ _ h => h) (Or.inl ⟨by rfl, ?_⟩) ?_ ?_
          rotate_left
          · intro w'
            go_simp
            with_reducible rfl
          rotate_left
          · simp only [Act.put, List.setIfInBounds_toArray, List.set_cons_zero, List.set_cons_succ, i64_w, i32_w]
            rfl
          refine last_ (i := 5) (N := none) #[true, true, true, true, true, true] rfl rfl (one_of HT_.out (by kernel_rfl)) (by decide) (fun K9 hK => ?_)
          refine skip_ (w1 := w7.setCell ⟨b1, 5, none⟩ (.int .i64 xa.mod)) (by rfl) rfl (by unfold execOp; go_simp) ?_
          have H8 : Aside (Fr (fun k => k = b1) w6.drew (w7.setCell ⟨b1, 5, none⟩ (.int .i64 xa.mod)) ∧ (w7.setCell ⟨b1, 5, none⟩ (.int .i64 xa.mod)).heap[b1]? = some (Obj.cells #[Value.string (ByteArray.mk #[]), Value.int IntKind.i64 0, Value.int IntKind.i64 0, Value.bool false, Value.bool true, Value.int IntKind.i64 xa.mod, Value.int IntKind.i64 0, Value.int IntKind.i64 0, Value.int IntKind.i64 0] 39 (0, 0))) := ⟨hF7.setCell (p := ⟨b1, 5, none⟩) (.inl rfl) _, by rw [heap_setCell_eq _ hw7]; rfl⟩
          generalize (w7.setCell ⟨b1, 5, none⟩ (.int .i64 xa.mod)) = w8 at *
          refine hK.out _ _ ?_
          clear hK K9 hF7 hw7 z5' u5'
          refine done_ (done_of HT_.out (by kernel_rfl)) ?_
          clear HT_ HW_ hHeld
          clear t0 z4 u4
          have x1' : w8.cell? ⟨b2, 1, none⟩ = some (.string xa.val) := (cell_blk (H8.out.1.block b2 (by show b2 < w6.heap.size; omega) (fun e => by omega))).trans x1
          have hZ8 := H8.out.1.heap (show w6.drew.heap[b0]? = _ from H6.out.2.1) (fun e => by omega)
          have hs8 : b2 + 1 ≤ w8.heap.size := by rw [← hs6]; exact H8.out.1.size
          have hF8 : Fr (fun _ => False) w w8 := H6.out.2.2.1.drew.then H8.out.1 (fun i e => .inr (by omega))
          have hC8 : CA w8 C M f u := (H6.out.1.keep (w' := w6.drew) rfl rfl).fr H8.out.1 (fun e => hCb1 e) (fun e => hMb1 e)
          have hw8 := H8.out.2
          clear hE hKK hK6d x1 H6 H8
          go_wp2_with fail
          refine (HC.out.2.2.2.2.2.2.1 _).mono ?_
          rintro e wd ⟨rfl, hbd⟩
          have hKd := (hbd.block b1 (by omega)).trans hw8
          have hZd := (hbd.block b0 (by omega)).trans hZ8
          have hCd := hC8.below hbd
          have hFd := hF8.trans (Fr.of_new hbd) (fun _ _ h => h)
          have hsd : b2 + 1 ≤ wd.heap.size := Nat.le_trans hs8 hbd.size
          have j0 : wd.cell? ⟨b1, 0, none⟩ = some (Value.string (ByteArray.mk #[])) := cell_at hKd 0
          have j1 : wd.cell? ⟨b1, 1, none⟩ = some (Value.int IntKind.i64 0) := cell_at hKd 1
          have j2 : wd.cell? ⟨b1, 2, none⟩ = some (Value.int IntKind.i64 0) := cell_at hKd 2
          have j3 : wd.cell? ⟨b1, 3, none⟩ = some (Value.bool false) := cell_at hKd 3
          have n0 : wd.frozen? ⟨b1, 0, none⟩ = false := free_at hKd 0
          have n1 : wd.frozen? ⟨b1, 1, none⟩ = false := free_at hKd 1
          have n2 : wd.frozen? ⟨b1, 2, none⟩ = false := free_at hKd 2
          have n3 : wd.frozen? ⟨b1, 3, none⟩ = false := free_at hKd 3
          clear hbd hw8 hZ8 hC8 hF8 x1'
          go_upto_region 10 with fail
          have hwA : ((((wd.setCell ⟨b1, 0, none⟩ (.string D.1.rep)).setCell ⟨b1, 1, none⟩ (.int .i64 D.1.ep)).setCell ⟨b1, 2, none⟩ (.int .i64 D.1.tm)).setCell ⟨b1, 3, none⟩ (.bool D.1.gone)).heap[b1]? = some (Obj.cells #[Value.string D.1.rep, Value.int IntKind.i64 D.1.ep, Value.int IntKind.i64 D.1.tm, Value.bool D.1.gone, Value.bool true, Value.int IntKind.i64 xa.mod, Value.int IntKind.i64 0, Value.int IntKind.i64 0, Value.int IntKind.i64 0] 39 (0, 0)) := by rw [heap_setCell_eq _ (heap_setCell_eq _ (heap_setCell_eq _ (heap_setCell_eq _ hKd)))]; rfl
          have hFA := ((((Fr.refl (fun k => k = b1) wd).setCell (p := ⟨b1, 0, none⟩) (.inl rfl) (.string D.1.rep)).setCell (p := ⟨b1, 1, none⟩) (.inl rfl) (.int .i64 D.1.ep)).setCell (p := ⟨b1, 2, none⟩) (.inl rfl) (.int .i64 D.1.tm)).setCell (p := ⟨b1, 3, none⟩) (.inl rfl) (.bool D.1.gone)
          generalize ((((wd.setCell ⟨b1, 0, none⟩ (.string D.1.rep)).setCell ⟨b1, 1, none⟩ (.int .i64 D.1.ep)).setCell ⟨b1, 2, none⟩ (.int .i64 D.1.tm)).setCell ⟨b1, 3, none⟩ (.bool D.1.gone)) = wA at *
          have HA : Aside (CA wA C M f u ∧ wA.heap[b0]? = some (Obj.cells #[Value.string (ByteArray.mk #[]), Value.int IntKind.i64 0, Value.int IntKind.i64 0, Value.bool false, Value.bool false, Value.int IntKind.i64 0, Value.int IntKind.i64 0, Value.int IntKind.i64 0, Value.int IntKind.i64 0] 39 (0, 0)) ∧ Fr (fun _ => False) w wA ∧ wA.heap[b1]? = some (Obj.cells #[Value.string D.1.rep, Value.int IntKind.i64 D.1.ep, Value.int IntKind.i64 D.1.tm, Value.bool D.1.gone, Value.bool true, Value.int IntKind.i64 xa.mod, Value.int IntKind.i64 0, Value.int IntKind.i64 0, Value.int IntKind.i64 0] 39 (0, 0))) := ⟨hCd.fr hFA (fun e => hCb1 e) (fun e => hMb1 e), hFA.heap hZd (fun e => by omega), hFd.then hFA (fun i e => .inr (by omega)), hwA⟩
          have hsA : b2 + 1 ≤ wA.heap.size := Nat.le_trans hsd hFA.size
          clear hKd hZd hCd hFd hwA hFA j0 j1 j2 j3 n0 n1 n2 n3
          go_wp2_with fail
          refine (HC.out.2.2.2.2.2.1 _ HA.out.1).mono ?_
          rintro e w9 ⟨rfl, hb9⟩
          have hK9 := (hb9.block b1 (by omega)).trans HA.out.2.2.2
          have hZ9 := (hb9.block b0 (by omega)).trans HA.out.2.1
          have hC9 := HA.out.1.below hb9
          have hF9 := HA.out.2.2.1.trans (Fr.of_new hb9) (fun _ _ h => h)
          have hE10 := heap_alloc_new w9 (Obj.cells #[Value.string xb.key, Value.string xb.val, Value.int IntKind.i64 xb.made, Value.int IntKind.i64 xb.mod] 46 (0, 0))
          have hK10 := blk_al hK9 (Obj.cells #[Value.string xb.key, Value.string xb.val, Value.int IntKind.i64 xb.made, Value.int IntKind.i64 xb.mod] 46 (0, 0))
          have hZ10 := blk_al hZ9 (Obj.cells #[Value.string xb.key, Value.string xb.val, Value.int IntKind.i64 xb.made, Value.int IntKind.i64 xb.mod] 46 (0, 0))
          have hC10 := hC9.below ((Below.refl w9.heap.size w9).alloc (Nat.le_refl _) (Obj.cells #[Value.string xb.key, Value.string xb.val, Value.int IntKind.i64 xb.made, Value.int IntKind.i64 xb.mod] 46 (0, 0)))
          have hF10 := hF9.alloc (Obj.cells #[Value.string xb.key, Value.string xb.val, Value.int IntKind.i64 xb.made, Value.int IntKind.i64 xb.mod] 46 (0, 0))
          obtain ⟨b3, hb3⟩ : ∃ b3, w9.heap.size = b3 := ⟨_, rfl⟩
          have hss9 : b2 + 1 ≤ b3 := by rw [← hb3]; exact Nat.le_trans hsA hb9.size
          rw [hb3] at hE10
          have hs10 : (w9.alloc (Obj.cells #[Value.string xb.key, Value.string xb.val, Value.int IntKind.i64 xb.made, Value.int IntKind.i64 xb.mod] 46 (0, 0))).heap.size = b3 + 1 := by simp [hb3]
          have H10 := Aside.mk (And.intro hC10 (And.intro hZ10 (And.intro hF10 (And.intro hK10 hE10))))
          clear hK9 hZ9 hC9 hF9 hE10 hK10 hZ10 hC10 hF10 hb9 HA
          cases ib with
          | true =>
            go_upto_region 12 with fail
            generalize (w9.alloc (Obj.cells #[Value.string xb.key, Value.string xb.val, Value.int IntKind.i64 xb.made, Value.int IntKind.i64 xb.mod] 46 (0, 0))) = w10 at *
            have hE := H10.out.2.2.2.2
            have hKK := H10.out.2.2.2.1
            have x1 : w10.cell? ⟨b3, 1, none⟩ = some (.string xb.val) := cell_at hE 1
            have x3 : w10.cell? ⟨b3, 3, none⟩ = some (.int .i64 xb.mod) := cell_at hE 3
            have k8 : w10.cell? ⟨b1, 8, none⟩ = some (Value.int IntKind.i64 0) := cell_at hKK 8
            have u8 : w10.frozen? ⟨b1, 8, none⟩ = false := free_at hKK 8
            go_upto_region 13 with fail
            have hw11 : (w10.setCell ⟨b1, 8, none⟩ (.int .i64 xb.mod)).heap[b1]? = some (Obj.cells #[Value.string D.1.rep, Value.int IntKind.i64 D.1.ep, Value.int IntKind.i64 D.1.tm, Value.bool D.1.gone, Value.bool true, Value.int IntKind.i64 xa.mod, Value.int IntKind.i64 0, Value.int IntKind.i64 0, Value.int IntKind.i64 xb.mod] 39 (0, 0)) := by rw [heap_setCell_eq _ hKK]; rfl
            have hF11 := (Fr.refl (fun k => k = b1) w10).setCell (p := ⟨b1, 8, none⟩) (.inl rfl) (.int .i64 xb.mod)
            generalize (w10.setCell ⟨b1, 8, none⟩ (.int .i64 xb.mod)) = w11 at *
            have x1' : w11.cell? ⟨b3, 1, none⟩ = some (.string xb.val) := (cell_blk (hF11.block b3 (by omega) (fun e => by omega))).trans x1
            have hZ11 := hF11.heap H10.out.2.1 (fun e => by omega)
            have hs11 := hF11.size
            have hFw11 : Fr (fun _ => False) w w11 := H10.out.2.2.1.then hF11 (fun i e => .inr (by omega))
            have hC11 : CA w11 C M f u := H10.out.1.fr hF11 (fun e => hCb1 e) (fun e => hMb1 e)
            clear k8 u8 hE hKK x1 x3 H10 hF11
            go_wp2_with fail
            refine (HC.out.2.2.2.2.2.2.2 _).mono ?_
            rintro e w12 ⟨rfl, hb12⟩
            have hK12 := (hb12.block b1 (by omega)).trans hw11
            have hZ12 := (hb12.block b0 (by omega)).trans hZ11
            have hC12 := hC11.below hb12
            have hF12 := hFw11.trans (Fr.of_new hb12) (fun _ _ h => h)
            have j6 : w12.cell? ⟨b1, 6, none⟩ = some (Value.int IntKind.i64 0) := cell_at hK12 6
            have j7 : w12.cell? ⟨b1, 7, none⟩ = some (Value.int IntKind.i64 0) := cell_at hK12 7
            have u6 : w12.frozen? ⟨b1, 6, none⟩ = false := free_at hK12 6
            have u7 : w12.frozen? ⟨b1, 7, none⟩ = false := free_at hK12 7
            clear hb12 hw11 hZ11 hC11 hFw11 x1'
            go_upto_region 14 with fail
            have hw13 : ((w12.setCell ⟨b1, 6, none⟩ (.int .i64 T.1.live)).setCell ⟨b1, 7, none⟩ (.int .i64 T.1.epochs)).heap[b1]? = some (Obj.cells #[Value.string D.1.rep, Value.int IntKind.i64 D.1.ep, Value.int IntKind.i64 D.1.tm, Value.bool D.1.gone, Value.bool true, Value.int IntKind.i64 xa.mod, Value.int IntKind.i64 T.1.live, Value.int IntKind.i64 T.1.epochs, Value.int IntKind.i64 xb.mod] 39 (0, 0)) := by rw [heap_setCell_eq _ (heap_setCell_eq _ hK12)]; rfl
            have hF13 := ((Fr.refl (fun k => k = b1) w12).setCell (p := ⟨b1, 6, none⟩) (.inl rfl) (.int .i64 T.1.live)).setCell (p := ⟨b1, 7, none⟩) (.inl rfl) (.int .i64 T.1.epochs)
            generalize ((w12.setCell ⟨b1, 6, none⟩ (.int .i64 T.1.live)).setCell ⟨b1, 7, none⟩ (.int .i64 T.1.epochs)) = wB at *
            have HB : Aside (CA wB C M f u ∧ wB.heap[b0]? = some (Obj.cells #[Value.string (ByteArray.mk #[]), Value.int IntKind.i64 0, Value.int IntKind.i64 0, Value.bool false, Value.bool false, Value.int IntKind.i64 0, Value.int IntKind.i64 0, Value.int IntKind.i64 0, Value.int IntKind.i64 0] 39 (0, 0)) ∧ Fr (fun _ => False) w wB ∧ wB.heap[b1]? = some (Obj.cells #[Value.string D.1.rep, Value.int IntKind.i64 D.1.ep, Value.int IntKind.i64 D.1.tm, Value.bool D.1.gone, Value.bool true, Value.int IntKind.i64 xa.mod, Value.int IntKind.i64 T.1.live, Value.int IntKind.i64 T.1.epochs, Value.int IntKind.i64 xb.mod] 39 (0, 0))) := ⟨hC12.fr hF13 (fun e => hCb1 e) (fun e => hMb1 e), hF13.heap hZ12 (fun e => by omega), hF12.then hF13 (fun i e => .inr (by omega)), hw13⟩
            clear hK12 hZ12 hC12 hF12 j6 j7 u6 u7 hw13 hF13
            by_cases hde : D.2 = 0
            · have hdb : (D.2 == 0) = true := by rw [hde]; rfl
              by_cases hte : T.2 = 0
              · have htb : (T.2 == 0) = true := by rw [hte]; rfl
                have hBZ := HB.out.2.1
                have hBK := HB.out.2.2.2
                have HX2 : Aside (X = (⟨D.1, true, xa.mod, T.1, xb.mod⟩, true)) := ⟨by rw [← HX.out, if_neg (by simp [hde, hte])]; simp⟩
                have y0 : wB.cell? ⟨b0, 0, none⟩ = some (Value.string (ByteArray.mk #[])) := cell_at hBZ 0
                have y1 : wB.cell? ⟨b0, 1, none⟩ = some (Value.int IntKind.i64 0) := cell_at hBZ 1
                have y2 : wB.cell? ⟨b0, 2, none⟩ = some (Value.int IntKind.i64 0) := cell_at hBZ 2
                have y3 : wB.cell? ⟨b0, 3, none⟩ = some (Value.bool false) := cell_at hBZ 3
                have y4 : wB.cell? ⟨b0, 4, none⟩ = some (Value.bool false) := cell_at hBZ 4
                have y5 : wB.cell? ⟨b0, 5, none⟩ = some (Value.int IntKind.i64 0) := cell_at hBZ 5
                have y6 : wB.cell? ⟨b0, 6, none⟩ = some (Value.int IntKind.i64 0) := cell_at hBZ 6
                have y7 : wB.cell? ⟨b0, 7, none⟩ = some (Value.int IntKind.i64 0) := cell_at hBZ 7
                have y8 : wB.cell? ⟨b0, 8, none⟩ = some (Value.int IntKind.i64 0) := cell_at hBZ 8
                have v0 : wB.frozen? ⟨b0, 0, none⟩ = false := free_at hBZ 0
                have v1 : wB.frozen? ⟨b0, 1, none⟩ = false := free_at hBZ 1
                have v2 : wB.frozen? ⟨b0, 2, none⟩ = false := free_at hBZ 2
                have v3 : wB.frozen? ⟨b0, 3, none⟩ = false := free_at hBZ 3
                have v4 : wB.frozen? ⟨b0, 4, none⟩ = false := free_at hBZ 4
                have v5 : wB.frozen? ⟨b0, 5, none⟩ = false := free_at hBZ 5
                have v6 : wB.frozen? ⟨b0, 6, none⟩ = false := free_at hBZ 6
                have v7 : wB.frozen? ⟨b0, 7, none⟩ = false := free_at hBZ 7
                have v8 : wB.frozen? ⟨b0, 8, none⟩ = false := free_at hBZ 8
                have k0 : wB.cell? ⟨b1, 0, none⟩ = some (Value.string D.1.rep) := cell_at hBK 0
                have k1 : wB.cell? ⟨b1, 1, none⟩ = some (Value.int IntKind.i64 D.1.ep) := cell_at hBK 1
                have k2 : wB.cell? ⟨b1, 2, none⟩ = some (Value.int IntKind.i64 D.1.tm) := cell_at hBK 2
                have k3 : wB.cell? ⟨b1, 3, none⟩ = some (Value.bool D.1.gone) := cell_at hBK 3
                have k4 : wB.cell? ⟨b1, 4, none⟩ = some (Value.bool true) := cell_at hBK 4
                have k5 : wB.cell? ⟨b1, 5, none⟩ = some (Value.int IntKind.i64 xa.mod) := cell_at hBK 5
                have k6 : wB.cell? ⟨b1, 6, none⟩ = some (Value.int IntKind.i64 T.1.live) := cell_at hBK 6
                have k7 : wB.cell? ⟨b1, 7, none⟩ = some (Value.int IntKind.i64 T.1.epochs) := cell_at hBK 7
                have k8 : wB.cell? ⟨b1, 8, none⟩ = some (Value.int IntKind.i64 xb.mod) := cell_at hBK 8
                go_wp2_with fail
                refine at_world (fun W hW => ?_)
                have hw0 : W.heap[b0]? = some (Obj.cells #[Value.string D.1.rep, Value.int IntKind.i64 D.1.ep, Value.int IntKind.i64 D.1.tm, Value.bool D.1.gone, Value.bool true, Value.int IntKind.i64 xa.mod, Value.int IntKind.i64 T.1.live, Value.int IntKind.i64 T.1.epochs, Value.int IntKind.i64 xb.mod] 39 (0, 0)) := by
                  rw [hW]
                  exact set9 (b := b0) (T := 39) hBZ _ _ _ _ _ _ _ _ _
                have z0 := cell_at hw0 0
                have z1 := cell_at hw0 1
                have z2 := cell_at hw0 2
                have z3 := cell_at hw0 3
                have z4 := cell_at hw0 4
                have z5 := cell_at hw0 5
                have z6 := cell_at hw0 6
                have z7 := cell_at hw0 7
                have z8 := cell_at hw0 8
                refine bodyPost_ret (by simp [results, Try.results12, go_sem, z0, z1, z2, z3, z4, z5, z6, z7, z8]; try rfl) rfl ?_
                subst hW
                rw [HX2.out]
                exact ⟨rfl, (HB.out.2.2.1.set9 (b := b0) (.inr (by omega)) _ _ _ _ _ _ _ _ _).below (Nat.le_refl _) (fun k h => h.elim)⟩
              · have htb : (T.2 == 0) = false := by rw [beq_eq_false_iff_ne]; exact hte
                have hBZ := HB.out.2.1
                have hBK := HB.out.2.2.2
                have HX2 : Aside (X = (knwZ, false)) := ⟨by rw [← HX.out, if_pos (by simp [hde, hte])]⟩
                have y0 : wB.cell? ⟨b0, 0, none⟩ = some (Value.string (ByteArray.mk #[])) := cell_at hBZ 0
                have y1 : wB.cell? ⟨b0, 1, none⟩ = some (Value.int IntKind.i64 0) := cell_at hBZ 1
                have y2 : wB.cell? ⟨b0, 2, none⟩ = some (Value.int IntKind.i64 0) := cell_at hBZ 2
                have y3 : wB.cell? ⟨b0, 3, none⟩ = some (Value.bool false) := cell_at hBZ 3
                have y4 : wB.cell? ⟨b0, 4, none⟩ = some (Value.bool false) := cell_at hBZ 4
                have y5 : wB.cell? ⟨b0, 5, none⟩ = some (Value.int IntKind.i64 0) := cell_at hBZ 5
                have y6 : wB.cell? ⟨b0, 6, none⟩ = some (Value.int IntKind.i64 0) := cell_at hBZ 6
                have y7 : wB.cell? ⟨b0, 7, none⟩ = some (Value.int IntKind.i64 0) := cell_at hBZ 7
                have y8 : wB.cell? ⟨b0, 8, none⟩ = some (Value.int IntKind.i64 0) := cell_at hBZ 8
                have v0 : wB.frozen? ⟨b0, 0, none⟩ = false := free_at hBZ 0
                have v1 : wB.frozen? ⟨b0, 1, none⟩ = false := free_at hBZ 1
                have v2 : wB.frozen? ⟨b0, 2, none⟩ = false := free_at hBZ 2
                have v3 : wB.frozen? ⟨b0, 3, none⟩ = false := free_at hBZ 3
                have v4 : wB.frozen? ⟨b0, 4, none⟩ = false := free_at hBZ 4
                have v5 : wB.frozen? ⟨b0, 5, none⟩ = false := free_at hBZ 5
                have v6 : wB.frozen? ⟨b0, 6, none⟩ = false := free_at hBZ 6
                have v7 : wB.frozen? ⟨b0, 7, none⟩ = false := free_at hBZ 7
                have v8 : wB.frozen? ⟨b0, 8, none⟩ = false := free_at hBZ 8
                have k0 : wB.cell? ⟨b1, 0, none⟩ = some (Value.string D.1.rep) := cell_at hBK 0
                have k1 : wB.cell? ⟨b1, 1, none⟩ = some (Value.int IntKind.i64 D.1.ep) := cell_at hBK 1
                have k2 : wB.cell? ⟨b1, 2, none⟩ = some (Value.int IntKind.i64 D.1.tm) := cell_at hBK 2
                have k3 : wB.cell? ⟨b1, 3, none⟩ = some (Value.bool D.1.gone) := cell_at hBK 3
                have k4 : wB.cell? ⟨b1, 4, none⟩ = some (Value.bool true) := cell_at hBK 4
                have k5 : wB.cell? ⟨b1, 5, none⟩ = some (Value.int IntKind.i64 xa.mod) := cell_at hBK 5
                have k6 : wB.cell? ⟨b1, 6, none⟩ = some (Value.int IntKind.i64 T.1.live) := cell_at hBK 6
                have k7 : wB.cell? ⟨b1, 7, none⟩ = some (Value.int IntKind.i64 T.1.epochs) := cell_at hBK 7
                have k8 : wB.cell? ⟨b1, 8, none⟩ = some (Value.int IntKind.i64 xb.mod) := cell_at hBK 8
                go_wp2_with fail
                refine at_world (fun W hW => ?_)
                have hw0 : W.heap[b0]? = some (Obj.cells #[Value.string (ByteArray.mk #[]), Value.int IntKind.i64 0, Value.int IntKind.i64 0, Value.bool false, Value.bool false, Value.int IntKind.i64 0, Value.int IntKind.i64 0, Value.int IntKind.i64 0, Value.int IntKind.i64 0] 39 (0, 0)) := by
                  rw [hW]
                  exact set9 (b := b0) (T := 39) hBZ _ _ _ _ _ _ _ _ _
                have z0 := cell_at hw0 0
                have z1 := cell_at hw0 1
                have z2 := cell_at hw0 2
                have z3 := cell_at hw0 3
                have z4 := cell_at hw0 4
                have z5 := cell_at hw0 5
                have z6 := cell_at hw0 6
                have z7 := cell_at hw0 7
                have z8 := cell_at hw0 8
                refine bodyPost_ret (by simp [results, Try.results12, go_sem, z0, z1, z2, z3, z4, z5, z6, z7, z8]; try rfl) rfl ?_
                subst hW
                rw [HX2.out]
                exact ⟨rfl, (HB.out.2.2.1.set9 (b := b0) (.inr (by omega)) _ _ _ _ _ _ _ _ _).below (Nat.le_refl _) (fun k h => h.elim)⟩
            · have hdb : (D.2 == 0) = false := by rw [beq_eq_false_iff_ne]; exact hde
              have hBZ := HB.out.2.1
              have hBK := HB.out.2.2.2
              have HX2 : Aside (X = (knwZ, false)) := ⟨by rw [← HX.out, if_pos (by simp [hde])]⟩
              have y0 : wB.cell? ⟨b0, 0, none⟩ = some (Value.string (ByteArray.mk #[])) := cell_at hBZ 0
              have y1 : wB.cell? ⟨b0, 1, none⟩ = some (Value.int IntKind.i64 0) := cell_at hBZ 1
              have y2 : wB.cell? ⟨b0, 2, none⟩ = some (Value.int IntKind.i64 0) := cell_at hBZ 2
              have y3 : wB.cell? ⟨b0, 3, none⟩ = some (Value.bool false) := cell_at hBZ 3
              have y4 : wB.cell? ⟨b0, 4, none⟩ = some (Value.bool false) := cell_at hBZ 4
              have y5 : wB.cell? ⟨b0, 5, none⟩ = some (Value.int IntKind.i64 0) := cell_at hBZ 5
              have y6 : wB.cell? ⟨b0, 6, none⟩ = some (Value.int IntKind.i64 0) := cell_at hBZ 6
              have y7 : wB.cell? ⟨b0, 7, none⟩ = some (Value.int IntKind.i64 0) := cell_at hBZ 7
              have y8 : wB.cell? ⟨b0, 8, none⟩ = some (Value.int IntKind.i64 0) := cell_at hBZ 8
              have v0 : wB.frozen? ⟨b0, 0, none⟩ = false := free_at hBZ 0
              have v1 : wB.frozen? ⟨b0, 1, none⟩ = false := free_at hBZ 1
              have v2 : wB.frozen? ⟨b0, 2, none⟩ = false := free_at hBZ 2
              have v3 : wB.frozen? ⟨b0, 3, none⟩ = false := free_at hBZ 3
              have v4 : wB.frozen? ⟨b0, 4, none⟩ = false := free_at hBZ 4
              have v5 : wB.frozen? ⟨b0, 5, none⟩ = false := free_at hBZ 5
              have v6 : wB.frozen? ⟨b0, 6, none⟩ = false := free_at hBZ 6
              have v7 : wB.frozen? ⟨b0, 7, none⟩ = false := free_at hBZ 7
              have v8 : wB.frozen? ⟨b0, 8, none⟩ = false := free_at hBZ 8
              have k0 : wB.cell? ⟨b1, 0, none⟩ = some (Value.string D.1.rep) := cell_at hBK 0
              have k1 : wB.cell? ⟨b1, 1, none⟩ = some (Value.int IntKind.i64 D.1.ep) := cell_at hBK 1
              have k2 : wB.cell? ⟨b1, 2, none⟩ = some (Value.int IntKind.i64 D.1.tm) := cell_at hBK 2
              have k3 : wB.cell? ⟨b1, 3, none⟩ = some (Value.bool D.1.gone) := cell_at hBK 3
              have k4 : wB.cell? ⟨b1, 4, none⟩ = some (Value.bool true) := cell_at hBK 4
              have k5 : wB.cell? ⟨b1, 5, none⟩ = some (Value.int IntKind.i64 xa.mod) := cell_at hBK 5
              have k6 : wB.cell? ⟨b1, 6, none⟩ = some (Value.int IntKind.i64 T.1.live) := cell_at hBK 6
              have k7 : wB.cell? ⟨b1, 7, none⟩ = some (Value.int IntKind.i64 T.1.epochs) := cell_at hBK 7
              have k8 : wB.cell? ⟨b1, 8, none⟩ = some (Value.int IntKind.i64 xb.mod) := cell_at hBK 8
              go_wp2_with fail
              refine at_world (fun W hW => ?_)
              have hw0 : W.heap[b0]? = some (Obj.cells #[Value.string (ByteArray.mk #[]), Value.int IntKind.i64 0, Value.int IntKind.i64 0, Value.bool false, Value.bool false, Value.int IntKind.i64 0, Value.int IntKind.i64 0, Value.int IntKind.i64 0, Value.int IntKind.i64 0] 39 (0, 0)) := by
                rw [hW]
                exact set9 (b := b0) (T := 39) hBZ _ _ _ _ _ _ _ _ _
              have z0 := cell_at hw0 0
              have z1 := cell_at hw0 1
              have z2 := cell_at hw0 2
              have z3 := cell_at hw0 3
              have z4 := cell_at hw0 4
              have z5 := cell_at hw0 5
              have z6 := cell_at hw0 6
              have z7 := cell_at hw0 7
              have z8 := cell_at hw0 8
              refine bodyPost_ret (by simp [results, Try.results12, go_sem, z0, z1, z2, z3, z4, z5, z6, z7, z8]; try rfl) rfl ?_
              subst hW
              rw [HX2.out]
              exact ⟨rfl, (HB.out.2.2.1.set9 (b := b0) (.inr (by omega)) _ _ _ _ _ _ _ _ _).below (Nat.le_refl _) (fun k h => h.elim)⟩
          | false =>
            generalize hwB : (w9.alloc (Obj.cells #[Value.string xb.key, Value.string xb.val, Value.int IntKind.i64 xb.made, Value.int IntKind.i64 xb.mod] 46 (0, 0))) = wB at *
            have HB : Aside (CA wB C M f u ∧ wB.heap[b0]? = some (Obj.cells #[Value.string (ByteArray.mk #[]), Value.int IntKind.i64 0, Value.int IntKind.i64 0, Value.bool false, Value.bool false, Value.int IntKind.i64 0, Value.int IntKind.i64 0, Value.int IntKind.i64 0, Value.int IntKind.i64 0] 39 (0, 0)) ∧ Fr (fun _ => False) w wB ∧ wB.heap[b1]? = some (Obj.cells #[Value.string D.1.rep, Value.int IntKind.i64 D.1.ep, Value.int IntKind.i64 D.1.tm, Value.bool D.1.gone, Value.bool true, Value.int IntKind.i64 xa.mod, Value.int IntKind.i64 0, Value.int IntKind.i64 0, Value.int IntKind.i64 0] 39 (0, 0))) := ⟨H10.out.1, H10.out.2.1, H10.out.2.2.1, H10.out.2.2.2.1⟩
            clear H10
            by_cases hde : D.2 = 0
            · have hdb : (D.2 == 0) = true := by rw [hde]; rfl
              have hBZ := HB.out.2.1
              have hBK := HB.out.2.2.2
              have HX2 : Aside (X = (⟨D.1, true, xa.mod, tenZ, 0⟩, true)) := ⟨by rw [← HX.out, if_neg (by simp [hde])]; simp⟩
              have y0 : wB.cell? ⟨b0, 0, none⟩ = some (Value.string (ByteArray.mk #[])) := cell_at hBZ 0
              have y1 : wB.cell? ⟨b0, 1, none⟩ = some (Value.int IntKind.i64 0) := cell_at hBZ 1
              have y2 : wB.cell? ⟨b0, 2, none⟩ = some (Value.int IntKind.i64 0) := cell_at hBZ 2
              have y3 : wB.cell? ⟨b0, 3, none⟩ = some (Value.bool false) := cell_at hBZ 3
              have y4 : wB.cell? ⟨b0, 4, none⟩ = some (Value.bool false) := cell_at hBZ 4
              have y5 : wB.cell? ⟨b0, 5, none⟩ = some (Value.int IntKind.i64 0) := cell_at hBZ 5
              have y6 : wB.cell? ⟨b0, 6, none⟩ = some (Value.int IntKind.i64 0) := cell_at hBZ 6
              have y7 : wB.cell? ⟨b0, 7, none⟩ = some (Value.int IntKind.i64 0) := cell_at hBZ 7
              have y8 : wB.cell? ⟨b0, 8, none⟩ = some (Value.int IntKind.i64 0) := cell_at hBZ 8
              have v0 : wB.frozen? ⟨b0, 0, none⟩ = false := free_at hBZ 0
              have v1 : wB.frozen? ⟨b0, 1, none⟩ = false := free_at hBZ 1
              have v2 : wB.frozen? ⟨b0, 2, none⟩ = false := free_at hBZ 2
              have v3 : wB.frozen? ⟨b0, 3, none⟩ = false := free_at hBZ 3
              have v4 : wB.frozen? ⟨b0, 4, none⟩ = false := free_at hBZ 4
              have v5 : wB.frozen? ⟨b0, 5, none⟩ = false := free_at hBZ 5
              have v6 : wB.frozen? ⟨b0, 6, none⟩ = false := free_at hBZ 6
              have v7 : wB.frozen? ⟨b0, 7, none⟩ = false := free_at hBZ 7
              have v8 : wB.frozen? ⟨b0, 8, none⟩ = false := free_at hBZ 8
              have k0 : wB.cell? ⟨b1, 0, none⟩ = some (Value.string D.1.rep) := cell_at hBK 0
              have k1 : wB.cell? ⟨b1, 1, none⟩ = some (Value.int IntKind.i64 D.1.ep) := cell_at hBK 1
              have k2 : wB.cell? ⟨b1, 2, none⟩ = some (Value.int IntKind.i64 D.1.tm) := cell_at hBK 2
              have k3 : wB.cell? ⟨b1, 3, none⟩ = some (Value.bool D.1.gone) := cell_at hBK 3
              have k4 : wB.cell? ⟨b1, 4, none⟩ = some (Value.bool true) := cell_at hBK 4
              have k5 : wB.cell? ⟨b1, 5, none⟩ = some (Value.int IntKind.i64 xa.mod) := cell_at hBK 5
              have k6 : wB.cell? ⟨b1, 6, none⟩ = some (Value.int IntKind.i64 0) := cell_at hBK 6
              have k7 : wB.cell? ⟨b1, 7, none⟩ = some (Value.int IntKind.i64 0) := cell_at hBK 7
              have k8 : wB.cell? ⟨b1, 8, none⟩ = some (Value.int IntKind.i64 0) := cell_at hBK 8
              go_wp2_with fail
              refine at_world (fun W hW => ?_)
              have hw0 : W.heap[b0]? = some (Obj.cells #[Value.string D.1.rep, Value.int IntKind.i64 D.1.ep, Value.int IntKind.i64 D.1.tm, Value.bool D.1.gone, Value.bool true, Value.int IntKind.i64 xa.mod, Value.int IntKind.i64 0, Value.int IntKind.i64 0, Value.int IntKind.i64 0] 39 (0, 0)) := by
                rw [hW]
                exact set9 (b := b0) (T := 39) hBZ _ _ _ _ _ _ _ _ _
              have z0 := cell_at hw0 0
              have z1 := cell_at hw0 1
              have z2 := cell_at hw0 2
              have z3 := cell_at hw0 3
              have z4 := cell_at hw0 4
              have z5 := cell_at hw0 5
              have z6 := cell_at hw0 6
              have z7 := cell_at hw0 7
              have z8 := cell_at hw0 8
              refine bodyPost_ret (by simp [results, Try.results12, go_sem, z0, z1, z2, z3, z4, z5, z6, z7, z8]; try rfl) rfl ?_
              subst hW
              rw [HX2.out]
              exact ⟨rfl, (HB.out.2.2.1.set9 (b := b0) (.inr (by omega)) _ _ _ _ _ _ _ _ _).below (Nat.le_refl _) (fun k h => h.elim)⟩
            · have hdb : (D.2 == 0) = false := by rw [beq_eq_false_iff_ne]; exact hde
              have hBZ := HB.out.2.1
              have hBK := HB.out.2.2.2
              have HX2 : Aside (X = (knwZ, false)) := ⟨by rw [← HX.out, if_pos (by simp [hde])]⟩
              have y0 : wB.cell? ⟨b0, 0, none⟩ = some (Value.string (ByteArray.mk #[])) := cell_at hBZ 0
              have y1 : wB.cell? ⟨b0, 1, none⟩ = some (Value.int IntKind.i64 0) := cell_at hBZ 1
              have y2 : wB.cell? ⟨b0, 2, none⟩ = some (Value.int IntKind.i64 0) := cell_at hBZ 2
              have y3 : wB.cell? ⟨b0, 3, none⟩ = some (Value.bool false) := cell_at hBZ 3
              have y4 : wB.cell? ⟨b0, 4, none⟩ = some (Value.bool false) := cell_at hBZ 4
              have y5 : wB.cell? ⟨b0, 5, none⟩ = some (Value.int IntKind.i64 0) := cell_at hBZ 5
              have y6 : wB.cell? ⟨b0, 6, none⟩ = some (Value.int IntKind.i64 0) := cell_at hBZ 6
              have y7 : wB.cell? ⟨b0, 7, none⟩ = some (Value.int IntKind.i64 0) := cell_at hBZ 7
              have y8 : wB.cell? ⟨b0, 8, none⟩ = some (Value.int IntKind.i64 0) := cell_at hBZ 8
              have v0 : wB.frozen? ⟨b0, 0, none⟩ = false := free_at hBZ 0
              have v1 : wB.frozen? ⟨b0, 1, none⟩ = false := free_at hBZ 1
              have v2 : wB.frozen? ⟨b0, 2, none⟩ = false := free_at hBZ 2
              have v3 : wB.frozen? ⟨b0, 3, none⟩ = false := free_at hBZ 3
              have v4 : wB.frozen? ⟨b0, 4, none⟩ = false := free_at hBZ 4
              have v5 : wB.frozen? ⟨b0, 5, none⟩ = false := free_at hBZ 5
              have v6 : wB.frozen? ⟨b0, 6, none⟩ = false := free_at hBZ 6
              have v7 : wB.frozen? ⟨b0, 7, none⟩ = false := free_at hBZ 7
              have v8 : wB.frozen? ⟨b0, 8, none⟩ = false := free_at hBZ 8
              have k0 : wB.cell? ⟨b1, 0, none⟩ = some (Value.string D.1.rep) := cell_at hBK 0
              have k1 : wB.cell? ⟨b1, 1, none⟩ = some (Value.int IntKind.i64 D.1.ep) := cell_at hBK 1
              have k2 : wB.cell? ⟨b1, 2, none⟩ = some (Value.int IntKind.i64 D.1.tm) := cell_at hBK 2
              have k3 : wB.cell? ⟨b1, 3, none⟩ = some (Value.bool D.1.gone) := cell_at hBK 3
              have k4 : wB.cell? ⟨b1, 4, none⟩ = some (Value.bool true) := cell_at hBK 4
              have k5 : wB.cell? ⟨b1, 5, none⟩ = some (Value.int IntKind.i64 xa.mod) := cell_at hBK 5
              have k6 : wB.cell? ⟨b1, 6, none⟩ = some (Value.int IntKind.i64 0) := cell_at hBK 6
              have k7 : wB.cell? ⟨b1, 7, none⟩ = some (Value.int IntKind.i64 0) := cell_at hBK 7
              have k8 : wB.cell? ⟨b1, 8, none⟩ = some (Value.int IntKind.i64 0) := cell_at hBK 8
              go_wp2_with fail
              refine at_world (fun W hW => ?_)
              have hw0 : W.heap[b0]? = some (Obj.cells #[Value.string (ByteArray.mk #[]), Value.int IntKind.i64 0, Value.int IntKind.i64 0, Value.bool false, Value.bool false, Value.int IntKind.i64 0, Value.int IntKind.i64 0, Value.int IntKind.i64 0, Value.int IntKind.i64 0] 39 (0, 0)) := by
                rw [hW]
                exact set9 (b := b0) (T := 39) hBZ _ _ _ _ _ _ _ _ _
              have z0 := cell_at hw0 0
              have z1 := cell_at hw0 1
              have z2 := cell_at hw0 2
              have z3 := cell_at hw0 3
              have z4 := cell_at hw0 4
              have z5 := cell_at hw0 5
              have z6 := cell_at hw0 6
              have z7 := cell_at hw0 7
              have z8 := cell_at hw0 8
              refine bodyPost_ret (by simp [results, Try.results12, go_sem, z0, z1, z2, z3, z4, z5, z6, z7, z8]; try rfl) rfl ?_
              subst hW
              rw [HX2.out]
              exact ⟨rfl, (HB.out.2.2.1.set9 (b := b0) (.inr (by omega)) _ _ _ _ _ _ _ _ _).below (Nat.le_refl _) (fun k h => h.elim)⟩
        | false =>
          have hCb1 : C ≠ b1 := fun e => by
            have h1 := H6.out.1.box
            rw [e, H6.out.2.2.2.1] at h1
            have := (Obj.cells.injEq _ _ _ _ _ _).mp (Option.some.inj h1)
            exact absurd this.2.1 (by decide)
          have hMb1 : M ≠ b1 := fun e => by
            obtain ⟨es, cc, hm, hg⟩ := H6.out.1.map
            rw [e, H6.out.2.2.2.1] at hm
            cases hm
          generalize hwA : (w5.alloc (Obj.cells #[Value.string xa.key, Value.string xa.val, Value.int IntKind.i64 xa.made, Value.int IntKind.i64 xa.mod] 46 (0, 0))) = wA at *
          have HA : Aside (CA wA C M f u ∧ wA.heap[b0]? = some (Obj.cells #[Value.string (ByteArray.mk #[]), Value.int IntKind.i64 0, Value.int IntKind.i64 0, Value.bool false, Value.bool false, Value.int IntKind.i64 0, Value.int IntKind.i64 0, Value.int IntKind.i64 0, Value.int IntKind.i64 0] 39 (0, 0)) ∧ Fr (fun _ => False) w wA ∧ wA.heap[b1]? = some (Obj.cells #[Value.string (ByteArray.mk #[]), Value.int IntKind.i64 0, Value.int IntKind.i64 0, Value.bool false, Value.bool false, Value.int IntKind.i64 0, Value.int IntKind.i64 0, Value.int IntKind.i64 0, Value.int IntKind.i64 0] 39 (0, 0))) := ⟨H6.out.1, H6.out.2.1, H6.out.2.2.1, H6.out.2.2.2.1⟩
          have hsA : b2 + 1 ≤ wA.heap.size := by omega
          clear H6
          go_wp2_with fail
          refine (HC.out.2.2.2.2.2.1 _ HA.out.1).mono ?_
          rintro e w9 ⟨rfl, hb9⟩
          have hK9 := (hb9.block b1 (by omega)).trans HA.out.2.2.2
          have hZ9 := (hb9.block b0 (by omega)).trans HA.out.2.1
          have hC9 := HA.out.1.below hb9
          have hF9 := HA.out.2.2.1.trans (Fr.of_new hb9) (fun _ _ h => h)
          have hE10 := heap_alloc_new w9 (Obj.cells #[Value.string xb.key, Value.string xb.val, Value.int IntKind.i64 xb.made, Value.int IntKind.i64 xb.mod] 46 (0, 0))
          have hK10 := blk_al hK9 (Obj.cells #[Value.string xb.key, Value.string xb.val, Value.int IntKind.i64 xb.made, Value.int IntKind.i64 xb.mod] 46 (0, 0))
          have hZ10 := blk_al hZ9 (Obj.cells #[Value.string xb.key, Value.string xb.val, Value.int IntKind.i64 xb.made, Value.int IntKind.i64 xb.mod] 46 (0, 0))
          have hC10 := hC9.below ((Below.refl w9.heap.size w9).alloc (Nat.le_refl _) (Obj.cells #[Value.string xb.key, Value.string xb.val, Value.int IntKind.i64 xb.made, Value.int IntKind.i64 xb.mod] 46 (0, 0)))
          have hF10 := hF9.alloc (Obj.cells #[Value.string xb.key, Value.string xb.val, Value.int IntKind.i64 xb.made, Value.int IntKind.i64 xb.mod] 46 (0, 0))
          obtain ⟨b3, hb3⟩ : ∃ b3, w9.heap.size = b3 := ⟨_, rfl⟩
          have hss9 : b2 + 1 ≤ b3 := by rw [← hb3]; exact Nat.le_trans hsA hb9.size
          rw [hb3] at hE10
          have hs10 : (w9.alloc (Obj.cells #[Value.string xb.key, Value.string xb.val, Value.int IntKind.i64 xb.made, Value.int IntKind.i64 xb.mod] 46 (0, 0))).heap.size = b3 + 1 := by simp [hb3]
          have H10 := Aside.mk (And.intro hC10 (And.intro hZ10 (And.intro hF10 (And.intro hK10 hE10))))
          clear hK9 hZ9 hC9 hF9 hE10 hK10 hZ10 hC10 hF10 hb9 HA
          cases ib with
          | true =>
            go_upto_region 12 with fail
            generalize (w9.alloc (Obj.cells #[Value.string xb.key, Value.string xb.val, Value.int IntKind.i64 xb.made, Value.int IntKind.i64 xb.mod] 46 (0, 0))) = w10 at *
            have hE := H10.out.2.2.2.2
            have hKK := H10.out.2.2.2.1
            have x1 : w10.cell? ⟨b3, 1, none⟩ = some (.string xb.val) := cell_at hE 1
            have x3 : w10.cell? ⟨b3, 3, none⟩ = some (.int .i64 xb.mod) := cell_at hE 3
            have k8 : w10.cell? ⟨b1, 8, none⟩ = some (Value.int IntKind.i64 0) := cell_at hKK 8
            have u8 : w10.frozen? ⟨b1, 8, none⟩ = false := free_at hKK 8
            go_upto_region 13 with fail
            have hw11 : (w10.setCell ⟨b1, 8, none⟩ (.int .i64 xb.mod)).heap[b1]? = some (Obj.cells #[Value.string (ByteArray.mk #[]), Value.int IntKind.i64 0, Value.int IntKind.i64 0, Value.bool false, Value.bool false, Value.int IntKind.i64 0, Value.int IntKind.i64 0, Value.int IntKind.i64 0, Value.int IntKind.i64 xb.mod] 39 (0, 0)) := by rw [heap_setCell_eq _ hKK]; rfl
            have hF11 := (Fr.refl (fun k => k = b1) w10).setCell (p := ⟨b1, 8, none⟩) (.inl rfl) (.int .i64 xb.mod)
            generalize (w10.setCell ⟨b1, 8, none⟩ (.int .i64 xb.mod)) = w11 at *
            have x1' : w11.cell? ⟨b3, 1, none⟩ = some (.string xb.val) := (cell_blk (hF11.block b3 (by omega) (fun e => by omega))).trans x1
            have hZ11 := hF11.heap H10.out.2.1 (fun e => by omega)
            have hs11 := hF11.size
            have hFw11 : Fr (fun _ => False) w w11 := H10.out.2.2.1.then hF11 (fun i e => .inr (by omega))
            have hC11 : CA w11 C M f u := H10.out.1.fr hF11 (fun e => hCb1 e) (fun e => hMb1 e)
            clear k8 u8 hE hKK x1 x3 H10 hF11
            go_wp2_with fail
            refine (HC.out.2.2.2.2.2.2.2 _).mono ?_
            rintro e w12 ⟨rfl, hb12⟩
            have hK12 := (hb12.block b1 (by omega)).trans hw11
            have hZ12 := (hb12.block b0 (by omega)).trans hZ11
            have hC12 := hC11.below hb12
            have hF12 := hFw11.trans (Fr.of_new hb12) (fun _ _ h => h)
            have j6 : w12.cell? ⟨b1, 6, none⟩ = some (Value.int IntKind.i64 0) := cell_at hK12 6
            have j7 : w12.cell? ⟨b1, 7, none⟩ = some (Value.int IntKind.i64 0) := cell_at hK12 7
            have u6 : w12.frozen? ⟨b1, 6, none⟩ = false := free_at hK12 6
            have u7 : w12.frozen? ⟨b1, 7, none⟩ = false := free_at hK12 7
            clear hb12 hw11 hZ11 hC11 hFw11 x1'
            go_upto_region 14 with fail
            have hw13 : ((w12.setCell ⟨b1, 6, none⟩ (.int .i64 T.1.live)).setCell ⟨b1, 7, none⟩ (.int .i64 T.1.epochs)).heap[b1]? = some (Obj.cells #[Value.string (ByteArray.mk #[]), Value.int IntKind.i64 0, Value.int IntKind.i64 0, Value.bool false, Value.bool false, Value.int IntKind.i64 0, Value.int IntKind.i64 T.1.live, Value.int IntKind.i64 T.1.epochs, Value.int IntKind.i64 xb.mod] 39 (0, 0)) := by rw [heap_setCell_eq _ (heap_setCell_eq _ hK12)]; rfl
            have hF13 := ((Fr.refl (fun k => k = b1) w12).setCell (p := ⟨b1, 6, none⟩) (.inl rfl) (.int .i64 T.1.live)).setCell (p := ⟨b1, 7, none⟩) (.inl rfl) (.int .i64 T.1.epochs)
            generalize ((w12.setCell ⟨b1, 6, none⟩ (.int .i64 T.1.live)).setCell ⟨b1, 7, none⟩ (.int .i64 T.1.epochs)) = wB at *
            have HB : Aside (CA wB C M f u ∧ wB.heap[b0]? = some (Obj.cells #[Value.string (ByteArray.mk #[]), Value.int IntKind.i64 0, Value.int IntKind.i64 0, Value.bool false, Value.bool false, Value.int IntKind.i64 0, Value.int IntKind.i64 0, Value.int IntKind.i64 0, Value.int IntKind.i64 0] 39 (0, 0)) ∧ Fr (fun _ => False) w wB ∧ wB.heap[b1]? = some (Obj.cells #[Value.string (ByteArray.mk #[]), Value.int IntKind.i64 0, Value.int IntKind.i64 0, Value.bool false, Value.bool false, Value.int IntKind.i64 0, Value.int IntKind.i64 T.1.live, Value.int IntKind.i64 T.1.epochs, Value.int IntKind.i64 xb.mod] 39 (0, 0))) := ⟨hC12.fr hF13 (fun e => hCb1 e) (fun e => hMb1 e), hF13.heap hZ12 (fun e => by omega), hF12.then hF13 (fun i e => .inr (by omega)), hw13⟩
            clear hK12 hZ12 hC12 hF12 j6 j7 u6 u7 hw13 hF13
            by_cases hte : T.2 = 0
            · have htb : (T.2 == 0) = true := by rw [hte]; rfl
              have hBZ := HB.out.2.1
              have hBK := HB.out.2.2.2
              have HX2 : Aside (X = (⟨recZ, false, 0, T.1, xb.mod⟩, true)) := ⟨by rw [← HX.out, if_neg (by simp [hte])]; simp⟩
              have y0 : wB.cell? ⟨b0, 0, none⟩ = some (Value.string (ByteArray.mk #[])) := cell_at hBZ 0
              have y1 : wB.cell? ⟨b0, 1, none⟩ = some (Value.int IntKind.i64 0) := cell_at hBZ 1
              have y2 : wB.cell? ⟨b0, 2, none⟩ = some (Value.int IntKind.i64 0) := cell_at hBZ 2
              have y3 : wB.cell? ⟨b0, 3, none⟩ = some (Value.bool false) := cell_at hBZ 3
              have y4 : wB.cell? ⟨b0, 4, none⟩ = some (Value.bool false) := cell_at hBZ 4
              have y5 : wB.cell? ⟨b0, 5, none⟩ = some (Value.int IntKind.i64 0) := cell_at hBZ 5
              have y6 : wB.cell? ⟨b0, 6, none⟩ = some (Value.int IntKind.i64 0) := cell_at hBZ 6
              have y7 : wB.cell? ⟨b0, 7, none⟩ = some (Value.int IntKind.i64 0) := cell_at hBZ 7
              have y8 : wB.cell? ⟨b0, 8, none⟩ = some (Value.int IntKind.i64 0) := cell_at hBZ 8
              have v0 : wB.frozen? ⟨b0, 0, none⟩ = false := free_at hBZ 0
              have v1 : wB.frozen? ⟨b0, 1, none⟩ = false := free_at hBZ 1
              have v2 : wB.frozen? ⟨b0, 2, none⟩ = false := free_at hBZ 2
              have v3 : wB.frozen? ⟨b0, 3, none⟩ = false := free_at hBZ 3
              have v4 : wB.frozen? ⟨b0, 4, none⟩ = false := free_at hBZ 4
              have v5 : wB.frozen? ⟨b0, 5, none⟩ = false := free_at hBZ 5
              have v6 : wB.frozen? ⟨b0, 6, none⟩ = false := free_at hBZ 6
              have v7 : wB.frozen? ⟨b0, 7, none⟩ = false := free_at hBZ 7
              have v8 : wB.frozen? ⟨b0, 8, none⟩ = false := free_at hBZ 8
              have k0 : wB.cell? ⟨b1, 0, none⟩ = some (Value.string (ByteArray.mk #[])) := cell_at hBK 0
              have k1 : wB.cell? ⟨b1, 1, none⟩ = some (Value.int IntKind.i64 0) := cell_at hBK 1
              have k2 : wB.cell? ⟨b1, 2, none⟩ = some (Value.int IntKind.i64 0) := cell_at hBK 2
              have k3 : wB.cell? ⟨b1, 3, none⟩ = some (Value.bool false) := cell_at hBK 3
              have k4 : wB.cell? ⟨b1, 4, none⟩ = some (Value.bool false) := cell_at hBK 4
              have k5 : wB.cell? ⟨b1, 5, none⟩ = some (Value.int IntKind.i64 0) := cell_at hBK 5
              have k6 : wB.cell? ⟨b1, 6, none⟩ = some (Value.int IntKind.i64 T.1.live) := cell_at hBK 6
              have k7 : wB.cell? ⟨b1, 7, none⟩ = some (Value.int IntKind.i64 T.1.epochs) := cell_at hBK 7
              have k8 : wB.cell? ⟨b1, 8, none⟩ = some (Value.int IntKind.i64 xb.mod) := cell_at hBK 8
              go_wp2_with fail
              refine at_world (fun W hW => ?_)
              have hw0 : W.heap[b0]? = some (Obj.cells #[Value.string (ByteArray.mk #[]), Value.int IntKind.i64 0, Value.int IntKind.i64 0, Value.bool false, Value.bool false, Value.int IntKind.i64 0, Value.int IntKind.i64 T.1.live, Value.int IntKind.i64 T.1.epochs, Value.int IntKind.i64 xb.mod] 39 (0, 0)) := by
                rw [hW]
                exact set9 (b := b0) (T := 39) hBZ _ _ _ _ _ _ _ _ _
              have z0 := cell_at hw0 0
              have z1 := cell_at hw0 1
              have z2 := cell_at hw0 2
              have z3 := cell_at hw0 3
              have z4 := cell_at hw0 4
              have z5 := cell_at hw0 5
              have z6 := cell_at hw0 6
              have z7 := cell_at hw0 7
              have z8 := cell_at hw0 8
              refine bodyPost_ret (by simp [results, Try.results12, go_sem, z0, z1, z2, z3, z4, z5, z6, z7, z8]; try rfl) rfl ?_
              subst hW
              rw [HX2.out]
              exact ⟨rfl, (HB.out.2.2.1.set9 (b := b0) (.inr (by omega)) _ _ _ _ _ _ _ _ _).below (Nat.le_refl _) (fun k h => h.elim)⟩
            · have htb : (T.2 == 0) = false := by rw [beq_eq_false_iff_ne]; exact hte
              have hBZ := HB.out.2.1
              have hBK := HB.out.2.2.2
              have HX2 : Aside (X = (knwZ, false)) := ⟨by rw [← HX.out, if_pos (by simp [hte])]⟩
              have y0 : wB.cell? ⟨b0, 0, none⟩ = some (Value.string (ByteArray.mk #[])) := cell_at hBZ 0
              have y1 : wB.cell? ⟨b0, 1, none⟩ = some (Value.int IntKind.i64 0) := cell_at hBZ 1
              have y2 : wB.cell? ⟨b0, 2, none⟩ = some (Value.int IntKind.i64 0) := cell_at hBZ 2
              have y3 : wB.cell? ⟨b0, 3, none⟩ = some (Value.bool false) := cell_at hBZ 3
              have y4 : wB.cell? ⟨b0, 4, none⟩ = some (Value.bool false) := cell_at hBZ 4
              have y5 : wB.cell? ⟨b0, 5, none⟩ = some (Value.int IntKind.i64 0) := cell_at hBZ 5
              have y6 : wB.cell? ⟨b0, 6, none⟩ = some (Value.int IntKind.i64 0) := cell_at hBZ 6
              have y7 : wB.cell? ⟨b0, 7, none⟩ = some (Value.int IntKind.i64 0) := cell_at hBZ 7
              have y8 : wB.cell? ⟨b0, 8, none⟩ = some (Value.int IntKind.i64 0) := cell_at hBZ 8
              have v0 : wB.frozen? ⟨b0, 0, none⟩ = false := free_at hBZ 0
              have v1 : wB.frozen? ⟨b0, 1, none⟩ = false := free_at hBZ 1
              have v2 : wB.frozen? ⟨b0, 2, none⟩ = false := free_at hBZ 2
              have v3 : wB.frozen? ⟨b0, 3, none⟩ = false := free_at hBZ 3
              have v4 : wB.frozen? ⟨b0, 4, none⟩ = false := free_at hBZ 4
              have v5 : wB.frozen? ⟨b0, 5, none⟩ = false := free_at hBZ 5
              have v6 : wB.frozen? ⟨b0, 6, none⟩ = false := free_at hBZ 6
              have v7 : wB.frozen? ⟨b0, 7, none⟩ = false := free_at hBZ 7
              have v8 : wB.frozen? ⟨b0, 8, none⟩ = false := free_at hBZ 8
              have k0 : wB.cell? ⟨b1, 0, none⟩ = some (Value.string (ByteArray.mk #[])) := cell_at hBK 0
              have k1 : wB.cell? ⟨b1, 1, none⟩ = some (Value.int IntKind.i64 0) := cell_at hBK 1
              have k2 : wB.cell? ⟨b1, 2, none⟩ = some (Value.int IntKind.i64 0) := cell_at hBK 2
              have k3 : wB.cell? ⟨b1, 3, none⟩ = some (Value.bool false) := cell_at hBK 3
              have k4 : wB.cell? ⟨b1, 4, none⟩ = some (Value.bool false) := cell_at hBK 4
              have k5 : wB.cell? ⟨b1, 5, none⟩ = some (Value.int IntKind.i64 0) := cell_at hBK 5
              have k6 : wB.cell? ⟨b1, 6, none⟩ = some (Value.int IntKind.i64 T.1.live) := cell_at hBK 6
              have k7 : wB.cell? ⟨b1, 7, none⟩ = some (Value.int IntKind.i64 T.1.epochs) := cell_at hBK 7
              have k8 : wB.cell? ⟨b1, 8, none⟩ = some (Value.int IntKind.i64 xb.mod) := cell_at hBK 8
              go_wp2_with fail
              refine at_world (fun W hW => ?_)
              have hw0 : W.heap[b0]? = some (Obj.cells #[Value.string (ByteArray.mk #[]), Value.int IntKind.i64 0, Value.int IntKind.i64 0, Value.bool false, Value.bool false, Value.int IntKind.i64 0, Value.int IntKind.i64 0, Value.int IntKind.i64 0, Value.int IntKind.i64 0] 39 (0, 0)) := by
                rw [hW]
                exact set9 (b := b0) (T := 39) hBZ _ _ _ _ _ _ _ _ _
              have z0 := cell_at hw0 0
              have z1 := cell_at hw0 1
              have z2 := cell_at hw0 2
              have z3 := cell_at hw0 3
              have z4 := cell_at hw0 4
              have z5 := cell_at hw0 5
              have z6 := cell_at hw0 6
              have z7 := cell_at hw0 7
              have z8 := cell_at hw0 8
              refine bodyPost_ret (by simp [results, Try.results12, go_sem, z0, z1, z2, z3, z4, z5, z6, z7, z8]; try rfl) rfl ?_
              subst hW
              rw [HX2.out]
              exact ⟨rfl, (HB.out.2.2.1.set9 (b := b0) (.inr (by omega)) _ _ _ _ _ _ _ _ _).below (Nat.le_refl _) (fun k h => h.elim)⟩
          | false =>
            generalize hwB : (w9.alloc (Obj.cells #[Value.string xb.key, Value.string xb.val, Value.int IntKind.i64 xb.made, Value.int IntKind.i64 xb.mod] 46 (0, 0))) = wB at *
            have HB : Aside (CA wB C M f u ∧ wB.heap[b0]? = some (Obj.cells #[Value.string (ByteArray.mk #[]), Value.int IntKind.i64 0, Value.int IntKind.i64 0, Value.bool false, Value.bool false, Value.int IntKind.i64 0, Value.int IntKind.i64 0, Value.int IntKind.i64 0, Value.int IntKind.i64 0] 39 (0, 0)) ∧ Fr (fun _ => False) w wB ∧ wB.heap[b1]? = some (Obj.cells #[Value.string (ByteArray.mk #[]), Value.int IntKind.i64 0, Value.int IntKind.i64 0, Value.bool false, Value.bool false, Value.int IntKind.i64 0, Value.int IntKind.i64 0, Value.int IntKind.i64 0, Value.int IntKind.i64 0] 39 (0, 0))) := ⟨H10.out.1, H10.out.2.1, H10.out.2.2.1, H10.out.2.2.2.1⟩
            clear H10
            have hBZ := HB.out.2.1
            have hBK := HB.out.2.2.2
            have HX2 : Aside (X = (⟨recZ, false, 0, tenZ, 0⟩, true)) := ⟨by rw [← HX.out, if_neg (by simp)]; simp⟩
            have y0 : wB.cell? ⟨b0, 0, none⟩ = some (Value.string (ByteArray.mk #[])) := cell_at hBZ 0
            have y1 : wB.cell? ⟨b0, 1, none⟩ = some (Value.int IntKind.i64 0) := cell_at hBZ 1
            have y2 : wB.cell? ⟨b0, 2, none⟩ = some (Value.int IntKind.i64 0) := cell_at hBZ 2
            have y3 : wB.cell? ⟨b0, 3, none⟩ = some (Value.bool false) := cell_at hBZ 3
            have y4 : wB.cell? ⟨b0, 4, none⟩ = some (Value.bool false) := cell_at hBZ 4
            have y5 : wB.cell? ⟨b0, 5, none⟩ = some (Value.int IntKind.i64 0) := cell_at hBZ 5
            have y6 : wB.cell? ⟨b0, 6, none⟩ = some (Value.int IntKind.i64 0) := cell_at hBZ 6
            have y7 : wB.cell? ⟨b0, 7, none⟩ = some (Value.int IntKind.i64 0) := cell_at hBZ 7
            have y8 : wB.cell? ⟨b0, 8, none⟩ = some (Value.int IntKind.i64 0) := cell_at hBZ 8
            have v0 : wB.frozen? ⟨b0, 0, none⟩ = false := free_at hBZ 0
            have v1 : wB.frozen? ⟨b0, 1, none⟩ = false := free_at hBZ 1
            have v2 : wB.frozen? ⟨b0, 2, none⟩ = false := free_at hBZ 2
            have v3 : wB.frozen? ⟨b0, 3, none⟩ = false := free_at hBZ 3
            have v4 : wB.frozen? ⟨b0, 4, none⟩ = false := free_at hBZ 4
            have v5 : wB.frozen? ⟨b0, 5, none⟩ = false := free_at hBZ 5
            have v6 : wB.frozen? ⟨b0, 6, none⟩ = false := free_at hBZ 6
            have v7 : wB.frozen? ⟨b0, 7, none⟩ = false := free_at hBZ 7
            have v8 : wB.frozen? ⟨b0, 8, none⟩ = false := free_at hBZ 8
            have k0 : wB.cell? ⟨b1, 0, none⟩ = some (Value.string (ByteArray.mk #[])) := cell_at hBK 0
            have k1 : wB.cell? ⟨b1, 1, none⟩ = some (Value.int IntKind.i64 0) := cell_at hBK 1
            have k2 : wB.cell? ⟨b1, 2, none⟩ = some (Value.int IntKind.i64 0) := cell_at hBK 2
            have k3 : wB.cell? ⟨b1, 3, none⟩ = some (Value.bool false) := cell_at hBK 3
            have k4 : wB.cell? ⟨b1, 4, none⟩ = some (Value.bool false) := cell_at hBK 4
            have k5 : wB.cell? ⟨b1, 5, none⟩ = some (Value.int IntKind.i64 0) := cell_at hBK 5
            have k6 : wB.cell? ⟨b1, 6, none⟩ = some (Value.int IntKind.i64 0) := cell_at hBK 6
            have k7 : wB.cell? ⟨b1, 7, none⟩ = some (Value.int IntKind.i64 0) := cell_at hBK 7
            have k8 : wB.cell? ⟨b1, 8, none⟩ = some (Value.int IntKind.i64 0) := cell_at hBK 8
            go_wp2_with fail
            refine at_world (fun W hW => ?_)
            have hw0 : W.heap[b0]? = some (Obj.cells #[Value.string (ByteArray.mk #[]), Value.int IntKind.i64 0, Value.int IntKind.i64 0, Value.bool false, Value.bool false, Value.int IntKind.i64 0, Value.int IntKind.i64 0, Value.int IntKind.i64 0, Value.int IntKind.i64 0] 39 (0, 0)) := by
              rw [hW]
              exact set9 (b := b0) (T := 39) hBZ _ _ _ _ _ _ _ _ _
            have z0 := cell_at hw0 0
            have z1 := cell_at hw0 1
            have z2 := cell_at hw0 2
            have z3 := cell_at hw0 3
            have z4 := cell_at hw0 4
            have z5 := cell_at hw0 5
            have z6 := cell_at hw0 6
            have z7 := cell_at hw0 7
            have z8 := cell_at hw0 8
            refine bodyPost_ret (by simp [results, Try.results12, go_sem, z0, z1, z2, z3, z4, z5, z6, z7, z8]; try rfl) rfl ?_
            subst hW
            rw [HX2.out]
            exact ⟨rfl, (HB.out.2.2.1.set9 (b := b0) (.inr (by omega)) _ _ _ _ _ _ _ _ _).below (Nat.le_refl _) (fun k h => h.elim)⟩
end Go.Proofs.Ytagkobpbhfkmdaa.C
