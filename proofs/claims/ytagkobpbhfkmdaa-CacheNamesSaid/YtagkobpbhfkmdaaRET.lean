/- Tenants' records; Decode, DecodeTenant. -/
import Derived.Test.YtagkobpbhfkmdaaREC
namespace Go.Proofs.Ytagkobpbhfkmdaa.C
open Go.RowKit Go.Proofs.Ytagkobpbhfkmdaa.Q Go.Proofs.YtagkobpbhfkmdaaW.PrintLast Go.Proofs.YtagkobpbhfkmdaaW.PrintWords
set_option linter.unusedVariables false
set_option linter.unusedSimpArgs false
/-- A tenant's record: how many live, epochs. -/
structure Ten where
  live : Int
  epochs : Int
def tenC (t : Ten) : Array Value := #[.int .i64 t.live, .int .i64 t.epochs]
def mayTenB (t : Ten) : Bool := decide (0 ≤ t.epochs ∧ t.epochs ≤ 1099511627776 ∧ 0 ≤ t.live ∧ t.live ≤ 1048576 ∧ t.live ≤ t.epochs)
def rdTen (r : Rdr) : Ten × Rdr := (⟨((rVar r 1048576).1 : Int), ((rVar (rVar r 1048576).2 1099511627776).1 : Int)⟩, (rVar (rVar r 1048576).2 1099511627776).2)
def tenZ : Ten := ⟨0, 0⟩
def decTen (s : ByteArray) : Ten × Int :=
  if (rdTen ⟨s, 0, 0⟩).2.e ≠ 0 then (tenZ, (rdTen ⟨s, 0, 0⟩).2.e) else if 0 < s.size - (rdTen ⟨s, 0, 0⟩).2.p ∨ ¬ mayTenB (rdTen ⟨s, 0, 0⟩).1 = true then (tenZ, 4) else ((rdTen ⟨s, 0, 0⟩).1, 0)
theorem mayten_calls (t : Ten) (w : World) : Calls Try.prog 64 #[.agg #[.int .i64 t.live, .int .i64 t.epochs]] w fun e w' => e = .returned (.bool (mayTenB t)) ∧ Below w.heap.size w w' := record_MayTenant.calls t.live t.epochs _ w (mayTenant_is t.live t.epochs)
set_option maxHeartbeats 4000000 in
set_option maxRecDepth 100000 in
theorem dect_calls (s : ByteArray) (hs : s.size ≤ 140737488355328) (w : World) : Calls Try.prog 63 #[.string s, .func (Fn.func 64) #[] #[], .func (Fn.func 65) #[] #[]] w fun e w' => e = .returned (.tuple #[.agg (tenC (decTen s).1), .int .i64 (decTen s).2]) ∧ Fr (fun _ => False) w w' := by
  have C2 := fun g v (hv : RD v g ⟨s, 0, 0⟩) => dect1_calls g ⟨s, 0, 0⟩ v hv
  have hss : (rdTen ⟨s, 0, 0⟩).2.s = s := by unfold rdTen; dsimp only; rw [rVar_s, rVar_s]
  obtain ⟨D, hD⟩ : ∃ D, decTen s = D := ⟨_, rfl⟩
  unfold decTen at hD
  have C2 := fun g v (hv : RD v g ⟨s, 0, 0⟩) => (show Calls _ _ _ _ (fun e w' => e = .returned (.agg #[.int .i64 (rdTen ⟨s, 0, 0⟩).1.live, .int .i64 (rdTen ⟨s, 0, 0⟩).1.epochs]) ∧ RD w' g (rdTen ⟨s, 0, 0⟩).2 ∧ Fr (fun k => k = g) v w') from C2 g v hv)
  obtain ⟨⟨x, r⟩, hX⟩ : ∃ X, rdTen ⟨s, 0, 0⟩ = X := ⟨_, rfl⟩
  rw [hX] at hD C2 hss
  dsimp only at hD C2 hss
  have HC := Aside.mk (And.intro C2 (And.intro trivial hss))
  have hDD : decTen s = D := by unfold decTen; rw [hX]; exact hD
  rw [hDD]
  have HD := Aside.mk hD
  clear C2 hss hD hX hDD
  obtain ⟨b0, hb0⟩ : ∃ b0, w.heap.size = b0 := ⟨_, rfl⟩
  have hA1 : (w.alloc (Obj.cells #[Value.int IntKind.i64 0, Value.int IntKind.i64 0] 37 (0, 0))).heap.size = b0 + 1 := by simp [hb0]
  have hA2 : ((w.alloc (Obj.cells #[Value.int IntKind.i64 0, Value.int IntKind.i64 0] 37 (0, 0))).alloc (Obj.cells #[Value.int IntKind.i64 0, Value.int IntKind.i64 0] 37 (0, 0))).heap.size = b0 + 2 := by simp [hb0]
  have hA3 : ((w.alloc (Obj.cells #[Value.int IntKind.i64 0, Value.int IntKind.i64 0] 37 (0, 0))).alloc (Obj.cells #[Value.int IntKind.i64 0, Value.int IntKind.i64 0] 37 (0, 0))).heap[b0]? = some (Obj.cells #[Value.int IntKind.i64 0, Value.int IntKind.i64 0] 37 (0, 0)) := blk_al (by rw [← hb0]; exact heap_alloc_new w _) _
  have hA4 : ((w.alloc (Obj.cells #[Value.int IntKind.i64 0, Value.int IntKind.i64 0] 37 (0, 0))).alloc (Obj.cells #[Value.int IntKind.i64 0, Value.int IntKind.i64 0] 37 (0, 0))).heap[b0 + 1]? = some (Obj.cells #[Value.int IntKind.i64 0, Value.int IntKind.i64 0] 37 (0, 0)) := by rw [← hA1]; exact heap_alloc_new _ _
  have hA6 := (((Fr.refl (fun _ => False) w).alloc (Obj.cells #[Value.int IntKind.i64 0, Value.int IntKind.i64 0] 37 (0, 0))).alloc (Obj.cells #[Value.int IntKind.i64 0, Value.int IntKind.i64 0] 37 (0, 0)))
  go_enter Try.func63, Try.ntmps63
  go_wp2_with fail
  refine (rnew_calls s hs _).mono ?_
  generalize ((w.alloc (Obj.cells #[Value.int IntKind.i64 0, Value.int IntKind.i64 0] 37 (0, 0))).alloc (Obj.cells #[Value.int IntKind.i64 0, Value.int IntKind.i64 0] 37 (0, 0))) = wa at *
  rintro e1 w1 ⟨rfl, hr1, hbl1⟩
  have h10 := (hbl1.block _ (by omega)).trans hA3
  have h11 := (hbl1.block _ (by omega)).trans hA4
  have hF1 := hA6.trans (Fr.of_new (F := fun _ => False) hbl1) (fun _ _ h => h)
  rw [hA2] at hr1
  clear hA3 hA4 hA6
  go_wp2_with fail
  refine (HC.out.1 _ _ hr1).mono ?_
  rintro e1 w2 ⟨rfl, hr2, hF2⟩
  have h20 := hF2.heap h10 (fun e => by omega)
  have h21 := hF2.heap h11 (fun e => by omega)
  have hFF := hF1.then (G := fun k => k = b0 + 2) hF2 (fun i h => .inr (by omega))
  clear h10 h11 hF1 hF2 hr1 hbl1
  have k0 := lt_of_block h20
  have k1 := lt_of_block h21
  have kr := lt_of_block hr2.box
  have hB1 := blk_al h20 (Obj.cells #[Value.int IntKind.i64 x.live, Value.int IntKind.i64 x.epochs] 37 (0, 0))
  have hB2 := blk_al h21 (Obj.cells #[Value.int IntKind.i64 x.live, Value.int IntKind.i64 x.epochs] 37 (0, 0))
  have hB4 := blk_al hr2.box (Obj.cells #[Value.int IntKind.i64 x.live, Value.int IntKind.i64 x.epochs] 37 (0, 0))
  have hB5 := heap_alloc_new w2 (Obj.cells #[Value.int IntKind.i64 x.live, Value.int IntKind.i64 x.epochs] 37 (0, 0))
  have hB6 := hFF.alloc (Obj.cells #[Value.int IntKind.i64 x.live, Value.int IntKind.i64 x.epochs] 37 (0, 0))
  have hB7 : (w2.alloc (Obj.cells #[Value.int IntKind.i64 x.live, Value.int IntKind.i64 x.epochs] 37 (0, 0))).heap.size = w2.heap.size + 1 := by simp
  have hB8 : RD (w2.alloc (Obj.cells #[Value.int IntKind.i64 x.live, Value.int IntKind.i64 x.epochs] 37 (0, 0))) (b0 + 2) r := ⟨hB4, hr2.le, hr2.few⟩
  clear hFF h20 h21 hr2 hB4
  obtain ⟨b3, hb3⟩ : ∃ b3, w2.heap.size = b3 := ⟨_, rfl⟩
  rw [hb3] at k0 k1 kr hB5 hB7
  have herr := rerr_calls (b0 + 2) r _ hB8
  have hleft := rleft_calls (b0 + 2) r _ hB8
  have hm := fun q => mayten_calls x ((w2.alloc (Obj.cells #[Value.int IntKind.i64 x.live, Value.int IntKind.i64 x.epochs] 37 (0, 0))).drewN q)
  go_wp2_with fail
  refine herr.mono ?_
  rintro e1 w3 ⟨rfl, rfl⟩
  generalize (w2.alloc (Obj.cells #[Value.int IntKind.i64 x.live, Value.int IntKind.i64 x.epochs] 37 (0, 0))) = w3 at *
  have y0 := cell_at hB1 0
  have y1 := cell_at hB1 1
  have v0 := free_at hB1 0
  have v1 := free_at hB1 1
  have n0 := cell_at hB2 0
  have n1 := cell_at hB2 1
  have x0 := cell_at hB5 0
  have x1 := cell_at hB5 1
  by_cases he : r.e = 0
  · have heb : (r.e == 0) = true := by rw [he]; rfl
    by_cases hlf : 0 < r.s.size - r.p
    · have hDv : Aside (D = (tenZ, 4)) := ⟨by rw [← HD.out, if_neg (by simp [he]), if_pos (.inl (by rw [← HC.out.2.2]; exact hlf))]⟩
      obtain ⟨d, hd⟩ : ∃ d, r.s.size - r.p = d := ⟨_, rfl⟩
      rw [hd] at hleft hlf
      have hli : 0 < (d : Int) := by omega
      have HZ := Aside.mk hB6
      have HZ1 := Aside.mk hB1
      clear hm HD he hd hB6 hB1
      go_wp2_with fail
      refine hleft.mono ?_
      rintro e1 w4 ⟨rfl, q, rfl⟩
      go_wp2_with fail
      refine at_world (fun W hW => ?_)
      have hw0 : W.heap[b0]? = some (Obj.cells #[Value.int IntKind.i64 0, Value.int IntKind.i64 0] 37 (0, 0)) := by
        rw [hW]
        exact set2 (b := b0) (T := 37) (w := w3.drewN q) HZ1.out _ _
      have z0 := cell_at hw0 0
      have z1 := cell_at hw0 1
      refine bodyPost_ret (by simp [results, Try.results63, go_sem, z0, z1]; try rfl) rfl ?_
      subst hW
      rw [hDv.out]
      exact ⟨rfl, ((HZ.out.drewN q).setCell (p := ⟨b0, 0, none⟩) (.inr (by show w.heap.size ≤ b0; omega)) _).setCell (p := ⟨b0, 1, none⟩) (.inr (by show w.heap.size ≤ b0; omega)) _⟩
    · have hl0' : r.s.size - r.p = 0 := by omega
      rw [hl0'] at hleft
      obtain ⟨M, hM⟩ : ∃ M, mayTenB x = M := ⟨_, rfl⟩
      rw [hM] at hm HD
      have HM := Aside.mk hm
      have hlz : ¬ 0 < s.size - r.p := by rw [← HC.out.2.2]; exact hlf
      have HZ := Aside.mk hB6
      have HZ1 := Aside.mk (And.intro hB1 (And.intro hB2 hB5))
      cases M with
      | true =>
        have hDv : Aside (D = (x, 0)) := ⟨by rw [← HD.out, if_neg (by simp [he]), if_neg (by simp; omega)]⟩
        clear hm HD he hB6 hB1 hB2 hB5 hl0' hM hlf hlz y0 y1 v0 v1 n0 n1
        go_wp2_with fail
        refine hleft.mono ?_
        rintro e1 w4 ⟨rfl, q, rfl⟩
        go_wp2_with fail
        refine (HM.out q).mono ?_
        rintro e1 w5 ⟨rfl, hb5⟩
        have g1 := (hb5.block b0 (by show b0 < w3.heap.size; omega)).trans HZ1.out.1
        have g5 := (hb5.block b3 (by show b3 < w3.heap.size; omega)).trans HZ1.out.2.2
        have hZ5 := (HZ.out.drewN q).trans (Fr.of_new (F := fun _ => False) hb5) (fun _ _ h => h)
        have HZ5 := Aside.mk hZ5
        have HG5 := Aside.mk g1
        clear hb5 hZ5 x0 x1
        have y0 := cell_at g1 0
        have y1 := cell_at g1 1
        have v0 := free_at g1 0
        have v1 := free_at g1 1
        have x0 := cell_at g5 0
        have x1 := cell_at g5 1
        clear g1 g5
        go_wp2_with fail
        refine at_world (fun W hW => ?_)
        have hw0 : W.heap[b0]? = some (Obj.cells #[Value.int IntKind.i64 x.live, Value.int IntKind.i64 x.epochs] 37 (0, 0)) := by
          rw [hW]
          exact set2 (b := b0) (T := 37) HG5.out _ _
        have z0 := cell_at hw0 0
        have z1 := cell_at hw0 1
        refine bodyPost_ret (by simp [results, Try.results63, go_sem, z0, z1]; try rfl) rfl ?_
        subst hW
        rw [hDv.out]
        exact ⟨rfl, (HZ5.out.setCell (p := ⟨b0, 0, none⟩) (.inr (by show w.heap.size ≤ b0; omega)) _).setCell (p := ⟨b0, 1, none⟩) (.inr (by show w.heap.size ≤ b0; omega)) _⟩
      | false =>
        have hDv : Aside (D = (tenZ, 4)) := ⟨by rw [← HD.out, if_neg (by simp [he]), if_pos (.inr (by simp))]⟩
        clear hm HD he hB6 hB1 hB2 hB5 hl0' hM hlf hlz y0 y1 v0 v1 n0 n1
        go_wp2_with fail
        refine hleft.mono ?_
        rintro e1 w4 ⟨rfl, q, rfl⟩
        go_wp2_with fail
        refine (HM.out q).mono ?_
        rintro e1 w5 ⟨rfl, hb5⟩
        have g1 := (hb5.block b0 (by show b0 < w3.heap.size; omega)).trans HZ1.out.1
        have g2 := (hb5.block (b0 + 1) (by show b0 + 1 < w3.heap.size; omega)).trans HZ1.out.2.1
        have hZ5 := (HZ.out.drewN q).trans (Fr.of_new (F := fun _ => False) hb5) (fun _ _ h => h)
        have HZ5 := Aside.mk hZ5
        have HG5 := Aside.mk g1
        clear hb5 hZ5 x0 x1
        have y0 := cell_at g1 0
        have y1 := cell_at g1 1
        have v0 := free_at g1 0
        have v1 := free_at g1 1
        have x0 := cell_at g2 0
        have x1 := cell_at g2 1
        clear g1 g2
        go_wp2_with fail
        refine at_world (fun W hW => ?_)
        have hw0 : W.heap[b0]? = some (Obj.cells #[Value.int IntKind.i64 0, Value.int IntKind.i64 0] 37 (0, 0)) := by
          rw [hW]
          exact set2 (b := b0) (T := 37) HG5.out _ _
        have z0 := cell_at hw0 0
        have z1 := cell_at hw0 1
        refine bodyPost_ret (by simp [results, Try.results63, go_sem, z0, z1]; try rfl) rfl ?_
        subst hW
        rw [hDv.out]
        exact ⟨rfl, (HZ5.out.setCell (p := ⟨b0, 0, none⟩) (.inr (by show w.heap.size ≤ b0; omega)) _).setCell (p := ⟨b0, 1, none⟩) (.inr (by show w.heap.size ≤ b0; omega)) _⟩
  · have heb : (r.e == 0) = false := by rw [beq_eq_false_iff_ne]; exact he
    have hDv : Aside (D = (tenZ, r.e)) := ⟨by rw [← HD.out, if_pos (by simpa using he)]⟩
    have HZ := Aside.mk hB6
    have HZ1 := Aside.mk hB1
    clear hm HD he hB6 hB1 hleft
    go_wp2_with fail
    refine at_world (fun W hW => ?_)
    have hw0 : W.heap[b0]? = some (Obj.cells #[Value.int IntKind.i64 0, Value.int IntKind.i64 0] 37 (0, 0)) := by
      rw [hW]
      exact set2 (b := b0) (T := 37) HZ1.out _ _
    have z0 := cell_at hw0 0
    have z1 := cell_at hw0 1
    refine bodyPost_ret (by simp [results, Try.results63, go_sem, z0, z1]; try rfl) rfl ?_
    subst hW
    rw [hDv.out]
    exact ⟨rfl, (HZ.out.setCell (p := ⟨b0, 0, none⟩) (.inr (by show w.heap.size ≤ b0; omega)) _).setCell (p := ⟨b0, 1, none⟩) (.inr (by show w.heap.size ≤ b0; omega)) _⟩
set_option maxHeartbeats 2000000 in
set_option maxRecDepth 100000 in
theorem decode_calls (s : ByteArray) (hs : s.size ≤ 140737488355328) (w : World) : Calls Try.prog 33 #[.string s] w fun e w' => e = .returned (.tuple #[.agg (recC (decRec s).1), .int .i64 (decRec s).2]) ∧ Below w.heap.size w w' := by
  obtain ⟨D, hD⟩ : ∃ D, decRec s = D := ⟨_, rfl⟩
  obtain ⟨b0, hb0⟩ : ∃ b0, w.heap.size = b0 := ⟨_, rfl⟩
  have hA1 : (w.alloc (Obj.cells #[Value.string (ByteArray.mk #[]), Value.int IntKind.i64 0, Value.int IntKind.i64 0, Value.bool false] 35 (0, 0))).heap.size = b0 + 1 := by simp [hb0]
  have hA3 : ((w.alloc (Obj.cells #[Value.string (ByteArray.mk #[]), Value.int IntKind.i64 0, Value.int IntKind.i64 0, Value.bool false] 35 (0, 0))).alloc (Obj.cells #[Value.int IntKind.u8 0] 5 (0, 0))).heap[b0]? = some (Obj.cells #[Value.string (ByteArray.mk #[]), Value.int IntKind.i64 0, Value.int IntKind.i64 0, Value.bool false] 35 (0, 0)) := blk_al (by rw [← hb0]; exact heap_alloc_new w _) _
  have hA4 : ((w.alloc (Obj.cells #[Value.string (ByteArray.mk #[]), Value.int IntKind.i64 0, Value.int IntKind.i64 0, Value.bool false] 35 (0, 0))).alloc (Obj.cells #[Value.int IntKind.u8 0] 5 (0, 0))).heap[b0 + 1]? = some (Obj.cells #[Value.int IntKind.u8 0] 5 (0, 0)) := by rw [← hA1]; exact heap_alloc_new _ _
  have hA6 := (((Fr.refl (fun _ => False) w).alloc (Obj.cells #[Value.string (ByteArray.mk #[]), Value.int IntKind.i64 0, Value.int IntKind.i64 0, Value.bool false] 35 (0, 0))).alloc (Obj.cells #[Value.int IntKind.u8 0] 5 (0, 0)))
  have hc := decr_calls s hs (b0 + 1) _ hA4
  rw [hD] at hc ⊢
  have hc := hc.mono (fun e w' h => (show e = .returned (.tuple #[.agg #[.string D.1.rep, .int .i64 D.1.ep, .int .i64 D.1.tm, .bool D.1.gone], .int .i64 D.2]) ∧ _ from h))
  go_enter Try.func33, Try.ntmps33
  go_wp2_with fail
  refine hc.mono ?_
  rintro e1 w2 ⟨rfl, hF⟩
  have h0 := hF.heap hA3 (fun e => by omega)
  have hFF := hA6.then (G := fun k => k = b0 + 1) hF (fun i h => .inr (by omega))
  have HF := Aside.mk (And.intro h0 hFF)
  clear hA1 hA3 hA4 hA6 hc hF hFF
  have y0 := cell_at h0 0
  have y1 := cell_at h0 1
  have y2 := cell_at h0 2
  have y3 := cell_at h0 3
  have v0 := free_at h0 0
  have v1 := free_at h0 1
  have v2 := free_at h0 2
  have v3 := free_at h0 3
  clear h0
  go_wp2_with fail
  refine at_world (fun W hW => ?_)
  have hw0 : W.heap[b0]? = some (Obj.cells #[Value.string D.1.rep, Value.int IntKind.i64 D.1.ep, Value.int IntKind.i64 D.1.tm, Value.bool D.1.gone] 35 (0, 0)) := by
    rw [hW]
    exact set4 (b := b0) (T := 35) HF.out.1 _ _ _ _
  have z0 := cell_at hw0 0
  have z1 := cell_at hw0 1
  have z2 := cell_at hw0 2
  have z3 := cell_at hw0 3
  refine bodyPost_ret (by simp [results, Try.results33, go_sem, z0, z1, z2, z3]; try rfl) rfl ?_
  subst hW
  exact ⟨rfl, ((((HF.out.2.setCell (p := ⟨b0, 0, none⟩) (.inr (by show w.heap.size ≤ b0; omega)) _).setCell (p := ⟨b0, 1, none⟩) (.inr (by show w.heap.size ≤ b0; omega)) _).setCell (p := ⟨b0, 2, none⟩) (.inr (by show w.heap.size ≤ b0; omega)) _).setCell (p := ⟨b0, 3, none⟩) (.inr (by show w.heap.size ≤ b0; omega)) _).below (Nat.le_refl _) (fun k h => h.elim)⟩
set_option maxHeartbeats 2000000 in
set_option maxRecDepth 100000 in
theorem decodet_calls (s : ByteArray) (hs : s.size ≤ 140737488355328) (w : World) : Calls Try.prog 34 #[.string s] w fun e w' => e = .returned (.tuple #[.agg (tenC (decTen s).1), .int .i64 (decTen s).2]) ∧ Below w.heap.size w w' := by
  obtain ⟨D, hD⟩ : ∃ D, decTen s = D := ⟨_, rfl⟩
  obtain ⟨b0, hb0⟩ : ∃ b0, w.heap.size = b0 := ⟨_, rfl⟩
  have hA3 : (w.alloc (Obj.cells #[Value.int IntKind.i64 0, Value.int IntKind.i64 0] 37 (0, 0))).heap[b0]? = some (Obj.cells #[Value.int IntKind.i64 0, Value.int IntKind.i64 0] 37 (0, 0)) := by rw [← hb0]; exact heap_alloc_new w _
  have hA6 := ((Fr.refl (fun _ => False) w).alloc (Obj.cells #[Value.int IntKind.i64 0, Value.int IntKind.i64 0] 37 (0, 0)))
  have hc := dect_calls s hs (w.alloc (Obj.cells #[Value.int IntKind.i64 0, Value.int IntKind.i64 0] 37 (0, 0)))
  rw [hD] at hc ⊢
  have hc := hc.mono (fun e w' h => (show e = .returned (.tuple #[.agg #[.int .i64 D.1.live, .int .i64 D.1.epochs], .int .i64 D.2]) ∧ _ from h))
  go_enter Try.func34, Try.ntmps34
  go_wp2_with fail
  refine hc.mono ?_
  rintro e1 w2 ⟨rfl, hF⟩
  have h0 := hF.heap hA3 (fun e => e.elim)
  have hFF := hA6.trans hF (fun i _ h => h)
  have HF := Aside.mk (And.intro h0 hFF)
  clear hA3 hA6 hc hF hFF
  have y0 := cell_at h0 0
  have y1 := cell_at h0 1
  have v0 := free_at h0 0
  have v1 := free_at h0 1
  clear h0
  go_wp2_with fail
  refine at_world (fun W hW => ?_)
  have hw0 : W.heap[b0]? = some (Obj.cells #[Value.int IntKind.i64 D.1.live, Value.int IntKind.i64 D.1.epochs] 37 (0, 0)) := by
    rw [hW]
    exact set2 (b := b0) (T := 37) HF.out.1 _ _
  have z0 := cell_at hw0 0
  have z1 := cell_at hw0 1
  refine bodyPost_ret (by simp [results, Try.results34, go_sem, z0, z1]; try rfl) rfl ?_
  subst hW
  exact ⟨rfl, ((HF.out.2.setCell (p := ⟨b0, 0, none⟩) (.inr (by show w.heap.size ≤ b0; omega)) _).setCell (p := ⟨b0, 1, none⟩) (.inr (by show w.heap.size ≤ b0; omega)) _).below (Nat.le_refl _) (fun k h => h.elim)⟩
end Go.Proofs.Ytagkobpbhfkmdaa.C
