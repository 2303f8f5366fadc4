/- The law's tell: something is told, handed in in memory of its own, which is written over then. -/
import Derived.Test.YtagkobpbhfkmdaaCE
namespace Go.Proofs.Ytagkobpbhfkmdaa.C
open Go.RowKit Go.ChangeMaps Go.Proofs.Ytagkobpbhfkmdaa.Q Go.Proofs.YtagkobpbhfkmdaaW.PrintLast Go.Proofs.YtagkobpbhfkmdaaW.PrintWords
set_option linter.unusedVariables false
set_option linter.unusedSimpArgs false
abbrev Sd := S33
def tellM (f : Fcts) (u : Int) (s : Sd) : (Fcts × Int) × Int :=
  if s.f0 = 0 then listM f u s.f2 s.f4 else if s.f0 = 1 then watchM f u s.f1 s.f2 s.f5 else (((learnM f u s.f2 s.f3 s.f4).1, u), (learnM f u s.f2 s.f3 s.f4).2)
theorem str_info : (Try.prog.info? 9).map (fun i => (i.zero, i.size, i.bytes)) = some (some (.string (ByteArray.mk #[])), 1, 16) := by kernel_rfl
theorem ent_info : (Try.prog.info? 46).map (fun i => (i.zero, i.size, i.bytes)) = some (some (.agg #[.string (ByteArray.mk #[]), .string (ByteArray.mk #[]), .int .i64 0, .int .i64 0]), 4, 48) := by kernel_rfl
theorem ev_info : (Try.prog.info? 75).map (fun i => (i.zero, i.size, i.bytes)) = some (some (.agg #[.int .i64 0, .bool false, .string (ByteArray.mk #[]), .string (ByteArray.mk #[])]), 4, 48) := by kernel_rfl
/-- Three rows of the call's own. -/
structure RS3 (B : Nat) (W0 W : World) (v0 v1 v2 : Value) (x0 : List ByteArray) (x1 : List S46) (x2 : List S75) : Prop where
  r0 : Kd.string.R 9 W B (fun _ => True) v0 x0
  r1 : k46.R 46 W B (fun _ => True) v1 x1
  r2 : k75.R 75 W B (fun _ => True) v2 x2
  bel' : Below B W0 W
  base : B ≤ W.heap.size
  size0 : W0.heap.size = B
theorem RS3.bel {B : Nat} {W0 W : World} {v0 v1 v2 : Value} {x0 x1 x2} (h : RS3 B W0 W v0 v1 v2 x0 x1 x2) : Below W0.heap.size W0 W := by rw [h.size0]; exact h.bel'
theorem R_emp {α : Type} (d : Kd α) (e B : Nat) (W : World) (hB : B ≤ W.heap.size) : d.R e (W.alloc (.cells #[] e (0, 0))) B (fun _ => True) (.slice (some ⟨W.heap.size, 0, none⟩) 0 0) [] :=
  ⟨fun _ _ => trivial, [], ⟨by simp, .inr ⟨W.heap.size, 0, #[], rfl, hB, heap_alloc_new W _, Nat.le_refl _, Nat.zero_le _, by simp, by simp⟩⟩, Reps.none _ _⟩
theorem RS3.al0 {B : Nat} {W0 W : World} {v0 v1 v2 : Value} {x0 x1 x2} (h : RS3 B W0 W v0 v1 v2 x0 x1 x2) : RS3 B W0 (W.alloc (.cells #[] 9 (0, 0))) (.slice (some ⟨W.heap.size, 0, none⟩) 0 0) v1 v2 [] x1 x2 := ⟨R_emp _ _ _ _ h.base, Kd.R_alloc h.r1 _, Kd.R_alloc h.r2 _, h.bel'.alloc h.base _, Nat.le_trans h.base (by simp), h.size0⟩
theorem RS3.al1 {B : Nat} {W0 W : World} {v0 v1 v2 : Value} {x0 x1 x2} (h : RS3 B W0 W v0 v1 v2 x0 x1 x2) : RS3 B W0 (W.alloc (.cells #[] 46 (0, 0))) v0 (.slice (some ⟨W.heap.size, 0, none⟩) 0 0) v2 x0 [] x2 := ⟨Kd.R_alloc h.r0 _, R_emp _ _ _ _ h.base, Kd.R_alloc h.r2 _, h.bel'.alloc h.base _, Nat.le_trans h.base (by simp), h.size0⟩
theorem RS3.al2 {B : Nat} {W0 W : World} {v0 v1 v2 : Value} {x0 x1 x2} (h : RS3 B W0 W v0 v1 v2 x0 x1 x2) : RS3 B W0 (W.alloc (.cells #[] 75 (0, 0))) v0 v1 (.slice (some ⟨W.heap.size, 0, none⟩) 0 0) x0 x1 [] := ⟨Kd.R_alloc h.r0 _, Kd.R_alloc h.r1 _, R_emp _ _ _ _ h.base, h.bel'.alloc h.base _, Nat.le_trans h.base (by simp), h.size0⟩
theorem RS3.ap0 {B : Nat} {W0 W W' : World} {v0 v1 v2 v' : Value} {x0 x1 x2 x'} (h : RS3 B W0 W v0 v1 v2 x0 x1 x2) (hr : Kd.string.R 9 W' B (fun _ => True) v' x') (hb : Below B W0 W') (hg : W.grownBy W' v0.ownBlock) : RS3 B W0 W' v' v1 v2 x' x1 x2 := ⟨hr, Kd.R_over h.r1 h.r0 (by decide) hg, Kd.R_over h.r2 h.r0 (by decide) hg, hb, Nat.le_trans h.base hg.size, h.size0⟩
theorem RS3.ap1 {B : Nat} {W0 W W' : World} {v0 v1 v2 v' : Value} {x0 x1 x2 x'} (h : RS3 B W0 W v0 v1 v2 x0 x1 x2) (hr : k46.R 46 W' B (fun _ => True) v' x') (hb : Below B W0 W') (hg : W.grownBy W' v1.ownBlock) : RS3 B W0 W' v0 v' v2 x0 x' x2 := ⟨Kd.R_over h.r0 h.r1 (by decide) hg, hr, Kd.R_over h.r2 h.r1 (by decide) hg, hb, Nat.le_trans h.base hg.size, h.size0⟩
theorem RS3.ap2 {B : Nat} {W0 W W' : World} {v0 v1 v2 v' : Value} {x0 x1 x2 x'} (h : RS3 B W0 W v0 v1 v2 x0 x1 x2) (hr : k75.R 75 W' B (fun _ => True) v' x') (hb : Below B W0 W') (hg : W.grownBy W' v2.ownBlock) : RS3 B W0 W' v0 v1 v' x0 x1 x' := ⟨Kd.R_over h.r0 h.r2 (by decide) hg, Kd.R_over h.r1 h.r2 (by decide) hg, hr, hb, Nat.le_trans h.base hg.size, h.size0⟩
theorem kM0 (W : World) {B : Nat} {okp : Nat → Prop} : ∀ x cs, Kd.string.K W x cs → Kd.string.M W B okp x cs := fun x cs h => h
theorem kM1 (W : World) {B : Nat} {okp : Nat → Prop} : ∀ x cs, k46.K W x cs → k46.M W B okp x cs := fun x cs h => h
theorem kM2 (W : World) {B : Nat} {okp : Nat → Prop} : ∀ x cs, k75.K W x cs → k75.M W B okp x cs := fun x cs h => h
/-- A row that may be written: its cells stand. -/
def ROWW (w : World) (B : Nat) (e : TypeId) (size : Nat) (A : Option Addr) (n : Nat) : Prop := 0 < n → ∃ g cur, A = some ⟨g, 0, none⟩ ∧ B ≤ g ∧ w.heap[g]? = some (.cells cur e (0, 0)) ∧ n * size ≤ cur.size
theorem ROWW.of {w : World} {B : Nat} {e : TypeId} {size n c : Nat} {A : Option Addr} {xs : List Value} (h : w.ownsRow B e size (.slice A n c) n xs) : ROWW w B e size A n := fun hn => by
  rcases h.2 with ⟨h1, h2⟩ | ⟨g, cap, cur, hv, hbg, hgb, hnc, hcm, hcs, htake⟩
  · cases h1; omega
  · cases hv
    exact ⟨g, cur, rfl, hbg, hgb, by rw [hcs]; exact Nat.mul_le_mul_right _ hnc⟩
theorem own_addr {w : World} {B : Nat} {e : TypeId} {size n c : Nat} {A : Option Addr} {xs : List Value} (h : w.ownsRow B e size (.slice A n c) n xs) : ∀ ad, A = some ad → B ≤ ad.block := fun ad ha => by
  rcases h.2 with ⟨h1, h2⟩ | ⟨g, cap, cur, hv, hbg, hgb, hnc, hcm, hcs, htake⟩
  · cases h1; cases ha
  · cases hv
    cases ha
    exact hbg
theorem ROWW.fr {F : Nat → Prop} {w w' : World} {B : Nat} {e : TypeId} {size n : Nat} {A : Option Addr} (h : ROWW w B e size A n) (hf : Fr F w w') (hF : ∀ k, B ≤ k → ¬ F k) : ROWW w' B e size A n := fun hn => by
  obtain ⟨g, cur, h1, h2, h3, h4⟩ := h hn
  exact ⟨g, cur, h1, h2, hf.heap h3 (hF g h2), h4⟩
theorem ROWW.set {w : World} {B : Nat} {e : TypeId} {size n : Nat} {A : Option Addr} (h : ROWW w B e size A n) (p : Addr) (u : Value) : ROWW (w.setCell p u) B e size A n := fun hn => by
  obtain ⟨g, cur, h1, h2, h3, h4⟩ := h hn
  by_cases hp : g = p.block
  · have hlt := lt_of_block h3
    have h5 : ∃ cur', (w.setCell p u).heap[g]? = some (.cells cur' e (0, 0)) ∧ cur'.size = cur.size := by
      have h' : w.heap[g] = .cells cur e (0, 0) := by simpa [Array.getElem?_eq_getElem hlt] using h3
      refine ⟨if p.spot.isSome = true then cur else cur.setIfInBounds p.off u, ?_, by split <;> simp⟩
      show (w.heap.modify p.block _)[g]? = _
      subst hp
      rw [Array.getElem?_eq_getElem (by simpa using hlt), Array.getElem_modify_self, h']
    obtain ⟨cur', h5, h6⟩ := h5
    exact ⟨g, cur', h1, h2, h5, by rw [h6]; exact h4⟩
  · exact ⟨g, cur, h1, h2, by rw [Below.heap_setCell _ _ _ _ hp]; exact h3, h4⟩
/-- The three rows, and what stands beside them. -/
structure RW3 (B : Nat) (wc w : World) (A0 A1 A2 : Option Addr) (n0 n1 n2 : Nat) : Prop where
  a : ROWW w B 9 1 A0 n0
  b : ROWW w B 46 4 A1 n1
  c : ROWW w B 75 4 A2 n2
  fr : Fr (fun k => B ≤ k) wc w
theorem RW3.set {B : Nat} {wc w : World} {A0 A1 A2 : Option Addr} {n0 n1 n2 : Nat} (h : RW3 B wc w A0 A1 A2 n0 n1 n2) (p : Addr) (hp : B ≤ p.block) (u : Value) : RW3 B wc (w.setCell p u) A0 A1 A2 n0 n1 n2 := ⟨h.a.set p u, h.b.set p u, h.c.set p u, h.fr.setCell (.inl hp) u⟩
theorem cellx {w : World} {g : Nat} {e : TypeId} {cur : Array Value} (h : w.heap[g]? = some (.cells cur e (0, 0))) {i : Nat} (hi : i < cur.size) : w.cell? ⟨g, i, none⟩ = some cur[i] := by rw [cell_at h, Array.getElem?_eq_getElem hi]
def ct1T : Bool × List (List Nat × List Nat) := (true, [([], []), ([], []), ([1], [1]), ([0, 2], [0, 2]), ([], []), ([], []), ([5], [5]), ([4, 6, 3], [4, 6]), ([], []), ([], []), ([9], [9]), ([8, 10, 7], [8, 10]), ([3, 11, 0, 1, 2, 3], [3]), ([7, 12, 0, 1, 2, 3, 4, 5, 6, 7, 12], [7]), ([11, 13, 0, 1, 2, 3, 4, 5, 6, 7, 8, 9, 10, 11, 12, 13], [11])])
def ct1B : List Nat := [0, 0, 2, 7, 0, 0, 32, 127, 0, 0, 512, 2047, 4095, 8191, 16383]
theorem ct1_tab : rtab .any (opsOf Try.f11 1) = ct1T := by kernel_rfl
theorem ct1_bits : waitsOk ct1T.2 ct1B = true := by kernel_rfl
set_option maxHeartbeats 8000000 in
set_option maxRecDepth 100000 in
theorem tell_calls (C M : Nat) (f : Fcts) (u : Int) (s : Sd) (A3 A4 A5 : Option Addr) (c3 c4 c5 : Nat) (w : World) (h : CA w C M f u) (g3 : Kd.string.C w A3 s.f3.length s.f3) (g4 : k46.C w A4 s.f4.length s.f4) (g5 : k75.C w A5 s.f5.length s.f5) (h3 : s.f3.length ≤ 300) (h4 : s.f4.length ≤ 300) (h5 : s.f5.length ≤ 300) (z4 : ∀ x ∈ s.f4, x.f0.size ≤ 100000) (z5 : ∀ x ∈ s.f5, x.f2.size ≤ 100000) (hu : -1 ≤ u ∧ u ≤ 1099511627776) :
    Calls Try.prog 11 #[.pointer (some ⟨C, 0, none⟩), .agg #[.int .u8 s.f0, .int .i64 s.f1, .int .i64 s.f2, .slice A3 s.f3.length c3, .slice A4 s.f4.length c4, .slice A5 s.f5.length c5]] w fun e w' => e = .returned (.int .i64 (tellM f u s).2) ∧ CA w' C M (tellM f u s).1.1 (tellM f u s).1.2 ∧ Fr (fun k => k = C ∨ k = M) w w' := by
  obtain ⟨what, fr, rev, l3, l4, l5⟩ := s
  dsimp only at *
  obtain ⟨n0, hn0⟩ : ∃ n, l3.length = n := ⟨_, rfl⟩
  obtain ⟨n1, hn1⟩ : ∃ n, l4.length = n := ⟨_, rfl⟩
  obtain ⟨n2, hn2⟩ : ∃ n, l5.length = n := ⟨_, rfl⟩
  rw [hn0] at g3 h3 ⊢
  rw [hn1] at g4 h4 ⊢
  rw [hn2] at g5 h5 ⊢
  have HN := Aside.mk (And.intro hn0 (And.intro hn1 hn2))
  have hbE := (Below.refl w.heap.size w).alloc (Nat.le_refl _) (Obj.cells #[Value.int IntKind.u8 what, Value.int IntKind.i64 fr, Value.int IntKind.i64 rev, Value.slice A3 n0 c3, Value.slice A4 n1 c4, Value.slice A5 n2 c5] 33 (0, 0))
  have hE := heap_alloc_new w (Obj.cells #[Value.int IntKind.u8 what, Value.int IntKind.i64 fr, Value.int IntKind.i64 rev, Value.slice A3 n0 c3, Value.slice A4 n1 c4, Value.slice A5 n2 c5] 33 (0, 0))
  have hs1 : (w.alloc (Obj.cells #[Value.int IntKind.u8 what, Value.int IntKind.i64 fr, Value.int IntKind.i64 rev, Value.slice A3 n0 c3, Value.slice A4 n1 c4, Value.slice A5 n2 c5] 33 (0, 0))).heap.size = w.heap.size + 1 := by simp
  have H0 := Aside.mk (And.intro h (And.intro g3 (And.intro g4 (And.intro g5 (And.intro z4 (And.intro z5 hu))))))
  obtain ⟨b0, hb0⟩ : ∃ b0, w.heap.size = b0 := ⟨_, rfl⟩
  rw [hb0] at hE
  have hlC := h.ltC
  have hlM := h.ltM
  obtain ⟨T, hT⟩ : ∃ T, tellM f u ⟨what, fr, rev, l3, l4, l5⟩ = T := ⟨_, rfl⟩
  rw [hT]
  unfold tellM at hT
  dsimp only at hT
  have HT := Aside.mk hT
  clear h g3 g4 g5 z4 z5 hu hn0 hn1 hn2 hT
  go_enter Try.func11, Try.ntmps11
  go_upto_region 1 with fail
  generalize hwb : (w.alloc (Obj.cells #[Value.int IntKind.u8 what, Value.int IntKind.i64 fr, Value.int IntKind.i64 rev, Value.slice A3 n0 c3, Value.slice A4 n1 c4, Value.slice A5 n2 c5] 33 (0, 0))) = wb at *
  obtain ⟨W0, hW0⟩ : ∃ W0, W0 = wb.drew := ⟨_, rfl⟩
  obtain ⟨B, hB⟩ : ∃ B, W0.heap.size = B := ⟨_, rfl⟩
  have hbW : Below w.heap.size w W0 := by rw [hW0]; exact below_drew1 hbE
  have HS0 : Aside (Kd.string.C W0 A3 n0 l3) := ⟨Kd.C_below H0.out.2.1 hbW⟩
  have HS1 : Aside (k46.C W0 A4 n1 l4) := ⟨Kd.C_below H0.out.2.2.1 hbW⟩
  have HS2 : Aside (k75.C W0 A5 n2 l5) := ⟨Kd.C_below H0.out.2.2.2.1 hbW⟩
  have hE0 : W0.heap[b0]? = some (Obj.cells #[Value.int IntKind.u8 what, Value.int IntKind.i64 fr, Value.int IntKind.i64 rev, Value.slice A3 n0 c3, Value.slice A4 n1 c4, Value.slice A5 n2 c5] 33 (0, 0)) := by rw [hW0]; exact hE
  have HH : Aside (∀ {W : World}, Below W0.heap.size W0 W → W.cell? ⟨b0, 3, none⟩ = some (.slice A3 n0 c3) ∧ W.cell? ⟨b0, 4, none⟩ = some (.slice A4 n1 c4) ∧ W.cell? ⟨b0, 5, none⟩ = some (.slice A5 n2 c5)) := ⟨fun hB => by
    have hq := (hB.block b0 (lt_of_block hE0)).trans hE0
    exact ⟨cell_at hq 3, cell_at hq 4, cell_at hq 5⟩⟩
  have HR : Aside (RS3 B W0 W0 (.slice none 0 0) (.slice none 0 0) (.slice none 0 0) [] [] []) := ⟨⟨Kd.R_nil _ _ _ _ _, Kd.R_nil _ _ _ _ _, Kd.R_nil _ _ _ _ _, Below.refl _ _, by omega, hB⟩⟩
  have t0 := HH.out (Below.refl _ _)
  refine start_ (n := 15) (S := (fun w' => w'.cell? ⟨b0, 3, none⟩ = some (.slice A3 n0 c3) ∧ w'.cell? ⟨b0, 4, none⟩ = some (.slice A4 n1 c4) ∧ w'.cell? ⟨b0, 5, none⟩ = some (.slice A5 n2 c5))) (ds := []) #[false, false, false, false, false, false, false, false, false, false, false, false, false, false, false] (by kernel_rfl) rfl rfl (by rw [← hW0]; exact t0) (fun hHeld => ?_); refine with_tabW ct1_tab ct1_bits (fun HT_ HW_ => ?_)
  rw [← hW0] at hHeld ⊢
  refine pure_ (i := 1) (N := (some 13)) (v := ?_) (a' := ?_) #[false, true, false, false, false, false, false, false, false, false, false, false, false, false, false] rfl rfl (any_of HT_.out (by kernel_rfl)) (fun _ _ _ h => h) (Or.inl ⟨by rfl, ?_⟩) ?_ ?_
  rotate_left
  · intro w'
    go_simp
    with_reducible rfl
  rotate_left
  · simp only [Act.put, List.setIfInBounds_toArray, List.set_cons_zero, List.set_cons_succ, i64_w, i32_w]
    rfl
  refine take_ (i := 2) (N := (some 14)) (v := ?_) (a' := ?_) #[false, true, true, false, false, false, false, false, false, false, false, false, false, false, false] rfl rfl (take_ofW HT_.out HW_.out (by kernel_rfl)) (fun _ _ _ h => h) (Or.inl ⟨by rfl, ?_⟩) hHeld ?_ ?_
  rotate_left
  · rintro w' ⟨s1, _, _⟩
    go_simp
    with_reducible rfl
  rotate_left
  · simp only [Act.put, List.setIfInBounds_toArray, List.set_cons_zero, List.set_cons_succ, i64_w, i32_w]
    rfl
  refine pure_ (i := 5) (N := (some 17)) (v := ?_) (a' := ?_) #[false, true, true, false, false, true, false, false, false, false, false, false, false, false, false] rfl rfl (any_of HT_.out (by kernel_rfl)) (fun _ _ _ h => h) (Or.inl ⟨by rfl, ?_⟩) ?_ ?_
  rotate_left
  · intro w'
    go_simp
    with_reducible rfl
  rotate_left
  · simp only [Act.put, List.setIfInBounds_toArray, List.set_cons_zero, List.set_cons_succ, i64_w, i32_w]
    rfl
  refine take_ (i := 6) (N := (some 18)) (v := ?_) (a' := ?_) #[false, true, true, false, false, true, true, false, false, false, false, false, false, false, false] rfl rfl (take_ofW HT_.out HW_.out (by kernel_rfl)) (fun _ _ _ h => h) (Or.inl ⟨by rfl, ?_⟩) hHeld ?_ ?_
  rotate_left
  · rintro w' ⟨_, s1, _⟩
    go_simp
    with_reducible rfl
  rotate_left
  · simp only [Act.put, List.setIfInBounds_toArray, List.set_cons_zero, List.set_cons_succ, i64_w, i32_w]
    rfl
  refine pure_ (i := 9) (N := (some 21)) (v := ?_) (a' := ?_) #[false, true, true, false, false, true, true, false, false, true, false, false, false, false, false] rfl rfl (any_of HT_.out (by kernel_rfl)) (fun _ _ _ h => h) (Or.inl ⟨by rfl, ?_⟩) ?_ ?_
  rotate_left
  · intro w'
    go_simp
    with_reducible rfl
  rotate_left
  · simp only [Act.put, List.setIfInBounds_toArray, List.set_cons_zero, List.set_cons_succ, i64_w, i32_w]
    rfl
  refine take_ (i := 10) (N := (some 22)) (v := ?_) (a' := ?_) #[false, true, true, false, false, true, true, false, false, true, true, false, false, false, false] rfl rfl (take_ofW HT_.out HW_.out (by kernel_rfl)) (fun _ _ _ h => h) (Or.inl ⟨by rfl, ?_⟩) hHeld ?_ ?_
  rotate_left
  · rintro w' ⟨_, _, s1⟩
    go_simp
    with_reducible rfl
  rotate_left
  · simp only [Act.put, List.setIfInBounds_toArray, List.set_cons_zero, List.set_cons_succ, i64_w, i32_w]
    rfl
  refine join_ (σ := Value × Value × Value × Value × Value × Value) 3 #[true, true, true, true, true, true, true, true, true, true, true, true, false, false, false] (fun s => [(12, s.1), (15, s.2.1), (16, s.2.2.1), (19, s.2.2.2.1), (20, s.2.2.2.2.1), (23, s.2.2.2.2.2)]) (fun s w' => RS3 B W0 w' s.2.1 s.2.2.2.1 s.2.2.2.2.2 l3 l4 l5) ?_ ?_
  rotate_left
  · intro hCont
    refine three_ (i := 0) (j := 4) (k := 8) (Ni := (some 12)) (Nj := (some 16)) (Nk := (some 20)) #[true, true, true, false, false, true, true, false, false, true, true, false, false, false, false] #[false, true, true, false, true, true, true, false, false, true, true, false, false, false, false] #[false, true, true, false, false, true, true, false, true, true, true, false, false, false, false] rfl rfl rfl rfl rfl rfl (three_of HT_.out (by kernel_rfl)) (by decide) (by decide) (by decide) (fun K9 hK => ?_) (fun K9 hK => ?_) (fun K9 hK => ?_)
    · skip
      obtain ⟨W1, hwW1⟩ : ∃ V, V = W0.alloc (.cells #[] 9 (0, 0)) := ⟨_, rfl⟩
      obtain ⟨e0, he0⟩ : ∃ V, V = Value.slice (some ⟨W0.heap.size, 0, none⟩) 0 0 := ⟨_, rfl⟩
      refine value_ (v := e0) (w1 := W1) (by rfl) rfl (by rw [hwW1, he0]; unfold execOp; go_simp) ?_
      have hn : RS3 B W0 W1 e0 (.slice none 0 0) (.slice none 0 0) [] [] [] := by rw [hwW1, he0]; exact HR.out.al0
      clear HR hwW1 he0
      have HR := Aside.mk hn
      clear hn
      refine hK.out _ _ (HH.out HR.out.bel) (fun hHeld => ?_)
      clear hK K9
      refine norm_ (a' := ?_) ?_ ?_
      rotate_left
      · show Act.put _ (some 12) _ = _
        simp only [Act.put, List.setIfInBounds_toArray, List.set_cons_zero, List.set_cons_succ]
        rfl
      refine three_ (i := 3) (j := 4) (k := 8) (Ni := (some 15)) (Nj := (some 16)) (Nk := (some 20)) #[true, true, true, true, false, true, true, false, false, true, true, false, false, false, false] #[true, true, true, false, true, true, true, false, false, true, true, false, false, false, false] #[true, true, true, false, false, true, true, false, true, true, true, false, false, false, false] rfl rfl rfl rfl rfl rfl (three_of HT_.out (by kernel_rfl)) (by decide) (by decide) (by decide) (fun K9 hK => ?_) (fun K9 hK => ?_) (fun K9 hK => ?_)
      · skip
        refine Kd.R_append_rows_step Kd.string (Rr := Kd.string.K W1) (w0 := W0) B (by rfl) _ _ 29 9 (.string (ByteArray.mk #[])) 16 rfl Try.underlying29 str_info rfl (by decide) (by decide) e0 [] l3 A3 n0 c3 (fun _ => True) (fun _ => False) rfl rfl HR.out.r0 (Kd.C_below HS0.out (HR.out.bel)) (kM0 W1) (fun _ h => h.elim) (fun _ _ => trivial) HR.out.bel' HR.out.base (by simp only [List.length_nil, Nat.zero_add]; omega) ?_
        rintro V0 W2 hr hb hg -
        rw [List.nil_append] at hr
        have hn : RS3 B W0 W2 V0 (.slice none 0 0) (.slice none 0 0) l3 [] [] := HR.out.ap0 hr hb hg
        clear HR hr hb hg
        have HR := Aside.mk hn
        clear hn
        refine hK.out _ _ (HH.out HR.out.bel) (fun hHeld => ?_)
        clear hK K9
        refine norm_ (a' := ?_) ?_ ?_
        rotate_left
        · show Act.put _ (some 15) _ = _
          simp only [Act.put, List.setIfInBounds_toArray, List.set_cons_zero, List.set_cons_succ]
          rfl
        refine two_ (i := 4) (j := 8) (Ni := (some 16)) (Nj := (some 20)) #[true, true, true, true, true, true, true, false, false, true, true, false, false, false, false] #[true, true, true, true, false, true, true, false, true, true, true, false, false, false, false] rfl rfl rfl rfl (two_of HT_.out (by kernel_rfl)) (by decide) (by decide) (fun K9 hK => ?_) (fun K9 hK => ?_)
        · skip
          obtain ⟨W3, hwW3⟩ : ∃ V, V = W2.alloc (.cells #[] 46 (0, 0)) := ⟨_, rfl⟩
          obtain ⟨e1, he1⟩ : ∃ V, V = Value.slice (some ⟨W2.heap.size, 0, none⟩) 0 0 := ⟨_, rfl⟩
          refine value_ (v := e1) (w1 := W3) (by rfl) rfl (by rw [hwW3, he1]; unfold execOp; go_simp) ?_
          have hn : RS3 B W0 W3 V0 e1 (.slice none 0 0) l3 [] [] := by rw [hwW3, he1]; exact HR.out.al1
          clear HR hwW3 he1
          have HR := Aside.mk hn
          clear hn
          refine hK.out _ _ (HH.out HR.out.bel) (fun hHeld => ?_)
          clear hK K9
          refine norm_ (a' := ?_) ?_ ?_
          rotate_left
          · show Act.put _ (some 16) _ = _
            simp only [Act.put, List.setIfInBounds_toArray, List.set_cons_zero, List.set_cons_succ]
            rfl
          refine two_ (i := 7) (j := 8) (Ni := (some 19)) (Nj := (some 20)) #[true, true, true, true, true, true, true, true, false, true, true, false, false, false, false] #[true, true, true, true, true, true, true, false, true, true, true, false, false, false, false] rfl rfl rfl rfl (two_of HT_.out (by kernel_rfl)) (by decide) (by decide) (fun K9 hK => ?_) (fun K9 hK => ?_)
          · skip
            refine Kd.R_append_rows_step k46 (Rr := k46.K W3) (w0 := W0) B (by rfl) _ _ 30 46 (.agg #[.string (ByteArray.mk #[]), .string (ByteArray.mk #[]), .int .i64 0, .int .i64 0]) 48 rfl Try.underlying30 ent_info rfl (by decide) (by decide) e1 [] l4 A4 n1 c4 (fun _ => True) (fun _ => False) rfl rfl HR.out.r1 (Kd.C_below HS1.out (HR.out.bel)) (kM1 W3) (fun _ h => h.elim) (fun _ _ => trivial) HR.out.bel' HR.out.base (by simp only [List.length_nil, Nat.zero_add]; omega) ?_
            rintro V1 W4 hr hb hg -
            rw [List.nil_append] at hr
            have hn : RS3 B W0 W4 V0 V1 (.slice none 0 0) l3 l4 [] := HR.out.ap1 hr hb hg
            clear HR hr hb hg
            have HR := Aside.mk hn
            clear hn
            refine hK.out _ _ (HH.out HR.out.bel) (fun hHeld => ?_)
            clear hK K9
            refine norm_ (a' := ?_) ?_ ?_
            rotate_left
            · show Act.put _ (some 19) _ = _
              simp only [Act.put, List.setIfInBounds_toArray, List.set_cons_zero, List.set_cons_succ]
              rfl
            refine one_ (i := 8) (N := (some 20)) #[true, true, true, true, true, true, true, true, true, true, true, false, false, false, false] rfl rfl (one_of HT_.out (by kernel_rfl)) (by decide) (fun K9 hK => ?_)
            obtain ⟨W5, hwW5⟩ : ∃ V, V = W4.alloc (.cells #[] 75 (0, 0)) := ⟨_, rfl⟩
            obtain ⟨e2, he2⟩ : ∃ V, V = Value.slice (some ⟨W4.heap.size, 0, none⟩) 0 0 := ⟨_, rfl⟩
            refine value_ (v := e2) (w1 := W5) (by rfl) rfl (by rw [hwW5, he2]; unfold execOp; go_simp) ?_
            have hn : RS3 B W0 W5 V0 V1 e2 l3 l4 [] := by rw [hwW5, he2]; exact HR.out.al2
            clear HR hwW5 he2
            have HR := Aside.mk hn
            clear hn
            refine hK.out _ _ (HH.out HR.out.bel) (fun hHeld => ?_)
            clear hK K9
            refine norm_ (a' := ?_) ?_ ?_
            rotate_left
            · show Act.put _ (some 20) _ = _
              simp only [Act.put, List.setIfInBounds_toArray, List.set_cons_zero, List.set_cons_succ]
              rfl
            refine one_ (i := 11) (N := (some 23)) #[true, true, true, true, true, true, true, true, true, true, true, true, false, false, false] rfl rfl (one_of HT_.out (by kernel_rfl)) (by decide) (fun K9 hK => ?_)
            refine Kd.R_append_rows_step k75 (Rr := k75.K W5) (w0 := W0) B (by rfl) _ _ 31 75 (.agg #[.int .i64 0, .bool false, .string (ByteArray.mk #[]), .string (ByteArray.mk #[])]) 48 rfl Try.underlying31 ev_info rfl (by decide) (by decide) e2 [] l5 A5 n2 c5 (fun _ => True) (fun _ => False) rfl rfl HR.out.r2 (Kd.C_below HS2.out (HR.out.bel)) (kM2 W5) (fun _ h => h.elim) (fun _ _ => trivial) HR.out.bel' HR.out.base (by simp only [List.length_nil, Nat.zero_add]; omega) ?_
            rintro V2 W6 hr hb hg -
            rw [List.nil_append] at hr
            have hn : RS3 B W0 W6 V0 V1 V2 l3 l4 l5 := HR.out.ap2 hr hb hg
            clear HR hr hb hg
            have HR := Aside.mk hn
            clear hn
            refine hK.out _ _ (HH.out HR.out.bel) (fun hHeld => ?_)
            clear hK K9
            refine norm_ (a' := ?_) ?_ ?_
            rotate_left
            · show Act.put _ (some 23) _ = _
              simp only [Act.put, List.setIfInBounds_toArray, List.set_cons_zero, List.set_cons_succ]
              rfl
            exact norm_ (by first | (simp only [putAll, Act.put, List.setIfInBounds_toArray, List.set_cons_zero, List.set_cons_succ]; done) | (simp only [putAll, Act.put, List.setIfInBounds_toArray, List.set_cons_zero, List.set_cons_succ]; rfl)) (hCont (e0, V0, e1, V1, e2, V2) _ HR.out)
          · skip
            obtain ⟨W4, hwW4⟩ : ∃ V, V = W3.alloc (.cells #[] 75 (0, 0)) := ⟨_, rfl⟩
            obtain ⟨e2, he2⟩ : ∃ V, V = Value.slice (some ⟨W3.heap.size, 0, none⟩) 0 0 := ⟨_, rfl⟩
            refine value_ (v := e2) (w1 := W4) (by rfl) rfl (by rw [hwW4, he2]; unfold execOp; go_simp) ?_
            have hn : RS3 B W0 W4 V0 e1 e2 l3 [] [] := by rw [hwW4, he2]; exact HR.out.al2
            clear HR hwW4 he2
            have HR := Aside.mk hn
            clear hn
            refine hK.out _ _ (HH.out HR.out.bel) (fun hHeld => ?_)
            clear hK K9
            refine norm_ (a' := ?_) ?_ ?_
            rotate_left
            · show Act.put _ (some 20) _ = _
              simp only [Act.put, List.setIfInBounds_toArray, List.set_cons_zero, List.set_cons_succ]
              rfl
            refine one_ (i := 7) (N := (some 19)) #[true, true, true, true, true, true, true, true, true, true, true, false, false, false, false] rfl rfl (one_of HT_.out (by kernel_rfl)) (by decide) (fun K9 hK => ?_)
            refine Kd.R_append_rows_step k46 (Rr := k46.K W4) (w0 := W0) B (by rfl) _ _ 30 46 (.agg #[.string (ByteArray.mk #[]), .string (ByteArray.mk #[]), .int .i64 0, .int .i64 0]) 48 rfl Try.underlying30 ent_info rfl (by decide) (by decide) e1 [] l4 A4 n1 c4 (fun _ => True) (fun _ => False) rfl rfl HR.out.r1 (Kd.C_below HS1.out (HR.out.bel)) (kM1 W4) (fun _ h => h.elim) (fun _ _ => trivial) HR.out.bel' HR.out.base (by simp only [List.length_nil, Nat.zero_add]; omega) ?_
            rintro V1 W5 hr hb hg -
            rw [List.nil_append] at hr
            have hn : RS3 B W0 W5 V0 V1 e2 l3 l4 [] := HR.out.ap1 hr hb hg
            clear HR hr hb hg
            have HR := Aside.mk hn
            clear hn
            refine hK.out _ _ (HH.out HR.out.bel) (fun hHeld => ?_)
            clear hK K9
            refine norm_ (a' := ?_) ?_ ?_
            rotate_left
            · show Act.put _ (some 19) _ = _
              simp only [Act.put, List.setIfInBounds_toArray, List.set_cons_zero, List.set_cons_succ]
              rfl
            refine one_ (i := 11) (N := (some 23)) #[true, true, true, true, true, true, true, true, true, true, true, true, false, false, false] rfl rfl (one_of HT_.out (by kernel_rfl)) (by decide) (fun K9 hK => ?_)
            refine Kd.R_append_rows_step k75 (Rr := k75.K W5) (w0 := W0) B (by rfl) _ _ 31 75 (.agg #[.int .i64 0, .bool false, .string (ByteArray.mk #[]), .string (ByteArray.mk #[])]) 48 rfl Try.underlying31 ev_info rfl (by decide) (by decide) e2 [] l5 A5 n2 c5 (fun _ => True) (fun _ => False) rfl rfl HR.out.r2 (Kd.C_below HS2.out (HR.out.bel)) (kM2 W5) (fun _ h => h.elim) (fun _ _ => trivial) HR.out.bel' HR.out.base (by simp only [List.length_nil, Nat.zero_add]; omega) ?_
            rintro V2 W6 hr hb hg -
            rw [List.nil_append] at hr
            have hn : RS3 B W0 W6 V0 V1 V2 l3 l4 l5 := HR.out.ap2 hr hb hg
            clear HR hr hb hg
            have HR := Aside.mk hn
            clear hn
            refine hK.out _ _ (HH.out HR.out.bel) (fun hHeld => ?_)
            clear hK K9
            refine norm_ (a' := ?_) ?_ ?_
            rotate_left
            · show Act.put _ (some 23) _ = _
              simp only [Act.put, List.setIfInBounds_toArray, List.set_cons_zero, List.set_cons_succ]
              rfl
            exact norm_ (by first | (simp only [putAll, Act.put, List.setIfInBounds_toArray, List.set_cons_zero, List.set_cons_succ]; done) | (simp only [putAll, Act.put, List.setIfInBounds_toArray, List.set_cons_zero, List.set_cons_succ]; rfl)) (hCont (e0, V0, e1, V1, e2, V2) _ HR.out)
        · skip
          obtain ⟨W3, hwW3⟩ : ∃ V, V = W2.alloc (.cells #[] 75 (0, 0)) := ⟨_, rfl⟩
          obtain ⟨e2, he2⟩ : ∃ V, V = Value.slice (some ⟨W2.heap.size, 0, none⟩) 0 0 := ⟨_, rfl⟩
          refine value_ (v := e2) (w1 := W3) (by rfl) rfl (by rw [hwW3, he2]; unfold execOp; go_simp) ?_
          have hn : RS3 B W0 W3 V0 (.slice none 0 0) e2 l3 [] [] := by rw [hwW3, he2]; exact HR.out.al2
          clear HR hwW3 he2
          have HR := Aside.mk hn
          clear hn
          refine hK.out _ _ (HH.out HR.out.bel) (fun hHeld => ?_)
          clear hK K9
          refine norm_ (a' := ?_) ?_ ?_
          rotate_left
          · show Act.put _ (some 20) _ = _
            simp only [Act.put, List.setIfInBounds_toArray, List.set_cons_zero, List.set_cons_succ]
            rfl
          refine one_ (i := 4) (N := (some 16)) #[true, true, true, true, true, true, true, false, true, true, true, false, false, false, false] rfl rfl (one_of HT_.out (by kernel_rfl)) (by decide) (fun K9 hK => ?_)
          obtain ⟨W4, hwW4⟩ : ∃ V, V = W3.alloc (.cells #[] 46 (0, 0)) := ⟨_, rfl⟩
          obtain ⟨e1, he1⟩ : ∃ V, V = Value.slice (some ⟨W3.heap.size, 0, none⟩) 0 0 := ⟨_, rfl⟩
          refine value_ (v := e1) (w1 := W4) (by rfl) rfl (by rw [hwW4, he1]; unfold execOp; go_simp) ?_
          have hn : RS3 B W0 W4 V0 e1 e2 l3 [] [] := by rw [hwW4, he1]; exact HR.out.al1
          clear HR hwW4 he1
          have HR := Aside.mk hn
          clear hn
          refine hK.out _ _ (HH.out HR.out.bel) (fun hHeld => ?_)
          clear hK K9
          refine norm_ (a' := ?_) ?_ ?_
          rotate_left
          · show Act.put _ (some 16) _ = _
            simp only [Act.put, List.setIfInBounds_toArray, List.set_cons_zero, List.set_cons_succ]
            rfl
          refine one_ (i := 7) (N := (some 19)) #[true, true, true, true, true, true, true, true, true, true, true, false, false, false, false] rfl rfl (one_of HT_.out (by kernel_rfl)) (by decide) (fun K9 hK => ?_)
          refine Kd.R_append_rows_step k46 (Rr := k46.K W4) (w0 := W0) B (by rfl) _ _ 30 46 (.agg #[.string (ByteArray.mk #[]), .string (ByteArray.mk #[]), .int .i64 0, .int .i64 0]) 48 rfl Try.underlying30 ent_info rfl (by decide) (by decide) e1 [] l4 A4 n1 c4 (fun _ => True) (fun _ => False) rfl rfl HR.out.r1 (Kd.C_below HS1.out (HR.out.bel)) (kM1 W4) (fun _ h => h.elim) (fun _ _ => trivial) HR.out.bel' HR.out.base (by simp only [List.length_nil, Nat.zero_add]; omega) ?_
          rintro V1 W5 hr hb hg -
          rw [List.nil_append] at hr
          have hn : RS3 B W0 W5 V0 V1 e2 l3 l4 [] := HR.out.ap1 hr hb hg
          clear HR hr hb hg
          have HR := Aside.mk hn
          clear hn
          refine hK.out _ _ (HH.out HR.out.bel) (fun hHeld => ?_)
          clear hK K9
          refine norm_ (a' := ?_) ?_ ?_
          rotate_left
          · show Act.put _ (some 19) _ = _
            simp only [Act.put, List.setIfInBounds_toArray, List.set_cons_zero, List.set_cons_succ]
            rfl
          refine one_ (i := 11) (N := (some 23)) #[true, true, true, true, true, true, true, true, true, true, true, true, false, false, false] rfl rfl (one_of HT_.out (by kernel_rfl)) (by decide) (fun K9 hK => ?_)
          refine Kd.R_append_rows_step k75 (Rr := k75.K W5) (w0 := W0) B (by rfl) _ _ 31 75 (.agg #[.int .i64 0, .bool false, .string (ByteArray.mk #[]), .string (ByteArray.mk #[])]) 48 rfl Try.underlying31 ev_info rfl (by decide) (by decide) e2 [] l5 A5 n2 c5 (fun _ => True) (fun _ => False) rfl rfl HR.out.r2 (Kd.C_below HS2.out (HR.out.bel)) (kM2 W5) (fun _ h => h.elim) (fun _ _ => trivial) HR.out.bel' HR.out.base (by simp only [List.length_nil, Nat.zero_add]; omega) ?_
          rintro V2 W6 hr hb hg -
          rw [List.nil_append] at hr
          have hn : RS3 B W0 W6 V0 V1 V2 l3 l4 l5 := HR.out.ap2 hr hb hg
          clear HR hr hb hg
          have HR := Aside.mk hn
          clear hn
          refine hK.out _ _ (HH.out HR.out.bel) (fun hHeld => ?_)
          clear hK K9
          refine norm_ (a' := ?_) ?_ ?_
          rotate_left
          · show Act.put _ (some 23) _ = _
            simp only [Act.put, List.setIfInBounds_toArray, List.set_cons_zero, List.set_cons_succ]
            rfl
          exact norm_ (by first | (simp only [putAll, Act.put, List.setIfInBounds_toArray, List.set_cons_zero, List.set_cons_succ]; done) | (simp only [putAll, Act.put, List.setIfInBounds_toArray, List.set_cons_zero, List.set_cons_succ]; rfl)) (hCont (e0, V0, e1, V1, e2, V2) _ HR.out)
      · skip
        obtain ⟨W2, hwW2⟩ : ∃ V, V = W1.alloc (.cells #[] 46 (0, 0)) := ⟨_, rfl⟩
        obtain ⟨e1, he1⟩ : ∃ V, V = Value.slice (some ⟨W1.heap.size, 0, none⟩) 0 0 := ⟨_, rfl⟩
        refine value_ (v := e1) (w1 := W2) (by rfl) rfl (by rw [hwW2, he1]; unfold execOp; go_simp) ?_
        have hn : RS3 B W0 W2 e0 e1 (.slice none 0 0) [] [] [] := by rw [hwW2, he1]; exact HR.out.al1
        clear HR hwW2 he1
        have HR := Aside.mk hn
        clear hn
        refine hK.out _ _ (HH.out HR.out.bel) (fun hHeld => ?_)
        clear hK K9
        refine norm_ (a' := ?_) ?_ ?_
        rotate_left
        · show Act.put _ (some 16) _ = _
          simp only [Act.put, List.setIfInBounds_toArray, List.set_cons_zero, List.set_cons_succ]
          rfl
        refine two_ (i := 3) (j := 8) (Ni := (some 15)) (Nj := (some 20)) #[true, true, true, true, true, true, true, false, false, true, true, false, false, false, false] #[true, true, true, false, true, true, true, false, true, true, true, false, false, false, false] rfl rfl rfl rfl (two_of HT_.out (by kernel_rfl)) (by decide) (by decide) (fun K9 hK => ?_) (fun K9 hK => ?_)
        · skip
          refine Kd.R_append_rows_step Kd.string (Rr := Kd.string.K W2) (w0 := W0) B (by rfl) _ _ 29 9 (.string (ByteArray.mk #[])) 16 rfl Try.underlying29 str_info rfl (by decide) (by decide) e0 [] l3 A3 n0 c3 (fun _ => True) (fun _ => False) rfl rfl HR.out.r0 (Kd.C_below HS0.out (HR.out.bel)) (kM0 W2) (fun _ h => h.elim) (fun _ _ => trivial) HR.out.bel' HR.out.base (by simp only [List.length_nil, Nat.zero_add]; omega) ?_
          rintro V0 W3 hr hb hg -
          rw [List.nil_append] at hr
          have hn : RS3 B W0 W3 V0 e1 (.slice none 0 0) l3 [] [] := HR.out.ap0 hr hb hg
          clear HR hr hb hg
          have HR := Aside.mk hn
          clear hn
          refine hK.out _ _ (HH.out HR.out.bel) (fun hHeld => ?_)
          clear hK K9
          refine norm_ (a' := ?_) ?_ ?_
          rotate_left
          · show Act.put _ (some 15) _ = _
            simp only [Act.put, List.setIfInBounds_toArray, List.set_cons_zero, List.set_cons_succ]
            rfl
          refine two_ (i := 7) (j := 8) (Ni := (some 19)) (Nj := (some 20)) #[true, true, true, true, true, true, true, true, false, true, true, false, false, false, false] #[true, true, true, true, true, true, true, false, true, true, true, false, false, false, false] rfl rfl rfl rfl (two_of HT_.out (by kernel_rfl)) (by decide) (by decide) (fun K9 hK => ?_) (fun K9 hK => ?_)
          · skip
            refine Kd.R_append_rows_step k46 (Rr := k46.K W3) (w0 := W0) B (by rfl) _ _ 30 46 (.agg #[.string (ByteArray.mk #[]), .string (ByteArray.mk #[]), .int .i64 0, .int .i64 0]) 48 rfl Try.underlying30 ent_info rfl (by decide) (by decide) e1 [] l4 A4 n1 c4 (fun _ => True) (fun _ => False) rfl rfl HR.out.r1 (Kd.C_below HS1.out (HR.out.bel)) (kM1 W3) (fun _ h => h.elim) (fun _ _ => trivial) HR.out.bel' HR.out.base (by simp only [List.length_nil, Nat.zero_add]; omega) ?_
            rintro V1 W4 hr hb hg -
            rw [List.nil_append] at hr
            have hn : RS3 B W0 W4 V0 V1 (.slice none 0 0) l3 l4 [] := HR.out.ap1 hr hb hg
            clear HR hr hb hg
            have HR := Aside.mk hn
            clear hn
            refine hK.out _ _ (HH.out HR.out.bel) (fun hHeld => ?_)
            clear hK K9
            refine norm_ (a' := ?_) ?_ ?_
            rotate_left
            · show Act.put _ (some 19) _ = _
              simp only [Act.put, List.setIfInBounds_toArray, List.set_cons_zero, List.set_cons_succ]
              rfl
            refine one_ (i := 8) (N := (some 20)) #[true, true, true, true, true, true, true, true, true, true, true, false, false, false, false] rfl rfl (one_of HT_.out (by kernel_rfl)) (by decide) (fun K9 hK => ?_)
            obtain ⟨W5, hwW5⟩ : ∃ V, V = W4.alloc (.cells #[] 75 (0, 0)) := ⟨_, rfl⟩
            obtain ⟨e2, he2⟩ : ∃ V, V = Value.slice (some ⟨W4.heap.size, 0, none⟩) 0 0 := ⟨_, rfl⟩
            refine value_ (v := e2) (w1 := W5) (by rfl) rfl (by rw [hwW5, he2]; unfold execOp; go_simp) ?_
            have hn : RS3 B W0 W5 V0 V1 e2 l3 l4 [] := by rw [hwW5, he2]; exact HR.out.al2
            clear HR hwW5 he2
            have HR := Aside.mk hn
            clear hn
            refine hK.out _ _ (HH.out HR.out.bel) (fun hHeld => ?_)
            clear hK K9
            refine norm_ (a' := ?_) ?_ ?_
            rotate_left
            · show Act.put _ (some 20) _ = _
              simp only [Act.put, List.setIfInBounds_toArray, List.set_cons_zero, List.set_cons_succ]
              rfl
            refine one_ (i := 11) (N := (some 23)) #[true, true, true, true, true, true, true, true, true, true, true, true, false, false, false] rfl rfl (one_of HT_.out (by kernel_rfl)) (by decide) (fun K9 hK => ?_)
            refine Kd.R_append_rows_step k75 (Rr := k75.K W5) (w0 := W0) B (by rfl) _ _ 31 75 (.agg #[.int .i64 0, .bool false, .string (ByteArray.mk #[]), .string (ByteArray.mk #[])]) 48 rfl Try.underlying31 ev_info rfl (by decide) (by decide) e2 [] l5 A5 n2 c5 (fun _ => True) (fun _ => False) rfl rfl HR.out.r2 (Kd.C_below HS2.out (HR.out.bel)) (kM2 W5) (fun _ h => h.elim) (fun _ _ => trivial) HR.out.bel' HR.out.base (by simp only [List.length_nil, Nat.zero_add]; omega) ?_
            rintro V2 W6 hr hb hg -
            rw [List.nil_append] at hr
            have hn : RS3 B W0 W6 V0 V1 V2 l3 l4 l5 := HR.out.ap2 hr hb hg
            clear HR hr hb hg
            have HR := Aside.mk hn
            clear hn
            refine hK.out _ _ (HH.out HR.out.bel) (fun hHeld => ?_)
            clear hK K9
            refine norm_ (a' := ?_) ?_ ?_
            rotate_left
            · show Act.put _ (some 23) _ = _
              simp only [Act.put, List.setIfInBounds_toArray, List.set_cons_zero, List.set_cons_succ]
              rfl
            exact norm_ (by first | (simp only [putAll, Act.put, List.setIfInBounds_toArray, List.set_cons_zero, List.set_cons_succ]; done) | (simp only [putAll, Act.put, List.setIfInBounds_toArray, List.set_cons_zero, List.set_cons_succ]; rfl)) (hCont (e0, V0, e1, V1, e2, V2) _ HR.out)
          · skip
            obtain ⟨W4, hwW4⟩ : ∃ V, V = W3.alloc (.cells #[] 75 (0, 0)) := ⟨_, rfl⟩
            obtain ⟨e2, he2⟩ : ∃ V, V = Value.slice (some ⟨W3.heap.size, 0, none⟩) 0 0 := ⟨_, rfl⟩
            refine value_ (v := e2) (w1 := W4) (by rfl) rfl (by rw [hwW4, he2]; unfold execOp; go_simp) ?_
            have hn : RS3 B W0 W4 V0 e1 e2 l3 [] [] := by rw [hwW4, he2]; exact HR.out.al2
            clear HR hwW4 he2
            have HR := Aside.mk hn
            clear hn
            refine hK.out _ _ (HH.out HR.out.bel) (fun hHeld => ?_)
            clear hK K9
            refine norm_ (a' := ?_) ?_ ?_
            rotate_left
            · show Act.put _ (some 20) _ = _
              simp only [Act.put, List.setIfInBounds_toArray, List.set_cons_zero, List.set_cons_succ]
              rfl
            refine one_ (i := 7) (N := (some 19)) #[true, true, true, true, true, true, true, true, true, true, true, false, false, false, false] rfl rfl (one_of HT_.out (by kernel_rfl)) (by decide) (fun K9 hK => ?_)
            refine Kd.R_append_rows_step k46 (Rr := k46.K W4) (w0 := W0) B (by rfl) _ _ 30 46 (.agg #[.string (ByteArray.mk #[]), .string (ByteArray.mk #[]), .int .i64 0, .int .i64 0]) 48 rfl Try.underlying30 ent_info rfl (by decide) (by decide) e1 [] l4 A4 n1 c4 (fun _ => True) (fun _ => False) rfl rfl HR.out.r1 (Kd.C_below HS1.out (HR.out.bel)) (kM1 W4) (fun _ h => h.elim) (fun _ _ => trivial) HR.out.bel' HR.out.base (by simp only [List.length_nil, Nat.zero_add]; omega) ?_
            rintro V1 W5 hr hb hg -
            rw [List.nil_append] at hr
            have hn : RS3 B W0 W5 V0 V1 e2 l3 l4 [] := HR.out.ap1 hr hb hg
            clear HR hr hb hg
            have HR := Aside.mk hn
            clear hn
            refine hK.out _ _ (HH.out HR.out.bel) (fun hHeld => ?_)
            clear hK K9
            refine norm_ (a' := ?_) ?_ ?_
            rotate_left
            · show Act.put _ (some 19) _ = _
              simp only [Act.put, List.setIfInBounds_toArray, List.set_cons_zero, List.set_cons_succ]
              rfl
            refine one_ (i := 11) (N := (some 23)) #[true, true, true, true, true, true, true, true, true, true, true, true, false, false, false] rfl rfl (one_of HT_.out (by kernel_rfl)) (by decide) (fun K9 hK => ?_)
            refine Kd.R_append_rows_step k75 (Rr := k75.K W5) (w0 := W0) B (by rfl) _ _ 31 75 (.agg #[.int .i64 0, .bool false, .string (ByteArray.mk #[]), .string (ByteArray.mk #[])]) 48 rfl Try.underlying31 ev_info rfl (by decide) (by decide) e2 [] l5 A5 n2 c5 (fun _ => True) (fun _ => False) rfl rfl HR.out.r2 (Kd.C_below HS2.out (HR.out.bel)) (kM2 W5) (fun _ h => h.elim) (fun _ _ => trivial) HR.out.bel' HR.out.base (by simp only [List.length_nil, Nat.zero_add]; omega) ?_
            rintro V2 W6 hr hb hg -
            rw [List.nil_append] at hr
            have hn : RS3 B W0 W6 V0 V1 V2 l3 l4 l5 := HR.out.ap2 hr hb hg
            clear HR hr hb hg
            have HR := Aside.mk hn
            clear hn
            refine hK.out _ _ (HH.out HR.out.bel) (fun hHeld => ?_)
            clear hK K9
            refine norm_ (a' := ?_) ?_ ?_
            rotate_left
            · show Act.put _ (some 23) _ = _
              simp only [Act.put, List.setIfInBounds_toArray, List.set_cons_zero, List.set_cons_succ]
              rfl
            exact norm_ (by first | (simp only [putAll, Act.put, List.setIfInBounds_toArray, List.set_cons_zero, List.set_cons_succ]; done) | (simp only [putAll, Act.put, List.setIfInBounds_toArray, List.set_cons_zero, List.set_cons_succ]; rfl)) (hCont (e0, V0, e1, V1, e2, V2) _ HR.out)
        · skip
          obtain ⟨W3, hwW3⟩ : ∃ V, V = W2.alloc (.cells #[] 75 (0, 0)) := ⟨_, rfl⟩
          obtain ⟨e2, he2⟩ : ∃ V, V = Value.slice (some ⟨W2.heap.size, 0, none⟩) 0 0 := ⟨_, rfl⟩
          refine value_ (v := e2) (w1 := W3) (by rfl) rfl (by rw [hwW3, he2]; unfold execOp; go_simp) ?_
          have hn : RS3 B W0 W3 e0 e1 e2 [] [] [] := by rw [hwW3, he2]; exact HR.out.al2
          clear HR hwW3 he2
          have HR := Aside.mk hn
          clear hn
          refine hK.out _ _ (HH.out HR.out.bel) (fun hHeld => ?_)
          clear hK K9
          refine norm_ (a' := ?_) ?_ ?_
          rotate_left
          · show Act.put _ (some 20) _ = _
            simp only [Act.put, List.setIfInBounds_toArray, List.set_cons_zero, List.set_cons_succ]
            rfl
          refine one_ (i := 3) (N := (some 15)) #[true, true, true, true, true, true, true, false, true, true, true, false, false, false, false] rfl rfl (one_of HT_.out (by kernel_rfl)) (by decide) (fun K9 hK => ?_)
          refine Kd.R_append_rows_step Kd.string (Rr := Kd.string.K W3) (w0 := W0) B (by rfl) _ _ 29 9 (.string (ByteArray.mk #[])) 16 rfl Try.underlying29 str_info rfl (by decide) (by decide) e0 [] l3 A3 n0 c3 (fun _ => True) (fun _ => False) rfl rfl HR.out.r0 (Kd.C_below HS0.out (HR.out.bel)) (kM0 W3) (fun _ h => h.elim) (fun _ _ => trivial) HR.out.bel' HR.out.base (by simp only [List.length_nil, Nat.zero_add]; omega) ?_
          rintro V0 W4 hr hb hg -
          rw [List.nil_append] at hr
          have hn : RS3 B W0 W4 V0 e1 e2 l3 [] [] := HR.out.ap0 hr hb hg
          clear HR hr hb hg
          have HR := Aside.mk hn
          clear hn
          refine hK.out _ _ (HH.out HR.out.bel) (fun hHeld => ?_)
          clear hK K9
          refine norm_ (a' := ?_) ?_ ?_
          rotate_left
          · show Act.put _ (some 15) _ = _
            simp only [Act.put, List.setIfInBounds_toArray, List.set_cons_zero, List.set_cons_succ]
            rfl
          refine one_ (i := 7) (N := (some 19)) #[true, true, true, true, true, true, true, true, true, true, true, false, false, false, false] rfl rfl (one_of HT_.out (by kernel_rfl)) (by decide) (fun K9 hK => ?_)
          refine Kd.R_append_rows_step k46 (Rr := k46.K W4) (w0 := W0) B (by rfl) _ _ 30 46 (.agg #[.string (ByteArray.mk #[]), .string (ByteArray.mk #[]), .int .i64 0, .int .i64 0]) 48 rfl Try.underlying30 ent_info rfl (by decide) (by decide) e1 [] l4 A4 n1 c4 (fun _ => True) (fun _ => False) rfl rfl HR.out.r1 (Kd.C_below HS1.out (HR.out.bel)) (kM1 W4) (fun _ h => h.elim) (fun _ _ => trivial) HR.out.bel' HR.out.base (by simp only [List.length_nil, Nat.zero_add]; omega) ?_
          rintro V1 W5 hr hb hg -
          rw [List.nil_append] at hr
          have hn : RS3 B W0 W5 V0 V1 e2 l3 l4 [] := HR.out.ap1 hr hb hg
          clear HR hr hb hg
          have HR := Aside.mk hn
          clear hn
          refine hK.out _ _ (HH.out HR.out.bel) (fun hHeld => ?_)
          clear hK K9
          refine norm_ (a' := ?_) ?_ ?_
          rotate_left
          · show Act.put _ (some 19) _ = _
            simp only [Act.put, List.setIfInBounds_toArray, List.set_cons_zero, List.set_cons_succ]
            rfl
          refine one_ (i := 11) (N := (some 23)) #[true, true, true, true, true, true, true, true, true, true, true, true, false, false, false] rfl rfl (one_of HT_.out (by kernel_rfl)) (by decide) (fun K9 hK => ?_)
          refine Kd.R_append_rows_step k75 (Rr := k75.K W5) (w0 := W0) B (by rfl) _ _ 31 75 (.agg #[.int .i64 0, .bool false, .string (ByteArray.mk #[]), .string (ByteArray.mk #[])]) 48 rfl Try.underlying31 ev_info rfl (by decide) (by decide) e2 [] l5 A5 n2 c5 (fun _ => True) (fun _ => False) rfl rfl HR.out.r2 (Kd.C_below HS2.out (HR.out.bel)) (kM2 W5) (fun _ h => h.elim) (fun _ _ => trivial) HR.out.bel' HR.out.base (by simp only [List.length_nil, Nat.zero_add]; omega) ?_
          rintro V2 W6 hr hb hg -
          rw [List.nil_append] at hr
          have hn : RS3 B W0 W6 V0 V1 V2 l3 l4 l5 := HR.out.ap2 hr hb hg
          clear HR hr hb hg
          have HR := Aside.mk hn
          clear hn
          refine hK.out _ _ (HH.out HR.out.bel) (fun hHeld => ?_)
          clear hK K9
          refine norm_ (a' := ?_) ?_ ?_
          rotate_left
          · show Act.put _ (some 23) _ = _
            simp only [Act.put, List.setIfInBounds_toArray, List.set_cons_zero, List.set_cons_succ]
            rfl
          exact norm_ (by first | (simp only [putAll, Act.put, List.setIfInBounds_toArray, List.set_cons_zero, List.set_cons_succ]; done) | (simp only [putAll, Act.put, List.setIfInBounds_toArray, List.set_cons_zero, List.set_cons_succ]; rfl)) (hCont (e0, V0, e1, V1, e2, V2) _ HR.out)
      · skip
        obtain ⟨W2, hwW2⟩ : ∃ V, V = W1.alloc (.cells #[] 75 (0, 0)) := ⟨_, rfl⟩
        obtain ⟨e2, he2⟩ : ∃ V, V = Value.slice (some ⟨W1.heap.size, 0, none⟩) 0 0 := ⟨_, rfl⟩
        refine value_ (v := e2) (w1 := W2) (by rfl) rfl (by rw [hwW2, he2]; unfold execOp; go_simp) ?_
        have hn : RS3 B W0 W2 e0 (.slice none 0 0) e2 [] [] [] := by rw [hwW2, he2]; exact HR.out.al2
        clear HR hwW2 he2
        have HR := Aside.mk hn
        clear hn
        refine hK.out _ _ (HH.out HR.out.bel) (fun hHeld => ?_)
        clear hK K9
        refine norm_ (a' := ?_) ?_ ?_
        rotate_left
        · show Act.put _ (some 20) _ = _
          simp only [Act.put, List.setIfInBounds_toArray, List.set_cons_zero, List.set_cons_succ]
          rfl
        refine two_ (i := 3) (j := 4) (Ni := (some 15)) (Nj := (some 16)) #[true, true, true, true, false, true, true, false, true, true, true, false, false, false, false] #[true, true, true, false, true, true, true, false, true, true, true, false, false, false, false] rfl rfl rfl rfl (two_of HT_.out (by kernel_rfl)) (by decide) (by decide) (fun K9 hK => ?_) (fun K9 hK => ?_)
        · skip
          refine Kd.R_append_rows_step Kd.string (Rr := Kd.string.K W2) (w0 := W0) B (by rfl) _ _ 29 9 (.string (ByteArray.mk #[])) 16 rfl Try.underlying29 str_info rfl (by decide) (by decide) e0 [] l3 A3 n0 c3 (fun _ => True) (fun _ => False) rfl rfl HR.out.r0 (Kd.C_below HS0.out (HR.out.bel)) (kM0 W2) (fun _ h => h.elim) (fun _ _ => trivial) HR.out.bel' HR.out.base (by simp only [List.length_nil, Nat.zero_add]; omega) ?_
          rintro V0 W3 hr hb hg -
          rw [List.nil_append] at hr
          have hn : RS3 B W0 W3 V0 (.slice none 0 0) e2 l3 [] [] := HR.out.ap0 hr hb hg
          clear HR hr hb hg
          have HR := Aside.mk hn
          clear hn
          refine hK.out _ _ (HH.out HR.out.bel) (fun hHeld => ?_)
          clear hK K9
          refine norm_ (a' := ?_) ?_ ?_
          rotate_left
          · show Act.put _ (some 15) _ = _
            simp only [Act.put, List.setIfInBounds_toArray, List.set_cons_zero, List.set_cons_succ]
            rfl
          refine one_ (i := 4) (N := (some 16)) #[true, true, true, true, true, true, true, false, true, true, true, false, false, false, false] rfl rfl (one_of HT_.out (by kernel_rfl)) (by decide) (fun K9 hK => ?_)
          obtain ⟨W4, hwW4⟩ : ∃ V, V = W3.alloc (.cells #[] 46 (0, 0)) := ⟨_, rfl⟩
          obtain ⟨e1, he1⟩ : ∃ V, V = Value.slice (some ⟨W3.heap.size, 0, none⟩) 0 0 := ⟨_, rfl⟩
          refine value_ (v := e1) (w1 := W4) (by rfl) rfl (by rw [hwW4, he1]; unfold execOp; go_simp) ?_
          have hn : RS3 B W0 W4 V0 e1 e2 l3 [] [] := by rw [hwW4, he1]; exact HR.out.al1
          clear HR hwW4 he1
          have HR := Aside.mk hn
          clear hn
          refine hK.out _ _ (HH.out HR.out.bel) (fun hHeld => ?_)
          clear hK K9
          refine norm_ (a' := ?_) ?_ ?_
          rotate_left
          · show Act.put _ (some 16) _ = _
            simp only [Act.put, List.setIfInBounds_toArray, List.set_cons_zero, List.set_cons_succ]
            rfl
          refine one_ (i := 7) (N := (some 19)) #[true, true, true, true, true, true, true, true, true, true, true, false, false, false, false] rfl rfl (one_of HT_.out (by kernel_rfl)) (by decide) (fun K9 hK => ?_)
          refine Kd.R_append_rows_step k46 (Rr := k46.K W4) (w0 := W0) B (by rfl) _ _ 30 46 (.agg #[.string (ByteArray.mk #[]), .string (ByteArray.mk #[]), .int .i64 0, .int .i64 0]) 48 rfl Try.underlying30 ent_info rfl (by decide) (by decide) e1 [] l4 A4 n1 c4 (fun _ => True) (fun _ => False) rfl rfl HR.out.r1 (Kd.C_below HS1.out (HR.out.bel)) (kM1 W4) (fun _ h => h.elim) (fun _ _ => trivial) HR.out.bel' HR.out.base (by simp only [List.length_nil, Nat.zero_add]; omega) ?_
          rintro V1 W5 hr hb hg -
          rw [List.nil_append] at hr
          have hn : RS3 B W0 W5 V0 V1 e2 l3 l4 [] := HR.out.ap1 hr hb hg
          clear HR hr hb hg
          have HR := Aside.mk hn
          clear hn
          refine hK.out _ _ (HH.out HR.out.bel) (fun hHeld => ?_)
          clear hK K9
          refine norm_ (a' := ?_) ?_ ?_
          rotate_left
          · show Act.put _ (some 19) _ = _
            simp only [Act.put, List.setIfInBounds_toArray, List.set_cons_zero, List.set_cons_succ]
            rfl
          refine one_ (i := 11) (N := (some 23)) #[true, true, true, true, true, true, true, true, true, true, true, true, false, false, false] rfl rfl (one_of HT_.out (by kernel_rfl)) (by decide) (fun K9 hK => ?_)
          refine Kd.R_append_rows_step k75 (Rr := k75.K W5) (w0 := W0) B (by rfl) _ _ 31 75 (.agg #[.int .i64 0, .bool false, .string (ByteArray.mk #[]), .string (ByteArray.mk #[])]) 48 rfl Try.underlying31 ev_info rfl (by decide) (by decide) e2 [] l5 A5 n2 c5 (fun _ => True) (fun _ => False) rfl rfl HR.out.r2 (Kd.C_below HS2.out (HR.out.bel)) (kM2 W5) (fun _ h => h.elim) (fun _ _ => trivial) HR.out.bel' HR.out.base (by simp only [List.length_nil, Nat.zero_add]; omega) ?_
          rintro V2 W6 hr hb hg -
          rw [List.nil_append] at hr
          have hn : RS3 B W0 W6 V0 V1 V2 l3 l4 l5 := HR.out.ap2 hr hb hg
          clear HR hr hb hg
          have HR := Aside.mk hn
          clear hn
          refine hK.out _ _ (HH.out HR.out.bel) (fun hHeld => ?_)
          clear hK K9
          refine norm_ (a' := ?_) ?_ ?_
          rotate_left
          · show Act.put _ (some 23) _ = _
            simp only [Act.put, List.setIfInBounds_toArray, List.set_cons_zero, List.set_cons_succ]
            rfl
          exact norm_ (by first | (simp only [putAll, Act.put, List.setIfInBounds_toArray, List.set_cons_zero, List.set_cons_succ]; done) | (simp only [putAll, Act.put, List.setIfInBounds_toArray, List.set_cons_zero, List.set_cons_succ]; rfl)) (hCont (e0, V0, e1, V1, e2, V2) _ HR.out)
        · skip
          obtain ⟨W3, hwW3⟩ : ∃ V, V = W2.alloc (.cells #[] 46 (0, 0)) := ⟨_, rfl⟩
          obtain ⟨e1, he1⟩ : ∃ V, V = Value.slice (some ⟨W2.heap.size, 0, none⟩) 0 0 := ⟨_, rfl⟩
          refine value_ (v := e1) (w1 := W3) (by rfl) rfl (by rw [hwW3, he1]; unfold execOp; go_simp) ?_
          have hn : RS3 B W0 W3 e0 e1 e2 [] [] [] := by rw [hwW3, he1]; exact HR.out.al1
          clear HR hwW3 he1
          have HR := Aside.mk hn
          clear hn
          refine hK.out _ _ (HH.out HR.out.bel) (fun hHeld => ?_)
          clear hK K9
          refine norm_ (a' := ?_) ?_ ?_
          rotate_left
          · show Act.put _ (some 16) _ = _
            simp only [Act.put, List.setIfInBounds_toArray, List.set_cons_zero, List.set_cons_succ]
            rfl
          refine one_ (i := 3) (N := (some 15)) #[true, true, true, true, true, true, true, false, true, true, true, false, false, false, false] rfl rfl (one_of HT_.out (by kernel_rfl)) (by decide) (fun K9 hK => ?_)
          refine Kd.R_append_rows_step Kd.string (Rr := Kd.string.K W3) (w0 := W0) B (by rfl) _ _ 29 9 (.string (ByteArray.mk #[])) 16 rfl Try.underlying29 str_info rfl (by decide) (by decide) e0 [] l3 A3 n0 c3 (fun _ => True) (fun _ => False) rfl rfl HR.out.r0 (Kd.C_below HS0.out (HR.out.bel)) (kM0 W3) (fun _ h => h.elim) (fun _ _ => trivial) HR.out.bel' HR.out.base (by simp only [List.length_nil, Nat.zero_add]; omega) ?_
          rintro V0 W4 hr hb hg -
          rw [List.nil_append] at hr
          have hn : RS3 B W0 W4 V0 e1 e2 l3 [] [] := HR.out.ap0 hr hb hg
          clear HR hr hb hg
          have HR := Aside.mk hn
          clear hn
          refine hK.out _ _ (HH.out HR.out.bel) (fun hHeld => ?_)
          clear hK K9
          refine norm_ (a' := ?_) ?_ ?_
          rotate_left
          · show Act.put _ (some 15) _ = _
            simp only [Act.put, List.setIfInBounds_toArray, List.set_cons_zero, List.set_cons_succ]
            rfl
          refine one_ (i := 7) (N := (some 19)) #[true, true, true, true, true, true, true, true, true, true, true, false, false, false, false] rfl rfl (one_of HT_.out (by kernel_rfl)) (by decide) (fun K9 hK => ?_)
          refine Kd.R_append_rows_step k46 (Rr := k46.K W4) (w0 := W0) B (by rfl) _ _ 30 46 (.agg #[.string (ByteArray.mk #[]), .string (ByteArray.mk #[]), .int .i64 0, .int .i64 0]) 48 rfl Try.underlying30 ent_info rfl (by decide) (by decide) e1 [] l4 A4 n1 c4 (fun _ => True) (fun _ => False) rfl rfl HR.out.r1 (Kd.C_below HS1.out (HR.out.bel)) (kM1 W4) (fun _ h => h.elim) (fun _ _ => trivial) HR.out.bel' HR.out.base (by simp only [List.length_nil, Nat.zero_add]; omega) ?_
          rintro V1 W5 hr hb hg -
          rw [List.nil_append] at hr
          have hn : RS3 B W0 W5 V0 V1 e2 l3 l4 [] := HR.out.ap1 hr hb hg
          clear HR hr hb hg
          have HR := Aside.mk hn
          clear hn
          refine hK.out _ _ (HH.out HR.out.bel) (fun hHeld => ?_)
          clear hK K9
          refine norm_ (a' := ?_) ?_ ?_
          rotate_left
          · show Act.put _ (some 19) _ = _
            simp only [Act.put, List.setIfInBounds_toArray, List.set_cons_zero, List.set_cons_succ]
            rfl
          refine one_ (i := 11) (N := (some 23)) #[true, true, true, true, true, true, true, true, true, true, true, true, false, false, false] rfl rfl (one_of HT_.out (by kernel_rfl)) (by decide) (fun K9 hK => ?_)
          refine Kd.R_append_rows_step k75 (Rr := k75.K W5) (w0 := W0) B (by rfl) _ _ 31 75 (.agg #[.int .i64 0, .bool false, .string (ByteArray.mk #[]), .string (ByteArray.mk #[])]) 48 rfl Try.underlying31 ev_info rfl (by decide) (by decide) e2 [] l5 A5 n2 c5 (fun _ => True) (fun _ => False) rfl rfl HR.out.r2 (Kd.C_below HS2.out (HR.out.bel)) (kM2 W5) (fun _ h => h.elim) (fun _ _ => trivial) HR.out.bel' HR.out.base (by simp only [List.length_nil, Nat.zero_add]; omega) ?_
          rintro V2 W6 hr hb hg -
          rw [List.nil_append] at hr
          have hn : RS3 B W0 W6 V0 V1 V2 l3 l4 l5 := HR.out.ap2 hr hb hg
          clear HR hr hb hg
          have HR := Aside.mk hn
          clear hn
          refine hK.out _ _ (HH.out HR.out.bel) (fun hHeld => ?_)
          clear hK K9
          refine norm_ (a' := ?_) ?_ ?_
          rotate_left
          · show Act.put _ (some 23) _ = _
            simp only [Act.put, List.setIfInBounds_toArray, List.set_cons_zero, List.set_cons_succ]
            rfl
          exact norm_ (by first | (simp only [putAll, Act.put, List.setIfInBounds_toArray, List.set_cons_zero, List.set_cons_succ]; done) | (simp only [putAll, Act.put, List.setIfInBounds_toArray, List.set_cons_zero, List.set_cons_succ]; rfl)) (hCont (e0, V0, e1, V1, e2, V2) _ HR.out)
    · skip
      obtain ⟨W1, hwW1⟩ : ∃ V, V = W0.alloc (.cells #[] 46 (0, 0)) := ⟨_, rfl⟩
      obtain ⟨e1, he1⟩ : ∃ V, V = Value.slice (some ⟨W0.heap.size, 0, none⟩) 0 0 := ⟨_, rfl⟩
      refine value_ (v := e1) (w1 := W1) (by rfl) rfl (by rw [hwW1, he1]; unfold execOp; go_simp) ?_
      have hn : RS3 B W0 W1 (.slice none 0 0) e1 (.slice none 0 0) [] [] [] := by rw [hwW1, he1]; exact HR.out.al1
      clear HR hwW1 he1
      have HR := Aside.mk hn
      clear hn
      refine hK.out _ _ (HH.out HR.out.bel) (fun hHeld => ?_)
      clear hK K9
      refine norm_ (a' := ?_) ?_ ?_
      rotate_left
      · show Act.put _ (some 16) _ = _
        simp only [Act.put, List.setIfInBounds_toArray, List.set_cons_zero, List.set_cons_succ]
        rfl
      refine two_ (i := 0) (j := 8) (Ni := (some 12)) (Nj := (some 20)) #[true, true, true, false, true, true, true, false, false, true, true, false, false, false, false] #[false, true, true, false, true, true, true, false, true, true, true, false, false, false, false] rfl rfl rfl rfl (two_of HT_.out (by kernel_rfl)) (by decide) (by decide) (fun K9 hK => ?_) (fun K9 hK => ?_)
      · skip
        obtain ⟨W2, hwW2⟩ : ∃ V, V = W1.alloc (.cells #[] 9 (0, 0)) := ⟨_, rfl⟩
        obtain ⟨e0, he0⟩ : ∃ V, V = Value.slice (some ⟨W1.heap.size, 0, none⟩) 0 0 := ⟨_, rfl⟩
        refine value_ (v := e0) (w1 := W2) (by rfl) rfl (by rw [hwW2, he0]; unfold execOp; go_simp) ?_
        have hn : RS3 B W0 W2 e0 e1 (.slice none 0 0) [] [] [] := by rw [hwW2, he0]; exact HR.out.al0
        clear HR hwW2 he0
        have HR := Aside.mk hn
        clear hn
        refine hK.out _ _ (HH.out HR.out.bel) (fun hHeld => ?_)
        clear hK K9
        refine norm_ (a' := ?_) ?_ ?_
        rotate_left
        · show Act.put _ (some 12) _ = _
          simp only [Act.put, List.setIfInBounds_toArray, List.set_cons_zero, List.set_cons_succ]
          rfl
        refine two_ (i := 3) (j := 8) (Ni := (some 15)) (Nj := (some 20)) #[true, true, true, true, true, true, true, false, false, true, true, false, false, false, false] #[true, true, true, false, true, true, true, false, true, true, true, false, false, false, false] rfl rfl rfl rfl (two_of HT_.out (by kernel_rfl)) (by decide) (by decide) (fun K9 hK => ?_) (fun K9 hK => ?_)
        · skip
          refine Kd.R_append_rows_step Kd.string (Rr := Kd.string.K W2) (w0 := W0) B (by rfl) _ _ 29 9 (.string (ByteArray.mk #[])) 16 rfl Try.underlying29 str_info rfl (by decide) (by decide) e0 [] l3 A3 n0 c3 (fun _ => True) (fun _ => False) rfl rfl HR.out.r0 (Kd.C_below HS0.out (HR.out.bel)) (kM0 W2) (fun _ h => h.elim) (fun _ _ => trivial) HR.out.bel' HR.out.base (by simp only [List.length_nil, Nat.zero_add]; omega) ?_
          rintro V0 W3 hr hb hg -
          rw [List.nil_append] at hr
          have hn : RS3 B W0 W3 V0 e1 (.slice none 0 0) l3 [] [] := HR.out.ap0 hr hb hg
          clear HR hr hb hg
          have HR := Aside.mk hn
          clear hn
          refine hK.out _ _ (HH.out HR.out.bel) (fun hHeld => ?_)
          clear hK K9
          refine norm_ (a' := ?_) ?_ ?_
          rotate_left
          · show Act.put _ (some 15) _ = _
            simp only [Act.put, List.setIfInBounds_toArray, List.set_cons_zero, List.set_cons_succ]
            rfl
          refine two_ (i := 7) (j := 8) (Ni := (some 19)) (Nj := (some 20)) #[true, true, true, true, true, true, true, true, false, true, true, false, false, false, false] #[true, true, true, true, true, true, true, false, true, true, true, false, false, false, false] rfl rfl rfl rfl (two_of HT_.out (by kernel_rfl)) (by decide) (by decide) (fun K9 hK => ?_) (fun K9 hK => ?_)
          · skip
            refine Kd.R_append_rows_step k46 (Rr := k46.K W3) (w0 := W0) B (by rfl) _ _ 30 46 (.agg #[.string (ByteArray.mk #[]), .string (ByteArray.mk #[]), .int .i64 0, .int .i64 0]) 48 rfl Try.underlying30 ent_info rfl (by decide) (by decide) e1 [] l4 A4 n1 c4 (fun _ => True) (fun _ => False) rfl rfl HR.out.r1 (Kd.C_below HS1.out (HR.out.bel)) (kM1 W3) (fun _ h => h.elim) (fun _ _ => trivial) HR.out.bel' HR.out.base (by simp only [List.length_nil, Nat.zero_add]; omega) ?_
            rintro V1 W4 hr hb hg -
            rw [List.nil_append] at hr
            have hn : RS3 B W0 W4 V0 V1 (.slice none 0 0) l3 l4 [] := HR.out.ap1 hr hb hg
            clear HR hr hb hg
            have HR := Aside.mk hn
            clear hn
            refine hK.out _ _ (HH.out HR.out.bel) (fun hHeld => ?_)
            clear hK K9
            refine norm_ (a' := ?_) ?_ ?_
            rotate_left
            · show Act.put _ (some 19) _ = _
              simp only [Act.put, List.setIfInBounds_toArray, List.set_cons_zero, List.set_cons_succ]
              rfl
            refine one_ (i := 8) (N := (some 20)) #[true, true, true, true, true, true, true, true, true, true, true, false, false, false, false] rfl rfl (one_of HT_.out (by kernel_rfl)) (by decide) (fun K9 hK => ?_)
            obtain ⟨W5, hwW5⟩ : ∃ V, V = W4.alloc (.cells #[] 75 (0, 0)) := ⟨_, rfl⟩
            obtain ⟨e2, he2⟩ : ∃ V, V = Value.slice (some ⟨W4.heap.size, 0, none⟩) 0 0 := ⟨_, rfl⟩
            refine value_ (v := e2) (w1 := W5) (by rfl) rfl (by rw [hwW5, he2]; unfold execOp; go_simp) ?_
            have hn : RS3 B W0 W5 V0 V1 e2 l3 l4 [] := by rw [hwW5, he2]; exact HR.out.al2
            clear HR hwW5 he2
            have HR := Aside.mk hn
            clear hn
            refine hK.out _ _ (HH.out HR.out.bel) (fun hHeld => ?_)
            clear hK K9
            refine norm_ (a' := ?_) ?_ ?_
            rotate_left
            · show Act.put _ (some 20) _ = _
              simp only [Act.put, List.setIfInBounds_toArray, List.set_cons_zero, List.set_cons_succ]
              rfl
            refine one_ (i := 11) (N := (some 23)) #[true, true, true, true, true, true, true, true, true, true, true, true, false, false, false] rfl rfl (one_of HT_.out (by kernel_rfl)) (by decide) (fun K9 hK => ?_)
            refine Kd.R_append_rows_step k75 (Rr := k75.K W5) (w0 := W0) B (by rfl) _ _ 31 75 (.agg #[.int .i64 0, .bool false, .string (ByteArray.mk #[]), .string (ByteArray.mk #[])]) 48 rfl Try.underlying31 ev_info rfl (by decide) (by decide) e2 [] l5 A5 n2 c5 (fun _ => True) (fun _ => False) rfl rfl HR.out.r2 (Kd.C_below HS2.out (HR.out.bel)) (kM2 W5) (fun _ h => h.elim) (fun _ _ => trivial) HR.out.bel' HR.out.base (by simp only [List.length_nil, Nat.zero_add]; omega) ?_
            rintro V2 W6 hr hb hg -
            rw [List.nil_append] at hr
            have hn : RS3 B W0 W6 V0 V1 V2 l3 l4 l5 := HR.out.ap2 hr hb hg
            clear HR hr hb hg
            have HR := Aside.mk hn
            clear hn
            refine hK.out _ _ (HH.out HR.out.bel) (fun hHeld => ?_)
            clear hK K9
            refine norm_ (a' := ?_) ?_ ?_
            rotate_left
            · show Act.put _ (some 23) _ = _
              simp only [Act.put, List.setIfInBounds_toArray, List.set_cons_zero, List.set_cons_succ]
              rfl
            exact norm_ (by first | (simp only [putAll, Act.put, List.setIfInBounds_toArray, List.set_cons_zero, List.set_cons_succ]; done) | (simp only [putAll, Act.put, List.setIfInBounds_toArray, List.set_cons_zero, List.set_cons_succ]; rfl)) (hCont (e0, V0, e1, V1, e2, V2) _ HR.out)
          · skip
            obtain ⟨W4, hwW4⟩ : ∃ V, V = W3.alloc (.cells #[] 75 (0, 0)) := ⟨_, rfl⟩
            obtain ⟨e2, he2⟩ : ∃ V, V = Value.slice (some ⟨W3.heap.size, 0, none⟩) 0 0 := ⟨_, rfl⟩
            refine value_ (v := e2) (w1 := W4) (by rfl) rfl (by rw [hwW4, he2]; unfold execOp; go_simp) ?_
            have hn : RS3 B W0 W4 V0 e1 e2 l3 [] [] := by rw [hwW4, he2]; exact HR.out.al2
            clear HR hwW4 he2
            have HR := Aside.mk hn
            clear hn
            refine hK.out _ _ (HH.out HR.out.bel) (fun hHeld => ?_)
            clear hK K9
            refine norm_ (a' := ?_) ?_ ?_
            rotate_left
            · show Act.put _ (some 20) _ = _
              simp only [Act.put, List.setIfInBounds_toArray, List.set_cons_zero, List.set_cons_succ]
              rfl
            refine one_ (i := 7) (N := (some 19)) #[true, true, true, true, true, true, true, true, true, true, true, false, false, false, false] rfl rfl (one_of HT_.out (by kernel_rfl)) (by decide) (fun K9 hK => ?_)
            refine Kd.R_append_rows_step k46 (Rr := k46.K W4) (w0 := W0) B (by rfl) _ _ 30 46 (.agg #[.string (ByteArray.mk #[]), .string (ByteArray.mk #[]), .int .i64 0, .int .i64 0]) 48 rfl Try.underlying30 ent_info rfl (by decide) (by decide) e1 [] l4 A4 n1 c4 (fun _ => True) (fun _ => False) rfl rfl HR.out.r1 (Kd.C_below HS1.out (HR.out.bel)) (kM1 W4) (fun _ h => h.elim) (fun _ _ => trivial) HR.out.bel' HR.out.base (by simp only [List.length_nil, Nat.zero_add]; omega) ?_
            rintro V1 W5 hr hb hg -
            rw [List.nil_append] at hr
            have hn : RS3 B W0 W5 V0 V1 e2 l3 l4 [] := HR.out.ap1 hr hb hg
            clear HR hr hb hg
            have HR := Aside.mk hn
            clear hn
            refine hK.out _ _ (HH.out HR.out.bel) (fun hHeld => ?_)
            clear hK K9
            refine norm_ (a' := ?_) ?_ ?_
            rotate_left
            · show Act.put _ (some 19) _ = _
              simp only [Act.put, List.setIfInBounds_toArray, List.set_cons_zero, List.set_cons_succ]
              rfl
            refine one_ (i := 11) (N := (some 23)) #[true, true, true, true, true, true, true, true, true, true, true, true, false, false, false] rfl rfl (one_of HT_.out (by kernel_rfl)) (by decide) (fun K9 hK => ?_)
            refine Kd.R_append_rows_step k75 (Rr := k75.K W5) (w0 := W0) B (by rfl) _ _ 31 75 (.agg #[.int .i64 0, .bool false, .string (ByteArray.mk #[]), .string (ByteArray.mk #[])]) 48 rfl Try.underlying31 ev_info rfl (by decide) (by decide) e2 [] l5 A5 n2 c5 (fun _ => True) (fun _ => False) rfl rfl HR.out.r2 (Kd.C_below HS2.out (HR.out.bel)) (kM2 W5) (fun _ h => h.elim) (fun _ _ => trivial) HR.out.bel' HR.out.base (by simp only [List.length_nil, Nat.zero_add]; omega) ?_
            rintro V2 W6 hr hb hg -
            rw [List.nil_append] at hr
            have hn : RS3 B W0 W6 V0 V1 V2 l3 l4 l5 := HR.out.ap2 hr hb hg
            clear HR hr hb hg
            have HR := Aside.mk hn
            clear hn
            refine hK.out _ _ (HH.out HR.out.bel) (fun hHeld => ?_)
            clear hK K9
            refine norm_ (a' := ?_) ?_ ?_
            rotate_left
            · show Act.put _ (some 23) _ = _
              simp only [Act.put, List.setIfInBounds_toArray, List.set_cons_zero, List.set_cons_succ]
              rfl
            exact norm_ (by first | (simp only [putAll, Act.put, List.setIfInBounds_toArray, List.set_cons_zero, List.set_cons_succ]; done) | (simp only [putAll, Act.put, List.setIfInBounds_toArray, List.set_cons_zero, List.set_cons_succ]; rfl)) (hCont (e0, V0, e1, V1, e2, V2) _ HR.out)
        · skip
          obtain ⟨W3, hwW3⟩ : ∃ V, V = W2.alloc (.cells #[] 75 (0, 0)) := ⟨_, rfl⟩
          obtain ⟨e2, he2⟩ : ∃ V, V = Value.slice (some ⟨W2.heap.size, 0, none⟩) 0 0 := ⟨_, rfl⟩
          refine value_ (v := e2) (w1 := W3) (by rfl) rfl (by rw [hwW3, he2]; unfold execOp; go_simp) ?_
          have hn : RS3 B W0 W3 e0 e1 e2 [] [] [] := by rw [hwW3, he2]; exact HR.out.al2
          clear HR hwW3 he2
          have HR := Aside.mk hn
          clear hn
          refine hK.out _ _ (HH.out HR.out.bel) (fun hHeld => ?_)
          clear hK K9
          refine norm_ (a' := ?_) ?_ ?_
          rotate_left
          · show Act.put _ (some 20) _ = _
            simp only [Act.put, List.setIfInBounds_toArray, List.set_cons_zero, List.set_cons_succ]
            rfl
          refine one_ (i := 3) (N := (some 15)) #[true, true, true, true, true, true, true, false, true, true, true, false, false, false, false] rfl rfl (one_of HT_.out (by kernel_rfl)) (by decide) (fun K9 hK => ?_)
          refine Kd.R_append_rows_step Kd.string (Rr := Kd.string.K W3) (w0 := W0) B (by rfl) _ _ 29 9 (.string (ByteArray.mk #[])) 16 rfl Try.underlying29 str_info rfl (by decide) (by decide) e0 [] l3 A3 n0 c3 (fun _ => True) (fun _ => False) rfl rfl HR.out.r0 (Kd.C_below HS0.out (HR.out.bel)) (kM0 W3) (fun _ h => h.elim) (fun _ _ => trivial) HR.out.bel' HR.out.base (by simp only [List.length_nil, Nat.zero_add]; omega) ?_
          rintro V0 W4 hr hb hg -
          rw [List.nil_append] at hr
          have hn : RS3 B W0 W4 V0 e1 e2 l3 [] [] := HR.out.ap0 hr hb hg
          clear HR hr hb hg
          have HR := Aside.mk hn
          clear hn
          refine hK.out _ _ (HH.out HR.out.bel) (fun hHeld => ?_)
          clear hK K9
          refine norm_ (a' := ?_) ?_ ?_
          rotate_left
          · show Act.put _ (some 15) _ = _
            simp only [Act.put, List.setIfInBounds_toArray, List.set_cons_zero, List.set_cons_succ]
            rfl
          refine one_ (i := 7) (N := (some 19)) #[true, true, true, true, true, true, true, true, true, true, true, false, false, false, false] rfl rfl (one_of HT_.out (by kernel_rfl)) (by decide) (fun K9 hK => ?_)
          refine Kd.R_append_rows_step k46 (Rr := k46.K W4) (w0 := W0) B (by rfl) _ _ 30 46 (.agg #[.string (ByteArray.mk #[]), .string (ByteArray.mk #[]), .int .i64 0, .int .i64 0]) 48 rfl Try.underlying30 ent_info rfl (by decide) (by decide) e1 [] l4 A4 n1 c4 (fun _ => True) (fun _ => False) rfl rfl HR.out.r1 (Kd.C_below HS1.out (HR.out.bel)) (kM1 W4) (fun _ h => h.elim) (fun _ _ => trivial) HR.out.bel' HR.out.base (by simp only [List.length_nil, Nat.zero_add]; omega) ?_
          rintro V1 W5 hr hb hg -
          rw [List.nil_append] at hr
          have hn : RS3 B W0 W5 V0 V1 e2 l3 l4 [] := HR.out.ap1 hr hb hg
          clear HR hr hb hg
          have HR := Aside.mk hn
          clear hn
          refine hK.out _ _ (HH.out HR.out.bel) (fun hHeld => ?_)
          clear hK K9
          refine norm_ (a' := ?_) ?_ ?_
          rotate_left
          · show Act.put _ (some 19) _ = _
            simp only [Act.put, List.setIfInBounds_toArray, List.set_cons_zero, List.set_cons_succ]
            rfl
          refine one_ (i := 11) (N := (some 23)) #[true, true, true, true, true, true, true, true, true, true, true, true, false, false, false] rfl rfl (one_of HT_.out (by kernel_rfl)) (by decide) (fun K9 hK => ?_)
          refine Kd.R_append_rows_step k75 (Rr := k75.K W5) (w0 := W0) B (by rfl) _ _ 31 75 (.agg #[.int .i64 0, .bool false, .string (ByteArray.mk #[]), .string (ByteArray.mk #[])]) 48 rfl Try.underlying31 ev_info rfl (by decide) (by decide) e2 [] l5 A5 n2 c5 (fun _ => True) (fun _ => False) rfl rfl HR.out.r2 (Kd.C_below HS2.out (HR.out.bel)) (kM2 W5) (fun _ h => h.elim) (fun _ _ => trivial) HR.out.bel' HR.out.base (by simp only [List.length_nil, Nat.zero_add]; omega) ?_
          rintro V2 W6 hr hb hg -
          rw [List.nil_append] at hr
          have hn : RS3 B W0 W6 V0 V1 V2 l3 l4 l5 := HR.out.ap2 hr hb hg
          clear HR hr hb hg
          have HR := Aside.mk hn
          clear hn
          refine hK.out _ _ (HH.out HR.out.bel) (fun hHeld => ?_)
          clear hK K9
          refine norm_ (a' := ?_) ?_ ?_
          rotate_left
          · show Act.put _ (some 23) _ = _
            simp only [Act.put, List.setIfInBounds_toArray, List.set_cons_zero, List.set_cons_succ]
            rfl
          exact norm_ (by first | (simp only [putAll, Act.put, List.setIfInBounds_toArray, List.set_cons_zero, List.set_cons_succ]; done) | (simp only [putAll, Act.put, List.setIfInBounds_toArray, List.set_cons_zero, List.set_cons_succ]; rfl)) (hCont (e0, V0, e1, V1, e2, V2) _ HR.out)
      · skip
        obtain ⟨W2, hwW2⟩ : ∃ V, V = W1.alloc (.cells #[] 75 (0, 0)) := ⟨_, rfl⟩
        obtain ⟨e2, he2⟩ : ∃ V, V = Value.slice (some ⟨W1.heap.size, 0, none⟩) 0 0 := ⟨_, rfl⟩
        refine value_ (v := e2) (w1 := W2) (by rfl) rfl (by rw [hwW2, he2]; unfold execOp; go_simp) ?_
        have hn : RS3 B W0 W2 (.slice none 0 0) e1 e2 [] [] [] := by rw [hwW2, he2]; exact HR.out.al2
        clear HR hwW2 he2
        have HR := Aside.mk hn
        clear hn
        refine hK.out _ _ (HH.out HR.out.bel) (fun hHeld => ?_)
        clear hK K9
        refine norm_ (a' := ?_) ?_ ?_
        rotate_left
        · show Act.put _ (some 20) _ = _
          simp only [Act.put, List.setIfInBounds_toArray, List.set_cons_zero, List.set_cons_succ]
          rfl
        refine one_ (i := 0) (N := (some 12)) #[true, true, true, false, true, true, true, false, true, true, true, false, false, false, false] rfl rfl (one_of HT_.out (by kernel_rfl)) (by decide) (fun K9 hK => ?_)
        obtain ⟨W3, hwW3⟩ : ∃ V, V = W2.alloc (.cells #[] 9 (0, 0)) := ⟨_, rfl⟩
        obtain ⟨e0, he0⟩ : ∃ V, V = Value.slice (some ⟨W2.heap.size, 0, none⟩) 0 0 := ⟨_, rfl⟩
        refine value_ (v := e0) (w1 := W3) (by rfl) rfl (by rw [hwW3, he0]; unfold execOp; go_simp) ?_
        have hn : RS3 B W0 W3 e0 e1 e2 [] [] [] := by rw [hwW3, he0]; exact HR.out.al0
        clear HR hwW3 he0
        have HR := Aside.mk hn
        clear hn
        refine hK.out _ _ (HH.out HR.out.bel) (fun hHeld => ?_)
        clear hK K9
        refine norm_ (a' := ?_) ?_ ?_
        rotate_left
        · show Act.put _ (some 12) _ = _
          simp only [Act.put, List.setIfInBounds_toArray, List.set_cons_zero, List.set_cons_succ]
          rfl
        refine one_ (i := 3) (N := (some 15)) #[true, true, true, true, true, true, true, false, true, true, true, false, false, false, false] rfl rfl (one_of HT_.out (by kernel_rfl)) (by decide) (fun K9 hK => ?_)
        refine Kd.R_append_rows_step Kd.string (Rr := Kd.string.K W3) (w0 := W0) B (by rfl) _ _ 29 9 (.string (ByteArray.mk #[])) 16 rfl Try.underlying29 str_info rfl (by decide) (by decide) e0 [] l3 A3 n0 c3 (fun _ => True) (fun _ => False) rfl rfl HR.out.r0 (Kd.C_below HS0.out (HR.out.bel)) (kM0 W3) (fun _ h => h.elim) (fun _ _ => trivial) HR.out.bel' HR.out.base (by simp only [List.length_nil, Nat.zero_add]; omega) ?_
        rintro V0 W4 hr hb hg -
        rw [List.nil_append] at hr
        have hn : RS3 B W0 W4 V0 e1 e2 l3 [] [] := HR.out.ap0 hr hb hg
        clear HR hr hb hg
        have HR := Aside.mk hn
        clear hn
        refine hK.out _ _ (HH.out HR.out.bel) (fun hHeld => ?_)
        clear hK K9
        refine norm_ (a' := ?_) ?_ ?_
        rotate_left
        · show Act.put _ (some 15) _ = _
          simp only [Act.put, List.setIfInBounds_toArray, List.set_cons_zero, List.set_cons_succ]
          rfl
        refine one_ (i := 7) (N := (some 19)) #[true, true, true, true, true, true, true, true, true, true, true, false, false, false, false] rfl rfl (one_of HT_.out (by kernel_rfl)) (by decide) (fun K9 hK => ?_)
        refine Kd.R_append_rows_step k46 (Rr := k46.K W4) (w0 := W0) B (by rfl) _ _ 30 46 (.agg #[.string (ByteArray.mk #[]), .string (ByteArray.mk #[]), .int .i64 0, .int .i64 0]) 48 rfl Try.underlying30 ent_info rfl (by decide) (by decide) e1 [] l4 A4 n1 c4 (fun _ => True) (fun _ => False) rfl rfl HR.out.r1 (Kd.C_below HS1.out (HR.out.bel)) (kM1 W4) (fun _ h => h.elim) (fun _ _ => trivial) HR.out.bel' HR.out.base (by simp only [List.length_nil, Nat.zero_add]; omega) ?_
        rintro V1 W5 hr hb hg -
        rw [List.nil_append] at hr
        have hn : RS3 B W0 W5 V0 V1 e2 l3 l4 [] := HR.out.ap1 hr hb hg
        clear HR hr hb hg
        have HR := Aside.mk hn
        clear hn
        refine hK.out _ _ (HH.out HR.out.bel) (fun hHeld => ?_)
        clear hK K9
        refine norm_ (a' := ?_) ?_ ?_
        rotate_left
        · show Act.put _ (some 19) _ = _
          simp only [Act.put, List.setIfInBounds_toArray, List.set_cons_zero, List.set_cons_succ]
          rfl
        refine one_ (i := 11) (N := (some 23)) #[true, true, true, true, true, true, true, true, true, true, true, true, false, false, false] rfl rfl (one_of HT_.out (by kernel_rfl)) (by decide) (fun K9 hK => ?_)
        refine Kd.R_append_rows_step k75 (Rr := k75.K W5) (w0 := W0) B (by rfl) _ _ 31 75 (.agg #[.int .i64 0, .bool false, .string (ByteArray.mk #[]), .string (ByteArray.mk #[])]) 48 rfl Try.underlying31 ev_info rfl (by decide) (by decide) e2 [] l5 A5 n2 c5 (fun _ => True) (fun _ => False) rfl rfl HR.out.r2 (Kd.C_below HS2.out (HR.out.bel)) (kM2 W5) (fun _ h => h.elim) (fun _ _ => trivial) HR.out.bel' HR.out.base (by simp only [List.length_nil, Nat.zero_add]; omega) ?_
        rintro V2 W6 hr hb hg -
        rw [List.nil_append] at hr
        have hn : RS3 B W0 W6 V0 V1 V2 l3 l4 l5 := HR.out.ap2 hr hb hg
        clear HR hr hb hg
        have HR := Aside.mk hn
        clear hn
        refine hK.out _ _ (HH.out HR.out.bel) (fun hHeld => ?_)
        clear hK K9
        refine norm_ (a' := ?_) ?_ ?_
        rotate_left
        · show Act.put _ (some 23) _ = _
          simp only [Act.put, List.setIfInBounds_toArray, List.set_cons_zero, List.set_cons_succ]
          rfl
        exact norm_ (by first | (simp only [putAll, Act.put, List.setIfInBounds_toArray, List.set_cons_zero, List.set_cons_succ]; done) | (simp only [putAll, Act.put, List.setIfInBounds_toArray, List.set_cons_zero, List.set_cons_succ]; rfl)) (hCont (e0, V0, e1, V1, e2, V2) _ HR.out)
    · skip
      obtain ⟨W1, hwW1⟩ : ∃ V, V = W0.alloc (.cells #[] 75 (0, 0)) := ⟨_, rfl⟩
      obtain ⟨e2, he2⟩ : ∃ V, V = Value.slice (some ⟨W0.heap.size, 0, none⟩) 0 0 := ⟨_, rfl⟩
      refine value_ (v := e2) (w1 := W1) (by rfl) rfl (by rw [hwW1, he2]; unfold execOp; go_simp) ?_
      have hn : RS3 B W0 W1 (.slice none 0 0) (.slice none 0 0) e2 [] [] [] := by rw [hwW1, he2]; exact HR.out.al2
      clear HR hwW1 he2
      have HR := Aside.mk hn
      clear hn
      refine hK.out _ _ (HH.out HR.out.bel) (fun hHeld => ?_)
      clear hK K9
      refine norm_ (a' := ?_) ?_ ?_
      rotate_left
      · show Act.put _ (some 20) _ = _
        simp only [Act.put, List.setIfInBounds_toArray, List.set_cons_zero, List.set_cons_succ]
        rfl
      refine two_ (i := 0) (j := 4) (Ni := (some 12)) (Nj := (some 16)) #[true, true, true, false, false, true, true, false, true, true, true, false, false, false, false] #[false, true, true, false, true, true, true, false, true, true, true, false, false, false, false] rfl rfl rfl rfl (two_of HT_.out (by kernel_rfl)) (by decide) (by decide) (fun K9 hK => ?_) (fun K9 hK => ?_)
      · skip
        obtain ⟨W2, hwW2⟩ : ∃ V, V = W1.alloc (.cells #[] 9 (0, 0)) := ⟨_, rfl⟩
        obtain ⟨e0, he0⟩ : ∃ V, V = Value.slice (some ⟨W1.heap.size, 0, none⟩) 0 0 := ⟨_, rfl⟩
        refine value_ (v := e0) (w1 := W2) (by rfl) rfl (by rw [hwW2, he0]; unfold execOp; go_simp) ?_
        have hn : RS3 B W0 W2 e0 (.slice none 0 0) e2 [] [] [] := by rw [hwW2, he0]; exact HR.out.al0
        clear HR hwW2 he0
        have HR := Aside.mk hn
        clear hn
        refine hK.out _ _ (HH.out HR.out.bel) (fun hHeld => ?_)
        clear hK K9
        refine norm_ (a' := ?_) ?_ ?_
        rotate_left
        · show Act.put _ (some 12) _ = _
          simp only [Act.put, List.setIfInBounds_toArray, List.set_cons_zero, List.set_cons_succ]
          rfl
        refine two_ (i := 3) (j := 4) (Ni := (some 15)) (Nj := (some 16)) #[true, true, true, true, false, true, true, false, true, true, true, false, false, false, false] #[true, true, true, false, true, true, true, false, true, true, true, false, false, false, false] rfl rfl rfl rfl (two_of HT_.out (by kernel_rfl)) (by decide) (by decide) (fun K9 hK => ?_) (fun K9 hK => ?_)
        · skip
          refine Kd.R_append_rows_step Kd.string (Rr := Kd.string.K W2) (w0 := W0) B (by rfl) _ _ 29 9 (.string (ByteArray.mk #[])) 16 rfl Try.underlying29 str_info rfl (by decide) (by decide) e0 [] l3 A3 n0 c3 (fun _ => True) (fun _ => False) rfl rfl HR.out.r0 (Kd.C_below HS0.out (HR.out.bel)) (kM0 W2) (fun _ h => h.elim) (fun _ _ => trivial) HR.out.bel' HR.out.base (by simp only [List.length_nil, Nat.zero_add]; omega) ?_
          rintro V0 W3 hr hb hg -
          rw [List.nil_append] at hr
          have hn : RS3 B W0 W3 V0 (.slice none 0 0) e2 l3 [] [] := HR.out.ap0 hr hb hg
          clear HR hr hb hg
          have HR := Aside.mk hn
          clear hn
          refine hK.out _ _ (HH.out HR.out.bel) (fun hHeld => ?_)
          clear hK K9
          refine norm_ (a' := ?_) ?_ ?_
          rotate_left
          · show Act.put _ (some 15) _ = _
            simp only [Act.put, List.setIfInBounds_toArray, List.set_cons_zero, List.set_cons_succ]
            rfl
          refine one_ (i := 4) (N := (some 16)) #[true, true, true, true, true, true, true, false, true, true, true, false, false, false, false] rfl rfl (one_of HT_.out (by kernel_rfl)) (by decide) (fun K9 hK => ?_)
          obtain ⟨W4, hwW4⟩ : ∃ V, V = W3.alloc (.cells #[] 46 (0, 0)) := ⟨_, rfl⟩
          obtain ⟨e1, he1⟩ : ∃ V, V = Value.slice (some ⟨W3.heap.size, 0, none⟩) 0 0 := ⟨_, rfl⟩
          refine value_ (v := e1) (w1 := W4) (by rfl) rfl (by rw [hwW4, he1]; unfold execOp; go_simp) ?_
          have hn : RS3 B W0 W4 V0 e1 e2 l3 [] [] := by rw [hwW4, he1]; exact HR.out.al1
          clear HR hwW4 he1
          have HR := Aside.mk hn
          clear hn
          refine hK.out _ _ (HH.out HR.out.bel) (fun hHeld => ?_)
          clear hK K9
          refine norm_ (a' := ?_) ?_ ?_
          rotate_left
          · show Act.put _ (some 16) _ = _
            simp only [Act.put, List.setIfInBounds_toArray, List.set_cons_zero, List.set_cons_succ]
            rfl
          refine one_ (i := 7) (N := (some 19)) #[true, true, true, true, true, true, true, true, true, true, true, false, false, false, false] rfl rfl (one_of HT_.out (by kernel_rfl)) (by decide) (fun K9 hK => ?_)
          refine Kd.R_append_rows_step k46 (Rr := k46.K W4) (w0 := W0) B (by rfl) _ _ 30 46 (.agg #[.string (ByteArray.mk #[]), .string (ByteArray.mk #[]), .int .i64 0, .int .i64 0]) 48 rfl Try.underlying30 ent_info rfl (by decide) (by decide) e1 [] l4 A4 n1 c4 (fun _ => True) (fun _ => False) rfl rfl HR.out.r1 (Kd.C_below HS1.out (HR.out.bel)) (kM1 W4) (fun _ h => h.elim) (fun _ _ => trivial) HR.out.bel' HR.out.base (by simp only [List.length_nil, Nat.zero_add]; omega) ?_
          rintro V1 W5 hr hb hg -
          rw [List.nil_append] at hr
          have hn : RS3 B W0 W5 V0 V1 e2 l3 l4 [] := HR.out.ap1 hr hb hg
          clear HR hr hb hg
          have HR := Aside.mk hn
          clear hn
          refine hK.out _ _ (HH.out HR.out.bel) (fun hHeld => ?_)
          clear hK K9
          refine norm_ (a' := ?_) ?_ ?_
          rotate_left
          · show Act.put _ (some 19) _ = _
            simp only [Act.put, List.setIfInBounds_toArray, List.set_cons_zero, List.set_cons_succ]
            rfl
          refine one_ (i := 11) (N := (some 23)) #[true, true, true, true, true, true, true, true, true, true, true, true, false, false, false] rfl rfl (one_of HT_.out (by kernel_rfl)) (by decide) (fun K9 hK => ?_)
          refine Kd.R_append_rows_step k75 (Rr := k75.K W5) (w0 := W0) B (by rfl) _ _ 31 75 (.agg #[.int .i64 0, .bool false, .string (ByteArray.mk #[]), .string (ByteArray.mk #[])]) 48 rfl Try.underlying31 ev_info rfl (by decide) (by decide) e2 [] l5 A5 n2 c5 (fun _ => True) (fun _ => False) rfl rfl HR.out.r2 (Kd.C_below HS2.out (HR.out.bel)) (kM2 W5) (fun _ h => h.elim) (fun _ _ => trivial) HR.out.bel' HR.out.base (by simp only [List.length_nil, Nat.zero_add]; omega) ?_
          rintro V2 W6 hr hb hg -
          rw [List.nil_append] at hr
          have hn : RS3 B W0 W6 V0 V1 V2 l3 l4 l5 := HR.out.ap2 hr hb hg
          clear HR hr hb hg
          have HR := Aside.mk hn
          clear hn
          refine hK.out _ _ (HH.out HR.out.bel) (fun hHeld => ?_)
          clear hK K9
          refine norm_ (a' := ?_) ?_ ?_
          rotate_left
          · show Act.put _ (some 23) _ = _
            simp only [Act.put, List.setIfInBounds_toArray, List.set_cons_zero, List.set_cons_succ]
            rfl
          exact norm_ (by first | (simp only [putAll, Act.put, List.setIfInBounds_toArray, List.set_cons_zero, List.set_cons_succ]; done) | (simp only [putAll, Act.put, List.setIfInBounds_toArray, List.set_cons_zero, List.set_cons_succ]; rfl)) (hCont (e0, V0, e1, V1, e2, V2) _ HR.out)
        · skip
          obtain ⟨W3, hwW3⟩ : ∃ V, V = W2.alloc (.cells #[] 46 (0, 0)) := ⟨_, rfl⟩
          obtain ⟨e1, he1⟩ : ∃ V, V = Value.slice (some ⟨W2.heap.size, 0, none⟩) 0 0 := ⟨_, rfl⟩
          refine value_ (v := e1) (w1 := W3) (by rfl) rfl (by rw [hwW3, he1]; unfold execOp; go_simp) ?_
          have hn : RS3 B W0 W3 e0 e1 e2 [] [] [] := by rw [hwW3, he1]; exact HR.out.al1
          clear HR hwW3 he1
          have HR := Aside.mk hn
          clear hn
          refine hK.out _ _ (HH.out HR.out.bel) (fun hHeld => ?_)
          clear hK K9
          refine norm_ (a' := ?_) ?_ ?_
          rotate_left
          · show Act.put _ (some 16) _ = _
            simp only [Act.put, List.setIfInBounds_toArray, List.set_cons_zero, List.set_cons_succ]
            rfl
          refine one_ (i := 3) (N := (some 15)) #[true, true, true, true, true, true, true, false, true, true, true, false, false, false, false] rfl rfl (one_of HT_.out (by kernel_rfl)) (by decide) (fun K9 hK => ?_)
          refine Kd.R_append_rows_step Kd.string (Rr := Kd.string.K W3) (w0 := W0) B (by rfl) _ _ 29 9 (.string (ByteArray.mk #[])) 16 rfl Try.underlying29 str_info rfl (by decide) (by decide) e0 [] l3 A3 n0 c3 (fun _ => True) (fun _ => False) rfl rfl HR.out.r0 (Kd.C_below HS0.out (HR.out.bel)) (kM0 W3) (fun _ h => h.elim) (fun _ _ => trivial) HR.out.bel' HR.out.base (by simp only [List.length_nil, Nat.zero_add]; omega) ?_
          rintro V0 W4 hr hb hg -
          rw [List.nil_append] at hr
          have hn : RS3 B W0 W4 V0 e1 e2 l3 [] [] := HR.out.ap0 hr hb hg
          clear HR hr hb hg
          have HR := Aside.mk hn
          clear hn
          refine hK.out _ _ (HH.out HR.out.bel) (fun hHeld => ?_)
          clear hK K9
          refine norm_ (a' := ?_) ?_ ?_
          rotate_left
          · show Act.put _ (some 15) _ = _
            simp only [Act.put, List.setIfInBounds_toArray, List.set_cons_zero, List.set_cons_succ]
            rfl
          refine one_ (i := 7) (N := (some 19)) #[true, true, true, true, true, true, true, true, true, true, true, false, false, false, false] rfl rfl (one_of HT_.out (by kernel_rfl)) (by decide) (fun K9 hK => ?_)
          refine Kd.R_append_rows_step k46 (Rr := k46.K W4) (w0 := W0) B (by rfl) _ _ 30 46 (.agg #[.string (ByteArray.mk #[]), .string (ByteArray.mk #[]), .int .i64 0, .int .i64 0]) 48 rfl Try.underlying30 ent_info rfl (by decide) (by decide) e1 [] l4 A4 n1 c4 (fun _ => True) (fun _ => False) rfl rfl HR.out.r1 (Kd.C_below HS1.out (HR.out.bel)) (kM1 W4) (fun _ h => h.elim) (fun _ _ => trivial) HR.out.bel' HR.out.base (by simp only [List.length_nil, Nat.zero_add]; omega) ?_
          rintro V1 W5 hr hb hg -
          rw [List.nil_append] at hr
          have hn : RS3 B W0 W5 V0 V1 e2 l3 l4 [] := HR.out.ap1 hr hb hg
          clear HR hr hb hg
          have HR := Aside.mk hn
          clear hn
          refine hK.out _ _ (HH.out HR.out.bel) (fun hHeld => ?_)
          clear hK K9
          refine norm_ (a' := ?_) ?_ ?_
          rotate_left
          · show Act.put _ (some 19) _ = _
            simp only [Act.put, List.setIfInBounds_toArray, List.set_cons_zero, List.set_cons_succ]
            rfl
          refine one_ (i := 11) (N := (some 23)) #[true, true, true, true, true, true, true, true, true, true, true, true, false, false, false] rfl rfl (one_of HT_.out (by kernel_rfl)) (by decide) (fun K9 hK => ?_)
          refine Kd.R_append_rows_step k75 (Rr := k75.K W5) (w0 := W0) B (by rfl) _ _ 31 75 (.agg #[.int .i64 0, .bool false, .string (ByteArray.mk #[]), .string (ByteArray.mk #[])]) 48 rfl Try.underlying31 ev_info rfl (by decide) (by decide) e2 [] l5 A5 n2 c5 (fun _ => True) (fun _ => False) rfl rfl HR.out.r2 (Kd.C_below HS2.out (HR.out.bel)) (kM2 W5) (fun _ h => h.elim) (fun _ _ => trivial) HR.out.bel' HR.out.base (by simp only [List.length_nil, Nat.zero_add]; omega) ?_
          rintro V2 W6 hr hb hg -
          rw [List.nil_append] at hr
          have hn : RS3 B W0 W6 V0 V1 V2 l3 l4 l5 := HR.out.ap2 hr hb hg
          clear HR hr hb hg
          have HR := Aside.mk hn
          clear hn
          refine hK.out _ _ (HH.out HR.out.bel) (fun hHeld => ?_)
          clear hK K9
          refine norm_ (a' := ?_) ?_ ?_
          rotate_left
          · show Act.put _ (some 23) _ = _
            simp only [Act.put, List.setIfInBounds_toArray, List.set_cons_zero, List.set_cons_succ]
            rfl
          exact norm_ (by first | (simp only [putAll, Act.put, List.setIfInBounds_toArray, List.set_cons_zero, List.set_cons_succ]; done) | (simp only [putAll, Act.put, List.setIfInBounds_toArray, List.set_cons_zero, List.set_cons_succ]; rfl)) (hCont (e0, V0, e1, V1, e2, V2) _ HR.out)
      · skip
        obtain ⟨W2, hwW2⟩ : ∃ V, V = W1.alloc (.cells #[] 46 (0, 0)) := ⟨_, rfl⟩
        obtain ⟨e1, he1⟩ : ∃ V, V = Value.slice (some ⟨W1.heap.size, 0, none⟩) 0 0 := ⟨_, rfl⟩
        refine value_ (v := e1) (w1 := W2) (by rfl) rfl (by rw [hwW2, he1]; unfold execOp; go_simp) ?_
        have hn : RS3 B W0 W2 (.slice none 0 0) e1 e2 [] [] [] := by rw [hwW2, he1]; exact HR.out.al1
        clear HR hwW2 he1
        have HR := Aside.mk hn
        clear hn
        refine hK.out _ _ (HH.out HR.out.bel) (fun hHeld => ?_)
        clear hK K9
        refine norm_ (a' := ?_) ?_ ?_
        rotate_left
        · show Act.put _ (some 16) _ = _
          simp only [Act.put, List.setIfInBounds_toArray, List.set_cons_zero, List.set_cons_succ]
          rfl
        refine one_ (i := 0) (N := (some 12)) #[true, true, true, false, true, true, true, false, true, true, true, false, false, false, false] rfl rfl (one_of HT_.out (by kernel_rfl)) (by decide) (fun K9 hK => ?_)
        obtain ⟨W3, hwW3⟩ : ∃ V, V = W2.alloc (.cells #[] 9 (0, 0)) := ⟨_, rfl⟩
        obtain ⟨e0, he0⟩ : ∃ V, V = Value.slice (some ⟨W2.heap.size, 0, none⟩) 0 0 := ⟨_, rfl⟩
        refine value_ (v := e0) (w1 := W3) (by rfl) rfl (by rw [hwW3, he0]; unfold execOp; go_simp) ?_
        have hn : RS3 B W0 W3 e0 e1 e2 [] [] [] := by rw [hwW3, he0]; exact HR.out.al0
        clear HR hwW3 he0
        have HR := Aside.mk hn
        clear hn
        refine hK.out _ _ (HH.out HR.out.bel) (fun hHeld => ?_)
        clear hK K9
        refine norm_ (a' := ?_) ?_ ?_
        rotate_left
        · show Act.put _ (some 12) _ = _
          simp only [Act.put, List.setIfInBounds_toArray, List.set_cons_zero, List.set_cons_succ]
          rfl
        refine one_ (i := 3) (N := (some 15)) #[true, true, true, true, true, true, true, false, true, true, true, false, false, false, false] rfl rfl (one_of HT_.out (by kernel_rfl)) (by decide) (fun K9 hK => ?_)
        refine Kd.R_append_rows_step Kd.string (Rr := Kd.string.K W3) (w0 := W0) B (by rfl) _ _ 29 9 (.string (ByteArray.mk #[])) 16 rfl Try.underlying29 str_info rfl (by decide) (by decide) e0 [] l3 A3 n0 c3 (fun _ => True) (fun _ => False) rfl rfl HR.out.r0 (Kd.C_below HS0.out (HR.out.bel)) (kM0 W3) (fun _ h => h.elim) (fun _ _ => trivial) HR.out.bel' HR.out.base (by simp only [List.length_nil, Nat.zero_add]; omega) ?_
        rintro V0 W4 hr hb hg -
        rw [List.nil_append] at hr
        have hn : RS3 B W0 W4 V0 e1 e2 l3 [] [] := HR.out.ap0 hr hb hg
        clear HR hr hb hg
        have HR := Aside.mk hn
        clear hn
        refine hK.out _ _ (HH.out HR.out.bel) (fun hHeld => ?_)
        clear hK K9
        refine norm_ (a' := ?_) ?_ ?_
        rotate_left
        · show Act.put _ (some 15) _ = _
          simp only [Act.put, List.setIfInBounds_toArray, List.set_cons_zero, List.set_cons_succ]
          rfl
        refine one_ (i := 7) (N := (some 19)) #[true, true, true, true, true, true, true, true, true, true, true, false, false, false, false] rfl rfl (one_of HT_.out (by kernel_rfl)) (by decide) (fun K9 hK => ?_)
        refine Kd.R_append_rows_step k46 (Rr := k46.K W4) (w0 := W0) B (by rfl) _ _ 30 46 (.agg #[.string (ByteArray.mk #[]), .string (ByteArray.mk #[]), .int .i64 0, .int .i64 0]) 48 rfl Try.underlying30 ent_info rfl (by decide) (by decide) e1 [] l4 A4 n1 c4 (fun _ => True) (fun _ => False) rfl rfl HR.out.r1 (Kd.C_below HS1.out (HR.out.bel)) (kM1 W4) (fun _ h => h.elim) (fun _ _ => trivial) HR.out.bel' HR.out.base (by simp only [List.length_nil, Nat.zero_add]; omega) ?_
        rintro V1 W5 hr hb hg -
        rw [List.nil_append] at hr
        have hn : RS3 B W0 W5 V0 V1 e2 l3 l4 [] := HR.out.ap1 hr hb hg
        clear HR hr hb hg
        have HR := Aside.mk hn
        clear hn
        refine hK.out _ _ (HH.out HR.out.bel) (fun hHeld => ?_)
        clear hK K9
        refine norm_ (a' := ?_) ?_ ?_
        rotate_left
        · show Act.put _ (some 19) _ = _
          simp only [Act.put, List.setIfInBounds_toArray, List.set_cons_zero, List.set_cons_succ]
          rfl
        refine one_ (i := 11) (N := (some 23)) #[true, true, true, true, true, true, true, true, true, true, true, true, false, false, false] rfl rfl (one_of HT_.out (by kernel_rfl)) (by decide) (fun K9 hK => ?_)
        refine Kd.R_append_rows_step k75 (Rr := k75.K W5) (w0 := W0) B (by rfl) _ _ 31 75 (.agg #[.int .i64 0, .bool false, .string (ByteArray.mk #[]), .string (ByteArray.mk #[])]) 48 rfl Try.underlying31 ev_info rfl (by decide) (by decide) e2 [] l5 A5 n2 c5 (fun _ => True) (fun _ => False) rfl rfl HR.out.r2 (Kd.C_below HS2.out (HR.out.bel)) (kM2 W5) (fun _ h => h.elim) (fun _ _ => trivial) HR.out.bel' HR.out.base (by simp only [List.length_nil, Nat.zero_add]; omega) ?_
        rintro V2 W6 hr hb hg -
        rw [List.nil_append] at hr
        have hn : RS3 B W0 W6 V0 V1 V2 l3 l4 l5 := HR.out.ap2 hr hb hg
        clear HR hr hb hg
        have HR := Aside.mk hn
        clear hn
        refine hK.out _ _ (HH.out HR.out.bel) (fun hHeld => ?_)
        clear hK K9
        refine norm_ (a' := ?_) ?_ ?_
        rotate_left
        · show Act.put _ (some 23) _ = _
          simp only [Act.put, List.setIfInBounds_toArray, List.set_cons_zero, List.set_cons_succ]
          rfl
        exact norm_ (by first | (simp only [putAll, Act.put, List.setIfInBounds_toArray, List.set_cons_zero, List.set_cons_succ]; done) | (simp only [putAll, Act.put, List.setIfInBounds_toArray, List.set_cons_zero, List.set_cons_succ]; rfl)) (hCont (e0, V0, e1, V1, e2, V2) _ HR.out)
  rintro ⟨e0, V0, e1, V1, e2, V2⟩ W6 hRS
  have HR := Aside.mk hRS
  have hHeld := HH.out HR.out.bel
  clear hRS
  refine norm_ (a' := ?_) ?_ ?_
  rotate_left
  · simp only [putAll, Act.put, List.setIfInBounds_toArray, List.set_cons_zero, List.set_cons_succ]
    rfl
  refine pure_ (i := 12) (N := (some 5)) (v := ?_) (a' := ?_) #[true, true, true, true, true, true, true, true, true, true, true, true, true, false, false] rfl rfl (any_of HT_.out (by kernel_rfl)) (fun _ _ _ h => h) (Or.inl ⟨by rfl, ?_⟩) ?_ ?_
  rotate_left
  · intro w'
    go_simp
    with_reducible rfl
  rotate_left
  · simp only [Act.put, List.setIfInBounds_toArray, List.set_cons_zero, List.set_cons_succ, i64_w, i32_w]
    rfl
  refine pure_ (i := 13) (N := (some 6)) (v := ?_) (a' := ?_) #[true, true, true, true, true, true, true, true, true, true, true, true, true, true, false] rfl rfl (any_of HT_.out (by kernel_rfl)) (fun _ _ _ h => h) (Or.inl ⟨by rfl, ?_⟩) ?_ ?_
  rotate_left
  · intro w'
    go_simp
    with_reducible rfl
  rotate_left
  · simp only [Act.put, List.setIfInBounds_toArray, List.set_cons_zero, List.set_cons_succ, i64_w, i32_w]
    rfl
  refine pure_ (i := 14) (N := (some 7)) (v := ?_) (a' := ?_) #[true, true, true, true, true, true, true, true, true, true, true, true, true, true, true] rfl rfl (any_of HT_.out (by kernel_rfl)) (fun _ _ _ h => h) (Or.inl ⟨by rfl, ?_⟩) ?_ ?_
  rotate_left
  · intro w'
    go_simp
    with_reducible rfl
  rotate_left
  · simp only [Act.put, List.setIfInBounds_toArray, List.set_cons_zero, List.set_cons_succ, i64_w, i32_w]
    rfl
  refine done_ (done_of HT_.out (by kernel_rfl)) ?_
  clear HT_ HW_ hHeld
  clear t0
  obtain ⟨AA, ca, hVa, hca, hCa⟩ := Kd.R_reads HR.out.r0
  obtain ⟨AB, cb, hVb, hcb, hCb⟩ := Kd.R_reads HR.out.r1
  obtain ⟨AC, cc, hVc, hcc, hCc⟩ := Kd.R_reads HR.out.r2
  have hoA := fun k hk => Kd.R_base HR.out.r0 k hk
  have hoB := fun k hk => Kd.R_base HR.out.r1 k hk
  have hoC := fun k hk => Kd.R_base HR.out.r2 k hk
  have hbW6 := hbW.trans (HR.out.bel.mono hbW.size)
  have hC6 := H0.out.1.below hbW6
  have hBw : w.heap.size ≤ B := by rw [← hB]; exact hbW.size
  have hb6 := HR.out.bel
  have hE6 := (hb6.block b0 (lt_of_block hE0)).trans hE0
  have e0 : W6.cell? ⟨b0, 0, none⟩ = some (.int .u8 what) := cell_at hE6 0
  have e1 : W6.cell? ⟨b0, 1, none⟩ = some (.int .i64 fr) := cell_at hE6 1
  have e2 : W6.cell? ⟨b0, 2, none⟩ = some (.int .i64 rev) := cell_at hE6 2
  subst hVa hVb hVc
  obtain ⟨iA, hIA⟩ := Kd.R_own HR.out.r0
  obtain ⟨iB, hIB⟩ := Kd.R_own HR.out.r1
  obtain ⟨iC, hIC⟩ := Kd.R_own HR.out.r2
  have HW6 : Aside (RW3 B W6 W6 AA AB AC l3.length l4.length l5.length) := ⟨⟨ROWW.of hIA, ROWW.of hIB, ROWW.of hIC, Fr.refl _ _⟩⟩
  have hadr : ∀ {ad : Addr}, B ≤ ad.block → ad.block ≠ C ∧ ad.block ≠ M := fun hh => ⟨by omega, by omega⟩
  have HQ := Aside.mk (And.intro hC6 (And.intro hCa (And.intro hCb (And.intro hCc (And.intro hca (And.intro hcb hcc))))))
  have HQA : Aside ((∀ ad, AA = some ad → ad.block ≠ C ∧ ad.block ≠ M) ∧ (∀ ad, AB = some ad → ad.block ≠ C ∧ ad.block ≠ M) ∧ (∀ ad, AC = some ad → ad.block ≠ C ∧ ad.block ≠ M)) := ⟨⟨fun ad h => hadr (own_addr hIA ad h), fun ad h => hadr (own_addr hIB ad h), fun ad h => hadr (own_addr hIC ad h)⟩⟩
  have hFw6 : Fr (fun k => k = C ∨ k = M) w W6 := Fr.of_new hbW6
  have HF6 := Aside.mk hFw6
  have hl3 : l3.length ≤ 300 := by rw [HN.out.1]; exact h3
  have hl4 : l4.length ≤ 300 := by rw [HN.out.2.1]; exact h4
  have hl5 : l5.length ≤ 300 := by rw [HN.out.2.2]; exact h5
  obtain ⟨m0, hm0⟩ : ∃ m, l3.length = m := ⟨_, rfl⟩
  obtain ⟨m1, hm1⟩ : ∃ m, l4.length = m := ⟨_, rfl⟩
  obtain ⟨m2, hm2⟩ : ∃ m, l5.length = m := ⟨_, rfl⟩
  have HM := Aside.mk (And.intro hm0 (And.intro hm1 hm2))
  rw [hm0] at HW6 hl3 ⊢
  rw [hm1] at HW6 hl4 ⊢
  rw [hm2] at HW6 hl5 ⊢
  clear hIA hIB hIC hC6 hCa hCb hCc hca hcb hcc hoA hoB hoC hbW6 hFw6 HR HS0 HS1 HS2 hE hE0 hE6 hbW hbE HH hHeld hb6 hm0 hm1 hm2 hadr hW0 hwb hs1
  go_upto_block 0 with fail
  go_cut [8] from 24 to 47 (fun x wr => x = .int .i64 T.2 ∧ Aside (CA wr C M T.1.1 T.1.2 ∧ Fr (fun k => k = C ∨ k = M) w wr ∧ Fr (fun k => k = C ∨ k = M) W6 wr))
  case first =>
    by_cases hw0 : what = 0
    · have hw0b : (what == 0) = true := by rw [hw0]; rfl
      have HT2 : Aside (listM f u rev l4 = T) := ⟨by have := HT.out; rw [if_pos hw0] at this; exact this⟩
      have hcall := list_calls C M f u rev AB cb l4 W6 HQ.out.1 HQ.out.2.2.1 HQ.out.2.2.2.2.2.1 (by rw [HM.out.2.1]; omega) H0.out.2.2.2.2.1 HQA.out.2.1
      rw [HT2.out, HM.out.2.1] at hcall
      clear hw0 HT
      go_wp2_with fail
      refine hcall.mono ?_
      rintro e w7 ⟨rfl, hC7, hF7⟩
      have H7 := Aside.mk (And.intro hC7 (And.intro (HF6.out.trans hF7 (fun _ _ h => h)) hF7))
      clear hC7 hF7
      go_wp2_with fail
      go_meet
      exact ⟨rfl, H7⟩
    · have hw0b : (what == 0) = false := by rw [beq_eq_false_iff_ne]; exact hw0
      by_cases hw1 : what = 1
      · have hw1b : (what == 1) = true := by rw [hw1]; rfl
        have HT2 : Aside (watchM f u fr rev l5 = T) := ⟨by have := HT.out; rw [if_neg hw0, if_pos hw1] at this; exact this⟩
        have hcall := watch_calls C M f u fr rev AC cc l5 W6 HQ.out.1 HQ.out.2.2.2.1 HQ.out.2.2.2.2.2.2 (by rw [HM.out.2.2]; omega) H0.out.2.2.2.2.2.1 H0.out.2.2.2.2.2.2 HQA.out.2.2
        rw [HT2.out, HM.out.2.2] at hcall
        clear hw0 hw1 HT
        go_wp2_with fail
        refine hcall.mono ?_
        rintro e w7 ⟨rfl, hC7, hF7⟩
        have H7 := Aside.mk (And.intro hC7 (And.intro (HF6.out.trans hF7 (fun _ _ h => h)) hF7))
        clear hC7 hF7
        go_wp2_with fail
        go_meet
        exact ⟨rfl, H7⟩
      · have hw1b : (what == 1) = false := by rw [beq_eq_false_iff_ne]; exact hw1
        have HT2 : Aside ((((learnM f u rev l3 l4).1, u), (learnM f u rev l3 l4).2) = T) := ⟨by have := HT.out; rw [if_neg hw0, if_neg hw1] at this; exact this⟩
        have hcall := learn_calls C M f u rev AA AB ca cb l3 l4 W6 HQ.out.1 HQ.out.2.1 HQ.out.2.2.2.2.1 (by rw [HM.out.1]; omega) HQ.out.2.2.1 HQ.out.2.2.2.2.2.1 (by rw [HM.out.2.1]; omega) H0.out.2.2.2.2.1 HQA.out.1 HQA.out.2.1
        rw [HM.out.1, HM.out.2.1, show (learnM f u rev l3 l4).2 = T.2 by rw [← HT2.out], show (learnM f u rev l3 l4).1 = T.1.1 by rw [← HT2.out], ] at hcall
        clear hw0 hw1 HT
        go_wp2_with fail
        refine hcall.mono ?_
        rintro e w7 ⟨rfl, hC7, hF7⟩
        have H7 : Aside (CA w7 C M T.1.1 T.1.2 ∧ Fr (fun k => k = C ∨ k = M) w w7 ∧ Fr (fun k => k = C ∨ k = M) W6 w7) := ⟨by rw [show T.1.2 = u by rw [← HT2.out]]; exact hC7, HF6.out.trans hF7 (fun _ _ h => h), hF7⟩
        clear hC7 hF7
        go_wp2_with fail
        go_meet
        exact ⟨rfl, H7⟩
  case rest =>
    obtain ⟨rfl, HCUT⟩ := hcut
    have hnF : ∀ k, B ≤ k → ¬ (k = C ∨ k = M) := fun k hk h => by omega
    have HI0 : Aside (RW3 B wc wc AA AB AC m0 m1 m2) := ⟨⟨HW6.out.a.fr HCUT.out.2.2 hnF, HW6.out.b.fr HCUT.out.2.2 hnF, HW6.out.c.fr HCUT.out.2.2 hnF, Fr.refl _ _⟩⟩
    clear HW6 HQ HQA HF6 hnF e0 e1 e2
    go_wp2_with fail
    go_loopw [9] (fun v9 wr => ∃ k : Nat, k ≤ m0 ∧ v9 = .int .i64 k ∧ Aside (RW3 B wc wr AA AB AC m0 m1 m2)) (fun v9 _ => m0 - (intOf v9).toNat)
    case atStart => exact ⟨0, by omega, rfl, HI0⟩
    case round =>
      rename_i v9 wr
      obtain ⟨k, hk, rfl, HI⟩ := hrel
      by_cases hkn : k < m0
      · obtain ⟨g, cur, hAg, hBg, hgb, hcs⟩ := HI.out.a (by omega)
        obtain ⟨vv0, c0'⟩ : ∃ v, wr.cell? ⟨g, k, none⟩ = some v := ⟨_, cellx hgb (i := k) (by omega)⟩
        have f0' : wr.frozen? ⟨g, k, none⟩ = false := free_at hgb _
        have HN2 : Aside (RW3 B wc (wr.setCell ⟨g, k, none⟩ (.string (ByteArray.mk #[115, 112, 111, 105, 108, 116]))) AA AB AC m0 m1 m2) := ⟨(HI.out.set ⟨g, k, none⟩ hBg (.string (ByteArray.mk #[115, 112, 111, 105, 108, 116])))⟩
        subst hAg
        clear HI hgb hcs
        go_wp2_with fail
        go_roundw
        case rel => exact ⟨k + 1, by omega, by go_num, HN2⟩
        case measure => simp [intOf]; omega
      · obtain rfl : m0 = k := by omega
        have HI1 := HI
        clear HI
        go_wp2_with fail
        go_loopw [10] (fun v10 wr => ∃ k : Nat, k ≤ m1 ∧ v10 = .int .i64 k ∧ Aside (RW3 B wc wr AA AB AC m0 m1 m2)) (fun v10 _ => m1 - (intOf v10).toNat)
        case atStart => exact ⟨0, by omega, rfl, HI1⟩
        case round =>
          rename_i v10 wr
          obtain ⟨k, hk, rfl, HI⟩ := hrel
          by_cases hkn : k < m1
          · obtain ⟨g, cur, hAg, hBg, hgb, hcs⟩ := HI.out.b (by omega)
            obtain ⟨vv0, c0'⟩ : ∃ v, wr.cell? ⟨g, k * 4, none⟩ = some v := ⟨_, cellx hgb (i := k * 4) (by omega)⟩
            have f0' : wr.frozen? ⟨g, k * 4, none⟩ = false := free_at hgb _
            obtain ⟨vv1, c1'⟩ : ∃ v, wr.cell? ⟨g, k * 4 + 1, none⟩ = some v := ⟨_, cellx hgb (i := k * 4 + 1) (by omega)⟩
            have f1' : wr.frozen? ⟨g, k * 4 + 1, none⟩ = false := free_at hgb _
            obtain ⟨vv2, c2'⟩ : ∃ v, wr.cell? ⟨g, k * 4 + 2, none⟩ = some v := ⟨_, cellx hgb (i := k * 4 + 2) (by omega)⟩
            have f2' : wr.frozen? ⟨g, k * 4 + 2, none⟩ = false := free_at hgb _
            obtain ⟨vv3, c3'⟩ : ∃ v, wr.cell? ⟨g, k * 4 + 3, none⟩ = some v := ⟨_, cellx hgb (i := k * 4 + 3) (by omega)⟩
            have f3' : wr.frozen? ⟨g, k * 4 + 3, none⟩ = false := free_at hgb _
            have HN2 : Aside (RW3 B wc ((((wr.setCell ⟨g, k * 4, none⟩ (.string (ByteArray.mk #[115, 112, 111, 105, 108, 116]))).setCell ⟨g, k * 4 + 1, none⟩ (.string (ByteArray.mk #[]))).setCell ⟨g, k * 4 + 2, none⟩ (.int .i64 0)).setCell ⟨g, k * 4 + 3, none⟩ (.int .i64 0)) AA AB AC m0 m1 m2) := ⟨((((HI.out.set ⟨g, k * 4, none⟩ hBg (.string (ByteArray.mk #[115, 112, 111, 105, 108, 116]))).set ⟨g, k * 4 + 1, none⟩ hBg (.string (ByteArray.mk #[]))).set ⟨g, k * 4 + 2, none⟩ hBg (.int .i64 0)).set ⟨g, k * 4 + 3, none⟩ hBg (.int .i64 0))⟩
            subst hAg
            clear HI hgb hcs
            go_wp2_with fail
            go_roundw
            case rel => exact ⟨k + 1, by omega, by go_num, HN2⟩
            case measure => simp [intOf]; omega
          · obtain rfl : m1 = k := by omega
            have HI2 := HI
            clear HI
            go_wp2_with fail
            go_loopw [11] (fun v11 wr => ∃ k : Nat, k ≤ m2 ∧ v11 = .int .i64 k ∧ Aside (RW3 B wc wr AA AB AC m0 m1 m2)) (fun v11 _ => m2 - (intOf v11).toNat)
            case atStart => exact ⟨0, by omega, rfl, HI2⟩
            case round =>
              rename_i v11 wr
              obtain ⟨k, hk, rfl, HI⟩ := hrel
              by_cases hkn : k < m2
              · obtain ⟨g, cur, hAg, hBg, hgb, hcs⟩ := HI.out.c (by omega)
                obtain ⟨vv0, c0'⟩ : ∃ v, wr.cell? ⟨g, k * 4, none⟩ = some v := ⟨_, cellx hgb (i := k * 4) (by omega)⟩
                have f0' : wr.frozen? ⟨g, k * 4, none⟩ = false := free_at hgb _
                obtain ⟨vv1, c1'⟩ : ∃ v, wr.cell? ⟨g, k * 4 + 1, none⟩ = some v := ⟨_, cellx hgb (i := k * 4 + 1) (by omega)⟩
                have f1' : wr.frozen? ⟨g, k * 4 + 1, none⟩ = false := free_at hgb _
                obtain ⟨vv2, c2'⟩ : ∃ v, wr.cell? ⟨g, k * 4 + 2, none⟩ = some v := ⟨_, cellx hgb (i := k * 4 + 2) (by omega)⟩
                have f2' : wr.frozen? ⟨g, k * 4 + 2, none⟩ = false := free_at hgb _
                obtain ⟨vv3, c3'⟩ : ∃ v, wr.cell? ⟨g, k * 4 + 3, none⟩ = some v := ⟨_, cellx hgb (i := k * 4 + 3) (by omega)⟩
                have f3' : wr.frozen? ⟨g, k * 4 + 3, none⟩ = false := free_at hgb _
                have HN2 : Aside (RW3 B wc ((((wr.setCell ⟨g, k * 4, none⟩ (.int .i64 0)).setCell ⟨g, k * 4 + 1, none⟩ (.bool false)).setCell ⟨g, k * 4 + 2, none⟩ (.string (ByteArray.mk #[115, 112, 111, 105, 108, 116]))).setCell ⟨g, k * 4 + 3, none⟩ (.string (ByteArray.mk #[]))) AA AB AC m0 m1 m2) := ⟨((((HI.out.set ⟨g, k * 4, none⟩ hBg (.int .i64 0)).set ⟨g, k * 4 + 1, none⟩ hBg (.bool false)).set ⟨g, k * 4 + 2, none⟩ hBg (.string (ByteArray.mk #[115, 112, 111, 105, 108, 116]))).set ⟨g, k * 4 + 3, none⟩ hBg (.string (ByteArray.mk #[])))⟩
                subst hAg
                clear HI hgb hcs
                go_wp2_with fail
                go_roundw
                case rel => exact ⟨k + 1, by omega, by go_num, HN2⟩
                case measure => simp [intOf]; omega
              · obtain rfl : m2 = k := by omega
                have HI3 := HI
                clear HI
                go_wp2_with fail
                go_ret
                have hBC : ¬ B ≤ C := by omega
                have hBM : ¬ B ≤ M := by omega
                exact ⟨rfl, HCUT.out.1.fr HI3.out.fr hBC hBM, HCUT.out.2.1.then HI3.out.fr (fun i hi => .inr (by omega))⟩
end Go.Proofs.Ytagkobpbhfkmdaa.C
