/- The cache: List. -/
import Derived.Test.YtagkobpbhfkmdaaDF
namespace Go.Proofs.Ytagkobpbhfkmdaa.C
open Go.RowKit Go.ChangeMaps Go.Proofs.Ytagkobpbhfkmdaa.Q Go.Proofs.YtagkobpbhfkmdaaW.PrintLast Go.Proofs.YtagkobpbhfkmdaaW.PrintWords
set_option linter.unusedVariables false
set_option linter.unusedSimpArgs false
abbrev En := S46
def addL (rev : Int) (f : Fcts) (x : En) : Fcts := if (f x.f0).isSome then f else upd f x.f0 (some ⟨rev, true, ⟨x.f0, x.f1, x.f2, x.f3⟩⟩)
def listM (f : Fcts) (u rev : Int) (l : List En) : (Fcts × Int) × Int :=
  if ofOK l rev = true then (if rev ≤ u then ((f, u), 0) else ((l.foldl (addL rev) (dropM f rev), rev), 0)) else ((f, u), 4)
theorem rd_getE {l : List En} {k : Nat} {x : En} (h : l[k]? = some x) : rd_T46 l (k : Int) = x := by
  unfold rd_T46
  rw [Int.toNat_natCast, List.getD_eq_getElem?_getD, h]
  rfl
theorem Fr.set6 {F : Nat → Prop} {a w : World} (h : Fr F a w) {b : Nat} (hb : F b ∨ a.heap.size ≤ b) (v0 v1 v2 v3 v4 v5 : Value) : Fr F a ((((((w.setCell ⟨b, 0, none⟩ v0).setCell ⟨b, 1, none⟩ v1).setCell ⟨b, 2, none⟩ v2).setCell ⟨b, 3, none⟩ v3).setCell ⟨b, 4, none⟩ v4).setCell ⟨b, 5, none⟩ v5) := (((((h.setCell (p := ⟨b, 0, none⟩) hb _).setCell (p := ⟨b, 1, none⟩) hb _).setCell (p := ⟨b, 2, none⟩) hb _).setCell (p := ⟨b, 3, none⟩) hb _).setCell (p := ⟨b, 4, none⟩) hb _).setCell (p := ⟨b, 5, none⟩) hb _
def cl12T : Bool × List (List Nat × List Nat) := (true, [([], []), ([0], [0]), ([1], [1]), ([2], [2]), ([], []), ([4], [4]), ([3, 5], [3, 5]), ([6], [6]), ([7], [7]), ([7], [7]), ([], []), ([10, 8, 0, 1, 2, 3, 4, 5, 6, 7, 8, 10], [8, 10]), ([9, 11, 0, 1, 2, 3, 4, 5, 6, 7, 8, 9, 10, 11], [9])])
def cl12B : List Nat := [0, 1, 3, 7, 0, 16, 63, 127, 255, 255, 0, 1535, 4095]
theorem cl12_tab : rtab .any (opsOf Try.f24 12) = cl12T := by kernel_rfl
theorem cl12_bits : waitsOk cl12T.2 cl12B = true := by kernel_rfl
set_option maxHeartbeats 4000000 in
set_option maxRecDepth 100000 in
theorem list_calls (C M : Nat) (f : Fcts) (u rev : Int) (A : Option Addr) (c : Nat) (l : List En) (w : World) (h : CA w C M f u) (g : Kd.C k46 w A l.length l) (hlc : l.length ≤ c) (hl : l.length ≤ 1000000000) (hsz : ∀ x ∈ l, x.f0.size ≤ 100000) (hA : ∀ ad, A = some ad → ad.block ≠ C ∧ ad.block ≠ M) :
    Calls Try.prog 24 #[.pointer (some ⟨C, 0, none⟩), .slice A l.length c, .int .i64 rev] w fun e w' => e = .returned (.int .i64 (listM f u rev l).2) ∧ CA w' C M (listM f u rev l).1.1 (listM f u rev l).1.2 ∧ Fr (fun k => k = C ∨ k = M) w w' := by
  have hbA : Below w.heap.size w (w.alloc (Obj.cells #[Value.int IntKind.i64 rev] 2 (0, 0))) := (Below.refl _ _).alloc (Nat.le_refl _) _
  have hof := of_calls A c l rev _ (Kd.C_below g hbA) hlc hl (fun y hy => by have := hsz y hy; omega)
  have hR := heap_alloc_new w (Obj.cells #[Value.int IntKind.i64 rev] 2 (0, 0))
  have hA1 : (w.alloc (Obj.cells #[Value.int IntKind.i64 rev] 2 (0, 0))).heap.size = w.heap.size + 1 := by simp
  have HH := Aside.mk (And.intro h (And.intro g hA))
  obtain ⟨X, hX⟩ : ∃ X, listM f u rev l = X := ⟨_, rfl⟩
  rw [hX]
  unfold listM at hX
  have HX := Aside.mk hX
  obtain ⟨R, hRR⟩ : ∃ R, w.heap.size = R := ⟨_, rfl⟩
  rw [hRR] at hR hA1
  have hlC := h.ltC
  have hlM := h.ltM
  rw [hRR] at hlC hlM
  obtain ⟨n, hn⟩ : ∃ n, l.length = n := ⟨_, rfl⟩
  have HN := Aside.mk hn
  rw [hn] at hof hlc hl ⊢
  have HA := Aside.mk (And.intro hbA hR)
  have HS := Aside.mk hsz
  clear h g hA hX hn hsz
  go_enter Try.func24, Try.ntmps24
  go_wp2_with fail
  refine hof.mono ?_
  rintro e w1 ⟨hres, hb⟩
  have hb1 := HA.out.1.trans (hb.mono (by rw [hA1, hRR]; omega))
  have hR1 := (hb.block R (by rw [hA1]; omega)).trans HA.out.2
  have hC1 := HH.out.1.below hb1
  clear hof hb
  rcases hres with ⟨hok, Tb, v, rfl, -, -, -⟩ | ⟨hok, rfl⟩
  · have hx := HX.out
    rw [if_pos hok] at hx
    have r0 : w1.cell? ⟨C, 0, none⟩ = some (.map (some M)) := cell_at hC1.box 0
    have r1 : w1.cell? ⟨C, 1, none⟩ = some (.int .i64 u) := cell_at hC1.box 1
    have r2 : w1.cell? ⟨R, 0, none⟩ = some (.int .i64 rev) := cell_at hR1 0
    have H1 := Aside.mk (And.intro hC1 (And.intro hR1 hb1))
    clear hC1 hR1 hb1 HA
    by_cases hru : rev ≤ u
    · rw [if_pos hru] at hx
      have HX := Aside.mk hx
      clear hx
      go_upto_region 6 with fail
      go_quiet (fail)
      go_wp2_with fail
      go_ret
      rw [← HX.out]
      exact ⟨rfl, H1.out.1.keep rfl rfl, (Fr.of_new (F := fun k => k = C ∨ k = M) H1.out.2.2).drewN nq⟩
    · rw [if_neg hru] at hx
      have HX := Aside.mk hx
      have hru' : u < rev := by omega
      clear hx
      go_upto_region 6 with fail
      go_quiet (fail)
      have hC2 : CA (w1.drewN nq) C M f u := H1.out.1.keep rfl rfl
      obtain ⟨es, cc, hm, hg⟩ := hC2.map
      have hdl := delf_calls M cc es f R rev (w1.drewN nq) hm hg H1.out.2.1
      have hF2 := (Fr.of_new (F := fun k => k = C ∨ k = M) H1.out.2.2).drewN nq
      have H2 := Aside.mk (And.intro hC2 hF2)
      have hneCM := hC2.ne
      clear hC2 hm hg hF2
      go_wp2_with fail
      refine hdl.mono ?_
      rintro e w2 ⟨rfl, ⟨es2, hm2, hg2⟩, hFd⟩
      have hC3 : CA w2 C M (dropM f rev) u := ⟨hFd.heap H2.out.1.box hneCM, es2, cc, hm2, hg2⟩
      have hR3 := hFd.heap (show (w1.drewN nq).heap[R]? = _ from H1.out.2.1) (fun e => by omega)
      have hF3 := H2.out.2.trans (hFd.mono (G := fun k => k = C ∨ k = M) (fun _ h => .inr h)) (fun _ _ h => h)
      have H3 := Aside.mk (And.intro hC3 (And.intro hR3 hF3))
      clear hC3 hR3 hF3 hFd hm2 hg2 hdl H2 H1 r0 r1 r2
      go_wp2_with fail
      go_loopw [38] (fun v38 w' => ∃ k : Nat, k ≤ n ∧ v38 = .int .i64 k ∧ Aside (CA w' C M ((l.take k).foldl (addL rev) (dropM f rev)) u ∧ w'.heap[R]? = some (.cells #[.int .i64 rev] 2 (0, 0)) ∧ Fr (fun k => k = C ∨ k = M) w w')) (fun v38 _ => n - (intOf v38).toNat)
      case atStart => exact ⟨0, by omega, rfl, H3⟩
      case round =>
        rename_i v38 wr
        obtain ⟨k, hk, rfl, HI⟩ := hrel
        obtain ⟨F, hF⟩ : ∃ F, (l.take k).foldl (addL rev) (dropM f rev) = F := ⟨_, rfl⟩
        rw [hF] at HI
        have HFK := Aside.mk hF
        clear hF
        have hIC := HI.out.1
        have hIR := HI.out.2.1
        have r0 : wr.cell? ⟨C, 0, none⟩ = some (.map (some M)) := cell_at hIC.box 0
        have r1 : wr.cell? ⟨C, 1, none⟩ = some (.int .i64 u) := cell_at hIC.box 1
        have r2 : wr.cell? ⟨R, 0, none⟩ = some (.int .i64 rev) := cell_at hIR 0
        by_cases hkn : k < n
        · have hrow : Kd.C k46 wr A l.length l := row_fr (F := fun k => k = C ∨ k = M) (fun h => h) HH.out.2.1 HI.out.2.2 (fun ad e h => by have := HH.out.2.2 ad e; rcases h with h | h; exact this.1 h; exact this.2 h)
          obtain ⟨x, hx⟩ : ∃ x, l[k]? = some x := ⟨_, List.getElem?_eq_getElem (by rw [HN.out]; exact hkn)⟩
          obtain ⟨ad, he, hf0, hf1, hf2, hf3⟩ := at_T46 hrow (k : Int) (by omega) (by rw [HN.out]; omega)
          rw [rd_getE hx] at hf0 hf1 hf2 hf3
          simp only [Int.toNat_natCast] at hf0 hf1 hf2 hf3
          have HX' := Aside.mk (foldl_take_succ (addL rev) (dropM f rev) hx)
          rw [HFK.out] at HX'
          obtain ⟨x0, x1, x2, x3⟩ := x
          dsimp only at hf0 hf1 hf2 hf3
          have hE := heap_alloc_new wr (Obj.cells #[Value.string x0, Value.string x1, Value.int IntKind.i64 x2, Value.int IntKind.i64 x3] 46 (0, 0))
          have hC1 := hIC.below ((Below.refl wr.heap.size wr).alloc (Nat.le_refl _) (Obj.cells #[Value.string x0, Value.string x1, Value.int IntKind.i64 x2, Value.int IntKind.i64 x3] 46 (0, 0)))
          have hR1 := blk_al hIR (Obj.cells #[Value.string x0, Value.string x1, Value.int IntKind.i64 x2, Value.int IntKind.i64 x3] 46 (0, 0))
          have hF1 := HI.out.2.2.alloc (Obj.cells #[Value.string x0, Value.string x1, Value.int IntKind.i64 x2, Value.int IntKind.i64 x3] 46 (0, 0))
          obtain ⟨b0, hb0⟩ : ∃ b0, wr.heap.size = b0 := ⟨_, rfl⟩
          have hs1 : (wr.alloc (Obj.cells #[Value.string x0, Value.string x1, Value.int IntKind.i64 x2, Value.int IntKind.i64 x3] 46 (0, 0))).heap.size = b0 + 1 := by simp [hb0]
          have hkC := hIC.ltC
          have hkM := hIC.ltM
          have hkR := lt_of_block hIR
          rw [hb0] at hE hkC hkM hkR
          subst he
          clear hrow hx hIC hIR
          go_upto_region 12 with fail
          generalize (wr.alloc (Obj.cells #[Value.string x0, Value.string x1, Value.int IntKind.i64 x2, Value.int IntKind.i64 x3] 46 (0, 0))) = w2 at *
          have HE2 := Aside.mk (And.intro hC1 (And.intro hR1 (And.intro hF1 hE)))
          have hlk : ∀ W : World, CA W C M F u → (Instr.lookup 77 (.map (some M)) (.string x0) true).run Try.prog W = .ok (.tuple #[factV ((F x0).getD fctZ), .bool (F x0).isSome]) W := fun W hW => look_fact hW x0 true
          obtain ⟨v, hv⟩ : ∃ v, (F x0).getD fctZ = v := ⟨_, rfl⟩
          rw [hv] at hlk
          obtain ⟨va, vt, vx⟩ := v
          obtain ⟨S, hS⟩ : ∃ S, (F x0).isSome = S := ⟨_, rfl⟩
          rw [hS] at hlk
          have HSv := Aside.mk hS
          replace hlk : ∀ W : World, CA W C M F u → (Instr.lookup 77 (.map (some M)) (.string x0) true).run Try.prog W = .ok (.tuple #[.agg #[.int .i64 va, .bool vt, .string vx.key, .string vx.val, .int .i64 vx.made, .int .i64 vx.mod], .bool S]) W := hlk
          have HLK := Aside.mk hlk
          have t0 : (w2.drew.cell? ⟨C, 0, none⟩ = some (.map (some M)) ∧ w2.drew.cell? ⟨b0, 0, none⟩ = some (.string x0)) ∧ (Instr.lookup 77 (.map (some M)) (.string x0) true).run Try.prog w2.drew = .ok (.tuple #[.agg #[.int .i64 va, .bool vt, .string vx.key, .string vx.val, .int .i64 vx.made, .int .i64 vx.mod], .bool S]) w2.drew := ⟨⟨cell_at hC1.box 0, cell_at hE 0⟩, hlk _ (hC1.keep rfl rfl)⟩
          have hs2 : w2.drew.heap.size = b0 + 1 := hs1
          have q0 : w2.drew.cell? ⟨C, 0, none⟩ = some (.map (some M)) := t0.1.1
          have q1 : w2.drew.cell? ⟨b0, 0, none⟩ = some (.string x0) := t0.1.2
          clear hC1 hR1 hF1 hE r0 r1 r2 hf0 hf1 hf2 hf3 hv hS hs1 hlk
          refine start_ (n := 13) (S := (fun w' => (w'.cell? ⟨C, 0, none⟩ = some (.map (some M)) ∧ w'.cell? ⟨b0, 0, none⟩ = some (.string x0)) ∧ (Instr.lookup 77 (.map (some M)) (.string x0) true).run Try.prog w' = .ok (.tuple #[.agg #[.int .i64 va, .bool vt, .string vx.key, .string vx.val, .int .i64 vx.made, .int .i64 vx.mod], .bool S]) w')) (ds := []) #[false, false, false, false, false, false, false, false, false, false, false, false, false] (by kernel_rfl) rfl rfl t0 (fun hHeld => ?_); refine with_tabW cl12_tab cl12_bits (fun HT_ HW_ => ?_)
          refine pure_ (i := 0) (N := (some 43)) (v := ?_) (a' := ?_) #[true, false, false, false, false, false, false, false, false, false, false, false, false] rfl rfl (any_of HT_.out (by kernel_rfl)) (fun _ _ _ h => h) (Or.inl ⟨by rfl, ?_⟩) ?_ ?_
          rotate_left
          · intro w'
            go_simp
            with_reducible rfl
          rotate_left
          · simp only [Act.put, List.setIfInBounds_toArray, List.set_cons_zero, List.set_cons_succ, i64_w, i32_w]
            rfl
          refine pure_ (i := 1) (N := (some 44)) (v := ?_) (a' := ?_) #[true, true, false, false, false, false, false, false, false, false, false, false, false] rfl rfl (any_of HT_.out (by kernel_rfl)) (fun _ _ _ h => h) (Or.inl ⟨by rfl, ?_⟩) ?_ ?_
          rotate_left
          · intro w'
            go_simp
            with_reducible rfl
          rotate_left
          · simp only [Act.put, List.setIfInBounds_toArray, List.set_cons_zero, List.set_cons_succ, i64_w, i32_w]
            rfl
          refine pure_ (i := 2) (N := (some 45)) (v := ?_) (a' := ?_) #[true, true, true, false, false, false, false, false, false, false, false, false, false] rfl rfl (any_of HT_.out (by kernel_rfl)) (fun _ _ _ h => h) (Or.inl ⟨by rfl, ?_⟩) ?_ ?_
          rotate_left
          · intro w'
            go_simp
            with_reducible rfl
          rotate_left
          · simp only [Act.put, List.setIfInBounds_toArray, List.set_cons_zero, List.set_cons_succ, i64_w, i32_w]
            rfl
          refine take_ (i := 3) (N := (some 46)) (v := ?_) (a' := ?_) #[true, true, true, true, false, false, false, false, false, false, false, false, false] rfl rfl (take_ofW HT_.out HW_.out (by kernel_rfl)) (fun _ _ _ h => h) (Or.inl ⟨by rfl, ?_⟩) hHeld ?_ ?_
          rotate_left
          · rintro w' ⟨⟨s1, _⟩, _⟩
            go_simp
            with_reducible rfl
          rotate_left
          · simp only [Act.put, List.setIfInBounds_toArray, List.set_cons_zero, List.set_cons_succ, i64_w, i32_w]
            rfl
          refine pure_ (i := 4) (N := (some 47)) (v := ?_) (a' := ?_) #[true, true, true, true, true, false, false, false, false, false, false, false, false] rfl rfl (any_of HT_.out (by kernel_rfl)) (fun _ _ _ h => h) (Or.inl ⟨by rfl, ?_⟩) ?_ ?_
          rotate_left
          · intro w'
            go_simp
            with_reducible rfl
          rotate_left
          · simp only [Act.put, List.setIfInBounds_toArray, List.set_cons_zero, List.set_cons_succ, i64_w, i32_w]
            rfl
          refine take_ (i := 5) (N := (some 48)) (v := ?_) (a' := ?_) #[true, true, true, true, true, true, false, false, false, false, false, false, false] rfl rfl (take_ofW HT_.out HW_.out (by kernel_rfl)) (fun _ _ _ h => h) (Or.inl ⟨by rfl, ?_⟩) hHeld ?_ ?_
          rotate_left
          · rintro w' ⟨⟨_, s1⟩, _⟩
            go_simp
            with_reducible rfl
          rotate_left
          · simp only [Act.put, List.setIfInBounds_toArray, List.set_cons_zero, List.set_cons_succ, i64_w, i32_w]
            rfl
          refine take_ (i := 6) (N := (some 49)) (v := ?_) (a' := ?_) #[true, true, true, true, true, true, true, false, false, false, false, false, false] rfl rfl (take_ofW HT_.out HW_.out (by kernel_rfl)) (fun _ _ _ h => h) (Or.inl ⟨by rfl, ?_⟩) hHeld ?_ ?_
          rotate_left
          · rintro w' ⟨_, s1⟩
            go_simp
            with_reducible rfl
          rotate_left
          · simp only [Act.put, List.setIfInBounds_toArray, List.set_cons_zero, List.set_cons_succ, i64_w, i32_w]
            rfl
          refine pure_ (i := 7) (N := (some 42)) (v := ?_) (a' := ?_) #[true, true, true, true, true, true, true, true, false, false, false, false, false] rfl rfl (any_of HT_.out (by kernel_rfl)) (fun _ _ _ h => h) (Or.inl ⟨by rfl, ?_⟩) ?_ ?_
          rotate_left
          · intro w'
            go_simp
            with_reducible rfl
          rotate_left
          · simp only [Act.put, List.setIfInBounds_toArray, List.set_cons_zero, List.set_cons_succ, i64_w, i32_w]
            rfl
          refine pure_ (i := 8) (N := (some 50)) (v := ?_) (a' := ?_) #[true, true, true, true, true, true, true, true, true, false, false, false, false] rfl rfl (any_of HT_.out (by kernel_rfl)) (fun _ _ _ h => h) (Or.inl ⟨by rfl, ?_⟩) ?_ ?_
          rotate_left
          · intro w'
            go_simp
            with_reducible rfl
          rotate_left
          · simp only [Act.put, List.setIfInBounds_toArray, List.set_cons_zero, List.set_cons_succ, i64_w, i32_w]
            rfl
          refine pure_ (i := 9) (N := (some 51)) (v := ?_) (a' := ?_) #[true, true, true, true, true, true, true, true, true, true, false, false, false] rfl rfl (any_of HT_.out (by kernel_rfl)) (fun _ _ _ h => h) (Or.inl ⟨by rfl, ?_⟩) ?_ ?_
          rotate_left
          · intro w'
            go_simp
            with_reducible rfl
          rotate_left
          · simp only [Act.put, List.setIfInBounds_toArray, List.set_cons_zero, List.set_cons_succ, i64_w, i32_w]
            rfl
          refine one_ (i := 10) (N := (some 11)) #[true, true, true, true, true, true, true, true, true, true, true, false, false] rfl rfl (one_of HT_.out (by kernel_rfl)) (by decide) (fun K9 hK => ?_)
          have hAF := (Fr.refl (fun _ => False) w2.drew).alloc (.cells #[.int .i64 0, .bool false, .string (ByteArray.mk #[]), .string (ByteArray.mk #[]), .int .i64 0, .int .i64 0] 87 (0, 0))
          have hAN : (w2.drew.alloc (.cells #[.int .i64 0, .bool false, .string (ByteArray.mk #[]), .string (ByteArray.mk #[]), .int .i64 0, .int .i64 0] 87 (0, 0))).heap[b0 + 1]? = some (.cells #[.int .i64 0, .bool false, .string (ByteArray.mk #[]), .string (ByteArray.mk #[]), .int .i64 0, .int .i64 0] 87 (0, 0)) := by rw [← hs2]; exact heap_alloc_new _ _
          have hp0 : (w2.drew.alloc (.cells #[.int .i64 0, .bool false, .string (ByteArray.mk #[]), .string (ByteArray.mk #[]), .int .i64 0, .int .i64 0] 87 (0, 0))).cell? ⟨C, 0, none⟩ = some (.map (some M)) := cell_at (blk_al (show w2.drew.heap[C]? = _ from HE2.out.1.box) _) 0
          have hp1 : (w2.drew.alloc (.cells #[.int .i64 0, .bool false, .string (ByteArray.mk #[]), .string (ByteArray.mk #[]), .int .i64 0, .int .i64 0] 87 (0, 0))).cell? ⟨b0, 0, none⟩ = some (.string x0) := cell_at (blk_al (show w2.drew.heap[b0]? = _ from HE2.out.2.2.2) _) 0
          refine value_ (v := .pointer (some ⟨b0 + 1, 0, none⟩)) (w1 := (w2.drew.alloc (.cells #[.int .i64 0, .bool false, .string (ByteArray.mk #[]), .string (ByteArray.mk #[]), .int .i64 0, .int .i64 0] 87 (0, 0)))) (by rfl) rfl (by unfold execOp; go_simp) ?_
          refine hK.out _ _ ⟨⟨hp0, hp1⟩, HLK.out _ ((HE2.out.1.keep (w' := w2.drew) rfl rfl).fr hAF (fun h => h) (fun h => h))⟩ (fun hHeld => ?_)
          clear hK K9
          refine norm_ (a' := ?_) ?_ ?_
          rotate_left
          · show Act.put _ (some 11) _ = _
            simp only [Act.put, List.setIfInBounds_toArray, List.set_cons_zero, List.set_cons_succ]
            rfl
          refine one_ (i := 11) (N := none) #[true, true, true, true, true, true, true, true, true, true, true, true, false] rfl rfl (one_of HT_.out (by kernel_rfl)) (by decide) (fun K9 hK => ?_)
          have z0 := cell_at hAN 0
          have z1 := cell_at hAN 1
          have z2 := cell_at hAN 2
          have z3 := cell_at hAN 3
          have z4 := cell_at hAN 4
          have z5 := cell_at hAN 5
          have y0 := free_at hAN 0
          have y1 := free_at hAN 1
          have y2 := free_at hAN 2
          have y3 := free_at hAN 3
          have y4 := free_at hAN 4
          have y5 := free_at hAN 5
          have hF4 := hAF.set6 (b := b0 + 1) (.inr (by rw [hs2]; omega)) (.int .i64 va) (.bool vt) (.string vx.key) (.string vx.val) (.int .i64 vx.made) (.int .i64 vx.mod)
          generalize hw3 : (w2.drew.alloc (.cells #[.int .i64 0, .bool false, .string (ByteArray.mk #[]), .string (ByteArray.mk #[]), .int .i64 0, .int .i64 0] 87 (0, 0))) = w3 at *
          refine skip_ (w1 := ((((((w3.setCell ⟨b0 + 1, 0, none⟩ (.int .i64 va)).setCell ⟨b0 + 1, 1, none⟩ (.bool vt)).setCell ⟨b0 + 1, 2, none⟩ (.string vx.key)).setCell ⟨b0 + 1, 3, none⟩ (.string vx.val)).setCell ⟨b0 + 1, 4, none⟩ (.int .i64 vx.made)).setCell ⟨b0 + 1, 5, none⟩ (.int .i64 vx.mod))) (by rfl) rfl (by unfold execOp; go_simp) ?_
          generalize hw4 : ((((((w3.setCell ⟨b0 + 1, 0, none⟩ (.int .i64 va)).setCell ⟨b0 + 1, 1, none⟩ (.bool vt)).setCell ⟨b0 + 1, 2, none⟩ (.string vx.key)).setCell ⟨b0 + 1, 3, none⟩ (.string vx.val)).setCell ⟨b0 + 1, 4, none⟩ (.int .i64 vx.made)).setCell ⟨b0 + 1, 5, none⟩ (.int .i64 vx.mod)) = w4 at *
          have HF4 := Aside.mk hF4
          have hD4 : CA w4 C M F u := (HE2.out.1.keep (w' := w2.drew) rfl rfl).fr hF4 (fun h => h) (fun h => h)
          have hE4 := hF4.heap (show w2.drew.heap[b0]? = _ from HE2.out.2.2.2) (fun h => h)
          refine hK.out _ _ ⟨⟨cell_at hD4.box 0, cell_at hE4 0⟩, HLK.out _ hD4⟩ (fun hHeld => ?_)
          clear hK K9 hF4 z0 z1 z2 z3 z4 z5 y0 y1 y2 y3 y4 y5 hAN hAF hp0 hp1
          refine pure_ (i := 12) (N := (some 12)) (v := ?_) (a' := ?_) #[true, true, true, true, true, true, true, true, true, true, true, true, true] rfl rfl (any_of HT_.out (by kernel_rfl)) (fun _ _ _ h => h) (Or.inl ⟨by rfl, ?_⟩) ?_ ?_
          rotate_left
          · intro w'
            go_simp
            with_reducible rfl
          rotate_left
          · simp only [Act.put, List.setIfInBounds_toArray, List.set_cons_zero, List.set_cons_succ, i64_w, i32_w]
            rfl
          refine done_ (done_of HT_.out (by kernel_rfl)) ?_
          clear HT_ HW_ hHeld
          clear t0 q0 q1
          have hE4 := HF4.out.heap (show w2.drew.heap[b0]? = _ from HE2.out.2.2.2) (fun h => h)
          have hR4 := HF4.out.heap (show w2.drew.heap[R]? = _ from HE2.out.2.1) (fun h => h)
          have hC4 : CA w4 C M F u := (HE2.out.1.keep (w' := w2.drew) rfl rfl).fr HF4.out (fun h => h) (fun h => h)
          have hF4 := HE2.out.2.2.1.drew.trans (HF4.out.mono (G := fun k => k = C ∨ k = M) (fun _ h => h.elim)) (fun _ _ h => h)
          have H4 := Aside.mk (And.intro hC4 (And.intro hR4 hF4))
          have p0 : w4.cell? ⟨C, 0, none⟩ = some (.map (some M)) := cell_at hC4.box 0
          have p2 : w4.cell? ⟨R, 0, none⟩ = some (.int .i64 rev) := cell_at hR4 0
          have e0 : w4.cell? ⟨b0, 0, none⟩ = some (.string x0) := cell_at hE4 0
          have e1 : w4.cell? ⟨b0, 1, none⟩ = some (.string x1) := cell_at hE4 1
          have e2 : w4.cell? ⟨b0, 2, none⟩ = some (.int .i64 x2) := cell_at hE4 2
          have e3 : w4.cell? ⟨b0, 3, none⟩ = some (.int .i64 x3) := cell_at hE4 3
          clear hC4 hR4 hF4 hE4 HF4 HE2
          cases S with
          | true =>
            have HZ : Aside ((l.take (k + 1)).foldl (addL rev) (dropM f rev) = F) := ⟨by rw [HX'.out]; unfold addL; dsimp only; rw [if_pos HSv.out]⟩
            have HI5 : Aside (CA w4 C M ((l.take (k + 1)).foldl (addL rev) (dropM f rev)) u ∧ w4.heap[R]? = some (.cells #[.int .i64 rev] 2 (0, 0)) ∧ Fr (fun k => k = C ∨ k = M) w w4) := ⟨by rw [HZ.out]; exact H4.out.1, H4.out.2.1, H4.out.2.2⟩
            clear HI HFK HX' H4 HZ
            go_wp2_with fail
            go_roundw
            case rel => exact ⟨k + 1, by omega, by go_num, HI5⟩
            case measure => simp [intOf]; omega
          | false =>
            have HZ : Aside ((l.take (k + 1)).foldl (addL rev) (dropM f rev) = upd F x0 (some ⟨rev, true, ⟨x0, x1, x2, x3⟩⟩)) := ⟨by rw [HX'.out]; unfold addL; dsimp only; rw [if_neg (by rw [HSv.out]; decide)]⟩
            obtain ⟨o2, hr2, hC5, hF5⟩ := (show CA w4.drew C M F u from H4.out.1.keep rfl rfl).stored x0 ⟨rev, true, ⟨x0, x1, x2, x3⟩⟩
            replace hr2 : (Instr.mapUpdate 77 (.map (some M)) (.string x0) (.agg #[.int .i64 rev, .bool true, .string x0, .string x1, .int .i64 x2, .int .i64 x3])).run Try.prog w4.drew = .ok () (setBlock w4.drew M o2) := hr2
            have hMR : R ≠ M := fun e => by
              obtain ⟨es, cc, hm, hg⟩ := H4.out.1.map
              have := H4.out.2.1
              rw [e, hm] at this
              cases this
            have hR5 := hF5.heap (show w4.drew.heap[R]? = _ from H4.out.2.1) hMR
            have HI5 : Aside (CA (setBlock w4.drew M o2) C M ((l.take (k + 1)).foldl (addL rev) (dropM f rev)) u ∧ (setBlock w4.drew M o2).heap[R]? = some (.cells #[.int .i64 rev] 2 (0, 0)) ∧ Fr (fun k => k = C ∨ k = M) w (setBlock w4.drew M o2)) := ⟨by rw [HZ.out]; exact hC5, hR5, H4.out.2.2.drew.trans (hF5.mono (G := fun k => k = C ∨ k = M) (fun _ h => .inr h)) (fun _ _ h => h)⟩
            clear HI HFK HX' HZ hC5 hF5 hR5
            go_upto_region 14 with fail
            go_still_tail 9, (by kernel_rfl)
            go_wp2_with fail
            go_roundw
            case rel => exact ⟨k + 1, by omega, by go_num, HI5⟩
            case measure => simp [intOf]; omega
        · obtain rfl : k = n := by omega
          have hfl : F = l.foldl (addL rev) (dropM f rev) := by rw [← HFK.out, List.take_of_length_le (by rw [HN.out]; exact Nat.le_refl _)]
          have f1 : wr.frozen? ⟨C, 1, none⟩ = false := free_at hIC.box 1
          have HX2 : Aside (((F, rev), 0) = X) := ⟨by rw [hfl]; exact HX.out⟩
          have HE := Aside.mk (heap_setCell_eq (j := 1) (.int .i64 rev) hIC.box)
          have hne := hIC.ne
          clear hfl HX hIC hIR
          go_wp2_with fail
          go_ret
          rw [← HX2.out]
          obtain ⟨es, cc, hm, hg⟩ := HI.out.1.map
          exact ⟨rfl, ⟨HE.out, es, cc, by rw [Below.heap_setCell _ _ _ _ (fun e => hne e.symm)]; exact hm, hg⟩, HI.out.2.2.setCell (p := ⟨C, 1, none⟩) (.inl (.inl rfl)) _⟩
  · have hx := HX.out
    rw [if_neg (by rw [hok]; decide)] at hx
    have HX := Aside.mk hx
    have H1 := Aside.mk (And.intro hC1 hb1)
    clear hx hC1 hR1 hb1 HA
    go_wp2_with fail
    go_ret
    rw [← HX.out]
    exact ⟨rfl, H1.out.1, Fr.of_new H1.out.2⟩
end Go.Proofs.Ytagkobpbhfkmdaa.C
