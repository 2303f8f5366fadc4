/- The walk of ClockPlays. -/
import Derived.Test.YtjefeoohfalcaaaK2
import Derived.Test.YtjefeoohfalcaaaRF
namespace Go.Proofs.Ytjefeoohfalcaaa.C
open Go.RowKit Go.Proofs.Ytjefeoohfalcaaa.Q Go.Proofs.YtjefeoohfalcaaaW.PrintLast Go.Proofs.YtjefeoohfalcaaaW.PrintWords
set_option linter.unusedVariables false
set_option linter.unusedSimpArgs false
/-- The program's clock, and the document's, alike. -/
structure PW (w0 : World) (C b c X xb xc : Nat) (now : Int) (sk : List Int) (wr : World) : Prop where
  real : CRep 80 wr C b c now sk
  ref : CRep 44 wr X xb xc now sk
  bne : b ≠ xb
  cC : w0.heap.size ≤ C
  cb : w0.heap.size ≤ b
  cX : w0.heap.size ≤ X
  cx : w0.heap.size ≤ xb
  bel : Below w0.heap.size w0 wr
theorem tags_ne {w : World} {g g' : Nat} {cs cs' : Array Value} {t t' : TypeId} {fr fr' : Nat × Nat} (h : w.heap[g]? = some (.cells cs t fr)) (h' : w.heap[g']? = some (.cells cs' t' fr')) (ht : t ≠ t') : g ≠ g' := fun e => by
  subst e
  rw [h] at h'
  exact ht ((Obj.cells.injEq _ _ _ _ _ _).mp (Option.some.inj h')).2.1
theorem PW.nes {w0 wr : World} {C b c X xb xc : Nat} {now : Int} {sk : List Int} (h : PW w0 C b c X xb xc now sk wr) : C ≠ X ∧ C ≠ xb ∧ X ≠ b := by
  obtain ⟨cs, h1, _⟩ := h.ref.row.cur
  obtain ⟨cs2, h2, _⟩ := h.real.row.cur
  exact ⟨tags_ne h.real.box h.ref.box (by decide), tags_ne h.real.box h1 (by decide), tags_ne h.ref.box h2 (by decide)⟩
theorem PW.quiet {w0 wr w' : World} {C b c X xb xc : Nat} {now : Int} {sk : List Int} (h : PW w0 C b c X xb xc now sk wr) (hf : Fr (fun _ => False) wr w') : PW w0 C b c X xb xc now sk w' :=
  ⟨h.real.fr hf (fun f => f) (fun f => f), h.ref.fr hf (fun f => f) (fun f => f), h.bne, h.cC, h.cb, h.cX, h.cx, h.bel.trans (hf.below h.bel.size (fun _ f => f.elim))⟩
theorem PW.refAt {w0 wr w1 : World} {C b c X xb xc : Nat} {now : Int} {sk : List Int} (h : PW w0 C b c X xb xc now sk wr) (f1 : Fr (fun k => k = C ∨ k = b) wr w1) : CRep 44 w1 X xb xc now sk :=
  h.ref.fr f1 (fun e => by rcases e with e | e; exact h.nes.1 e.symm; exact h.nes.2.2 e) (fun e => by rcases e with e | e; exact h.nes.2.1 e.symm; exact h.bne e.symm)
theorem PW.step {w0 wr w1 w2 : World} {C b c X xb xc : Nat} {now now' : Int} {sk sk' : List Int} (h : PW w0 C b c X xb xc now sk wr) (h1 : CRep 80 w1 C b c now' sk') (f1 : Fr (fun k => k = C ∨ k = b) wr w1) (h2 : CRep 44 w2 X xb xc now' sk') (f2 : Fr (fun k => k = X ∨ k = xb) w1 w2) : PW w0 C b c X xb xc now' sk' w2 := by
  have n := h.nes
  have b1 : Below w0.heap.size wr w1 := f1.below h.bel.size (fun k e => by rcases e with e | e; rw [e]; exact h.cC; rw [e]; exact h.cb)
  have b2 : Below w0.heap.size w1 w2 := f2.below (Nat.le_trans h.bel.size b1.size) (fun k e => by rcases e with e | e; rw [e]; exact h.cX; rw [e]; exact h.cx)
  exact ⟨h1.fr f2 (fun e => by rcases e with e | e; exact n.1 e; exact n.2.1 e) (fun e => by rcases e with e | e; exact n.2.2 e.symm; exact h.bne e), h2, h.bne, h.cC, h.cb, h.cX, h.cx, (h.bel.trans b1).trans b2⟩
theorem PW.copied {w0 wr w1 w2 : World} {C b c X xb xc C' b' c' : Nat} {now : Int} {sk : List Int} (h : PW w0 C b c X xb xc now sk wr) (hb : Below wr.heap.size wr w1) (h1 : CRep 80 w1 C' b' c' now sk) (hC : wr.heap.size ≤ C') (hbb : wr.heap.size ≤ b') (f2 : Fr (fun k => k = C ∨ k = b) w1 w2) : PW w0 C' b' c' X xb xc now sk w2 := by
  have l1 := lt_of_block h.real.box
  have l2 := h.real.row.lt
  have l3 := h.ref.row.lt
  have hq := h.quiet (Fr.of_new hb)
  exact ⟨h1.fr f2 (fun e => by rcases e with e | e <;> omega) (fun e => by rcases e with e | e <;> omega), hq.refAt f2, by omega, Nat.le_trans h.bel.size hC, Nat.le_trans h.bel.size hbb, h.cX, h.cx, hq.bel.trans (f2.below hq.bel.size (fun k e => by rcases e with e | e; rw [e]; exact h.cC; rw [e]; exact h.cb))⟩
theorem addb (a : Addr) (n : Nat) : (a.add n).block = a.block := by unfold Addr.add; split <;> rfl
theorem arg_cell {w0 w w' : World} {F : Nat → Prop} {a : Addr} {v : Value} {bl : Nat} (h : w.cell? a = some v) (hab : a.block = bl) (ha : bl < w0.heap.size) (hb : Below w0.heap.size w0 w) (hf : Fr F w w') (hF : ¬ F bl) : w'.cell? a = some v := by
  subst hab
  exact (World.cell?_of_block (w := w) (hf.block a.block (Nat.lt_of_lt_of_le ha hb.size) hF)).trans h
theorem rpass_is {C b c : Nat} {now : Int} {sk : List Int} {w : World} (h : CRep 44 w C b c now sk) (n v now' : Int) (h1 : passI now n = v) (h2 : passed now n = now') : Calls Try.prog 19 #[.pointer (some ⟨C, 0, none⟩), .int .i64 n] w fun e w' => e = .returned (.int .i64 v) ∧ CRep 44 w' C b c now' sk ∧ Fr (fun k => k = C) w w' := by
  subst h1; subst h2
  exact rpass_calls C b c now n sk w h
theorem rskew_is {C b c : Nat} {now : Int} {sk : List Int} {w : World} (h : CRep 44 w C b c now sk) (node n v : Int) (sk' : List Int) (h1 : skewI sk.length node n = v) (h2 : skewed sk node n = sk') : Calls Try.prog 20 #[.pointer (some ⟨C, 0, none⟩), .int .i64 node, .int .i64 n] w fun e w' => e = .returned (.int .i64 v) ∧ CRep 44 w' C b c now sk' ∧ Fr (fun k => k = b) w w' := by
  subst h1; subst h2
  exact rskew_calls C b c now node n sk w h
theorem rat_is {C b c : Nat} {now : Int} {sk : List Int} {w : World} (h : CRep 44 w C b c now sk) (node a v : Int) (h1 : atI now sk node = a) (h2 : noneI sk.length node = v) : Calls Try.prog 22 #[.pointer (some ⟨C, 0, none⟩), .int .i64 node] w fun e w' => e = .returned (.tuple #[.int .i64 a, .int .i64 v]) ∧ Fr (fun _ => False) w w' := by
  subst h1; subst h2
  exact rat_calls C b c now sk node w h
theorem cat2_is {C b c : Nat} {now : Int} {sk : List Int} {w : World} (h : CRep 80 w C b c now sk) (node a v : Int) (h1 : atI now sk node = a) (h2 : noneI sk.length node = v) : Calls Try.prog 14 #[.pointer (some ⟨C, 0, none⟩), .int .i64 node] w fun e w' => e = .returned (.tuple #[.int .i64 a, .int .i64 v]) ∧ w = w' := by
  subst h1; subst h2
  exact cat_calls C b c now sk node w h
theorem rworst_is {C b c : Nat} {now : Int} {sk : List Int} {w : World} (h : CRep 44 w C b c now sk) (v : Int) (h1 : worstI now sk = v) : Calls Try.prog 23 #[.pointer (some ⟨C, 0, none⟩)] w fun e w' => e = .returned (.int .i64 v) ∧ Fr (fun _ => False) w w' := by
  subst h1
  exact rworst_calls C b c now sk w h

def ply18T : Bool × List (List Nat × List Nat) := (true, [([], []), ([], []), ([], []), ([1, 2], [1, 2]), ([3], [3]), ([4], [4]), ([0, 5], [0, 5]), ([], []), ([], []), ([], []), ([8, 9], [8, 9]), ([10], [10]), ([11], [11]), ([7, 12, 6], [7, 12]), ([6, 13], [6, 13])])
def ply18B : List Nat := [0, 0, 0, 6, 14, 30, 63, 0, 0, 0, 768, 1792, 3840, 8191, 16383]
theorem ply18_tab : rtab .any (opsOf Try.f4 18) = ply18T := by kernel_rfl
theorem ply18_bits : waitsOk ply18T.2 ply18B = true := by kernel_rfl

def ply21T : Bool × List (List Nat × List Nat) := (true, [([], []), ([], []), ([], []), ([1, 2], [1, 2]), ([3], [3]), ([4], [4]), ([], []), ([], []), ([6, 7], [6, 7]), ([8], [8]), ([9], [9]), ([0, 5, 10], [0, 5, 10]), ([], []), ([], []), ([], []), ([13, 14], [13, 14]), ([15], [15]), ([16], [16]), ([], []), ([], []), ([18, 19], [18, 19]), ([20], [20]), ([21], [21]), ([12, 17, 22, 11], [12, 17, 22]), ([11, 23], [11, 23])])
def ply21B : List Nat := [0, 0, 0, 6, 14, 30, 0, 0, 192, 448, 960, 2047, 0, 0, 0, 24576, 57344, 122880, 0, 0, 786432, 1835008, 3932160, 8388607, 16777215]
theorem ply21_tab : rtab .any (opsOf Try.f4 21) = ply21T := by kernel_rfl
theorem ply21_bits : waitsOk ply21T.2 ply21B = true := by kernel_rfl

def ply32T : Bool × List (List Nat × List Nat) := (true, [([], []), ([], []), ([0, 1], [0, 1]), ([2], [2]), ([3], [3]), ([3], [3]), ([4, 5, 3], [3, 4, 5]), ([3, 6], [3, 6]), ([7, 3], [7]), ([8], [8]), ([9, 8, 8], [8, 9]), ([8], [8]), ([11, 8], [8, 11]), ([12, 8], [8, 12]), ([13, 8], [8, 13]), ([10, 14, 8], [8, 10, 14]), ([8, 15], [8, 15]), ([16, 10], [16]), ([17], [17]), ([18, 17, 17], [17, 18]), ([17], [17]), ([20, 19, 17], [17, 20]), ([19, 21, 17], [17, 19, 21]), ([17, 22], [17, 22])])
def ply32B : List Nat := [0, 0, 3, 7, 15, 15, 63, 127, 255, 511, 1023, 511, 2559, 6655, 14847, 32767, 65535, 131071, 262143, 524287, 262143, 2097151, 4194303, 8388607]
theorem ply32_tab : rtab .any (opsOf Try.f4 32) = ply32T := by kernel_rfl
theorem ply32_bits : waitsOk ply32T.2 ply32B = true := by kernel_rfl

set_option maxHeartbeats 4000000 in
set_option maxRecDepth 100000 in
theorem plays_some (nodes : Nat) (hnn : nodes ≤ 16) (ad : Addr) (c : Nat) (l : List S40) (w : World) (g : Kd.C k40 w (some ad) l.length l) (hlc : l.length ≤ c) (h300 : l.length ≤ 300) :
    Calls Try.prog 4 #[.int .i64 nodes, .slice (some ad) l.length c] w fun e w' => e = .returned (.bool true) ∧ Below w.heap.size w w' := by
  have HG := Aside.mk g
  obtain ⟨n, hn⟩ : ∃ n, l.length = n := ⟨_, rfl⟩
  have HN := Aside.mk hn
  rw [hn] at hlc h300 ⊢
  clear g hn
  go_enter Try.func4, Try.ntmps4
  go_wp2_with fail
  refine (cnew_calls nodes hnn w).mono ?_
  rintro e w1 ⟨C0, b0, bc, rfl, hC, h1, h2, hb⟩
  have HC := Aside.mk hC
  have HB := Aside.mk hb
  have HL := Aside.mk (And.intro h1 h2)
  clear hC h1 h2 hb
  go_wp2_with fail
  refine (rnew_calls nodes hnn w1).mono ?_
  rintro e w2 ⟨X, xb, xc, rfl, hX, h1, h2, hb⟩
  have HP : Aside (PW w C0 b0 bc X xb xc 0 (List.replicate nodes 0) w2) := ⟨⟨HC.out.fr (Fr.of_new (F := fun _ => False) hb) (fun f => f) (fun f => f), hX, fun e => by have := HC.out.row.lt; omega, HL.out.1, HL.out.2, Nat.le_trans HB.out.size h1, Nat.le_trans HB.out.size h2, HB.out.trans (hb.mono HB.out.size)⟩⟩
  clear hX h1 h2 hb
  go_wp2_with fail
  go_loopw [5, 9] (fun v5 v9 wr => ∃ (k C b c : Nat) (now : Int) (sk : List Int), k ≤ n ∧ v5 = .pointer (some ⟨C, 0, none⟩) ∧ v9 = .int .i64 k ∧ Aside (PW w C b c X xb xc now sk wr)) (fun _ v9 _ => n - (intOf v9).toNat)
  case atStart => exact ⟨0, C0, b0, bc, 0, _, by omega, rfl, rfl, HP⟩
  clear HP HC HB HL
  case round =>
    obtain ⟨k, C, b, c, now, sk, hk, rfl, rfl, HP⟩ := hrel
    by_cases hlt : k < n
    · obtain ⟨ad', he, hf0, hf1, hf2⟩ := at_T40 (Kd.C_below HG.out HP.out.bel) (k : Int) (by omega) (by rw [HN.out]; omega)
      obtain rfl : ad = ad' := by cases he; rfl
      clear he
      obtain ⟨y, hy⟩ : ∃ y, rd_T40 l k = y := ⟨_, rfl⟩
      rw [hy] at hf0 hf1 hf2
      simp only [Int.toNat_natCast] at hf0 hf1 hf2
      clear hy
      have HAD : Aside (ad.block < w.heap.size) := ⟨by
        obtain ⟨ad2, he2, hc0, _⟩ := at_T40 HG.out (k : Int) (by omega) (by rw [HN.out]; omega)
        cases he2
        have h1 := World.block_lt_of_cell? w _ hc0
        rwa [addb] at h1⟩
      have HF1 := Aside.mk hf1
      go_upto_block 2 with (fail)
      go_cut [5] from 57 to 108 (fun x wr' => ∃ (C b c : Nat) (now : Int) (sk : List Int), x = .pointer (some ⟨C, 0, none⟩) ∧ Aside (PW w C b c X xb xc now sk wr'))
      case first =>
        by_cases hk0 : y.f0 = 0
        · obtain ⟨p, hp⟩ : ∃ p, passI now y.f2 = p := ⟨_, rfl⟩
          obtain ⟨now', hn'⟩ : ∃ q, passed now y.f2 = q := ⟨_, rfl⟩
          have HQ := Aside.mk (And.intro hp hn')
          rw [hk0]
          clear hp hn' hk0 hf0
          go_upto_region 18 with fail
          refine start_ (n := 15) (S := (fun w' => w'.cell? ⟨(ad.add (k * 3)).block, (ad.add (k * 3)).off + 2, none⟩ = some (.int .i64 y.f2))) (ds := []) #[false, false, false, false, false, false, false, false, false, false, false, false, false, false, false] (by kernel_rfl) rfl rfl hf2 (fun hHeld => ?_); refine with_tabW ply18_tab ply18_bits (fun HT_ HW_ => ?_)
          refine pure_ (i := 0) (N := (some 67)) (v := ?_) (a' := ?_) #[true, false, false, false, false, false, false, false, false, false, false, false, false, false, false] rfl rfl (any_of HT_.out (by kernel_rfl)) (fun _ _ _ h => h) (Or.inl ⟨by rfl, ?_⟩) ?_ ?_
          rotate_left
          · intro w'
            go_simp
            with_reducible rfl
          rotate_left
          · simp only [Act.put, List.setIfInBounds_toArray, List.set_cons_zero, List.set_cons_succ, i64_w, i32_w]
            rfl
          refine pure_ (i := 1) (N := (some 68)) (v := ?_) (a' := ?_) #[true, true, false, false, false, false, false, false, false, false, false, false, false, false, false] rfl rfl (any_of HT_.out (by kernel_rfl)) (fun _ _ _ h => h) (Or.inl ⟨by rfl, ?_⟩) ?_ ?_
          rotate_left
          · intro w'
            go_simp
            with_reducible rfl
          rotate_left
          · simp only [Act.put, List.setIfInBounds_toArray, List.set_cons_zero, List.set_cons_succ, i64_w, i32_w]
            rfl
          refine pure_ (i := 2) (N := (some 69)) (v := ?_) (a' := ?_) #[true, true, true, false, false, false, false, false, false, false, false, false, false, false, false] rfl rfl (any_of HT_.out (by kernel_rfl)) (fun _ _ _ h => h) (Or.inl ⟨by rfl, ?_⟩) ?_ ?_
          rotate_left
          · intro w'
            go_simp
            with_reducible rfl
          rotate_left
          · simp only [Act.put, List.setIfInBounds_toArray, List.set_cons_zero, List.set_cons_succ, i64_w, i32_w]
            rfl
          refine pure_ (i := 3) (N := (some 70)) (v := ?_) (a' := ?_) #[true, true, true, true, false, false, false, false, false, false, false, false, false, false, false] rfl rfl (any_of HT_.out (by kernel_rfl)) (fun _ _ _ h => h) (Or.inl ⟨by rfl, ?_⟩) ?_ ?_
          rotate_left
          · intro w'
            go_simp
            with_reducible rfl
          rotate_left
          · simp only [Act.put, List.setIfInBounds_toArray, List.set_cons_zero, List.set_cons_succ, i64_w, i32_w]
            rfl
          refine pure_ (i := 4) (N := (some 71)) (v := ?_) (a' := ?_) #[true, true, true, true, true, false, false, false, false, false, false, false, false, false, false] rfl rfl (any_of HT_.out (by kernel_rfl)) (fun _ _ _ h => h) (Or.inl ⟨by rfl, ?_⟩) ?_ ?_
          rotate_left
          · intro w'
            go_simp
            with_reducible rfl
          rotate_left
          · simp only [Act.put, List.setIfInBounds_toArray, List.set_cons_zero, List.set_cons_succ, i64_w, i32_w]
            rfl
          refine take_ (i := 5) (N := (some 72)) (v := ?_) (a' := ?_) #[true, true, true, true, true, true, false, false, false, false, false, false, false, false, false] rfl rfl (take_ofW HT_.out HW_.out (by kernel_rfl)) (fun _ _ _ h => h) (Or.inl ⟨by rfl, ?_⟩) hHeld ?_ ?_
          rotate_left
          · rintro w' s1
            go_simp
            with_reducible rfl
          rotate_left
          · simp only [Act.put, List.setIfInBounds_toArray, List.set_cons_zero, List.set_cons_succ, i64_w, i32_w]
            rfl
          refine pure_ (i := 7) (N := (some 74)) (v := ?_) (a' := ?_) #[true, true, true, true, true, true, false, true, false, false, false, false, false, false, false] rfl rfl (any_of HT_.out (by kernel_rfl)) (fun _ _ _ h => h) (Or.inl ⟨by rfl, ?_⟩) ?_ ?_
          rotate_left
          · intro w'
            go_simp
            with_reducible rfl
          rotate_left
          · simp only [Act.put, List.setIfInBounds_toArray, List.set_cons_zero, List.set_cons_succ, i64_w, i32_w]
            rfl
          refine pure_ (i := 8) (N := (some 75)) (v := ?_) (a' := ?_) #[true, true, true, true, true, true, false, true, true, false, false, false, false, false, false] rfl rfl (any_of HT_.out (by kernel_rfl)) (fun _ _ _ h => h) (Or.inl ⟨by rfl, ?_⟩) ?_ ?_
          rotate_left
          · intro w'
            go_simp
            with_reducible rfl
          rotate_left
          · simp only [Act.put, List.setIfInBounds_toArray, List.set_cons_zero, List.set_cons_succ, i64_w, i32_w]
            rfl
          refine pure_ (i := 9) (N := (some 76)) (v := ?_) (a' := ?_) #[true, true, true, true, true, true, false, true, true, true, false, false, false, false, false] rfl rfl (any_of HT_.out (by kernel_rfl)) (fun _ _ _ h => h) (Or.inl ⟨by rfl, ?_⟩) ?_ ?_
          rotate_left
          · intro w'
            go_simp
            with_reducible rfl
          rotate_left
          · simp only [Act.put, List.setIfInBounds_toArray, List.set_cons_zero, List.set_cons_succ, i64_w, i32_w]
            rfl
          refine pure_ (i := 10) (N := (some 77)) (v := ?_) (a' := ?_) #[true, true, true, true, true, true, false, true, true, true, true, false, false, false, false] rfl rfl (any_of HT_.out (by kernel_rfl)) (fun _ _ _ h => h) (Or.inl ⟨by rfl, ?_⟩) ?_ ?_
          rotate_left
          · intro w'
            go_simp
            with_reducible rfl
          rotate_left
          · simp only [Act.put, List.setIfInBounds_toArray, List.set_cons_zero, List.set_cons_succ, i64_w, i32_w]
            rfl
          refine pure_ (i := 11) (N := (some 78)) (v := ?_) (a' := ?_) #[true, true, true, true, true, true, false, true, true, true, true, true, false, false, false] rfl rfl (any_of HT_.out (by kernel_rfl)) (fun _ _ _ h => h) (Or.inl ⟨by rfl, ?_⟩) ?_ ?_
          rotate_left
          · intro w'
            go_simp
            with_reducible rfl
          rotate_left
          · simp only [Act.put, List.setIfInBounds_toArray, List.set_cons_zero, List.set_cons_succ, i64_w, i32_w]
            rfl
          refine take_ (i := 12) (N := (some 79)) (v := ?_) (a' := ?_) #[true, true, true, true, true, true, false, true, true, true, true, true, true, false, false] rfl rfl (take_ofW HT_.out HW_.out (by kernel_rfl)) (fun _ _ _ h => h) (Or.inl ⟨by rfl, ?_⟩) hHeld ?_ ?_
          rotate_left
          · rintro w' s1
            go_simp
            with_reducible rfl
          rotate_left
          · simp only [Act.put, List.setIfInBounds_toArray, List.set_cons_zero, List.set_cons_succ, i64_w, i32_w]
            rfl
          refine one_ (i := 6) (N := (some 73)) #[true, true, true, true, true, true, true, true, true, true, true, true, true, false, false] rfl rfl (one_of HT_.out (by kernel_rfl)) (by decide) (fun K9 hK => ?_)
          refine goes_ Try.func13 (by kernel_rfl) rfl #[.pointer (some ⟨C, 0, none⟩), .int .i64 y.f2] (by rfl) rfl rfl (by (try simp only [List.map_toArray, List.map_cons, List.map_nil]); first | done | rfl) ?_
          refine (pass_is (HP.out.quiet (Fr.refl (fun _ => False) wr).drew).real y.f2 p now' HQ.out.1 HQ.out.2).mono ?_
          rintro e w4 ⟨rfl, hC, hF⟩
          refine ⟨_, rfl, ?_⟩
          have H4 := Aside.mk hC
          have F4 := Aside.mk (hF.mono (G := fun k => k = C ∨ k = b) (fun k e => .inl e))
          have X4 := Aside.mk ((HP.out.quiet (Fr.refl (fun _ => False) wr).drew).refAt F4.out)
          have HD4 := Aside.mk (arg_cell (w0 := w) (w := wr.drew) hHeld (addb ad (k * 3)) HAD.out (HP.out.quiet (Fr.refl (fun _ => False) wr).drew).bel F4.out (fun e => by have h1 := HAD.out; have h2 := HP.out.cC; have h3 := HP.out.cb; rcases e with e | e <;> omega))
          clear hC hF
          refine hK.out _ _ HD4.out (fun hHeld => ?_)
          clear hK K9
          refine norm_ (a' := ?_) ?_ ?_
          rotate_left
          · show Act.put _ (some 73) _ = _
            simp only [Act.put, List.setIfInBounds_toArray, List.set_cons_zero, List.set_cons_succ]
            rfl
          refine one_ (i := 13) (N := (some 80)) #[true, true, true, true, true, true, true, true, true, true, true, true, true, true, false] rfl rfl (one_of HT_.out (by kernel_rfl)) (by decide) (fun K9 hK => ?_)
          refine goes_ Try.func19 (by kernel_rfl) rfl #[.pointer (some ⟨X, 0, none⟩), .int .i64 y.f2] (by rfl) rfl rfl (by (try simp only [List.map_toArray, List.map_cons, List.map_nil]); first | done | rfl) ?_
          refine (rpass_is X4.out y.f2 p now' HQ.out.1 HQ.out.2).mono ?_
          rintro e w5 ⟨rfl, hC, hF⟩
          refine ⟨_, rfl, ?_⟩
          have F5 := Aside.mk (hF.mono (G := fun k => k = X ∨ k = xb) (fun k e => .inl e))
          have HP5 := Aside.mk ((HP.out.quiet (Fr.refl (fun _ => False) wr).drew).step H4.out F4.out hC F5.out)
          have HD5 := Aside.mk (arg_cell (w0 := w) HD4.out (addb ad (k * 3)) HAD.out ((HP.out.quiet (Fr.refl (fun _ => False) wr).drew).bel.trans (F4.out.below (HP.out.quiet (Fr.refl (fun _ => False) wr).drew).bel.size (fun k e => by have h2 := HP.out.cC; have h3 := HP.out.cb; rcases e with e | e <;> omega))) F5.out (fun e => by have h1 := HAD.out; have h2 := HP.out.cX; have h3 := HP.out.cx; rcases e with e | e <;> omega))
          clear hC hF
          refine hK.out _ _ HD5.out (fun hHeld => ?_)
          clear hK K9
          refine norm_ (a' := ?_) ?_ ?_
          rotate_left
          · show Act.put _ (some 80) _ = _
            simp only [Act.put, List.setIfInBounds_toArray, List.set_cons_zero, List.set_cons_succ]
            rfl
          refine pure_ (i := 14) (N := (some 81)) (v := ?_) (a' := ?_) #[true, true, true, true, true, true, true, true, true, true, true, true, true, true, true] rfl rfl (any_of HT_.out (by kernel_rfl)) (fun _ _ _ h => h) (Or.inl ⟨by rfl, ?_⟩) ?_ ?_
          rotate_left
          · intro w'
            go_simp
            with_reducible rfl
          rotate_left
          · simp only [Act.put, List.setIfInBounds_toArray, List.set_cons_zero, List.set_cons_succ, i64_w, i32_w]
            rfl
          refine done_ (done_of HT_.out (by kernel_rfl)) ?_
          clear HT_ HW_ hHeld
          go_wp2_with fail
          go_meet
          exact ⟨C, b, c, now', sk, rfl, HP5⟩
        · by_cases hk1 : y.f0 = 1
          · obtain ⟨p, hp⟩ : ∃ p, skewI sk.length y.f1 y.f2 = p := ⟨_, rfl⟩
            obtain ⟨sk', hs'⟩ : ∃ q, skewed sk y.f1 y.f2 = q := ⟨_, rfl⟩
            have HQ := Aside.mk (And.intro hp hs')
            rw [hk1]
            clear hp hs' hk0 hk1 hf0
            go_upto_region 21 with fail
            refine start_ (n := 25) (S := (fun w' => w'.cell? ⟨(ad.add (k * 3)).block, (ad.add (k * 3)).off + 1, none⟩ = some (.int .i64 y.f1) ∧ w'.cell? ⟨(ad.add (k * 3)).block, (ad.add (k * 3)).off + 2, none⟩ = some (.int .i64 y.f2))) (ds := []) #[false, false, false, false, false, false, false, false, false, false, false, false, false, false, false, false, false, false, false, false, false, false, false, false, false] (by kernel_rfl) rfl rfl ⟨hf1, hf2⟩ (fun hHeld => ?_); refine with_tabW ply21_tab ply21_bits (fun HT_ HW_ => ?_)
            refine pure_ (i := 0) (N := (some 84)) (v := ?_) (a' := ?_) #[true, false, false, false, false, false, false, false, false, false, false, false, false, false, false, false, false, false, false, false, false, false, false, false, false] rfl rfl (any_of HT_.out (by kernel_rfl)) (fun _ _ _ h => h) (Or.inl ⟨by rfl, ?_⟩) ?_ ?_
            rotate_left
            · intro w'
              go_simp
              with_reducible rfl
            rotate_left
            · simp only [Act.put, List.setIfInBounds_toArray, List.set_cons_zero, List.set_cons_succ, i64_w, i32_w]
              rfl
            refine pure_ (i := 1) (N := (some 85)) (v := ?_) (a' := ?_) #[true, true, false, false, false, false, false, false, false, false, false, false, false, false, false, false, false, false, false, false, false, false, false, false, false] rfl rfl (any_of HT_.out (by kernel_rfl)) (fun _ _ _ h => h) (Or.inl ⟨by rfl, ?_⟩) ?_ ?_
            rotate_left
            · intro w'
              go_simp
              with_reducible rfl
            rotate_left
            · simp only [Act.put, List.setIfInBounds_toArray, List.set_cons_zero, List.set_cons_succ, i64_w, i32_w]
              rfl
            refine pure_ (i := 2) (N := (some 86)) (v := ?_) (a' := ?_) #[true, true, true, false, false, false, false, false, false, false, false, false, false, false, false, false, false, false, false, false, false, false, false, false, false] rfl rfl (any_of HT_.out (by kernel_rfl)) (fun _ _ _ h => h) (Or.inl ⟨by rfl, ?_⟩) ?_ ?_
            rotate_left
            · intro w'
              go_simp
              with_reducible rfl
            rotate_left
            · simp only [Act.put, List.setIfInBounds_toArray, List.set_cons_zero, List.set_cons_succ, i64_w, i32_w]
              rfl
            refine pure_ (i := 3) (N := (some 87)) (v := ?_) (a' := ?_) #[true, true, true, true, false, false, false, false, false, false, false, false, false, false, false, false, false, false, false, false, false, false, false, false, false] rfl rfl (any_of HT_.out (by kernel_rfl)) (fun _ _ _ h => h) (Or.inl ⟨by rfl, ?_⟩) ?_ ?_
            rotate_left
            · intro w'
              go_simp
              with_reducible rfl
            rotate_left
            · simp only [Act.put, List.setIfInBounds_toArray, List.set_cons_zero, List.set_cons_succ, i64_w, i32_w]
              rfl
            refine pure_ (i := 4) (N := (some 88)) (v := ?_) (a' := ?_) #[true, true, true, true, true, false, false, false, false, false, false, false, false, false, false, false, false, false, false, false, false, false, false, false, false] rfl rfl (any_of HT_.out (by kernel_rfl)) (fun _ _ _ h => h) (Or.inl ⟨by rfl, ?_⟩) ?_ ?_
            rotate_left
            · intro w'
              go_simp
              with_reducible rfl
            rotate_left
            · simp only [Act.put, List.setIfInBounds_toArray, List.set_cons_zero, List.set_cons_succ, i64_w, i32_w]
              rfl
            refine take_ (i := 5) (N := (some 89)) (v := ?_) (a' := ?_) #[true, true, true, true, true, true, false, false, false, false, false, false, false, false, false, false, false, false, false, false, false, false, false, false, false] rfl rfl (take_ofW HT_.out HW_.out (by kernel_rfl)) (fun _ _ _ h => h) (Or.inl ⟨by rfl, ?_⟩) hHeld ?_ ?_
            rotate_left
            · rintro w' ⟨s1, _⟩
              go_simp
              with_reducible rfl
            rotate_left
            · simp only [Act.put, List.setIfInBounds_toArray, List.set_cons_zero, List.set_cons_succ, i64_w, i32_w]
              rfl
            refine pure_ (i := 6) (N := (some 90)) (v := ?_) (a' := ?_) #[true, true, true, true, true, true, true, false, false, false, false, false, false, false, false, false, false, false, false, false, false, false, false, false, false] rfl rfl (any_of HT_.out (by kernel_rfl)) (fun _ _ _ h => h) (Or.inl ⟨by rfl, ?_⟩) ?_ ?_
            rotate_left
            · intro w'
              go_simp
              with_reducible rfl
            rotate_left
            · simp only [Act.put, List.setIfInBounds_toArray, List.set_cons_zero, List.set_cons_succ, i64_w, i32_w]
              rfl
            refine pure_ (i := 7) (N := (some 91)) (v := ?_) (a' := ?_) #[true, true, true, true, true, true, true, true, false, false, false, false, false, false, false, false, false, false, false, false, false, false, false, false, false] rfl rfl (any_of HT_.out (by kernel_rfl)) (fun _ _ _ h => h) (Or.inl ⟨by rfl, ?_⟩) ?_ ?_
            rotate_left
            · intro w'
              go_simp
              with_reducible rfl
            rotate_left
            · simp only [Act.put, List.setIfInBounds_toArray, List.set_cons_zero, List.set_cons_succ, i64_w, i32_w]
              rfl
            refine pure_ (i := 8) (N := (some 92)) (v := ?_) (a' := ?_) #[true, true, true, true, true, true, true, true, true, false, false, false, false, false, false, false, false, false, false, false, false, false, false, false, false] rfl rfl (any_of HT_.out (by kernel_rfl)) (fun _ _ _ h => h) (Or.inl ⟨by rfl, ?_⟩) ?_ ?_
            rotate_left
            · intro w'
              go_simp
              with_reducible rfl
            rotate_left
            · simp only [Act.put, List.setIfInBounds_toArray, List.set_cons_zero, List.set_cons_succ, i64_w, i32_w]
              rfl
            refine pure_ (i := 9) (N := (some 93)) (v := ?_) (a' := ?_) #[true, true, true, true, true, true, true, true, true, true, false, false, false, false, false, false, false, false, false, false, false, false, false, false, false] rfl rfl (any_of HT_.out (by kernel_rfl)) (fun _ _ _ h => h) (Or.inl ⟨by rfl, ?_⟩) ?_ ?_
            rotate_left
            · intro w'
              go_simp
              with_reducible rfl
            rotate_left
            · simp only [Act.put, List.setIfInBounds_toArray, List.set_cons_zero, List.set_cons_succ, i64_w, i32_w]
              rfl
            refine take_ (i := 10) (N := (some 94)) (v := ?_) (a' := ?_) #[true, true, true, true, true, true, true, true, true, true, true, false, false, false, false, false, false, false, false, false, false, false, false, false, false] rfl rfl (take_ofW HT_.out HW_.out (by kernel_rfl)) (fun _ _ _ h => h) (Or.inl ⟨by rfl, ?_⟩) hHeld ?_ ?_
            rotate_left
            · rintro w' ⟨_, s2⟩
              go_simp
              with_reducible rfl
            rotate_left
            · simp only [Act.put, List.setIfInBounds_toArray, List.set_cons_zero, List.set_cons_succ, i64_w, i32_w]
              rfl
            refine pure_ (i := 12) (N := (some 96)) (v := ?_) (a' := ?_) #[true, true, true, true, true, true, true, true, true, true, true, false, true, false, false, false, false, false, false, false, false, false, false, false, false] rfl rfl (any_of HT_.out (by kernel_rfl)) (fun _ _ _ h => h) (Or.inl ⟨by rfl, ?_⟩) ?_ ?_
            rotate_left
            · intro w'
              go_simp
              with_reducible rfl
            rotate_left
            · simp only [Act.put, List.setIfInBounds_toArray, List.set_cons_zero, List.set_cons_succ, i64_w, i32_w]
              rfl
            refine pure_ (i := 13) (N := (some 97)) (v := ?_) (a' := ?_) #[true, true, true, true, true, true, true, true, true, true, true, false, true, true, false, false, false, false, false, false, false, false, false, false, false] rfl rfl (any_of HT_.out (by kernel_rfl)) (fun _ _ _ h => h) (Or.inl ⟨by rfl, ?_⟩) ?_ ?_
            rotate_left
            · intro w'
              go_simp
              with_reducible rfl
            rotate_left
            · simp only [Act.put, List.setIfInBounds_toArray, List.set_cons_zero, List.set_cons_succ, i64_w, i32_w]
              rfl
            refine pure_ (i := 14) (N := (some 98)) (v := ?_) (a' := ?_) #[true, true, true, true, true, true, true, true, true, true, true, false, true, true, true, false, false, false, false, false, false, false, false, false, false] rfl rfl (any_of HT_.out (by kernel_rfl)) (fun _ _ _ h => h) (Or.inl ⟨by rfl, ?_⟩) ?_ ?_
            rotate_left
            · intro w'
              go_simp
              with_reducible rfl
            rotate_left
            · simp only [Act.put, List.setIfInBounds_toArray, List.set_cons_zero, List.set_cons_succ, i64_w, i32_w]
              rfl
            refine pure_ (i := 15) (N := (some 99)) (v := ?_) (a' := ?_) #[true, true, true, true, true, true, true, true, true, true, true, false, true, true, true, true, false, false, false, false, false, false, false, false, false] rfl rfl (any_of HT_.out (by kernel_rfl)) (fun _ _ _ h => h) (Or.inl ⟨by rfl, ?_⟩) ?_ ?_
            rotate_left
            · intro w'
              go_simp
              with_reducible rfl
            rotate_left
            · simp only [Act.put, List.setIfInBounds_toArray, List.set_cons_zero, List.set_cons_succ, i64_w, i32_w]
              rfl
            refine pure_ (i := 16) (N := (some 100)) (v := ?_) (a' := ?_) #[true, true, true, true, true, true, true, true, true, true, true, false, true, true, true, true, true, false, false, false, false, false, false, false, false] rfl rfl (any_of HT_.out (by kernel_rfl)) (fun _ _ _ h => h) (Or.inl ⟨by rfl, ?_⟩) ?_ ?_
            rotate_left
            · intro w'
              go_simp
              with_reducible rfl
            rotate_left
            · simp only [Act.put, List.setIfInBounds_toArray, List.set_cons_zero, List.set_cons_succ, i64_w, i32_w]
              rfl
            refine take_ (i := 17) (N := (some 101)) (v := ?_) (a' := ?_) #[true, true, true, true, true, true, true, true, true, true, true, false, true, true, true, true, true, true, false, false, false, false, false, false, false] rfl rfl (take_ofW HT_.out HW_.out (by kernel_rfl)) (fun _ _ _ h => h) (Or.inl ⟨by rfl, ?_⟩) hHeld ?_ ?_
            rotate_left
            · rintro w' ⟨s1, _⟩
              go_simp
              with_reducible rfl
            rotate_left
            · simp only [Act.put, List.setIfInBounds_toArray, List.set_cons_zero, List.set_cons_succ, i64_w, i32_w]
              rfl
            refine pure_ (i := 18) (N := (some 102)) (v := ?_) (a' := ?_) #[true, true, true, true, true, true, true, true, true, true, true, false, true, true, true, true, true, true, true, false, false, false, false, false, false] rfl rfl (any_of HT_.out (by kernel_rfl)) (fun _ _ _ h => h) (Or.inl ⟨by rfl, ?_⟩) ?_ ?_
            rotate_left
            · intro w'
              go_simp
              with_reducible rfl
            rotate_left
            · simp only [Act.put, List.setIfInBounds_toArray, List.set_cons_zero, List.set_cons_succ, i64_w, i32_w]
              rfl
            refine pure_ (i := 19) (N := (some 103)) (v := ?_) (a' := ?_) #[true, true, true, true, true, true, true, true, true, true, true, false, true, true, true, true, true, true, true, true, false, false, false, false, false] rfl rfl (any_of HT_.out (by kernel_rfl)) (fun _ _ _ h => h) (Or.inl ⟨by rfl, ?_⟩) ?_ ?_
            rotate_left
            · intro w'
              go_simp
              with_reducible rfl
            rotate_left
            · simp only [Act.put, List.setIfInBounds_toArray, List.set_cons_zero, List.set_cons_succ, i64_w, i32_w]
              rfl
            refine pure_ (i := 20) (N := (some 104)) (v := ?_) (a' := ?_) #[true, true, true, true, true, true, true, true, true, true, true, false, true, true, true, true, true, true, true, true, true, false, false, false, false] rfl rfl (any_of HT_.out (by kernel_rfl)) (fun _ _ _ h => h) (Or.inl ⟨by rfl, ?_⟩) ?_ ?_
            rotate_left
            · intro w'
              go_simp
              with_reducible rfl
            rotate_left
            · simp only [Act.put, List.setIfInBounds_toArray, List.set_cons_zero, List.set_cons_succ, i64_w, i32_w]
              rfl
            refine pure_ (i := 21) (N := (some 105)) (v := ?_) (a' := ?_) #[true, true, true, true, true, true, true, true, true, true, true, false, true, true, true, true, true, true, true, true, true, true, false, false, false] rfl rfl (any_of HT_.out (by kernel_rfl)) (fun _ _ _ h => h) (Or.inl ⟨by rfl, ?_⟩) ?_ ?_
            rotate_left
            · intro w'
              go_simp
              with_reducible rfl
            rotate_left
            · simp only [Act.put, List.setIfInBounds_toArray, List.set_cons_zero, List.set_cons_succ, i64_w, i32_w]
              rfl
            refine take_ (i := 22) (N := (some 106)) (v := ?_) (a' := ?_) #[true, true, true, true, true, true, true, true, true, true, true, false, true, true, true, true, true, true, true, true, true, true, true, false, false] rfl rfl (take_ofW HT_.out HW_.out (by kernel_rfl)) (fun _ _ _ h => h) (Or.inl ⟨by rfl, ?_⟩) hHeld ?_ ?_
            rotate_left
            · rintro w' ⟨_, s2⟩
              go_simp
              with_reducible rfl
            rotate_left
            · simp only [Act.put, List.setIfInBounds_toArray, List.set_cons_zero, List.set_cons_succ, i64_w, i32_w]
              rfl
            refine one_ (i := 11) (N := (some 95)) #[true, true, true, true, true, true, true, true, true, true, true, true, true, true, true, true, true, true, true, true, true, true, true, false, false] rfl rfl (one_of HT_.out (by kernel_rfl)) (by decide) (fun K9 hK => ?_)
            refine goes_ Try.func12 (by kernel_rfl) rfl #[.pointer (some ⟨C, 0, none⟩), .int .i64 y.f1, .int .i64 y.f2] (by rfl) rfl rfl (by (try simp only [List.map_toArray, List.map_cons, List.map_nil]); first | done | rfl) ?_
            refine (skew_is (HP.out.quiet (Fr.refl (fun _ => False) wr).drew).real y.f1 y.f2 p sk' HQ.out.1 HQ.out.2).mono ?_
            rintro e w4 ⟨rfl, hC, hF⟩
            refine ⟨_, rfl, ?_⟩
            have H4 := Aside.mk hC
            have F4 := Aside.mk (hF.mono (G := fun k => k = C ∨ k = b) (fun k e => .inr e))
            have X4 := Aside.mk ((HP.out.quiet (Fr.refl (fun _ => False) wr).drew).refAt F4.out)
            have HD4 := Aside.mk (And.intro (arg_cell (w0 := w) hHeld.1 (addb ad (k * 3)) HAD.out (HP.out.quiet (Fr.refl (fun _ => False) wr).drew).bel F4.out (fun e => by have h1 := HAD.out; have h2 := HP.out.cC; have h3 := HP.out.cb; rcases e with e | e <;> omega)) (arg_cell (w0 := w) hHeld.2 (addb ad (k * 3)) HAD.out (HP.out.quiet (Fr.refl (fun _ => False) wr).drew).bel F4.out (fun e => by have h1 := HAD.out; have h2 := HP.out.cC; have h3 := HP.out.cb; rcases e with e | e <;> omega)))
            clear hC hF
            refine hK.out _ _ HD4.out (fun hHeld => ?_)
            clear hK K9
            refine norm_ (a' := ?_) ?_ ?_
            rotate_left
            · show Act.put _ (some 95) _ = _
              simp only [Act.put, List.setIfInBounds_toArray, List.set_cons_zero, List.set_cons_succ]
              rfl
            refine one_ (i := 23) (N := (some 107)) #[true, true, true, true, true, true, true, true, true, true, true, true, true, true, true, true, true, true, true, true, true, true, true, true, false] rfl rfl (one_of HT_.out (by kernel_rfl)) (by decide) (fun K9 hK => ?_)
            refine goes_ Try.func20 (by kernel_rfl) rfl #[.pointer (some ⟨X, 0, none⟩), .int .i64 y.f1, .int .i64 y.f2] (by rfl) rfl rfl (by (try simp only [List.map_toArray, List.map_cons, List.map_nil]); first | done | rfl) ?_
            refine (rskew_is X4.out y.f1 y.f2 p sk' HQ.out.1 HQ.out.2).mono ?_
            rintro e w5 ⟨rfl, hC, hF⟩
            refine ⟨_, rfl, ?_⟩
            have F5 := Aside.mk (hF.mono (G := fun k => k = X ∨ k = xb) (fun k e => .inr e))
            have HP5 := Aside.mk ((HP.out.quiet (Fr.refl (fun _ => False) wr).drew).step H4.out F4.out hC F5.out)
            have HD5 := Aside.mk (And.intro (arg_cell (w0 := w) HD4.out.1 (addb ad (k * 3)) HAD.out ((HP.out.quiet (Fr.refl (fun _ => False) wr).drew).bel.trans (F4.out.below (HP.out.quiet (Fr.refl (fun _ => False) wr).drew).bel.size (fun k e => by have h2 := HP.out.cC; have h3 := HP.out.cb; rcases e with e | e <;> omega))) F5.out (fun e => by have h1 := HAD.out; have h2 := HP.out.cX; have h3 := HP.out.cx; rcases e with e | e <;> omega)) (arg_cell (w0 := w) HD4.out.2 (addb ad (k * 3)) HAD.out ((HP.out.quiet (Fr.refl (fun _ => False) wr).drew).bel.trans (F4.out.below (HP.out.quiet (Fr.refl (fun _ => False) wr).drew).bel.size (fun k e => by have h2 := HP.out.cC; have h3 := HP.out.cb; rcases e with e | e <;> omega))) F5.out (fun e => by have h1 := HAD.out; have h2 := HP.out.cX; have h3 := HP.out.cx; rcases e with e | e <;> omega)))
            clear hC hF
            refine hK.out _ _ HD5.out (fun hHeld => ?_)
            clear hK K9
            refine norm_ (a' := ?_) ?_ ?_
            rotate_left
            · show Act.put _ (some 107) _ = _
              simp only [Act.put, List.setIfInBounds_toArray, List.set_cons_zero, List.set_cons_succ]
              rfl
            refine pure_ (i := 24) (N := (some 108)) (v := ?_) (a' := ?_) #[true, true, true, true, true, true, true, true, true, true, true, true, true, true, true, true, true, true, true, true, true, true, true, true, true] rfl rfl (any_of HT_.out (by kernel_rfl)) (fun _ _ _ h => h) (Or.inl ⟨by rfl, ?_⟩) ?_ ?_
            rotate_left
            · intro w'
              go_simp
              with_reducible rfl
            rotate_left
            · simp only [Act.put, List.setIfInBounds_toArray, List.set_cons_zero, List.set_cons_succ, i64_w, i32_w]
              rfl
            refine done_ (done_of HT_.out (by kernel_rfl)) ?_
            clear HT_ HW_ hHeld
            go_wp2_with fail
            go_meet
            exact ⟨C, b, c, now, sk', rfl, HP5⟩
          · have e0 : (y.f0 == 0) = false := by rw [beq_eq_false_iff_ne]; exact hk0
            have e1 : (y.f0 == 1) = false := by rw [beq_eq_false_iff_ne]; exact hk1
            clear hk0 hk1 hf0
            go_wp2_with fail
            refine (ccopy_calls C b c now sk wr HP.out.real).mono ?_
            rintro e w4 ⟨C', b', c', rfl, hC, h1, h2, hb⟩
            have H4 := Aside.mk hC
            have L4 := Aside.mk (And.intro h1 h2)
            have B4 := Aside.mk hb
            have R4 := Aside.mk ((HP.out.quiet (Fr.of_new hb)).real)
            clear hC h1 h2 hb
            go_wp2_with fail
            refine (pass_is R4.out 7 _ _ rfl rfl).mono ?_
            rintro e w5 ⟨rfl, hC, hF⟩
            have R5 := Aside.mk hC
            have F5 := Aside.mk (hF.mono (G := fun k => k = C ∨ k = b) (fun k e => .inl e))
            clear hC hF
            go_wp2_with fail
            refine (skew_is R5.out 0 9 _ _ rfl rfl).mono ?_
            rintro e w6 ⟨rfl, hC, hF⟩
            have HP6 := Aside.mk (HP.out.copied B4.out H4.out L4.out.1 L4.out.2 (F5.out.then (hF.mono (G := fun k => k = C ∨ k = b) (fun k e => .inr e)) (fun k e => .inl e)))
            clear hC hF
            go_wp2_with fail
            go_meet
            exact ⟨C', b', c', now, sk, rfl, HP6⟩
      case rest =>
        obtain ⟨C, b, c, now, sk, rfl, HP⟩ := hcut
        clear hf0 hf1 hf2
        obtain ⟨N, hN⟩ : ∃ N, sk.length = N := ⟨_, rfl⟩
        have hN16 : N ≤ 16 := by rw [← hN]; exact HP.out.real.few
        have HN2 := Aside.mk hN
        clear hN
        go_wp2_with fail
        go_loopw [11] (fun v11 wr' => ∃ q : Int, -1 ≤ q ∧ q ≤ N + 1 ∧ v11 = .int .i64 q ∧ Aside (PW w C b c X xb xc now sk wr')) (fun v11 _ => (N + 1 - intOf v11).toNat)
        case atStart => exact ⟨-1, by omega, by omega, rfl, HP⟩
        case round =>
          clear HP
          obtain ⟨q, hq0, hq1, rfl, HP⟩ := hrel
          have t1 := HP.out.ref.cell1
          rw [HN2.out] at t1
          by_cases hq : q ≤ N
          · obtain ⟨a, ha⟩ : ∃ a, atI now sk q = a := ⟨_, rfl⟩
            obtain ⟨v, hv⟩ : ∃ v, noneI sk.length q = v := ⟨_, rfl⟩
            have HA := Aside.mk (And.intro ha hv)
            clear ha hv
            go_wp2_with fail
            refine (cat2_is HP.out.real q a v HA.out.1 HA.out.2).mono ?_
            rintro e w4 ⟨rfl, rfl⟩
            go_wp2_with fail
            refine (rat_is HP.out.ref q a v HA.out.1 HA.out.2).mono ?_
            rintro e w4 ⟨rfl, hF⟩
            have HP := Aside.mk (HP.out.quiet hF)
            clear hF t1
            go_wp2_with fail
            go_roundw
            case rel => exact ⟨q + 1, by omega, by omega, by first | rfl | go_num, HP⟩
            case measure => simp [intOf]; omega
          · have hq' : N < q := by omega
            obtain ⟨ad', he, hf0, hf1, hf2⟩ := at_T40 (Kd.C_below HG.out HP.out.bel) (k : Int) (by omega) (by rw [HN.out]; omega)
            obtain rfl : ad = ad' := by cases he; rfl
            clear he hf0 hf2
            obtain ⟨y, hy⟩ : ∃ y, rd_T40 l k = y := ⟨_, rfl⟩
            rw [hy] at hf1
            simp only [Int.toNat_natCast] at hf1
            obtain ⟨a, ha⟩ : ∃ a, atI now sk y.f1 = a := ⟨_, rfl⟩
            obtain ⟨v, hv⟩ : ∃ v, noneI sk.length y.f1 = v := ⟨_, rfl⟩
            obtain ⟨o, ho⟩ : ∃ o, worstI now sk = o := ⟨_, rfl⟩
            have HA := Aside.mk (And.intro ha hv)
            have HO := Aside.mk ho
            clear ha hv ho hy
            go_wp2_with fail
            refine (cat2_is HP.out.real y.f1 a v HA.out.1 HA.out.2).mono ?_
            rintro e w4 ⟨rfl, rfl⟩
            go_wp2_with fail
            refine (rat_is HP.out.ref y.f1 a v HA.out.1 HA.out.2).mono ?_
            rintro e w7 ⟨rfl, hF⟩
            have HP7 := Aside.mk (HP.out.quiet hF)
            have HP8 := Aside.mk (HP7.out.quiet (Fr.refl (fun _ => False) w7).drew)
            clear hF t1 hf1
            go_upto_region 32 with fail
            refine start_ (n := 24) (S := (fun w' => w'.cell? ⟨X, 0, none⟩ = some (.int .i64 now))) (ds := []) #[false, false, false, false, false, false, false, false, false, false, false, false, false, false, false, false, false, false, false, false, false, false, false, false] (by kernel_rfl) rfl rfl HP8.out.ref.cell0 (fun hHeld => ?_); refine with_tabW ply32_tab ply32_bits (fun HT_ HW_ => ?_)
            refine pure_ (i := 0) (N := (some 158)) (v := ?_) (a' := ?_) #[true, false, false, false, false, false, false, false, false, false, false, false, false, false, false, false, false, false, false, false, false, false, false, false] rfl rfl (any_of HT_.out (by kernel_rfl)) (fun _ _ _ h => h) (Or.inl ⟨by rfl, ?_⟩) ?_ ?_
            rotate_left
            · intro w'
              go_simp
              with_reducible rfl
            rotate_left
            · simp only [Act.put, List.setIfInBounds_toArray, List.set_cons_zero, List.set_cons_succ, i64_w, i32_w]
              rfl
            refine pure_ (i := 1) (N := (some 159)) (v := ?_) (a' := ?_) #[true, true, false, false, false, false, false, false, false, false, false, false, false, false, false, false, false, false, false, false, false, false, false, false] rfl rfl (any_of HT_.out (by kernel_rfl)) (fun _ _ _ h => h) (Or.inl ⟨by rfl, ?_⟩) ?_ ?_
            rotate_left
            · intro w'
              go_simp
              with_reducible rfl
            rotate_left
            · simp only [Act.put, List.setIfInBounds_toArray, List.set_cons_zero, List.set_cons_succ, i64_w, i32_w]
              rfl
            refine pure_ (i := 2) (N := (some 160)) (v := ?_) (a' := ?_) #[true, true, true, false, false, false, false, false, false, false, false, false, false, false, false, false, false, false, false, false, false, false, false, false] rfl rfl (any_of HT_.out (by kernel_rfl)) (fun _ _ _ h => h) (Or.inl ⟨by rfl, ?_⟩) ?_ ?_
            rotate_left
            · intro w'
              go_simp
              with_reducible rfl
            rotate_left
            · simp only [Act.put, List.setIfInBounds_toArray, List.set_cons_zero, List.set_cons_succ, i64_w, i32_w]
              rfl
            refine pure_ (i := 3) (N := (some 161)) (v := ?_) (a' := ?_) #[true, true, true, true, false, false, false, false, false, false, false, false, false, false, false, false, false, false, false, false, false, false, false, false] rfl rfl (any_of HT_.out (by kernel_rfl)) (fun _ _ _ h => h) (Or.inl ⟨by rfl, ?_⟩) ?_ ?_
            rotate_left
            · intro w'
              go_simp
              with_reducible rfl
            rotate_left
            · simp only [Act.put, List.setIfInBounds_toArray, List.set_cons_zero, List.set_cons_succ, i64_w, i32_w]
              rfl
            refine pure_ (i := 4) (N := (some 162)) (v := ?_) (a' := ?_) #[true, true, true, true, true, false, false, false, false, false, false, false, false, false, false, false, false, false, false, false, false, false, false, false] rfl rfl (any_of HT_.out (by kernel_rfl)) (fun _ _ _ h => h) (Or.inl ⟨by rfl, ?_⟩) ?_ ?_
            rotate_left
            · intro w'
              go_simp
              with_reducible rfl
            rotate_left
            · simp only [Act.put, List.setIfInBounds_toArray, List.set_cons_zero, List.set_cons_succ, i64_w, i32_w]
              rfl
            refine pure_ (i := 5) (N := (some 163)) (v := ?_) (a' := ?_) #[true, true, true, true, true, true, false, false, false, false, false, false, false, false, false, false, false, false, false, false, false, false, false, false] rfl rfl (any_of HT_.out (by kernel_rfl)) (fun _ _ _ h => h) (Or.inl ⟨by rfl, ?_⟩) ?_ ?_
            rotate_left
            · intro w'
              go_simp
              with_reducible rfl
            rotate_left
            · simp only [Act.put, List.setIfInBounds_toArray, List.set_cons_zero, List.set_cons_succ, i64_w, i32_w]
              rfl
            refine pure_ (i := 6) (N := (some 164)) (v := ?_) (a' := ?_) #[true, true, true, true, true, true, true, false, false, false, false, false, false, false, false, false, false, false, false, false, false, false, false, false] rfl rfl (any_of HT_.out (by kernel_rfl)) (fun _ _ _ h => h) (Or.inl ⟨by rfl, ?_⟩) ?_ ?_
            rotate_left
            · intro w'
              go_simp
              with_reducible rfl
            rotate_left
            · simp only [Act.put, List.setIfInBounds_toArray, List.set_cons_zero, List.set_cons_succ, i64_w, i32_w]
              rfl
            refine pure_ (i := 7) (N := (some 165)) (v := ?_) (a' := ?_) #[true, true, true, true, true, true, true, true, false, false, false, false, false, false, false, false, false, false, false, false, false, false, false, false] rfl rfl (any_of HT_.out (by kernel_rfl)) (fun _ _ _ h => h) (Or.inl ⟨by rfl, ?_⟩) ?_ ?_
            rotate_left
            · intro w'
              go_simp
              with_reducible rfl
            rotate_left
            · simp only [Act.put, List.setIfInBounds_toArray, List.set_cons_zero, List.set_cons_succ, i64_w, i32_w]
              rfl
            refine pure_ (i := 8) (N := (some 166)) (v := ?_) (a' := ?_) #[true, true, true, true, true, true, true, true, true, false, false, false, false, false, false, false, false, false, false, false, false, false, false, false] rfl rfl (any_of HT_.out (by kernel_rfl)) (fun _ _ _ h => h) (Or.inl ⟨by rfl, ?_⟩) ?_ ?_
            rotate_left
            · intro w'
              go_simp
              with_reducible rfl
            rotate_left
            · simp only [Act.put, List.setIfInBounds_toArray, List.set_cons_zero, List.set_cons_succ, i64_w, i32_w]
              rfl
            refine pure_ (i := 9) (N := (some 167)) (v := ?_) (a' := ?_) #[true, true, true, true, true, true, true, true, true, true, false, false, false, false, false, false, false, false, false, false, false, false, false, false] rfl rfl (any_of HT_.out (by kernel_rfl)) (fun _ _ _ h => h) (Or.inl ⟨by rfl, ?_⟩) ?_ ?_
            rotate_left
            · intro w'
              go_simp
              with_reducible rfl
            rotate_left
            · simp only [Act.put, List.setIfInBounds_toArray, List.set_cons_zero, List.set_cons_succ, i64_w, i32_w]
              rfl
            refine pure_ (i := 11) (N := (some 169)) (v := ?_) (a' := ?_) #[true, true, true, true, true, true, true, true, true, true, false, true, false, false, false, false, false, false, false, false, false, false, false, false] rfl rfl (any_of HT_.out (by kernel_rfl)) (fun _ _ _ h => h) (Or.inl ⟨by rfl, ?_⟩) ?_ ?_
            rotate_left
            · intro w'
              go_simp
              with_reducible rfl
            rotate_left
            · simp only [Act.put, List.setIfInBounds_toArray, List.set_cons_zero, List.set_cons_succ, i64_w, i32_w]
              rfl
            refine pure_ (i := 12) (N := (some 170)) (v := ?_) (a' := ?_) #[true, true, true, true, true, true, true, true, true, true, false, true, true, false, false, false, false, false, false, false, false, false, false, false] rfl rfl (any_of HT_.out (by kernel_rfl)) (fun _ _ _ h => h) (Or.inl ⟨by rfl, ?_⟩) ?_ ?_
            rotate_left
            · intro w'
              go_simp
              with_reducible rfl
            rotate_left
            · simp only [Act.put, List.setIfInBounds_toArray, List.set_cons_zero, List.set_cons_succ, i64_w, i32_w]
              rfl
            refine pure_ (i := 13) (N := (some 171)) (v := ?_) (a' := ?_) #[true, true, true, true, true, true, true, true, true, true, false, true, true, true, false, false, false, false, false, false, false, false, false, false] rfl rfl (any_of HT_.out (by kernel_rfl)) (fun _ _ _ h => h) (Or.inl ⟨by rfl, ?_⟩) ?_ ?_
            rotate_left
            · intro w'
              go_simp
              with_reducible rfl
            rotate_left
            · simp only [Act.put, List.setIfInBounds_toArray, List.set_cons_zero, List.set_cons_succ, i64_w, i32_w]
              rfl
            refine take_ (i := 14) (N := (some 172)) (v := ?_) (a' := ?_) #[true, true, true, true, true, true, true, true, true, true, false, true, true, true, true, false, false, false, false, false, false, false, false, false] rfl rfl (take_ofW HT_.out HW_.out (by kernel_rfl)) (fun _ _ _ h => h) (Or.inl ⟨by rfl, ?_⟩) hHeld ?_ ?_
            rotate_left
            · rintro w' s1
              go_simp
              with_reducible rfl
            rotate_left
            · simp only [Act.put, List.setIfInBounds_toArray, List.set_cons_zero, List.set_cons_succ, i64_w, i32_w]
              rfl
            refine one_ (i := 10) (N := (some 168)) #[true, true, true, true, true, true, true, true, true, true, true, true, true, true, true, false, false, false, false, false, false, false, false, false] rfl rfl (one_of HT_.out (by kernel_rfl)) (by decide) (fun K9 hK => ?_)
            refine goes_ Try.func15 (by kernel_rfl) rfl #[.pointer (some ⟨C, 0, none⟩)] (by rfl) rfl rfl (by (try simp only [List.map_toArray, List.map_cons, List.map_nil]); first | done | rfl) ?_
            refine (cnow_calls C b c now sk _ HP8.out.real).mono ?_
            rintro e w9 ⟨rfl, rfl⟩
            refine ⟨_, rfl, ?_⟩

            refine hK.out _ _ hHeld (fun hHeld => ?_)
            clear hK K9
            refine norm_ (a' := ?_) ?_ ?_
            rotate_left
            · show Act.put _ (some 168) _ = _
              simp only [Act.put, List.setIfInBounds_toArray, List.set_cons_zero, List.set_cons_succ]
              rfl
            refine pure_ (i := 15) (N := (some 173)) (v := ?_) (a' := ?_) #[true, true, true, true, true, true, true, true, true, true, true, true, true, true, true, true, false, false, false, false, false, false, false, false] rfl rfl (any_of HT_.out (by kernel_rfl)) (fun _ _ _ h => h) (Or.inl ⟨by rfl, ?_⟩) ?_ ?_
            rotate_left
            · intro w'
              go_simp
              with_reducible rfl
            rotate_left
            · simp only [Act.put, List.setIfInBounds_toArray, List.set_cons_zero, List.set_cons_succ, i64_w, i32_w]
              rfl
            refine pure_ (i := 16) (N := (some 174)) (v := ?_) (a' := ?_) #[true, true, true, true, true, true, true, true, true, true, true, true, true, true, true, true, true, false, false, false, false, false, false, false] rfl rfl (any_of HT_.out (by kernel_rfl)) (fun _ _ _ h => h) (Or.inl ⟨by rfl, ?_⟩) ?_ ?_
            rotate_left
            · intro w'
              go_simp
              with_reducible rfl
            rotate_left
            · simp only [Act.put, List.setIfInBounds_toArray, List.set_cons_zero, List.set_cons_succ, i64_w, i32_w]
              rfl
            refine pure_ (i := 17) (N := (some 175)) (v := ?_) (a' := ?_) #[true, true, true, true, true, true, true, true, true, true, true, true, true, true, true, true, true, true, false, false, false, false, false, false] rfl rfl (any_of HT_.out (by kernel_rfl)) (fun _ _ _ h => h) (Or.inl ⟨by rfl, ?_⟩) ?_ ?_
            rotate_left
            · intro w'
              go_simp
              with_reducible rfl
            rotate_left
            · simp only [Act.put, List.setIfInBounds_toArray, List.set_cons_zero, List.set_cons_succ, i64_w, i32_w]
              rfl
            refine pure_ (i := 18) (N := (some 176)) (v := ?_) (a' := ?_) #[true, true, true, true, true, true, true, true, true, true, true, true, true, true, true, true, true, true, true, false, false, false, false, false] rfl rfl (any_of HT_.out (by kernel_rfl)) (fun _ _ _ h => h) (Or.inl ⟨by rfl, ?_⟩) ?_ ?_
            rotate_left
            · intro w'
              go_simp
              with_reducible rfl
            rotate_left
            · simp only [Act.put, List.setIfInBounds_toArray, List.set_cons_zero, List.set_cons_succ, i64_w, i32_w]
              rfl
            refine pure_ (i := 20) (N := (some 178)) (v := ?_) (a' := ?_) #[true, true, true, true, true, true, true, true, true, true, true, true, true, true, true, true, true, true, true, false, true, false, false, false] rfl rfl (any_of HT_.out (by kernel_rfl)) (fun _ _ _ h => h) (Or.inl ⟨by rfl, ?_⟩) ?_ ?_
            rotate_left
            · intro w'
              go_simp
              with_reducible rfl
            rotate_left
            · simp only [Act.put, List.setIfInBounds_toArray, List.set_cons_zero, List.set_cons_succ, i64_w, i32_w]
              rfl
            refine one_ (i := 19) (N := (some 177)) #[true, true, true, true, true, true, true, true, true, true, true, true, true, true, true, true, true, true, true, true, true, false, false, false] rfl rfl (one_of HT_.out (by kernel_rfl)) (by decide) (fun K9 hK => ?_)
            refine goes_ Try.func17 (by kernel_rfl) rfl #[.pointer (some ⟨C, 0, none⟩)] (by rfl) rfl rfl (by (try simp only [List.map_toArray, List.map_cons, List.map_nil]); first | done | rfl) ?_
            refine (worst_is HP8.out.real o HO.out).mono ?_
            rintro e w9 ⟨rfl, hF⟩
            refine ⟨_, rfl, ?_⟩
            have HP9 := Aside.mk (HP8.out.quiet hF)
            clear hF
            refine hK.out _ _ HP9.out.ref.cell0 (fun hHeld => ?_)
            clear hK K9
            refine norm_ (a' := ?_) ?_ ?_
            rotate_left
            · show Act.put _ (some 177) _ = _
              simp only [Act.put, List.setIfInBounds_toArray, List.set_cons_zero, List.set_cons_succ]
              rfl
            refine one_ (i := 21) (N := (some 179)) #[true, true, true, true, true, true, true, true, true, true, true, true, true, true, true, true, true, true, true, true, true, true, false, false] rfl rfl (one_of HT_.out (by kernel_rfl)) (by decide) (fun K9 hK => ?_)
            refine goes_ Try.func23 (by kernel_rfl) rfl #[.pointer (some ⟨X, 0, none⟩)] (by rfl) rfl rfl (by (try simp only [List.map_toArray, List.map_cons, List.map_nil]); first | done | rfl) ?_
            refine (rworst_is HP9.out.ref o HO.out).mono ?_
            rintro e w10 ⟨rfl, hF⟩
            refine ⟨_, rfl, ?_⟩
            have HPA := Aside.mk (HP9.out.quiet hF)
            clear hF
            refine hK.out _ _ HPA.out.ref.cell0 (fun hHeld => ?_)
            clear hK K9
            refine norm_ (a' := ?_) ?_ ?_
            rotate_left
            · show Act.put _ (some 179) _ = _
              simp only [Act.put, List.setIfInBounds_toArray, List.set_cons_zero, List.set_cons_succ]
              rfl
            refine pure_ (i := 22) (N := (some 180)) (v := ?_) (a' := ?_) #[true, true, true, true, true, true, true, true, true, true, true, true, true, true, true, true, true, true, true, true, true, true, true, false] rfl rfl (any_of HT_.out (by kernel_rfl)) (fun _ _ _ h => h) (Or.inl ⟨by rfl, ?_⟩) ?_ ?_
            rotate_left
            · intro w'
              go_simp
              with_reducible rfl
            rotate_left
            · simp only [Act.put, List.setIfInBounds_toArray, List.set_cons_zero, List.set_cons_succ, i64_w, i32_w]
              rfl
            refine pure_ (i := 23) (N := (some 181)) (v := ?_) (a' := ?_) #[true, true, true, true, true, true, true, true, true, true, true, true, true, true, true, true, true, true, true, true, true, true, true, true] rfl rfl (any_of HT_.out (by kernel_rfl)) (fun _ _ _ h => h) (Or.inl ⟨by rfl, ?_⟩) ?_ ?_
            rotate_left
            · intro w'
              go_simp
              with_reducible rfl
            rotate_left
            · simp only [Act.put, List.setIfInBounds_toArray, List.set_cons_zero, List.set_cons_succ, i64_w, i32_w]
              rfl
            refine done_ (done_of HT_.out (by kernel_rfl)) ?_
            clear HT_ HW_ hHeld
            go_wp2_with fail
            go_roundw
            case rel => exact ⟨k + 1, C, b, c, now, sk, by omega, rfl, by go_num, HPA⟩
            case measure => simp [intOf]; omega
    · obtain rfl : k = n := by omega
      go_wp2_with fail
      refine (aw_true _).mono ?_
      rintro e w3 ⟨rfl, hb⟩
      have HB := Aside.mk (HP.out.bel.trans (hb.mono HP.out.bel.size))
      clear hb
      go_wp2_with fail
      go_ret
      exact ⟨rfl, HB.out⟩
end Go.Proofs.Ytjefeoohfalcaaa.C
