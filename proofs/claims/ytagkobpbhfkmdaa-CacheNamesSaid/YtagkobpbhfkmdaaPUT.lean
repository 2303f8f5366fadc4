/- Trees of entries: put; Of. -/
import Derived.Test.YtagkobpbhfkmdaaSHF
import Derived.Test.YtagkobpbhfkmdaaKY
namespace Go.Proofs.Ytagkobpbhfkmdaa.C
open Go.RowKit Go.Proofs.Ytagkobpbhfkmdaa.Q Go.Proofs.YtagkobpbhfkmdaaW.PrintLast Go.Proofs.YtagkobpbhfkmdaaW.PrintWords
set_option linter.unusedVariables false
set_option linter.unusedSimpArgs false
def shp4T : Bool × List (List Nat × List Nat) := (true, [([], []), ([], []), ([1], [1]), ([2], [2]), ([3], [3]), ([], []), ([], []), ([4, 5, 6], [4, 5, 6]), ([], []), ([8], [8]), ([9], [9]), ([10], [10]), ([0, 7, 11, 7], [0, 7, 11]), ([12, 12, 0, 1, 2, 3, 4, 5, 6, 7, 8, 9, 10, 11, 12], [12])])
def shp4B : List Nat := [0, 0, 2, 6, 14, 0, 0, 126, 0, 256, 768, 1792, 4095, 8191]
theorem shp4_tab : rtab .any (opsOf Try.f69 4) = shp4T := by kernel_rfl
theorem shp4_bits : waitsOk shp4T.2 shp4B = true := by kernel_rfl
def shp6T : Bool × List (List Nat × List Nat) := (true, [([], []), ([], []), ([1], [1]), ([2], [2]), ([3], [3]), ([], []), ([5], [5]), ([6], [6]), ([7], [7]), ([], []), ([], []), ([8, 9, 10], [8, 9, 10]), ([0, 4, 11, 11], [0, 4, 11]), ([12, 12, 0, 1, 2, 3, 4, 5, 6, 7, 8, 9, 10, 11, 12], [12])])
def shp6B : List Nat := [0, 0, 2, 6, 14, 0, 32, 96, 224, 0, 0, 2016, 4095, 8191]
theorem shp6_tab : rtab .any (opsOf Try.f69 6) = shp6T := by kernel_rfl
theorem shp6_bits : waitsOk shp6T.2 shp6B = true := by kernel_rfl
def shp7T : Bool × List (List Nat × List Nat) := (true, [([], []), ([], []), ([], []), ([2], [2]), ([3], [3]), ([4], [4]), ([], []), ([6], [6]), ([7], [7]), ([8], [8]), ([], []), ([10], [10]), ([11], [11]), ([12], [12]), ([0, 1, 5, 9, 13], [0, 1, 5, 9, 13]), ([14], [14]), ([15, 0, 1, 2, 3, 4, 5, 6, 7, 8, 9, 10, 11, 12, 13, 14, 15], [15])])
def shp7B : List Nat := [0, 0, 0, 4, 12, 28, 0, 64, 192, 448, 0, 1024, 3072, 7168, 16383, 32767, 65535]
theorem shp7_tab : rtab .any (opsOf Try.f69 7) = shp7T := by kernel_rfl
theorem shp7_bits : waitsOk shp7T.2 shp7B = true := by kernel_rfl
def sof11T : Bool × List (List Nat × List Nat) := (true, [([], []), ([], []), ([1], [1]), ([2], [2]), ([3], [3]), ([], []), ([5], [5]), ([], []), ([4, 6, 7], [4, 6, 7]), ([0, 0, 1, 2, 3, 4, 5, 6, 7, 8], [0]), ([9, 0, 1, 2, 3, 4, 5, 6, 7, 8], [9]), ([10, 8, 8, 0, 1, 2, 3, 4, 5, 6, 7, 8], [8, 10])])
def sof11B : List Nat := [0, 0, 2, 6, 14, 0, 32, 0, 254, 511, 1023, 2047]
theorem sof11_tab : rtab .any (opsOf Try.f37 11) = sof11T := by kernel_rfl
theorem sof11_bits : waitsOk sof11T.2 sof11B = true := by kernel_rfl

set_option maxHeartbeats 8000000 in
set_option maxRecDepth 100000 in
theorem put_calls : ∀ (t : Shf) (v : Option Addr) (key : ByteArray) (x : Ent) (w : World), SH w v t → t.ok → t.cnt ≤ 10000000000 →
    Calls Try.prog 69 #[.pointer v, .string key, .agg #[.string x.key, .string x.val, .int .i64 x.made, .int .i64 x.mod]] w fun e' w' => ∃ v', e' = .returned (.pointer v') ∧ SH w' v' (Shf.put key x t) ∧ Below w.heap.size w w'
  | .nil, v, key, x, w, hs, ho, hn => by
    obtain rfl : v = none := hs
    clear ho hn
    go_enter Try.func69, Try.ntmps69
    go_wp2_with fail
    go_ret
    obtain ⟨W1, hW1⟩ : ∃ W1, W1 = w.alloc (.cells #[.string x.key, .string x.val, .int .i64 x.made, .int .i64 x.mod] 46 (0, 0)) := ⟨_, rfl⟩
    have hb : Below w.heap.size w W1 := by rw [hW1]; exact new_alloc _ _
    have hsz : W1.heap.size = w.heap.size + 1 := by rw [hW1]; simp
    rw [← hW1, ← hsz]
    exact ⟨_, rfl, ⟨_, none, none, rfl, heap_alloc_new W1 _, rfl, rfl⟩, hb.trans ((new_alloc W1 _).mono hb.size)⟩
  | .node sk se l r h, v, key, x, w, hs', ho, hn => by
    have ihl := put_calls l
    have ihr := put_calls r
    have hs := Aside.mk hs'
    obtain ⟨b, pl, pr, rfl, hb, hl', hr'⟩ := hs'
    have hl := Aside.mk hl'
    have hr := Aside.mk hr'
    have hn2 : l.cnt + r.cnt + 1 ≤ 10000000000 := hn
    have HO := Aside.mk (And.intro ho.1 (And.intro ho.2.1 hn2))
    obtain ⟨W1, hW1⟩ : ∃ W1, W1 = w.alloc (.cells #[.string x.key, .string x.val, .int .i64 x.made, .int .i64 x.mod] 46 (0, 0)) := ⟨_, rfl⟩
    have hb1 : Below w.heap.size w W1 := by rw [hW1]; exact new_alloc _ _
    have HW : Aside (Below w.heap.size w W1 ∧ Below w.heap.size w W1.drew) := ⟨hb1, below_drew1 hb1⟩
    have hbx : W1.heap[w.heap.size]? = some (.cells #[.string x.key, .string x.val, .int .i64 x.made, .int .i64 x.mod] 46 (0, 0)) := by rw [hW1]; exact heap_alloc_new w _
    have hb2 : W1.heap[b]? = _ := (hb1.block b (lt_of_block hb)).trans hb
    have HC : Aside (∀ {W : World}, Below W1.drew.heap.size W1.drew W → ((W.cell? ⟨b, 5, none⟩ = some (.pointer pl) ∧ W.cell? ⟨b, 6, none⟩ = some (.pointer pr)) ∧ W.cell? ⟨w.heap.size, 0, none⟩ = some (.string x.key) ∧ W.cell? ⟨w.heap.size, 1, none⟩ = some (.string x.val) ∧ W.cell? ⟨w.heap.size, 2, none⟩ = some (.int .i64 x.made) ∧ W.cell? ⟨w.heap.size, 3, none⟩ = some (.int .i64 x.mod))) := ⟨fun hB => by
      have e1 : W1.heap.size = W1.drew.heap.size := rfl
      have k1 := fun (i : Nat) => hB.cell (p := ⟨b, i, none⟩) (lt_of_block hb2)
      have k2 := fun (i : Nat) => hB.cell (p := ⟨w.heap.size, i, none⟩) (lt_of_block hbx)
      exact ⟨⟨(k1 5).trans (cell_at hb2 5), (k1 6).trans (cell_at hb2 6)⟩, (k2 0).trans (cell_at hbx 0), (k2 1).trans (cell_at hbx 1), (k2 2).trans (cell_at hbx 2), (k2 3).trans (cell_at hbx 3)⟩⟩
    have HC7 : Aside (∀ {W : World}, Below W1.drew.heap.size W1.drew W → ((W.cell? ⟨b, 5, none⟩ = some (.pointer pl) ∧ W.cell? ⟨b, 6, none⟩ = some (.pointer pr) ∧ W.cell? ⟨b, 7, none⟩ = some (.int .i64 h)) ∧ W.cell? ⟨w.heap.size, 0, none⟩ = some (.string x.key) ∧ W.cell? ⟨w.heap.size, 1, none⟩ = some (.string x.val) ∧ W.cell? ⟨w.heap.size, 2, none⟩ = some (.int .i64 x.made) ∧ W.cell? ⟨w.heap.size, 3, none⟩ = some (.int .i64 x.mod))) := ⟨fun hB => ⟨⟨(HC.out hB).1.1, (HC.out hB).1.2, (hB.cell (p := ⟨b, 7, none⟩) (lt_of_block hb2)).trans (cell_at hb2 7)⟩, (HC.out hB).2⟩⟩
    have hbn : ¬ b = w.heap.size := by have := lt_of_block hb; omega
    have hblt := lt_of_block hb
    have c0 : w.cell? ⟨b, 0, none⟩ = some (.string sk) := cell_at hb 0
    have HW1 := Aside.mk hW1
    clear hl' hr' ho hn hn2 hb1 hbx hb2 hb hW1
    cases d1 : Op.bytesLess key.toList sk.toList with
    | true =>
      have HE : Aside (Shf.put key x (.node sk se l r h) = Shf.lvl sk se (Shf.put key x l) r) := ⟨by show (if slt key sk = true then _ else _) = _; rw [if_pos (show slt key sk = true from d1)]⟩
      go_enter Try.func69, Try.ntmps69
      go_upto_region 4 with fail
      rw [← HW1.out]
      have t0 := HC.out (Below.refl _ _)
      refine start_ (n := 14) (S := (fun w' => (w'.cell? ⟨b, 5, none⟩ = some (.pointer pl) ∧ w'.cell? ⟨b, 6, none⟩ = some (.pointer pr)) ∧ w'.cell? ⟨w.heap.size, 0, none⟩ = some (.string x.key) ∧ w'.cell? ⟨w.heap.size, 1, none⟩ = some (.string x.val) ∧ w'.cell? ⟨w.heap.size, 2, none⟩ = some (.int .i64 x.made) ∧ w'.cell? ⟨w.heap.size, 3, none⟩ = some (.int .i64 x.mod))) (ds := []) #[false, false, false, false, false, false, false, false, false, false, false, false, false, false] (by kernel_rfl) rfl rfl t0 (fun hHeld => ?_); refine with_tabW shp4_tab shp4_bits (fun HT_ HW_ => ?_)
      refine pure_ (i := 0) (N := (some 21)) (v := ?_) (a' := ?_) #[true, false, false, false, false, false, false, false, false, false, false, false, false, false] rfl rfl (any_of HT_.out (by kernel_rfl)) (fun _ _ _ h => h) (Or.inl ⟨by rfl, ?_⟩) ?_ ?_
      rotate_left
      · intro w'
        go_simp
        with_reducible rfl
      rotate_left
      · simp only [Act.put, List.setIfInBounds_toArray, List.set_cons_zero, List.set_cons_succ, i64_w, i32_w]
        rfl
      refine pure_ (i := 1) (N := (some 22)) (v := ?_) (a' := ?_) #[true, true, false, false, false, false, false, false, false, false, false, false, false, false] rfl rfl (any_of HT_.out (by kernel_rfl)) (fun _ _ _ h => h) (Or.inl ⟨by rfl, ?_⟩) ?_ ?_
      rotate_left
      · intro w'
        go_simp
        with_reducible rfl
      rotate_left
      · simp only [Act.put, List.setIfInBounds_toArray, List.set_cons_zero, List.set_cons_succ, i64_w, i32_w]
        rfl
      refine pure_ (i := 2) (N := (some 23)) (v := ?_) (a' := ?_) #[true, true, true, false, false, false, false, false, false, false, false, false, false, false] rfl rfl (any_of HT_.out (by kernel_rfl)) (fun _ _ _ h => h) (Or.inl ⟨by rfl, ?_⟩) ?_ ?_
      rotate_left
      · intro w'
        go_simp
        with_reducible rfl
      rotate_left
      · simp only [Act.put, List.setIfInBounds_toArray, List.set_cons_zero, List.set_cons_succ, i64_w, i32_w]
        rfl
      refine pure_ (i := 3) (N := (some 24)) (v := ?_) (a' := ?_) #[true, true, true, true, false, false, false, false, false, false, false, false, false, false] rfl rfl (any_of HT_.out (by kernel_rfl)) (fun _ _ _ h => h) (Or.inl ⟨by rfl, ?_⟩) ?_ ?_
      rotate_left
      · intro w'
        go_simp
        with_reducible rfl
      rotate_left
      · simp only [Act.put, List.setIfInBounds_toArray, List.set_cons_zero, List.set_cons_succ, i64_w, i32_w]
        rfl
      refine take_ (i := 4) (N := (some 25)) (v := ?_) (a' := ?_) #[true, true, true, true, true, false, false, false, false, false, false, false, false, false] rfl rfl (take_ofW HT_.out HW_.out (by kernel_rfl)) (fun _ _ _ h => h) (Or.inl ⟨by rfl, ?_⟩) hHeld ?_ ?_
      rotate_left
      · rintro w' ⟨⟨s1, _⟩, _⟩
        go_simp
        with_reducible rfl
      rotate_left
      · simp only [Act.put, List.setIfInBounds_toArray, List.set_cons_zero, List.set_cons_succ, i64_w, i32_w]
        rfl
      refine pure_ (i := 5) (N := (some 26)) (v := ?_) (a' := ?_) #[true, true, true, true, true, true, false, false, false, false, false, false, false, false] rfl rfl (any_of HT_.out (by kernel_rfl)) (fun _ _ _ h => h) (Or.inl ⟨by rfl, ?_⟩) ?_ ?_
      rotate_left
      · intro w'
        go_simp
        with_reducible rfl
      rotate_left
      · simp only [Act.put, List.setIfInBounds_toArray, List.set_cons_zero, List.set_cons_succ, i64_w, i32_w]
        rfl
      refine take_ (i := 6) (N := (some 27)) (v := ?_) (a' := ?_) #[true, true, true, true, true, true, true, false, false, false, false, false, false, false] rfl rfl (take_ofW HT_.out HW_.out (by kernel_rfl)) (fun _ _ _ h => h) (Or.inl ⟨by rfl, ?_⟩) hHeld ?_ ?_
      rotate_left
      · rintro w' ⟨_, s1, s2, s3, s4⟩
        go_simp
        with_reducible rfl
      rotate_left
      · simp only [Act.put, List.setIfInBounds_toArray, List.set_cons_zero, List.set_cons_succ, i64_w, i32_w]
        rfl
      refine pure_ (i := 8) (N := (some 29)) (v := ?_) (a' := ?_) #[true, true, true, true, true, true, true, false, true, false, false, false, false, false] rfl rfl (any_of HT_.out (by kernel_rfl)) (fun _ _ _ h => h) (Or.inl ⟨by rfl, ?_⟩) ?_ ?_
      rotate_left
      · intro w'
        go_simp
        with_reducible rfl
      rotate_left
      · simp only [Act.put, List.setIfInBounds_toArray, List.set_cons_zero, List.set_cons_succ, i64_w, i32_w]
        rfl
      refine pure_ (i := 9) (N := (some 30)) (v := ?_) (a' := ?_) #[true, true, true, true, true, true, true, false, true, true, false, false, false, false] rfl rfl (any_of HT_.out (by kernel_rfl)) (fun _ _ _ h => h) (Or.inl ⟨by rfl, ?_⟩) ?_ ?_
      rotate_left
      · intro w'
        go_simp
        with_reducible rfl
      rotate_left
      · simp only [Act.put, List.setIfInBounds_toArray, List.set_cons_zero, List.set_cons_succ, i64_w, i32_w]
        rfl
      refine pure_ (i := 10) (N := (some 31)) (v := ?_) (a' := ?_) #[true, true, true, true, true, true, true, false, true, true, true, false, false, false] rfl rfl (any_of HT_.out (by kernel_rfl)) (fun _ _ _ h => h) (Or.inl ⟨by rfl, ?_⟩) ?_ ?_
      rotate_left
      · intro w'
        go_simp
        with_reducible rfl
      rotate_left
      · simp only [Act.put, List.setIfInBounds_toArray, List.set_cons_zero, List.set_cons_succ, i64_w, i32_w]
        rfl
      refine take_ (i := 11) (N := (some 32)) (v := ?_) (a' := ?_) #[true, true, true, true, true, true, true, false, true, true, true, true, false, false] rfl rfl (take_ofW HT_.out HW_.out (by kernel_rfl)) (fun _ _ _ h => h) (Or.inl ⟨by rfl, ?_⟩) hHeld ?_ ?_
      rotate_left
      · rintro w' ⟨⟨_, s1⟩, _⟩
        go_simp
        with_reducible rfl
      rotate_left
      · simp only [Act.put, List.setIfInBounds_toArray, List.set_cons_zero, List.set_cons_succ, i64_w, i32_w]
        rfl
      refine one_ (i := 7) (N := (some 28)) #[true, true, true, true, true, true, true, true, true, true, true, true, false, false] rfl rfl (one_of HT_.out (by kernel_rfl)) (by decide) (fun K9 hK => ?_)
      refine goes_ Try.func69 (by kernel_rfl) rfl #[.pointer pl, .string key, .agg #[.string x.key, .string x.val, .int .i64 x.made, .int .i64 x.mod]] (by rfl) rfl rfl (by (try simp only [List.map_toArray, List.map_cons, List.map_nil]); first | done | rfl) ?_
      refine (ihl pl key x W1.drew (hl.out.below HW.out.2) HO.out.1 (by have := HO.out.2.2; omega)).mono ?_
      rintro e w7 ⟨v7, rfl, hS7, hb7⟩
      refine ⟨_, rfl, ?_⟩
      have HB7 := Aside.mk hb7
      have HS7 := Aside.mk hS7
      clear hb7 hS7
      refine hK.out _ _ (HC.out (HB7.out)) (fun hHeld => ?_)
      clear hK K9
      refine norm_ (a' := ?_) ?_ ?_
      rotate_left
      · show Act.put _ (some 28) _ = _
        simp only [Act.put, List.setIfInBounds_toArray, List.set_cons_zero, List.set_cons_succ]
        rfl
      refine one_ (i := 12) (N := (some 33)) #[true, true, true, true, true, true, true, true, true, true, true, true, true, false] rfl rfl (one_of HT_.out (by kernel_rfl)) (by decide) (fun K9 hK => ?_)
      refine goes_ Try.func90 (by kernel_rfl) rfl #[.pointer (some ⟨b, 0, none⟩), .pointer v7, .pointer pr] (by rfl) rfl rfl (by (try simp only [List.map_toArray, List.map_cons, List.map_nil]); first | done | rfl) ?_
      refine (level_calls sk se l r (Shf.put key x l) r h _ _ _ _ ((hs.out.below HW.out.2).below HB7.out) HS7.out ((hr.out.below HW.out.2).below HB7.out) (Shf.put_ok key x HO.out.1).1 HO.out.2.1 (by have := (Shf.put_ok key x HO.out.1).2; have := HO.out.2.2; omega)).mono ?_
      rintro e w12 ⟨v12, rfl, hS12, hb12⟩
      refine ⟨_, rfl, ?_⟩
      have HB12 := Aside.mk hb12
      have HS12 := Aside.mk hS12
      clear hb12 hS12
      refine hK.out _ _ (HC.out (HB7.out.trans (HB12.out.mono HB7.out.size))) (fun hHeld => ?_)
      clear hK K9
      refine norm_ (a' := ?_) ?_ ?_
      rotate_left
      · show Act.put _ (some 33) _ = _
        simp only [Act.put, List.setIfInBounds_toArray, List.set_cons_zero, List.set_cons_succ]
        rfl
      refine pure_ (i := 13) (N := (some 6)) (v := ?_) (a' := ?_) #[true, true, true, true, true, true, true, true, true, true, true, true, true, true] rfl rfl (any_of HT_.out (by kernel_rfl)) (fun _ _ _ h => h) (Or.inl ⟨by rfl, ?_⟩) ?_ ?_
      rotate_left
      · intro w'
        go_simp
        with_reducible rfl
      rotate_left
      · simp only [Act.put, List.setIfInBounds_toArray, List.set_cons_zero, List.set_cons_succ, i64_w, i32_w]
        rfl
      refine done_ (done_of HT_.out (by kernel_rfl)) ?_
      clear HT_ HW_ hHeld
      go_wp2_with fail
      go_ret
      exact ⟨v12, rfl, by rw [HE.out]; exact HS12.out, (HW.out.2.trans (HB7.out.mono HW.out.2.size)).trans (HB12.out.mono (Nat.le_trans HW.out.2.size HB7.out.size))⟩
    | false =>
      cases d3 : (key.toList == sk.toList) with
      | false =>
        have d2 : (Op.bytesLess key.toList sk.toList || key.toList == sk.toList) = false := by rw [d1, d3]; rfl
        have HE : Aside (Shf.put key x (.node sk se l r h) = Shf.lvl sk se l (Shf.put key x r)) := ⟨by show (if slt key sk = true then _ else if (slt key sk || key.toList == sk.toList) = false then _ else _) = _; rw [if_neg (by unfold slt; rw [d1]; simp), if_pos (show (slt key sk || key.toList == sk.toList) = false from d2)]⟩
        go_enter Try.func69, Try.ntmps69
        go_upto_region 6 with fail
        rw [← HW1.out]
        have t0 := HC.out (Below.refl _ _)
        refine start_ (n := 14) (S := (fun w' => (w'.cell? ⟨b, 5, none⟩ = some (.pointer pl) ∧ w'.cell? ⟨b, 6, none⟩ = some (.pointer pr)) ∧ w'.cell? ⟨w.heap.size, 0, none⟩ = some (.string x.key) ∧ w'.cell? ⟨w.heap.size, 1, none⟩ = some (.string x.val) ∧ w'.cell? ⟨w.heap.size, 2, none⟩ = some (.int .i64 x.made) ∧ w'.cell? ⟨w.heap.size, 3, none⟩ = some (.int .i64 x.mod))) (ds := []) #[false, false, false, false, false, false, false, false, false, false, false, false, false, false] (by kernel_rfl) rfl rfl t0 (fun hHeld => ?_); refine with_tabW shp6_tab shp6_bits (fun HT_ HW_ => ?_)
        refine pure_ (i := 0) (N := (some 41)) (v := ?_) (a' := ?_) #[true, false, false, false, false, false, false, false, false, false, false, false, false, false] rfl rfl (any_of HT_.out (by kernel_rfl)) (fun _ _ _ h => h) (Or.inl ⟨by rfl, ?_⟩) ?_ ?_
        rotate_left
        · intro w'
          go_simp
          with_reducible rfl
        rotate_left
        · simp only [Act.put, List.setIfInBounds_toArray, List.set_cons_zero, List.set_cons_succ, i64_w, i32_w]
          rfl
        refine pure_ (i := 1) (N := (some 42)) (v := ?_) (a' := ?_) #[true, true, false, false, false, false, false, false, false, false, false, false, false, false] rfl rfl (any_of HT_.out (by kernel_rfl)) (fun _ _ _ h => h) (Or.inl ⟨by rfl, ?_⟩) ?_ ?_
        rotate_left
        · intro w'
          go_simp
          with_reducible rfl
        rotate_left
        · simp only [Act.put, List.setIfInBounds_toArray, List.set_cons_zero, List.set_cons_succ, i64_w, i32_w]
          rfl
        refine pure_ (i := 2) (N := (some 43)) (v := ?_) (a' := ?_) #[true, true, true, false, false, false, false, false, false, false, false, false, false, false] rfl rfl (any_of HT_.out (by kernel_rfl)) (fun _ _ _ h => h) (Or.inl ⟨by rfl, ?_⟩) ?_ ?_
        rotate_left
        · intro w'
          go_simp
          with_reducible rfl
        rotate_left
        · simp only [Act.put, List.setIfInBounds_toArray, List.set_cons_zero, List.set_cons_succ, i64_w, i32_w]
          rfl
        refine pure_ (i := 3) (N := (some 44)) (v := ?_) (a' := ?_) #[true, true, true, true, false, false, false, false, false, false, false, false, false, false] rfl rfl (any_of HT_.out (by kernel_rfl)) (fun _ _ _ h => h) (Or.inl ⟨by rfl, ?_⟩) ?_ ?_
        rotate_left
        · intro w'
          go_simp
          with_reducible rfl
        rotate_left
        · simp only [Act.put, List.setIfInBounds_toArray, List.set_cons_zero, List.set_cons_succ, i64_w, i32_w]
          rfl
        refine take_ (i := 4) (N := (some 45)) (v := ?_) (a' := ?_) #[true, true, true, true, true, false, false, false, false, false, false, false, false, false] rfl rfl (take_ofW HT_.out HW_.out (by kernel_rfl)) (fun _ _ _ h => h) (Or.inl ⟨by rfl, ?_⟩) hHeld ?_ ?_
        rotate_left
        · rintro w' ⟨⟨s1, _⟩, _⟩
          go_simp
          with_reducible rfl
        rotate_left
        · simp only [Act.put, List.setIfInBounds_toArray, List.set_cons_zero, List.set_cons_succ, i64_w, i32_w]
          rfl
        refine pure_ (i := 5) (N := (some 46)) (v := ?_) (a' := ?_) #[true, true, true, true, true, true, false, false, false, false, false, false, false, false] rfl rfl (any_of HT_.out (by kernel_rfl)) (fun _ _ _ h => h) (Or.inl ⟨by rfl, ?_⟩) ?_ ?_
        rotate_left
        · intro w'
          go_simp
          with_reducible rfl
        rotate_left
        · simp only [Act.put, List.setIfInBounds_toArray, List.set_cons_zero, List.set_cons_succ, i64_w, i32_w]
          rfl
        refine pure_ (i := 6) (N := (some 47)) (v := ?_) (a' := ?_) #[true, true, true, true, true, true, true, false, false, false, false, false, false, false] rfl rfl (any_of HT_.out (by kernel_rfl)) (fun _ _ _ h => h) (Or.inl ⟨by rfl, ?_⟩) ?_ ?_
        rotate_left
        · intro w'
          go_simp
          with_reducible rfl
        rotate_left
        · simp only [Act.put, List.setIfInBounds_toArray, List.set_cons_zero, List.set_cons_succ, i64_w, i32_w]
          rfl
        refine pure_ (i := 7) (N := (some 48)) (v := ?_) (a' := ?_) #[true, true, true, true, true, true, true, true, false, false, false, false, false, false] rfl rfl (any_of HT_.out (by kernel_rfl)) (fun _ _ _ h => h) (Or.inl ⟨by rfl, ?_⟩) ?_ ?_
        rotate_left
        · intro w'
          go_simp
          with_reducible rfl
        rotate_left
        · simp only [Act.put, List.setIfInBounds_toArray, List.set_cons_zero, List.set_cons_succ, i64_w, i32_w]
          rfl
        refine take_ (i := 8) (N := (some 49)) (v := ?_) (a' := ?_) #[true, true, true, true, true, true, true, true, true, false, false, false, false, false] rfl rfl (take_ofW HT_.out HW_.out (by kernel_rfl)) (fun _ _ _ h => h) (Or.inl ⟨by rfl, ?_⟩) hHeld ?_ ?_
        rotate_left
        · rintro w' ⟨⟨_, s1⟩, _⟩
          go_simp
          with_reducible rfl
        rotate_left
        · simp only [Act.put, List.setIfInBounds_toArray, List.set_cons_zero, List.set_cons_succ, i64_w, i32_w]
          rfl
        refine pure_ (i := 9) (N := (some 50)) (v := ?_) (a' := ?_) #[true, true, true, true, true, true, true, true, true, true, false, false, false, false] rfl rfl (any_of HT_.out (by kernel_rfl)) (fun _ _ _ h => h) (Or.inl ⟨by rfl, ?_⟩) ?_ ?_
        rotate_left
        · intro w'
          go_simp
          with_reducible rfl
        rotate_left
        · simp only [Act.put, List.setIfInBounds_toArray, List.set_cons_zero, List.set_cons_succ, i64_w, i32_w]
          rfl
        refine take_ (i := 10) (N := (some 51)) (v := ?_) (a' := ?_) #[true, true, true, true, true, true, true, true, true, true, true, false, false, false] rfl rfl (take_ofW HT_.out HW_.out (by kernel_rfl)) (fun _ _ _ h => h) (Or.inl ⟨by rfl, ?_⟩) hHeld ?_ ?_
        rotate_left
        · rintro w' ⟨_, s1, s2, s3, s4⟩
          go_simp
          with_reducible rfl
        rotate_left
        · simp only [Act.put, List.setIfInBounds_toArray, List.set_cons_zero, List.set_cons_succ, i64_w, i32_w]
          rfl
        refine one_ (i := 11) (N := (some 52)) #[true, true, true, true, true, true, true, true, true, true, true, true, false, false] rfl rfl (one_of HT_.out (by kernel_rfl)) (by decide) (fun K9 hK => ?_)
        refine goes_ Try.func69 (by kernel_rfl) rfl #[.pointer pr, .string key, .agg #[.string x.key, .string x.val, .int .i64 x.made, .int .i64 x.mod]] (by rfl) rfl rfl (by (try simp only [List.map_toArray, List.map_cons, List.map_nil]); first | done | rfl) ?_
        refine (ihr pr key x W1.drew (hr.out.below HW.out.2) HO.out.2.1 (by have := HO.out.2.2; omega)).mono ?_
        rintro e w7 ⟨v7, rfl, hS7, hb7⟩
        refine ⟨_, rfl, ?_⟩
        have HB7 := Aside.mk hb7
        have HS7 := Aside.mk hS7
        clear hb7 hS7
        refine hK.out _ _ (HC.out (HB7.out)) (fun hHeld => ?_)
        clear hK K9
        refine norm_ (a' := ?_) ?_ ?_
        rotate_left
        · show Act.put _ (some 52) _ = _
          simp only [Act.put, List.setIfInBounds_toArray, List.set_cons_zero, List.set_cons_succ]
          rfl
        refine one_ (i := 12) (N := (some 53)) #[true, true, true, true, true, true, true, true, true, true, true, true, true, false] rfl rfl (one_of HT_.out (by kernel_rfl)) (by decide) (fun K9 hK => ?_)
        refine goes_ Try.func90 (by kernel_rfl) rfl #[.pointer (some ⟨b, 0, none⟩), .pointer pl, .pointer v7] (by rfl) rfl rfl (by (try simp only [List.map_toArray, List.map_cons, List.map_nil]); first | done | rfl) ?_
        refine (level_calls sk se l r l (Shf.put key x r) h _ _ _ _ ((hs.out.below HW.out.2).below HB7.out) ((hl.out.below HW.out.2).below HB7.out) HS7.out HO.out.1 (Shf.put_ok key x HO.out.2.1).1 (by have := (Shf.put_ok key x HO.out.2.1).2; have := HO.out.2.2; omega)).mono ?_
        rintro e w12 ⟨v12, rfl, hS12, hb12⟩
        refine ⟨_, rfl, ?_⟩
        have HB12 := Aside.mk hb12
        have HS12 := Aside.mk hS12
        clear hb12 hS12
        refine hK.out _ _ (HC.out (HB7.out.trans (HB12.out.mono HB7.out.size))) (fun hHeld => ?_)
        clear hK K9
        refine norm_ (a' := ?_) ?_ ?_
        rotate_left
        · show Act.put _ (some 53) _ = _
          simp only [Act.put, List.setIfInBounds_toArray, List.set_cons_zero, List.set_cons_succ]
          rfl
        refine pure_ (i := 13) (N := (some 6)) (v := ?_) (a' := ?_) #[true, true, true, true, true, true, true, true, true, true, true, true, true, true] rfl rfl (any_of HT_.out (by kernel_rfl)) (fun _ _ _ h => h) (Or.inl ⟨by rfl, ?_⟩) ?_ ?_
        rotate_left
        · intro w'
          go_simp
          with_reducible rfl
        rotate_left
        · simp only [Act.put, List.setIfInBounds_toArray, List.set_cons_zero, List.set_cons_succ, i64_w, i32_w]
          rfl
        refine done_ (done_of HT_.out (by kernel_rfl)) ?_
        clear HT_ HW_ hHeld
        go_wp2_with fail
        go_ret
        exact ⟨v12, rfl, by rw [HE.out]; exact HS12.out, (HW.out.2.trans (HB7.out.mono HW.out.2.size)).trans (HB12.out.mono (Nat.le_trans HW.out.2.size HB7.out.size))⟩
      | true =>
        have d2 : (Op.bytesLess key.toList sk.toList || key.toList == sk.toList) = true := by rw [d1, d3]; rfl
        have HE : Aside (Shf.put key x (.node sk se l r h) = Shf.node key x l r h) := ⟨by show (if slt key sk = true then _ else if (slt key sk || key.toList == sk.toList) = false then _ else _) = _; rw [if_neg (by unfold slt; rw [d1]; simp), if_neg (by unfold slt; rw [d2]; simp)]⟩
        go_enter Try.func69, Try.ntmps69
        go_upto_region 7 with fail
        rw [← HW1.out]
        have t0 := HC7.out (Below.refl _ _)
        refine start_ (n := 17) (S := (fun w' => (w'.cell? ⟨b, 5, none⟩ = some (.pointer pl) ∧ w'.cell? ⟨b, 6, none⟩ = some (.pointer pr) ∧ w'.cell? ⟨b, 7, none⟩ = some (.int .i64 h)) ∧ w'.cell? ⟨w.heap.size, 0, none⟩ = some (.string x.key) ∧ w'.cell? ⟨w.heap.size, 1, none⟩ = some (.string x.val) ∧ w'.cell? ⟨w.heap.size, 2, none⟩ = some (.int .i64 x.made) ∧ w'.cell? ⟨w.heap.size, 3, none⟩ = some (.int .i64 x.mod))) (ds := []) #[false, false, false, false, false, false, false, false, false, false, false, false, false, false, false, false, false] (by kernel_rfl) rfl rfl t0 (fun hHeld => ?_); refine with_tabW shp7_tab shp7_bits (fun HT_ HW_ => ?_)
        refine pure_ (i := 0) (N := (some 54)) (v := ?_) (a' := ?_) #[true, false, false, false, false, false, false, false, false, false, false, false, false, false, false, false, false] rfl rfl (any_of HT_.out (by kernel_rfl)) (fun _ _ _ h => h) (Or.inl ⟨by rfl, ?_⟩) ?_ ?_
        rotate_left
        · intro w'
          go_simp
          with_reducible rfl
        rotate_left
        · simp only [Act.put, List.setIfInBounds_toArray, List.set_cons_zero, List.set_cons_succ, i64_w, i32_w]
          rfl
        refine take_ (i := 1) (N := (some 55)) (v := ?_) (a' := ?_) #[true, true, false, false, false, false, false, false, false, false, false, false, false, false, false, false, false] rfl rfl (take_ofW HT_.out HW_.out (by kernel_rfl)) (fun _ _ _ h => h) (Or.inl ⟨by rfl, ?_⟩) hHeld ?_ ?_
        rotate_left
        · rintro w' ⟨_, s1, s2, s3, s4⟩
          go_simp
          with_reducible rfl
        rotate_left
        · simp only [Act.put, List.setIfInBounds_toArray, List.set_cons_zero, List.set_cons_succ, i64_w, i32_w]
          rfl
        refine pure_ (i := 2) (N := (some 56)) (v := ?_) (a' := ?_) #[true, true, true, false, false, false, false, false, false, false, false, false, false, false, false, false, false] rfl rfl (any_of HT_.out (by kernel_rfl)) (fun _ _ _ h => h) (Or.inl ⟨by rfl, ?_⟩) ?_ ?_
        rotate_left
        · intro w'
          go_simp
          with_reducible rfl
        rotate_left
        · simp only [Act.put, List.setIfInBounds_toArray, List.set_cons_zero, List.set_cons_succ, i64_w, i32_w]
          rfl
        refine pure_ (i := 3) (N := (some 57)) (v := ?_) (a' := ?_) #[true, true, true, true, false, false, false, false, false, false, false, false, false, false, false, false, false] rfl rfl (any_of HT_.out (by kernel_rfl)) (fun _ _ _ h => h) (Or.inl ⟨by rfl, ?_⟩) ?_ ?_
        rotate_left
        · intro w'
          go_simp
          with_reducible rfl
        rotate_left
        · simp only [Act.put, List.setIfInBounds_toArray, List.set_cons_zero, List.set_cons_succ, i64_w, i32_w]
          rfl
        refine pure_ (i := 4) (N := (some 58)) (v := ?_) (a' := ?_) #[true, true, true, true, true, false, false, false, false, false, false, false, false, false, false, false, false] rfl rfl (any_of HT_.out (by kernel_rfl)) (fun _ _ _ h => h) (Or.inl ⟨by rfl, ?_⟩) ?_ ?_
        rotate_left
        · intro w'
          go_simp
          with_reducible rfl
        rotate_left
        · simp only [Act.put, List.setIfInBounds_toArray, List.set_cons_zero, List.set_cons_succ, i64_w, i32_w]
          rfl
        refine take_ (i := 5) (N := (some 59)) (v := ?_) (a' := ?_) #[true, true, true, true, true, true, false, false, false, false, false, false, false, false, false, false, false] rfl rfl (take_ofW HT_.out HW_.out (by kernel_rfl)) (fun _ _ _ h => h) (Or.inl ⟨by rfl, ?_⟩) hHeld ?_ ?_
        rotate_left
        · rintro w' ⟨⟨s1, _⟩, _⟩
          go_simp
          with_reducible rfl
        rotate_left
        · simp only [Act.put, List.setIfInBounds_toArray, List.set_cons_zero, List.set_cons_succ, i64_w, i32_w]
          rfl
        refine pure_ (i := 6) (N := (some 60)) (v := ?_) (a' := ?_) #[true, true, true, true, true, true, true, false, false, false, false, false, false, false, false, false, false] rfl rfl (any_of HT_.out (by kernel_rfl)) (fun _ _ _ h => h) (Or.inl ⟨by rfl, ?_⟩) ?_ ?_
        rotate_left
        · intro w'
          go_simp
          with_reducible rfl
        rotate_left
        · simp only [Act.put, List.setIfInBounds_toArray, List.set_cons_zero, List.set_cons_succ, i64_w, i32_w]
          rfl
        refine pure_ (i := 7) (N := (some 61)) (v := ?_) (a' := ?_) #[true, true, true, true, true, true, true, true, false, false, false, false, false, false, false, false, false] rfl rfl (any_of HT_.out (by kernel_rfl)) (fun _ _ _ h => h) (Or.inl ⟨by rfl, ?_⟩) ?_ ?_
        rotate_left
        · intro w'
          go_simp
          with_reducible rfl
        rotate_left
        · simp only [Act.put, List.setIfInBounds_toArray, List.set_cons_zero, List.set_cons_succ, i64_w, i32_w]
          rfl
        refine pure_ (i := 8) (N := (some 62)) (v := ?_) (a' := ?_) #[true, true, true, true, true, true, true, true, true, false, false, false, false, false, false, false, false] rfl rfl (any_of HT_.out (by kernel_rfl)) (fun _ _ _ h => h) (Or.inl ⟨by rfl, ?_⟩) ?_ ?_
        rotate_left
        · intro w'
          go_simp
          with_reducible rfl
        rotate_left
        · simp only [Act.put, List.setIfInBounds_toArray, List.set_cons_zero, List.set_cons_succ, i64_w, i32_w]
          rfl
        refine take_ (i := 9) (N := (some 63)) (v := ?_) (a' := ?_) #[true, true, true, true, true, true, true, true, true, true, false, false, false, false, false, false, false] rfl rfl (take_ofW HT_.out HW_.out (by kernel_rfl)) (fun _ _ _ h => h) (Or.inl ⟨by rfl, ?_⟩) hHeld ?_ ?_
        rotate_left
        · rintro w' ⟨⟨_, s1, _⟩, _⟩
          go_simp
          with_reducible rfl
        rotate_left
        · simp only [Act.put, List.setIfInBounds_toArray, List.set_cons_zero, List.set_cons_succ, i64_w, i32_w]
          rfl
        refine pure_ (i := 10) (N := (some 64)) (v := ?_) (a' := ?_) #[true, true, true, true, true, true, true, true, true, true, true, false, false, false, false, false, false] rfl rfl (any_of HT_.out (by kernel_rfl)) (fun _ _ _ h => h) (Or.inl ⟨by rfl, ?_⟩) ?_ ?_
        rotate_left
        · intro w'
          go_simp
          with_reducible rfl
        rotate_left
        · simp only [Act.put, List.setIfInBounds_toArray, List.set_cons_zero, List.set_cons_succ, i64_w, i32_w]
          rfl
        refine pure_ (i := 11) (N := (some 65)) (v := ?_) (a' := ?_) #[true, true, true, true, true, true, true, true, true, true, true, true, false, false, false, false, false] rfl rfl (any_of HT_.out (by kernel_rfl)) (fun _ _ _ h => h) (Or.inl ⟨by rfl, ?_⟩) ?_ ?_
        rotate_left
        · intro w'
          go_simp
          with_reducible rfl
        rotate_left
        · simp only [Act.put, List.setIfInBounds_toArray, List.set_cons_zero, List.set_cons_succ, i64_w, i32_w]
          rfl
        refine pure_ (i := 12) (N := (some 66)) (v := ?_) (a' := ?_) #[true, true, true, true, true, true, true, true, true, true, true, true, true, false, false, false, false] rfl rfl (any_of HT_.out (by kernel_rfl)) (fun _ _ _ h => h) (Or.inl ⟨by rfl, ?_⟩) ?_ ?_
        rotate_left
        · intro w'
          go_simp
          with_reducible rfl
        rotate_left
        · simp only [Act.put, List.setIfInBounds_toArray, List.set_cons_zero, List.set_cons_succ, i64_w, i32_w]
          rfl
        refine take_ (i := 13) (N := (some 67)) (v := ?_) (a' := ?_) #[true, true, true, true, true, true, true, true, true, true, true, true, true, true, false, false, false] rfl rfl (take_ofW HT_.out HW_.out (by kernel_rfl)) (fun _ _ _ h => h) (Or.inl ⟨by rfl, ?_⟩) hHeld ?_ ?_
        rotate_left
        · rintro w' ⟨⟨_, _, s1⟩, _⟩
          go_simp
          with_reducible rfl
        rotate_left
        · simp only [Act.put, List.setIfInBounds_toArray, List.set_cons_zero, List.set_cons_succ, i64_w, i32_w]
          rfl
        refine pure_ (i := 14) (N := (some 68)) (v := ?_) (a' := ?_) #[true, true, true, true, true, true, true, true, true, true, true, true, true, true, true, false, false] rfl rfl (any_of HT_.out (by kernel_rfl)) (fun _ _ _ h => h) (Or.inl ⟨by rfl, ?_⟩) ?_ ?_
        rotate_left
        · intro w'
          go_simp
          with_reducible rfl
        rotate_left
        · simp only [Act.put, List.setIfInBounds_toArray, List.set_cons_zero, List.set_cons_succ, i64_w, i32_w]
          rfl
        refine one_ (i := 15) (N := (some 69)) #[true, true, true, true, true, true, true, true, true, true, true, true, true, true, true, true, false] rfl rfl (one_of HT_.out (by kernel_rfl)) (by decide) (fun K9 hK => ?_)

        refine value_ (v := .pointer (some ⟨W1.drew.heap.size, 0, none⟩)) (w1 := W1.drew.alloc (.cells #[.string key, .string x.key, .string x.val, .int .i64 x.made, .int .i64 x.mod, .pointer pl, .pointer pr, .int .i64 h] 153 (0, 0))) (by rfl) rfl (by unfold execOp; go_simp) ?_
        refine hK.out _ _ (HC7.out (new_alloc _ _)) (fun hHeld => ?_)
        clear hK K9
        refine norm_ (a' := ?_) ?_ ?_
        rotate_left
        · show Act.put _ (some 69) _ = _
          simp only [Act.put, List.setIfInBounds_toArray, List.set_cons_zero, List.set_cons_succ]
          rfl
        refine pure_ (i := 16) (N := (some 6)) (v := ?_) (a' := ?_) #[true, true, true, true, true, true, true, true, true, true, true, true, true, true, true, true, true] rfl rfl (any_of HT_.out (by kernel_rfl)) (fun _ _ _ h => h) (Or.inl ⟨by rfl, ?_⟩) ?_ ?_
        rotate_left
        · intro w'
          go_simp
          with_reducible rfl
        rotate_left
        · simp only [Act.put, List.setIfInBounds_toArray, List.set_cons_zero, List.set_cons_succ, i64_w, i32_w]
          rfl
        refine done_ (done_of HT_.out (by kernel_rfl)) ?_
        clear HT_ HW_ hHeld
        go_wp2_with fail
        go_ret
        have hna := new_alloc W1.drew (.cells #[.string key, .string x.key, .string x.val, .int .i64 x.made, .int .i64 x.mod, .pointer pl, .pointer pr, .int .i64 h] 153 (0, 0))
        exact ⟨_, rfl, by rw [HE.out]; exact ⟨_, pl, pr, rfl, heap_alloc_new _ _, (hl.out.below HW.out.2).below hna, (hr.out.below HW.out.2).below hna⟩, HW.out.2.trans (hna.mono HW.out.2.size)⟩
/-! ### Of -/
def entOf (x : S46) : Ent := ⟨x.f0, x.f1, x.f2, x.f3⟩
/-- May an entry stand behind a key, in a tree of a revision? -/
def goodE (last : ByteArray) (rev : Int) (x : Ent) : Bool := !(Op.bytesLess x.key.toList last.toList || x.key.toList == last.toList) && (mayOpB false x.key x.val && (decide (1 ≤ x.made) && (decide (x.made ≤ x.mod) && decide (x.mod ≤ rev))))
/-- The keys ahead of number k. -/
def lastK (l : List S46) : Nat → ByteArray
  | 0 => ⟨#[]⟩
  | k + 1 => (rd_T46 l k).f0
def goodTo (l : List S46) (rev : Int) : Nat → Bool
  | 0 => true
  | k + 1 => goodTo l rev k && goodE (lastK l k) rev (entOf (rd_T46 l k))
def treeTo (l : List S46) : Nat → Shf
  | 0 => .nil
  | k + 1 => Shf.put (rd_T46 l k).f0 (entOf (rd_T46 l k)) (treeTo l k)
theorem treeTo_ok (l : List S46) : ∀ k, (treeTo l k).ok ∧ (treeTo l k).cnt ≤ k
  | 0 => ⟨trivial, Nat.le_refl _⟩
  | k + 1 => by
    have h := treeTo_ok l k
    have h2 := Shf.put_ok (rd_T46 l k).f0 (entOf (rd_T46 l k)) h.1
    exact ⟨h2.1, Nat.le_trans h2.2 (by have := h.2; omega)⟩
theorem goodTo_mono {l : List S46} {rev : Int} : ∀ {k n : Nat}, k ≤ n → goodTo l rev k = false → goodTo l rev n = false
  | k, 0, hk, h => by
    have : k = 0 := by omega
    subst this; exact h
  | k, n + 1, hk, h => by
    by_cases e : k = n + 1
    · subst e; exact h
    · show (goodTo l rev n && _) = false
      rw [goodTo_mono (k := k) (n := n) (by omega) h]; rfl
def ofOK (l : List S46) (rev : Int) : Bool := decide (0 ≤ rev) && (decide (rev ≤ 1099511627776) && goodTo l rev l.length)
/-- What Of leaves. -/
def OfRes (l : List S46) (rev : Int) (w : World) (e : Ending) (w' : World) : Prop :=
  (ofOK l rev = true ∧ ∃ Tb v, e = .returned (.tuple #[.pointer (some ⟨Tb, 0, none⟩), .int .i64 0]) ∧ w.heap.size ≤ Tb ∧ w'.heap[Tb]? = some (.cells #[.pointer v, .int .i64 l.length, .int .i64 rev, .int .i64 rev, .slice none 0 0] 111 (0, 0)) ∧ SH w' v (treeTo l l.length)) ∨
  (ofOK l rev = false ∧ e = .returned (.tuple #[.pointer none, .int .i64 4]))
theorem mayRev_calls (rev : Int) (w : World) : Calls Try.prog 67 #[.int .i64 rev] w fun e w' => e = .returned (.bool (decide (0 ≤ rev) && decide (rev ≤ 1099511627776))) ∧ Below w.heap.size w w' :=
  (tree_mayRev.calls rev _ w (by
    unfold tree_mayRev.f
    by_cases h : rev ≥ 0
    · rw [if_pos h]; have : decide (0 ≤ rev) = true := by simpa using h
      rw [this]; rfl
    · rw [if_neg h]; have : decide (0 ≤ rev) = false := by simpa using h
      rw [this]; rfl)).mono fun e w' ⟨h1, h2⟩ => ⟨h1, drawn_below h2⟩
theorem mayOp_calls (d : Bool) (k v : ByteArray) (b : Bool) (w : World) (hs : k.size ≤ 9000000000000000000) (hb : mayOpB d k v = b) : Calls Try.prog 68 #[.agg #[.bool d, .string k, .string v]] w fun e w' => e = .returned (.bool b) ∧ Below w.heap.size w w' :=
  tree_mayOp.calls (k.size + 6) d k v b w (by rw [← hb]; exact mayOp_is d k v hs _ (by omega))
set_option maxHeartbeats 8000000 in
set_option maxRecDepth 100000 in
theorem of_calls (A : Option Addr) (c : Nat) (l : List S46) (rev : Int) (w : World) (g : Kd.C k46 w A l.length l) (hlc : l.length ≤ c) (hl : l.length ≤ 1000000000) (hsz : ∀ y ∈ l, y.f0.size ≤ 9000000000000000000) :
    Calls Try.prog 37 #[.slice A l.length c, .int .i64 rev] w fun e w' => OfRes l rev w e w' ∧ Below w.heap.size w w' := by
  have HG := Aside.mk g
  obtain ⟨n, hn⟩ : ∃ n, l.length = n := ⟨_, rfl⟩
  have HN := Aside.mk hn
  have HSZ := Aside.mk hsz
  rw [hn] at hlc hl ⊢
  clear g hn hsz
  cases hr : (decide (0 ≤ rev) && decide (rev ≤ 1099511627776)) with
  | false =>
    have HR := Aside.mk hr
    have HE : Aside (ofOK l rev = false) := ⟨by
      unfold ofOK
      rw [← Bool.and_assoc, hr]; rfl⟩
    clear hr
    go_enter Try.func37, Try.ntmps37
    go_wp2_with fail
    refine (mayRev_calls rev w).mono ?_
    rintro e w1 ⟨rfl, hb⟩
    rw [HR.out]
    have HB := Aside.mk hb
    clear hb
    go_wp2_with fail
    go_ret2
    exact ⟨.inr ⟨HE.out, rfl⟩, HB.out⟩
  | true =>
    have HR := Aside.mk hr
    have HE : Aside (ofOK l rev = goodTo l rev n) := ⟨by
      unfold ofOK
      rw [← Bool.and_assoc, hr, HN.out]; rfl⟩
    clear hr
    go_enter Try.func37, Try.ntmps37
    go_wp2_with fail
    refine (mayRev_calls rev w).mono ?_
    rintro e w1 ⟨rfl, hb⟩
    rw [HR.out]
    have HB1 := Aside.mk hb
    clear hb
    obtain ⟨w2, hw2⟩ : ∃ w2, w2 = w1.alloc (.cells #[.pointer none, .int .i64 n, .int .i64 rev, .int .i64 rev, .slice none 0 0] 111 (0, 0)) := ⟨_, rfl⟩
    have HB2 : Aside (Below w.heap.size w w2) := ⟨by rw [hw2]; exact HB1.out.alloc HB1.out.size _⟩
    have HT2 : Aside (w2.heap[w1.heap.size]? = some (.cells #[.pointer none, .int .i64 n, .int .i64 rev, .int .i64 rev, .slice none 0 0] 111 (0, 0))) := ⟨by rw [hw2]; exact heap_alloc_new w1 _⟩
    have HW2 := Aside.mk hw2
    have HTN := Aside.mk HB1.out.size
    clear hw2
    go_wp2_with fail
    rw [← HW2.out]
    obtain ⟨Tb, hTb⟩ : ∃ Tb, w1.heap.size = Tb := ⟨_, rfl⟩
    rw [hTb] at HT2 HTN ⊢
    clear hTb HW2
    go_loopw [7, 21] (fun v7 v21 wr => ∃ (k : Nat) (v : Option Addr), k ≤ n ∧ v7 = .string (lastK l k) ∧ v21 = .int .i64 k ∧ Aside (goodTo l rev k = true ∧ SH wr v (treeTo l k) ∧ wr.heap[Tb]? = some (.cells #[.pointer v, .int .i64 n, .int .i64 rev, .int .i64 rev, .slice none 0 0] 111 (0, 0)) ∧ Below w.heap.size w wr)) (fun _ v21 _ => n - (intOf v21).toNat)
    case atStart => exact ⟨0, none, by omega, rfl, rfl, ⟨rfl, rfl, HT2.out, HB2.out⟩⟩
    case round =>
      obtain ⟨k, v, hk, rfl, rfl, HRr⟩ := hrel
      by_cases hlt : k < n
      · obtain ⟨ad, he, hf0, hf1, hf2, hf3⟩ := at_T46 (Kd.C_below HG.out HRr.out.2.2.2) (k : Int) (by omega) (by rw [HN.out]; omega)
        subst he
        obtain ⟨z, hz⟩ : ∃ z, rd_T46 l k = z := ⟨_, rfl⟩
        have HZ0 : Aside (goodTo l rev (k + 1) = (goodTo l rev k && goodE (lastK l k) rev (entOf z)) ∧ treeTo l (k + 1) = Shf.put z.f0 (entOf z) (treeTo l k) ∧ lastK l (k + 1) = z.f0) := ⟨by rw [← hz]; exact ⟨rfl, rfl, rfl⟩⟩
        have HZS : Aside (z.f0.size ≤ 9000000000000000000) := ⟨HSZ.out z (by
          rw [← hz]
          unfold rd_T46
          rw [Int.toNat_natCast, List.getD_eq_getElem?_getD, List.getElem?_eq_getElem (by rw [HN.out]; exact hlt)]
          exact List.getElem_mem _)⟩
        rw [hz] at hf0 hf1 hf2 hf3
        simp only [Int.toNat_natCast] at hf0 hf1 hf2 hf3
        clear hz
        obtain ⟨x, hx⟩ : ∃ x, entOf z = x := ⟨_, rfl⟩
        have hx0 : z.f0 = x.key := by rw [← hx]; rfl
        have hx1 : z.f1 = x.val := by rw [← hx]; rfl
        have hx2 : z.f2 = x.made := by rw [← hx]; rfl
        have hx3 : z.f3 = x.mod := by rw [← hx]; rfl
        rw [hx, hx0] at HZ0
        rw [hx0] at HZS
        rw [hx0] at hf0; rw [hx1] at hf1; rw [hx2] at hf2; rw [hx3] at hf3
        clear hx hx0 hx1 hx2 hx3
        obtain ⟨la, hla⟩ : ∃ la, lastK l k = la := ⟨_, rfl⟩
        rw [hla] at HZ0
        rw [hla]
        obtain ⟨t, ht⟩ : ∃ t, treeTo l k = t := ⟨_, rfl⟩
        have hok := treeTo_ok l k
        rw [ht] at HZ0 HRr hok
        have HT := Aside.mk (And.intro hok.1 (show t.cnt ≤ 1000000000 by have := hok.2; omega))
        have hbad : goodE la rev x = false → Aside (ofOK l rev = false) := fun h => ⟨by rw [HE.out]; exact goodTo_mono (k := k + 1) (by omega) (by rw [HZ0.out.1, h, Bool.and_false])⟩
        have HBAD := Aside.mk hbad
        have HGD : Aside (goodE la rev x = true → goodTo l rev (k + 1) = true) := ⟨fun h => by rw [HZ0.out.1, h, HRr.out.1]; rfl⟩
        have HBX : Aside ((wr.alloc (.cells #[.string x.key, .string x.val, .int .i64 x.made, .int .i64 x.mod] 46 (0, 0))).heap[wr.heap.size]? = some (.cells #[.string x.key, .string x.val, .int .i64 x.made, .int .i64 x.mod] 46 (0, 0)) ∧ Below wr.heap.size wr (wr.alloc (.cells #[.string x.key, .string x.val, .int .i64 x.made, .int .i64 x.mod] 46 (0, 0)))) := ⟨heap_alloc_new wr _, new_alloc wr _⟩
        obtain ⟨wx, hwx⟩ : ∃ wx, wx = wr.alloc (.cells #[.string x.key, .string x.val, .int .i64 x.made, .int .i64 x.mod] 46 (0, 0)) := ⟨_, rfl⟩
        have HWX := Aside.mk hwx
        rw [← hwx] at HBX
        clear hla ht hok hbad hwx
        cases d1 : (Op.bytesLess x.key.toList la.toList || x.key.toList == la.toList) with
        | true =>
          have HF := HBAD.out (by unfold goodE; rw [d1]; rfl)
          go_wp2_with fail
          go_ret2
          rw [← HWX.out]
          exact ⟨.inr ⟨HF.out, rfl⟩, HRr.out.2.2.2.trans (HBX.out.2.mono HRr.out.2.2.2.size)⟩
        | false =>
          cases d2 : mayOpB false x.key x.val with
          | false =>
            have HF := HBAD.out (by unfold goodE; rw [d1, d2]; rfl)
            have HMO := Aside.mk d2
            clear d2
            go_wp2_with fail
            rw [← HWX.out]
            refine (mayOp_calls false x.key x.val false wx HZS.out HMO.out).mono ?_
            rintro e w5 ⟨rfl, hb⟩
            have HB5 : Aside (Below w.heap.size w w5) := ⟨(HRr.out.2.2.2.trans (HBX.out.2.mono HRr.out.2.2.2.size)).trans (hb.mono (Nat.le_trans HRr.out.2.2.2.size HBX.out.2.size))⟩
            clear hb
            go_wp2_with fail
            go_ret2
            exact ⟨.inr ⟨HF.out, rfl⟩, HB5.out⟩
          | true =>
            have HMO := Aside.mk d2
            clear d2
            go_wp2_with fail
            rw [← HWX.out]
            refine (mayOp_calls false x.key x.val true wx HZS.out HMO.out).mono ?_
            rintro e w5 ⟨rfl, hb⟩
            have HBR : Aside (Below wr.heap.size wr w5) := ⟨HBX.out.2.trans (hb.mono HBX.out.2.size)⟩
            have HB5 : Aside (Below w.heap.size w w5) := ⟨HRr.out.2.2.2.trans (HBR.out.mono HRr.out.2.2.2.size)⟩
            have hbx5 : w5.heap[wr.heap.size]? = some (.cells #[.string x.key, .string x.val, .int .i64 x.made, .int .i64 x.mod] 46 (0, 0)) := (hb.block _ (lt_of_block HBX.out.1)).trans HBX.out.1
            have c0 := cell_at hbx5 0
            have c1 := cell_at hbx5 1
            have c2 := cell_at hbx5 2
            have c3 := cell_at hbx5 3
            simp only [List.getElem?_toArray, List.getElem?_cons_zero, List.getElem?_cons_succ] at c0 c1 c2 c3
            have HBX5 := Aside.mk hbx5
            clear hb hbx5
            by_cases h1 : 1 ≤ x.made
            · by_cases h2 : x.made ≤ x.mod
              · by_cases h3 : x.mod ≤ rev
                · have HGO := Aside.mk (HGD.out (by unfold goodE; rw [d1, HMO.out]; simp [h1, h2, h3]))
                  go_upto_region 11 with fail
                  obtain ⟨Wd, hWd⟩ : ∃ Wd, Wd = w5.drew := ⟨_, rfl⟩
                  have hd : Below w5.heap.size w5 Wd := by rw [hWd]; exact below_drew1 (Below.refl _ _)
                  have HD := Aside.mk hd
                  have hTb5 := (HBR.out.block Tb (lt_of_block HRr.out.2.2.1)).trans HRr.out.2.2.1
                  have hTbd := (hd.block Tb (lt_of_block hTb5)).trans hTb5
                  have hbxd := (hd.block _ (lt_of_block HBX5.out)).trans HBX5.out
                  have HTB := Aside.mk hTbd
                  have HSV : Aside (SH Wd v t) := ⟨(HRr.out.2.1.below HBR.out).below hd⟩
                  have HC : Aside (∀ {W : World}, Below Wd.heap.size Wd W → (W.cell? ⟨Tb, 0, none⟩ = some (.pointer v) ∧ W.cell? ⟨wr.heap.size, 0, none⟩ = some (.string x.key) ∧ W.cell? ⟨wr.heap.size, 1, none⟩ = some (.string x.val) ∧ W.cell? ⟨wr.heap.size, 2, none⟩ = some (.int .i64 x.made) ∧ W.cell? ⟨wr.heap.size, 3, none⟩ = some (.int .i64 x.mod))) := ⟨fun hB => by
                    have k1 := fun (i : Nat) => hB.cell (p := ⟨Tb, i, none⟩) (lt_of_block hTbd)
                    have k2 := fun (i : Nat) => hB.cell (p := ⟨wr.heap.size, i, none⟩) (lt_of_block hbxd)
                    exact ⟨(k1 0).trans (cell_at hTbd 0), (k2 0).trans (cell_at hbxd 0), (k2 1).trans (cell_at hbxd 1), (k2 2).trans (cell_at hbxd 2), (k2 3).trans (cell_at hbxd 3)⟩⟩
                  have HFZ : Aside (∀ {W : World}, Below Wd.heap.size Wd W → W.frozen? ⟨Tb, 0, none⟩ = false) := ⟨fun hB => (hB.frozen (p := ⟨Tb, 0, none⟩) (lt_of_block hTbd)).trans (free_at hTbd 0)⟩
                  have t0 := HC.out (Below.refl _ _)
                  clear hd hTb5 hTbd hbxd c0 c1 c2 c3
                  subst hWd
                  refine start_ (n := 12) (S := (fun w' => w'.cell? ⟨Tb, 0, none⟩ = some (.pointer v) ∧ w'.cell? ⟨wr.heap.size, 0, none⟩ = some (.string x.key) ∧ w'.cell? ⟨wr.heap.size, 1, none⟩ = some (.string x.val) ∧ w'.cell? ⟨wr.heap.size, 2, none⟩ = some (.int .i64 x.made) ∧ w'.cell? ⟨wr.heap.size, 3, none⟩ = some (.int .i64 x.mod))) (ds := [11]) #[false, false, false, false, false, false, false, false, false, false, false, false] (by kernel_rfl) rfl rfl t0 (fun hHeld => ?_); refine with_tabW sof11_tab sof11_bits (fun HT_ HW_ => ?_)
                  refine pure_ (i := 0) (N := (some 58)) (v := ?_) (a' := ?_) #[true, false, false, false, false, false, false, false, false, false, false, false] rfl rfl (any_of HT_.out (by kernel_rfl)) (fun _ _ _ h => h) (Or.inl ⟨by rfl, ?_⟩) ?_ ?_
                  rotate_left
                  · intro w'
                    go_simp
                    with_reducible rfl
                  rotate_left
                  · simp only [Act.put, List.setIfInBounds_toArray, List.set_cons_zero, List.set_cons_succ, i64_w, i32_w]
                    rfl
                  refine pure_ (i := 1) (N := (some 59)) (v := ?_) (a' := ?_) #[true, true, false, false, false, false, false, false, false, false, false, false] rfl rfl (any_of HT_.out (by kernel_rfl)) (fun _ _ _ h => h) (Or.inl ⟨by rfl, ?_⟩) ?_ ?_
                  rotate_left
                  · intro w'
                    go_simp
                    with_reducible rfl
                  rotate_left
                  · simp only [Act.put, List.setIfInBounds_toArray, List.set_cons_zero, List.set_cons_succ, i64_w, i32_w]
                    rfl
                  refine pure_ (i := 2) (N := (some 60)) (v := ?_) (a' := ?_) #[true, true, true, false, false, false, false, false, false, false, false, false] rfl rfl (any_of HT_.out (by kernel_rfl)) (fun _ _ _ h => h) (Or.inl ⟨by rfl, ?_⟩) ?_ ?_
                  rotate_left
                  · intro w'
                    go_simp
                    with_reducible rfl
                  rotate_left
                  · simp only [Act.put, List.setIfInBounds_toArray, List.set_cons_zero, List.set_cons_succ, i64_w, i32_w]
                    rfl
                  refine pure_ (i := 3) (N := (some 61)) (v := ?_) (a' := ?_) #[true, true, true, true, false, false, false, false, false, false, false, false] rfl rfl (any_of HT_.out (by kernel_rfl)) (fun _ _ _ h => h) (Or.inl ⟨by rfl, ?_⟩) ?_ ?_
                  rotate_left
                  · intro w'
                    go_simp
                    with_reducible rfl
                  rotate_left
                  · simp only [Act.put, List.setIfInBounds_toArray, List.set_cons_zero, List.set_cons_succ, i64_w, i32_w]
                    rfl
                  refine take_ (i := 4) (N := (some 62)) (v := ?_) (a' := ?_) #[true, true, true, true, true, false, false, false, false, false, false, false] rfl rfl (take_ofW HT_.out HW_.out (by kernel_rfl)) (fun _ _ _ h => h) (Or.inl ⟨by rfl, ?_⟩) hHeld ?_ ?_
                  rotate_left
                  · rintro w' ⟨s1, _⟩
                    go_simp
                    with_reducible rfl
                  rotate_left
                  · simp only [Act.put, List.setIfInBounds_toArray, List.set_cons_zero, List.set_cons_succ, i64_w, i32_w]
                    rfl
                  refine pure_ (i := 5) (N := (some 63)) (v := ?_) (a' := ?_) #[true, true, true, true, true, true, false, false, false, false, false, false] rfl rfl (any_of HT_.out (by kernel_rfl)) (fun _ _ _ h => h) (Or.inl ⟨by rfl, ?_⟩) ?_ ?_
                  rotate_left
                  · intro w'
                    go_simp
                    with_reducible rfl
                  rotate_left
                  · simp only [Act.put, List.setIfInBounds_toArray, List.set_cons_zero, List.set_cons_succ, i64_w, i32_w]
                    rfl
                  refine take_ (i := 6) (N := (some 64)) (v := ?_) (a' := ?_) #[true, true, true, true, true, true, true, false, false, false, false, false] rfl rfl (take_ofW HT_.out HW_.out (by kernel_rfl)) (fun _ _ _ h => h) (Or.inl ⟨by rfl, ?_⟩) hHeld ?_ ?_
                  rotate_left
                  · rintro w' ⟨_, s1, _⟩
                    go_simp
                    with_reducible rfl
                  rotate_left
                  · simp only [Act.put, List.setIfInBounds_toArray, List.set_cons_zero, List.set_cons_succ, i64_w, i32_w]
                    rfl
                  refine take_ (i := 7) (N := (some 65)) (v := ?_) (a' := ?_) #[true, true, true, true, true, true, true, true, false, false, false, false] rfl rfl (take_ofW HT_.out HW_.out (by kernel_rfl)) (fun _ _ _ h => h) (Or.inl ⟨by rfl, ?_⟩) hHeld ?_ ?_
                  rotate_left
                  · rintro w' ⟨_, s1, s2, s3, s4⟩
                    go_simp
                    with_reducible rfl
                  rotate_left
                  · simp only [Act.put, List.setIfInBounds_toArray, List.set_cons_zero, List.set_cons_succ, i64_w, i32_w]
                    rfl
                  refine one_ (i := 8) (N := (some 66)) #[true, true, true, true, true, true, true, true, true, false, false, false] rfl rfl (one_of HT_.out (by kernel_rfl)) (by decide) (fun K9 hK => ?_)
                  refine goes_ Try.func69 (by kernel_rfl) rfl #[.pointer v, .string x.key, .agg #[.string x.key, .string x.val, .int .i64 x.made, .int .i64 x.mod]] (by rfl) rfl rfl (by (try simp only [List.map_toArray, List.map_cons, List.map_nil]); first | done | rfl) ?_
                  refine (put_calls t v x.key x w5.drew (HSV.out) HT.out.1 (by have := HT.out.2; omega)).mono ?_
                  rintro e w8 ⟨v8, rfl, hS8, hb8⟩
                  refine ⟨_, rfl, ?_⟩
                  have HB8 := Aside.mk hb8
                  have HS8 := Aside.mk hS8
                  clear hb8 hS8
                  refine hK.out _ _ (HC.out HB8.out) (fun hHeld => ?_)
                  clear hK K9
                  refine norm_ (a' := ?_) ?_ ?_
                  rotate_left
                  · show Act.put _ (some 66) _ = _
                    simp only [Act.put, List.setIfInBounds_toArray, List.set_cons_zero, List.set_cons_succ]
                    rfl
                  refine pure_ (i := 9) (N := (some 67)) (v := ?_) (a' := ?_) #[true, true, true, true, true, true, true, true, true, true, false, false] rfl rfl (any_of HT_.out (by kernel_rfl)) (fun _ _ _ h => h) (Or.inl ⟨by rfl, ?_⟩) ?_ ?_
                  rotate_left
                  · intro w'
                    go_simp
                    with_reducible rfl
                  rotate_left
                  · simp only [Act.put, List.setIfInBounds_toArray, List.set_cons_zero, List.set_cons_succ, i64_w, i32_w]
                    rfl
                  refine pure_ (i := 10) (N := (some 68)) (v := ?_) (a' := ?_) #[true, true, true, true, true, true, true, true, true, true, true, false] rfl rfl (any_of HT_.out (by kernel_rfl)) (fun _ _ _ h => h) (Or.inl ⟨by rfl, ?_⟩) ?_ ?_
                  rotate_left
                  · intro w'
                    go_simp
                    with_reducible rfl
                  rotate_left
                  · simp only [Act.put, List.setIfInBounds_toArray, List.set_cons_zero, List.set_cons_succ, i64_w, i32_w]
                    rfl
                  refine last_ (i := 11) (N := none) #[true, true, true, true, true, true, true, true, true, true, true, true] rfl rfl (one_of HT_.out (by kernel_rfl)) (by decide) (fun K9 hK => ?_)
                  have q1 : w8.cell? ⟨Tb, 0, none⟩ = some (.pointer v) := (HC.out HB8.out).1
                  have q2 : w8.frozen? ⟨Tb, 0, none⟩ = false := HFZ.out HB8.out
                  refine skip_ (w1 := w8.setCell ⟨Tb, 0, none⟩ (.pointer v8)) (by rfl) rfl (by unfold execOp; go_simp) ?_
                  refine hK.out _ _ ?_
                  clear hK K9
                  refine done_ (done_of HT_.out (by kernel_rfl)) ?_
                  clear HT_ HW_ hHeld
                  have HZZ : Aside (goodTo l rev (k + 1) = true ∧ SH (w8.setCell ⟨Tb, 0, none⟩ (.pointer v8)) v8 (treeTo l (k + 1)) ∧ (w8.setCell ⟨Tb, 0, none⟩ (.pointer v8)).heap[Tb]? = some (.cells #[.pointer v8, .int .i64 n, .int .i64 rev, .int .i64 rev, .slice none 0 0] 111 (0, 0)) ∧ Below w.heap.size w (w8.setCell ⟨Tb, 0, none⟩ (.pointer v8))) := ⟨by
                    have hT8 := (HB8.out.block Tb (lt_of_block HTB.out)).trans HTB.out
                    have hf : Fr (fun q => q = Tb) w8 (w8.setCell ⟨Tb, 0, none⟩ (.pointer v8)) := (Fr.refl (fun q => q = Tb) w8).setCell (.inl rfl) _
                    have hBW : Below w.heap.size w w8 := (HB5.out.trans (HD.out.mono HB5.out.size)).trans (HB8.out.mono (Nat.le_trans HB5.out.size HD.out.size))
                    refine ⟨HGO.out, ?_, heap_setCell_eq _ hT8, hBW.trans (hf.below hBW.size (fun q e => by rw [e]; exact HTN.out))⟩
                    rw [HZ0.out.2.1]
                    exact SH.fr hf (fun q cs tt e hq => by subst e; rw [hT8] at hq; cases hq; decide) HS8.out⟩
                  clear t0 d1
                  go_wp2_with fail
                  go_roundw
                  case rel => exact ⟨k + 1, v8, by omega, by rw [HZ0.out.2.2], by go_num, HZZ⟩
                  case measure => simp [intOf]; omega
                · have HF := HBAD.out (by unfold goodE; rw [d1, HMO.out]; simp [h3])
                  go_wp2_with fail
                  go_ret2
                  exact ⟨.inr ⟨HF.out, rfl⟩, HB5.out⟩
              · have HF := HBAD.out (by unfold goodE; rw [d1, HMO.out]; simp [h2])
                go_wp2_with fail
                go_ret2
                exact ⟨.inr ⟨HF.out, rfl⟩, HB5.out⟩
            · have HF := HBAD.out (by unfold goodE; rw [d1, HMO.out]; simp [h1])
              go_wp2_with fail
              go_ret2
              exact ⟨.inr ⟨HF.out, rfl⟩, HB5.out⟩
      · obtain rfl : k = n := by omega
        have HF : Aside (ofOK l rev = true) := ⟨by rw [HE.out]; exact HRr.out.1⟩
        go_wp2_with fail
        go_ret2
        exact ⟨.inl ⟨HF.out, Tb, v, rfl, HTN.out, by rw [HN.out]; exact HRr.out.2.2.1, by rw [HN.out]; exact HRr.out.2.1⟩, HRr.out.2.2.2⟩
end Go.Proofs.Ytagkobpbhfkmdaa.C
