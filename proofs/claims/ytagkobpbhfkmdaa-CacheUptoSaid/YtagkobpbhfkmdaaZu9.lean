/- Zu: texts of this claim, laid together. -/
import Derived.Test.YtagkobpbhfkmdaaZu3
import Derived.Test.YtagkobpbhfkmdaaZu7
import Derived.Test.YtagkobpbhfkmdaaZu8
/-! from PUT -/
namespace Go.Proofs.Ytagkobpbhfkmdaa.C
open Go.RowKit Go.Proofs.Ytagkobpbhfkmdaa.Q Go.Proofs.YtagkobpbhfkmdaaW.PrintLast Go.Proofs.YtagkobpbhfkmdaaW.PrintWords
set_option linter.unusedVariables false
set_option linter.unusedSimpArgs false
def shp4T : Bool × List (List Nat × List Nat) := (true, [([], []), ([], []), ([1], [1]), ([2], [2]), ([3], [3]), ([], []), ([], []), ([4, 5, 6], [4, 5, 6]), ([], []), ([8], [8]), ([9], [9]), ([10], [10]), ([0, 7, 11, 7], [0, 7, 11]), ([12, 12, 0, 1, 2, 3, 4, 5, 6, 7, 8, 9, 10, 11, 12], [12])])
def shp4B : List Nat := [0, 0, 2, 6, 14, 0, 0, 126, 0, 256, 768, 1792, 4095, 8191]
theorem shp4_tab : rtab .any (opsOf Try.f69 4) = shp4T := by kernel_rfl
theorem shp4_bits : waitsOk shp4T.2 shp4B = true := by kernel_rfl
def shp6T : Bool × List (List Nat × List Nat) := (true, [([], []), ([], []), ([1], [1]), ([2], [2]), ([3], [3]), ([], []), ([5], [5]), ([6], [6]), ([7], [7]), ([], []), ([], []), ([8, 9, 10], [8, 9, 10]), ([0, 4, 11, 11], [0, 4, 11]), ([12, 12, 0, 1, 2, 3, 4, 5, 6, 7, 8, 9, 10, 11, 12], [12])])
def shp6B : List Nat := [0, 0, 2, 6, 14, 0, 32, 96, 224, 0, 0, 2016, 4095, 8191]
theorem shp6_tab : rtab .any (opsOf Try.f69 6) = shp6T := by kernel_rfl
theorem shp6_bits : waitsOk shp6T.2 shp6B = true := by kernel_rfl
def shp7T : Bool × List (List Nat × List Nat) := (true, [([], []), ([], []), ([], []), ([2], [2]), ([3], [3]), ([4], [4]), ([], []), ([6], [6]), ([7], [7]), ([8], [8]), ([], []), ([10], [10]), ([11], [11]), ([12], [12]), ([0, 1, 5, 9, 13], [0, 1, 5, 9, 13]), ([14], [14]), ([15, 0, 1, 2, 3, 4, 5, 6, 7, 8, 9, 10, 11, 12, 13, 14, 15], [15])])
def shp7B : List Nat := [0, 0, 0, 4, 12, 28, 0, 64, 192, 448, 0, 1024, 3072, 7168, 16383, 32767, 65535]
theorem shp7_tab : rtab .any (opsOf Try.f69 7) = shp7T := by kernel_rfl
theorem shp7_bits : waitsOk shp7T.2 shp7B = true := by kernel_rfl
def sof11T : Bool × List (List Nat × List Nat) := (true, [([], []), ([], []), ([1], [1]), ([2], [2]), ([3], [3]), ([], []), ([5], [5]), ([], []), ([4, 6, 7], [4, 6, 7]), ([0, 0, 1, 2, 3, 4, 5, 6, 7, 8], [0]), ([9, 0, 1, 2, 3, 4, 5, 6, 7, 8], [9]), ([10, 8, 8, 0, 1, 2, 3, 4, 5, 6, 7, 8], [8, 10])])
def sof11B : List Nat := [0, 0, 2, 6, 14, 0, 32, 0, 254, 511, 1023, 2047]
theorem sof11_tab : rtab .any (opsOf Try.f37 11) = sof11T := by kernel_rfl
theorem sof11_bits : waitsOk sof11T.2 sof11B = true := by kernel_rfl
set_option maxHeartbeats 8000000 in
set_option maxRecDepth 100000 in
theorem put_calls : ∀ (t : Shf) (v : Option Addr) (key : ByteArray) (x : Ent) (w : World), SH w v t → t.ok → t.cnt ≤ 10000000000 →
    Calls Try.prog 69 #[.pointer v, .string key, .agg #[.string x.key, .string x.val, .int .i64 x.made, .int .i64 x.mod]] w fun e' w' => ∃ v', e' = .returned (.pointer v') ∧ SH w' v' (Shf.put key x t) ∧ Below w.heap.size w w'
  | .nil, v, key, x, w, hs, ho, hn => by
    obtain rfl : v = none := hs
    clear ho hn
    go_enter Try.func69, Try.ntmps69
    go_wp2_with fail
    go_ret
    obtain ⟨W1, hW1⟩ : ∃ W1, W1 = w.alloc (.cells #[.string x.key, .string x.val, .int .i64 x.made, .int .i64 x.mod] 46 (0, 0)) := ⟨_, rfl⟩
    have hb : Below w.heap.size w W1 := by rw [hW1]; exact new_alloc _ _
    have hsz : W1.heap.size = w.heap.size + 1 := by rw [hW1]; simp
    rw [← hW1, ← hsz]
    exact ⟨_, rfl, ⟨_, none, none, rfl, heap_alloc_new W1 _, rfl, rfl⟩, hb.trans ((new_alloc W1 _).mono hb.size)⟩
  | .node sk se l r h, v, key, x, w, hs', ho, hn => by
    have ihl := put_calls l
    have ihr := put_calls r
    have hs := Aside.mk hs'
    obtain ⟨b, pl, pr, rfl, hb, hl', hr'⟩ := hs'
    have hl := Aside.mk hl'
    have hr := Aside.mk hr'
    have hn2 : l.cnt + r.cnt + 1 ≤ 10000000000 := hn
    have HO := Aside.mk (And.intro ho.1 (And.intro ho.2.1 hn2))
    obtain ⟨W1, hW1⟩ : ∃ W1, W1 = w.alloc (.cells #[.string x.key, .string x.val, .int .i64 x.made, .int .i64 x.mod] 46 (0, 0)) := ⟨_, rfl⟩
    have hb1 : Below w.heap.size w W1 := by rw [hW1]; exact new_alloc _ _
    have HW : Aside (Below w.heap.size w W1 ∧ Below w.heap.size w W1.drew) := ⟨hb1, below_drew1 hb1⟩
    have hbx : W1.heap[w.heap.size]? = some (.cells #[.string x.key, .string x.val, .int .i64 x.made, .int .i64 x.mod] 46 (0, 0)) := by rw [hW1]; exact heap_alloc_new w _
    have hb2 : W1.heap[b]? = _ := (hb1.block b (lt_of_block hb)).trans hb
    have HC : Aside (∀ {W : World}, Below W1.drew.heap.size W1.drew W → ((W.cell? ⟨b, 5, none⟩ = some (.pointer pl) ∧ W.cell? ⟨b, 6, none⟩ = some (.pointer pr)) ∧ W.cell? ⟨w.heap.size, 0, none⟩ = some (.string x.key) ∧ W.cell? ⟨w.heap.size, 1, none⟩ = some (.string x.val) ∧ W.cell? ⟨w.heap.size, 2, none⟩ = some (.int .i64 x.made) ∧ W.cell? ⟨w.heap.size, 3, none⟩ = some (.int .i64 x.mod))) := ⟨fun hB => by
      have e1 : W1.heap.size = W1.drew.heap.size := rfl
      have k1 := fun (i : Nat) => hB.cell (p := ⟨b, i, none⟩) (lt_of_block hb2)
      have k2 := fun (i : Nat) => hB.cell (p := ⟨w.heap.size, i, none⟩) (lt_of_block hbx)
      exact ⟨⟨(k1 5).trans (cell_at hb2 5), (k1 6).trans (cell_at hb2 6)⟩, (k2 0).trans (cell_at hbx 0), (k2 1).trans (cell_at hbx 1), (k2 2).trans (cell_at hbx 2), (k2 3).trans (cell_at hbx 3)⟩⟩
    have HC7 : Aside (∀ {W : World}, Below W1.drew.heap.size W1.drew W → ((W.cell? ⟨b, 5, none⟩ = some (.pointer pl) ∧ W.cell? ⟨b, 6, none⟩ = some (.pointer pr) ∧ W.cell? ⟨b, 7, none⟩ = some (.int .i64 h)) ∧ W.cell? ⟨w.heap.size, 0, none⟩ = some (.string x.key) ∧ W.cell? ⟨w.heap.size, 1, none⟩ = some (.string x.val) ∧ W.cell? ⟨w.heap.size, 2, none⟩ = some (.int .i64 x.made) ∧ W.cell? ⟨w.heap.size, 3, none⟩ = some (.int .i64 x.mod))) := ⟨fun hB => ⟨⟨(HC.out hB).1.1, (HC.out hB).1.2, (hB.cell (p := ⟨b, 7, none⟩) (lt_of_block hb2)).trans (cell_at hb2 7)⟩, (HC.out hB).2⟩⟩
    have hbn : ¬ b = w.heap.size := by have := lt_of_block hb; omega
    have hblt := lt_of_block hb
    have c0 : w.cell? ⟨b, 0, none⟩ = some (.string sk) := cell_at hb 0
    have HW1 := Aside.mk hW1
    clear hl' hr' ho hn hn2 hb1 hbx hb2 hb hW1
    cases d1 : Op.bytesLess key.toList sk.toList with
    | true =>
      have HE : Aside (Shf.put key x (.node sk se l r h) = Shf.lvl sk se (Shf.put key x l) r) := ⟨by show (if slt key sk = true then _ else _) = _; rw [if_pos (show slt key sk = true from d1)]⟩
      go_enter Try.func69, Try.ntmps69
      go_upto_region 4 with fail
      rw [← HW1.out]
      have t0 := HC.out (Below.refl _ _)
      refine start_ (n := 14) (S := (fun w' => (w'.cell? ⟨b, 5, none⟩ = some (.pointer pl) ∧ w'.cell? ⟨b, 6, none⟩ = some (.pointer pr)) ∧ w'.cell? ⟨w.heap.size, 0, none⟩ = some (.string x.key) ∧ w'.cell? ⟨w.heap.size, 1, none⟩ = some (.string x.val) ∧ w'.cell? ⟨w.heap.size, 2, none⟩ = some (.int .i64 x.made) ∧ w'.cell? ⟨w.heap.size, 3, none⟩ = some (.int .i64 x.mod))) (ds := []) #[false, false, false, false, false, false, false, false, false, false, false, false, false, false] (by kernel_rfl) rfl rfl t0 (fun hHeld => ?_); refine with_tabW shp4_tab shp4_bits (fun HT_ HW_ => ?_)
      refine pure_ (i := 0) (N := (some 21)) (v := ?_) (a' := ?_) #[true, false, false, false, false, false, false, false, false, false, false, false, false, false] rfl rfl (any_of HT_.out (by kernel_rfl)) (fun _ _ _ h => h) (Or.inl ⟨by rfl, ?_⟩) ?_ ?_
      rotate_left
      · intro w'
        go_simp
        with_reducible rfl
      rotate_left
      · simp only [Act.put, List.setIfInBounds_toArray, List.set_cons_zero, List.set_cons_succ, i64_w, i32_w]
        rfl
      refine pure_ (i := 1) (N := (some 22)) (v := ?_) (a' := ?_) #[true, true, false, false, false, false, false, false, false, false, false, false, false, false] rfl rfl (any_of HT_.out (by kernel_rfl)) (fun _ _ _ h => h) (Or.inl ⟨by rfl, ?_⟩) ?_ ?_
      rotate_left
      · intro w'
        go_simp
        with_reducible rfl
      rotate_left
      · simp only [Act.put, List.setIfInBounds_toArray, List.set_cons_zero, List.set_cons_succ, i64_w, i32_w]
        rfl
      refine pure_ (i := 2) (N := (some 23)) (v := ?_) (a' := ?_) #[true, true, true, false, false, false, false, false, false, false, false, false, false, false] rfl rfl (any_of HT_.out (by kernel_rfl)) (fun _ _ _ h => h) (Or.inl ⟨by rfl, ?_⟩) ?_ ?_
      rotate_left
      · intro w'
        go_simp
        with_reducible rfl
      rotate_left
      · simp only [Act.put, List.setIfInBounds_toArray, List.set_cons_zero, List.set_cons_succ, i64_w, i32_w]
        rfl
      refine pure_ (i := 3) (N := (some 24)) (v := ?_) (a' := ?_) #[true, true, true, true, false, false, false, false, false, false, false, false, false, false] rfl rfl (any_of HT_.out (by kernel_rfl)) (fun _ _ _ h => h) (Or.inl ⟨by rfl, ?_⟩) ?_ ?_
      rotate_left
      · intro w'
        go_simp
        with_reducible rfl
      rotate_left
      · simp only [Act.put, List.setIfInBounds_toArray, List.set_cons_zero, List.set_cons_succ, i64_w, i32_w]
        rfl
      refine take_ (i := 4) (N := (some 25)) (v := ?_) (a' := ?_) #[true, true, true, true, true, false, false, false, false, false, false, false, false, false] rfl rfl (take_ofW HT_.out HW_.out (by kernel_rfl)) (fun _ _ _ h => h) (Or.inl ⟨by rfl, ?_⟩) hHeld ?_ ?_
      rotate_left
      · rintro w' ⟨⟨s1, _⟩, _⟩
        go_simp
        with_reducible rfl
      rotate_left
      · simp only [Act.put, List.setIfInBounds_toArray, List.set_cons_zero, List.set_cons_succ, i64_w, i32_w]
        rfl
      refine pure_ (i := 5) (N := (some 26)) (v := ?_) (a' := ?_) #[true, true, true, true, true, true, false, false, false, false, false, false, false, false] rfl rfl (any_of HT_.out (by kernel_rfl)) (fun _ _ _ h => h) (Or.inl ⟨by rfl, ?_⟩) ?_ ?_
      rotate_left
      · intro w'
        go_simp
        with_reducible rfl
      rotate_left
      · simp only [Act.put, List.setIfInBounds_toArray, List.set_cons_zero, List.set_cons_succ, i64_w, i32_w]
        rfl
      refine take_ (i := 6) (N := (some 27)) (v := ?_) (a' := ?_) #[true, true, true, true, true, true, true, false, false, false, false, false, false, false] rfl rfl (take_ofW HT_.out HW_.out (by kernel_rfl)) (fun _ _ _ h => h) (Or.inl ⟨by rfl, ?_⟩) hHeld ?_ ?_
      rotate_left
      · rintro w' ⟨_, s1, s2, s3, s4⟩
        go_simp
        with_reducible rfl
      rotate_left
      · simp only [Act.put, List.setIfInBounds_toArray, List.set_cons_zero, List.set_cons_succ, i64_w, i32_w]
        rfl
      refine pure_ (i := 8) (N := (some 29)) (v := ?_) (a' := ?_) #[true, true, true, true, true, true, true, false, true, false, false, false, false, false] rfl rfl (any_of HT_.out (by kernel_rfl)) (fun _ _ _ h => h) (Or.inl ⟨by rfl, ?_⟩) ?_ ?_
      rotate_left
      · intro w'
        go_simp
        with_reducible rfl
      rotate_left
      · simp only [Act.put, List.setIfInBounds_toArray, List.set_cons_zero, List.set_cons_succ, i64_w, i32_w]
        rfl
      refine pure_ (i := 9) (N := (some 30)) (v := ?_) (a' := ?_) #[true, true, true, true, true, true, true, false, true, true, false, false, false, false] rfl rfl (any_of HT_.out (by kernel_rfl)) (fun _ _ _ h => h) (Or.inl ⟨by rfl, ?_⟩) ?_ ?_
      rotate_left
      · intro w'
        go_simp
        with_reducible rfl
      rotate_left
      · simp only [Act.put, List.setIfInBounds_toArray, List.set_cons_zero, List.set_cons_succ, i64_w, i32_w]
        rfl
      refine pure_ (i := 10) (N := (some 31)) (v := ?_) (a' := ?_) #[true, true, true, true, true, true, true, false, true, true, true, false, false, false] rfl rfl (any_of HT_.out (by kernel_rfl)) (fun _ _ _ h => h) (Or.inl ⟨by rfl, ?_⟩) ?_ ?_
      rotate_left
      · intro w'
        go_simp
        with_reducible rfl
      rotate_left
      · simp only [Act.put, List.setIfInBounds_toArray, List.set_cons_zero, List.set_cons_succ, i64_w, i32_w]
        rfl
      refine take_ (i := 11) (N := (some 32)) (v := ?_) (a' := ?_) #[true, true, true, true, true, true, true, false, true, true, true, true, false, false] rfl rfl (take_ofW HT_.out HW_.out (by kernel_rfl)) (fun _ _ _ h => h) (Or.inl ⟨by rfl, ?_⟩) hHeld ?_ ?_
      rotate_left
      · rintro w' ⟨⟨_, s1⟩, _⟩
        go_simp
        with_reducible rfl
      rotate_left
      · simp only [Act.put, List.setIfInBounds_toArray, List.set_cons_zero, List.set_cons_succ, i64_w, i32_w]
        rfl
      refine one_ (i := 7) (N := (some 28)) #[true, true, true, true, true, true, true, true, true, true, true, true, false, false] rfl rfl (one_of HT_.out (by kernel_rfl)) (by decide) (fun K9 hK => ?_)
      refine goes_ Try.func69 (by kernel_rfl) rfl #[.pointer pl, .string key, .agg #[.string x.key, .string x.val, .int .i64 x.made, .int .i64 x.mod]] (by rfl) rfl rfl (by (try simp only [List.map_toArray, List.map_cons, List.map_nil]); first | done | rfl) ?_
      refine (ihl pl key x W1.drew (hl.out.below HW.out.2) HO.out.1 (by have := HO.out.2.2; omega)).mono ?_
      rintro e w7 ⟨v7, rfl, hS7, hb7⟩
      refine ⟨_, rfl, ?_⟩
      have HB7 := Aside.mk hb7
      have HS7 := Aside.mk hS7
      clear hb7 hS7
      refine hK.out _ _ (HC.out (HB7.out)) (fun hHeld => ?_)
      clear hK K9
      refine norm_ (a' := ?_) ?_ ?_
      rotate_left
      · show Act.put _ (some 28) _ = _
        simp only [Act.put, List.setIfInBounds_toArray, List.set_cons_zero, List.set_cons_succ]
        rfl
      refine one_ (i := 12) (N := (some 33)) #[true, true, true, true, true, true, true, true, true, true, true, true, true, false] rfl rfl (one_of HT_.out (by kernel_rfl)) (by decide) (fun K9 hK => ?_)
      refine goes_ Try.func90 (by kernel_rfl) rfl #[.pointer (some ⟨b, 0, none⟩), .pointer v7, .pointer pr] (by rfl) rfl rfl (by (try simp only [List.map_toArray, List.map_cons, List.map_nil]); first | done | rfl) ?_
      refine (level_calls sk se l r (Shf.put key x l) r h _ _ _ _ ((hs.out.below HW.out.2).below HB7.out) HS7.out ((hr.out.below HW.out.2).below HB7.out) (Shf.put_ok key x HO.out.1).1 HO.out.2.1 (by have := (Shf.put_ok key x HO.out.1).2; have := HO.out.2.2; omega)).mono ?_
      rintro e w12 ⟨v12, rfl, hS12, hb12⟩
      refine ⟨_, rfl, ?_⟩
      have HB12 := Aside.mk hb12
      have HS12 := Aside.mk hS12
      clear hb12 hS12
      refine hK.out _ _ (HC.out (HB7.out.trans (HB12.out.mono HB7.out.size))) (fun hHeld => ?_)
      clear hK K9
      refine norm_ (a' := ?_) ?_ ?_
      rotate_left
      · show Act.put _ (some 33) _ = _
        simp only [Act.put, List.setIfInBounds_toArray, List.set_cons_zero, List.set_cons_succ]
        rfl
      refine pure_ (i := 13) (N := (some 6)) (v := ?_) (a' := ?_) #[true, true, true, true, true, true, true, true, true, true, true, true, true, true] rfl rfl (any_of HT_.out (by kernel_rfl)) (fun _ _ _ h => h) (Or.inl ⟨by rfl, ?_⟩) ?_ ?_
      rotate_left
      · intro w'
        go_simp
        with_reducible rfl
      rotate_left
      · simp only [Act.put, List.setIfInBounds_toArray, List.set_cons_zero, List.set_cons_succ, i64_w, i32_w]
        rfl
      refine done_ (done_of HT_.out (by kernel_rfl)) ?_
      clear HT_ HW_ hHeld
      go_wp2_with fail
      go_ret
      exact ⟨v12, rfl, by rw [HE.out]; exact HS12.out, (HW.out.2.trans (HB7.out.mono HW.out.2.size)).trans (HB12.out.mono (Nat.le_trans HW.out.2.size HB7.out.size))⟩
    | false =>
      cases d3 : (key.toList == sk.toList) with
      | false =>
        have d2 : (Op.bytesLess key.toList sk.toList || key.toList == sk.toList) = false := by rw [d1, d3]; rfl
        have HE : Aside (Shf.put key x (.node sk se l r h) = Shf.lvl sk se l (Shf.put key x r)) := ⟨by show (if slt key sk = true then _ else if (slt key sk || key.toList == sk.toList) = false then _ else _) = _; rw [if_neg (by unfold slt; rw [d1]; simp), if_pos (show (slt key sk || key.toList == sk.toList) = false from d2)]⟩
        go_enter Try.func69, Try.ntmps69
        go_upto_region 6 with fail
        rw [← HW1.out]
        have t0 := HC.out (Below.refl _ _)
        refine start_ (n := 14) (S := (fun w' => (w'.cell? ⟨b, 5, none⟩ = some (.pointer pl) ∧ w'.cell? ⟨b, 6, none⟩ = some (.pointer pr)) ∧ w'.cell? ⟨w.heap.size, 0, none⟩ = some (.string x.key) ∧ w'.cell? ⟨w.heap.size, 1, none⟩ = some (.string x.val) ∧ w'.cell? ⟨w.heap.size, 2, none⟩ = some (.int .i64 x.made) ∧ w'.cell? ⟨w.heap.size, 3, none⟩ = some (.int .i64 x.mod))) (ds := []) #[false, false, false, false, false, false, false, false, false, false, false, false, false, false] (by kernel_rfl) rfl rfl t0 (fun hHeld => ?_); refine with_tabW shp6_tab shp6_bits (fun HT_ HW_ => ?_)
        refine pure_ (i := 0) (N := (some 41)) (v := ?_) (a' := ?_) #[true, false, false, false, false, false, false, false, false, false, false, false, false, false] rfl rfl (any_of HT_.out (by kernel_rfl)) (fun _ _ _ h => h) (Or.inl ⟨by rfl, ?_⟩) ?_ ?_
        rotate_left
        · intro w'
          go_simp
          with_reducible rfl
        rotate_left
        · simp only [Act.put, List.setIfInBounds_toArray, List.set_cons_zero, List.set_cons_succ, i64_w, i32_w]
          rfl
        refine pure_ (i := 1) (N := (some 42)) (v := ?_) (a' := ?_) #[true, true, false, false, false, false, false, false, false, false, false, false, false, false] rfl rfl (any_of HT_.out (by kernel_rfl)) (fun _ _ _ h => h) (Or.inl ⟨by rfl, ?_⟩) ?_ ?_
        rotate_left
        · intro w'
          go_simp
          with_reducible rfl
        rotate_left
        · simp only [Act.put, List.setIfInBounds_toArray, List.set_cons_zero, List.set_cons_succ, i64_w, i32_w]
          rfl
        refine pure_ (i := 2) (N := (some 43)) (v := ?_) (a' := ?_) #[true, true, true, false, false, false, false, false, false, false, false, false, false, false] rfl rfl (any_of HT_.out (by kernel_rfl)) (fun _ _ _ h => h) (Or.inl ⟨by rfl, ?_⟩) ?_ ?_
        rotate_left
        · intro w'
          go_simp
          with_reducible rfl
        rotate_left
        · simp only [Act.put, List.setIfInBounds_toArray, List.set_cons_zero, List.set_cons_succ, i64_w, i32_w]
          rfl
        refine pure_ (i := 3) (N := (some 44)) (v := ?_) (a' := ?_) #[true, true, true, true, false, false, false, false, false, false, false, false, false, false] rfl rfl (any_of HT_.out (by kernel_rfl)) (fun _ _ _ h => h) (Or.inl ⟨by rfl, ?_⟩) ?_ ?_
        rotate_left
        · intro w'
          go_simp
          with_reducible rfl
        rotate_left
        · simp only [Act.put, List.setIfInBounds_toArray, List.set_cons_zero, List.set_cons_succ, i64_w, i32_w]
          rfl
        refine take_ (i := 4) (N := (some 45)) (v := ?_) (a' := ?_) #[true, true, true, true, true, false, false, false, false, false, false, false, false, false] rfl rfl (take_ofW HT_.out HW_.out (by kernel_rfl)) (fun _ _ _ h => h) (Or.inl ⟨by rfl, ?_⟩) hHeld ?_ ?_
        rotate_left
        · rintro w' ⟨⟨s1, _⟩, _⟩
          go_simp
          with_reducible rfl
        rotate_left
        · simp only [Act.put, List.setIfInBounds_toArray, List.set_cons_zero, List.set_cons_succ, i64_w, i32_w]
          rfl
        refine pure_ (i := 5) (N := (some 46)) (v := ?_) (a' := ?_) #[true, true, true, true, true, true, false, false, false, false, false, false, false, false] rfl rfl (any_of HT_.out (by kernel_rfl)) (fun _ _ _ h => h) (Or.inl ⟨by rfl, ?_⟩) ?_ ?_
        rotate_left
        · intro w'
          go_simp
          with_reducible rfl
        rotate_left
        · simp only [Act.put, List.setIfInBounds_toArray, List.set_cons_zero, List.set_cons_succ, i64_w, i32_w]
          rfl
        refine pure_ (i := 6) (N := (some 47)) (v := ?_) (a' := ?_) #[true, true, true, true, true, true, true, false, false, false, false, false, false, false] rfl rfl (any_of HT_.out (by kernel_rfl)) (fun _ _ _ h => h) (Or.inl ⟨by rfl, ?_⟩) ?_ ?_
        rotate_left
        · intro w'
          go_simp
          with_reducible rfl
        rotate_left
        · simp only [Act.put, List.setIfInBounds_toArray, List.set_cons_zero, List.set_cons_succ, i64_w, i32_w]
          rfl
        refine pure_ (i := 7) (N := (some 48)) (v := ?_) (a' := ?_) #[true, true, true, true, true, true, true, true, false, false, false, false, false, false] rfl rfl (any_of HT_.out (by kernel_rfl)) (fun _ _ _ h => h) (Or.inl ⟨by rfl, ?_⟩) ?_ ?_
        rotate_left
        · intro w'
          go_simp
          with_reducible rfl
        rotate_left
        · simp only [Act.put, List.setIfInBounds_toArray, List.set_cons_zero, List.set_cons_succ, i64_w, i32_w]
          rfl
        refine take_ (i := 8) (N := (some 49)) (v := ?_) (a' := ?_) #[true, true, true, true, true, true, true, true, true, false, false, false, false, false] rfl rfl (take_ofW HT_.out HW_.out (by kernel_rfl)) (fun _ _ _ h => h) (Or.inl ⟨by rfl, ?_⟩) hHeld ?_ ?_
        rotate_left
        · rintro w' ⟨⟨_, s1⟩, _⟩
          go_simp
          with_reducible rfl
        rotate_left
        · simp only [Act.put, List.setIfInBounds_toArray, List.set_cons_zero, List.set_cons_succ, i64_w, i32_w]
          rfl
        refine pure_ (i := 9) (N := (some 50)) (v := ?_) (a' := ?_) #[true, true, true, true, true, true, true, true, true, true, false, false, false, false] rfl rfl (any_of HT_.out (by kernel_rfl)) (fun _ _ _ h => h) (Or.inl ⟨by rfl, ?_⟩) ?_ ?_
        rotate_left
        · intro w'
          go_simp
          with_reducible rfl
        rotate_left
        · simp only [Act.put, List.setIfInBounds_toArray, List.set_cons_zero, List.set_cons_succ, i64_w, i32_w]
          rfl
        refine take_ (i := 10) (N := (some 51)) (v := ?_) (a' := ?_) #[true, true, true, true, true, true, true, true, true, true, true, false, false, false] rfl rfl (take_ofW HT_.out HW_.out (by kernel_rfl)) (fun _ _ _ h => h) (Or.inl ⟨by rfl, ?_⟩) hHeld ?_ ?_
        rotate_left
        · rintro w' ⟨_, s1, s2, s3, s4⟩
          go_simp
          with_reducible rfl
        rotate_left
        · simp only [Act.put, List.setIfInBounds_toArray, List.set_cons_zero, List.set_cons_succ, i64_w, i32_w]
          rfl
        refine one_ (i := 11) (N := (some 52)) #[true, true, true, true, true, true, true, true, true, true, true, true, false, false] rfl rfl (one_of HT_.out (by kernel_rfl)) (by decide) (fun K9 hK => ?_)
        refine goes_ Try.func69 (by kernel_rfl) rfl #[.pointer pr, .string key, .agg #[.string x.key, .string x.val, .int .i64 x.made, .int .i64 x.mod]] (by rfl) rfl rfl (by (try simp only [List.map_toArray, List.map_cons, List.map_nil]); first | done | rfl) ?_
        refine (ihr pr key x W1.drew (hr.out.below HW.out.2) HO.out.2.1 (by have := HO.out.2.2; omega)).mono ?_
        rintro e w7 ⟨v7, rfl, hS7, hb7⟩
        refine ⟨_, rfl, ?_⟩
        have HB7 := Aside.mk hb7
        have HS7 := Aside.mk hS7
        clear hb7 hS7
        refine hK.out _ _ (HC.out (HB7.out)) (fun hHeld => ?_)
        clear hK K9
        refine norm_ (a' := ?_) ?_ ?_
        rotate_left
        · show Act.put _ (some 52) _ = _
          simp only [Act.put, List.setIfInBounds_toArray, List.set_cons_zero, List.set_cons_succ]
          rfl
        refine one_ (i := 12) (N := (some 53)) #[true, true, true, true, true, true, true, true, true, true, true, true, true, false] rfl rfl (one_of HT_.out (by kernel_rfl)) (by decide) (fun K9 hK => ?_)
        refine goes_ Try.func90 (by kernel_rfl) rfl #[.pointer (some ⟨b, 0, none⟩), .pointer pl, .pointer v7] (by rfl) rfl rfl (by (try simp only [List.map_toArray, List.map_cons, List.map_nil]); first | done | rfl) ?_
        refine (level_calls sk se l r l (Shf.put key x r) h _ _ _ _ ((hs.out.below HW.out.2).below HB7.out) ((hl.out.below HW.out.2).below HB7.out) HS7.out HO.out.1 (Shf.put_ok key x HO.out.2.1).1 (by have := (Shf.put_ok key x HO.out.2.1).2; have := HO.out.2.2; omega)).mono ?_
        rintro e w12 ⟨v12, rfl, hS12, hb12⟩
        refine ⟨_, rfl, ?_⟩
        have HB12 := Aside.mk hb12
        have HS12 := Aside.mk hS12
        clear hb12 hS12
        refine hK.out _ _ (HC.out (HB7.out.trans (HB12.out.mono HB7.out.size))) (fun hHeld => ?_)
        clear hK K9
        refine norm_ (a' := ?_) ?_ ?_
        rotate_left
        · show Act.put _ (some 53) _ = _
          simp only [Act.put, List.setIfInBounds_toArray, List.set_cons_zero, List.set_cons_succ]
          rfl
        refine pure_ (i := 13) (N := (some 6)) (v := ?_) (a' := ?_) #[true, true, true, true, true, true, true, true, true, true, true, true, true, true] rfl rfl (any_of HT_.out (by kernel_rfl)) (fun _ _ _ h => h) (Or.inl ⟨by rfl, ?_⟩) ?_ ?_
        rotate_left
        · intro w'
          go_simp
          with_reducible rfl
        rotate_left
        · simp only [Act.put, List.setIfInBounds_toArray, List.set_cons_zero, List.set_cons_succ, i64_w, i32_w]
          rfl
        refine done_ (done_of HT_.out (by kernel_rfl)) ?_
        clear HT_ HW_ hHeld
        go_wp2_with fail
        go_ret
        exact ⟨v12, rfl, by rw [HE.out]; exact HS12.out, (HW.out.2.trans (HB7.out.mono HW.out.2.size)).trans (HB12.out.mono (Nat.le_trans HW.out.2.size HB7.out.size))⟩
      | true =>
        have d2 : (Op.bytesLess key.toList sk.toList || key.toList == sk.toList) = true := by rw [d1, d3]; rfl
        have HE : Aside (Shf.put key x (.node sk se l r h) = Shf.node key x l r h) := ⟨by show (if slt key sk = true then _ else if (slt key sk || key.toList == sk.toList) = false then _ else _) = _; rw [if_neg (by unfold slt; rw [d1]; simp), if_neg (by unfold slt; rw [d2]; simp)]⟩
        go_enter Try.func69, Try.ntmps69
        go_upto_region 7 with fail
        rw [← HW1.out]
        have t0 := HC7.out (Below.refl _ _)
        refine start_ (n := 17) (S := (fun w' => (w'.cell? ⟨b, 5, none⟩ = some (.pointer pl) ∧ w'.cell? ⟨b, 6, none⟩ = some (.pointer pr) ∧ w'.cell? ⟨b, 7, none⟩ = some (.int .i64 h)) ∧ w'.cell? ⟨w.heap.size, 0, none⟩ = some (.string x.key) ∧ w'.cell? ⟨w.heap.size, 1, none⟩ = some (.string x.val) ∧ w'.cell? ⟨w.heap.size, 2, none⟩ = some (.int .i64 x.made) ∧ w'.cell? ⟨w.heap.size, 3, none⟩ = some (.int .i64 x.mod))) (ds := []) #[false, false, false, false, false, false, false, false, false, false, false, false, false, false, false, false, false] (by kernel_rfl) rfl rfl t0 (fun hHeld => ?_); refine with_tabW shp7_tab shp7_bits (fun HT_ HW_ => ?_)
        refine pure_ (i := 0) (N := (some 54)) (v := ?_) (a' := ?_) #[true, false, false, false, false, false, false, false, false, false, false, false, false, false, false, false, false] rfl rfl (any_of HT_.out (by kernel_rfl)) (fun _ _ _ h => h) (Or.inl ⟨by rfl, ?_⟩) ?_ ?_
        rotate_left
        · intro w'
          go_simp
          with_reducible rfl
        rotate_left
        · simp only [Act.put, List.setIfInBounds_toArray, List.set_cons_zero, List.set_cons_succ, i64_w, i32_w]
          rfl
        refine take_ (i := 1) (N := (some 55)) (v := ?_) (a' := ?_) #[true, true, false, false, false, false, false, false, false, false, false, false, false, false, false, false, false] rfl rfl (take_ofW HT_.out HW_.out (by kernel_rfl)) (fun _ _ _ h => h) (Or.inl ⟨by rfl, ?_⟩) hHeld ?_ ?_
        rotate_left
        · rintro w' ⟨_, s1, s2, s3, s4⟩
          go_simp
          with_reducible rfl
        rotate_left
        · simp only [Act.put, List.setIfInBounds_toArray, List.set_cons_zero, List.set_cons_succ, i64_w, i32_w]
          rfl
        refine pure_ (i := 2) (N := (some 56)) (v := ?_) (a' := ?_) #[true, true, true, false, false, false, false, false, false, false, false, false, false, false, false, false, false] rfl rfl (any_of HT_.out (by kernel_rfl)) (fun _ _ _ h => h) (Or.inl ⟨by rfl, ?_⟩) ?_ ?_
        rotate_left
        · intro w'
          go_simp
          with_reducible rfl
        rotate_left
        · simp only [Act.put, List.setIfInBounds_toArray, List.set_cons_zero, List.set_cons_succ, i64_w, i32_w]
          rfl
        refine pure_ (i := 3) (N := (some 57)) (v := ?_) (a' := ?_) #[true, true, true, true, false, false, false, false, false, false, false, false, false, false, false, false, false] rfl rfl (any_of HT_.out (by kernel_rfl)) (fun _ _ _ h => h) (Or.inl ⟨by rfl, ?_⟩) ?_ ?_
        rotate_left
        · intro w'
          go_simp
          with_reducible rfl
        rotate_left
        · simp only [Act.put, List.setIfInBounds_toArray, List.set_cons_zero, List.set_cons_succ, i64_w, i32_w]
          rfl
        refine pure_ (i := 4) (N := (some 58)) (v := ?_) (a' := ?_) #[true, true, true, true, true, false, false, false, false, false, false, false, false, false, false, false, false] rfl rfl (any_of HT_.out (by kernel_rfl)) (fun _ _ _ h => h) (Or.inl ⟨by rfl, ?_⟩) ?_ ?_
        rotate_left
        · intro w'
          go_simp
          with_reducible rfl
        rotate_left
        · simp only [Act.put, List.setIfInBounds_toArray, List.set_cons_zero, List.set_cons_succ, i64_w, i32_w]
          rfl
        refine take_ (i := 5) (N := (some 59)) (v := ?_) (a' := ?_) #[true, true, true, true, true, true, false, false, false, false, false, false, false, false, false, false, false] rfl rfl (take_ofW HT_.out HW_.out (by kernel_rfl)) (fun _ _ _ h => h) (Or.inl ⟨by rfl, ?_⟩) hHeld ?_ ?_
        rotate_left
        · rintro w' ⟨⟨s1, _⟩, _⟩
          go_simp
          with_reducible rfl
        rotate_left
        · simp only [Act.put, List.setIfInBounds_toArray, List.set_cons_zero, List.set_cons_succ, i64_w, i32_w]
          rfl
        refine pure_ (i := 6) (N := (some 60)) (v := ?_) (a' := ?_) #[true, true, true, true, true, true, true, false, false, false, false, false, false, false, false, false, false] rfl rfl (any_of HT_.out (by kernel_rfl)) (fun _ _ _ h => h) (Or.inl ⟨by rfl, ?_⟩) ?_ ?_
        rotate_left
        · intro w'
          go_simp
          with_reducible rfl
        rotate_left
        · simp only [Act.put, List.setIfInBounds_toArray, List.set_cons_zero, List.set_cons_succ, i64_w, i32_w]
          rfl
        refine pure_ (i := 7) (N := (some 61)) (v := ?_) (a' := ?_) #[true, true, true, true, true, true, true, true, false, false, false, false, false, false, false, false, false] rfl rfl (any_of HT_.out (by kernel_rfl)) (fun _ _ _ h => h) (Or.inl ⟨by rfl, ?_⟩) ?_ ?_
        rotate_left
        · intro w'
          go_simp
          with_reducible rfl
        rotate_left
        · simp only [Act.put, List.setIfInBounds_toArray, List.set_cons_zero, List.set_cons_succ, i64_w, i32_w]
          rfl
        refine pure_ (i := 8) (N := (some 62)) (v := ?_) (a' := ?_) #[true, true, true, true, true, true, true, true, true, false, false, false, false, false, false, false, false] rfl rfl (any_of HT_.out (by kernel_rfl)) (fun _ _ _ h => h) (Or.inl ⟨by rfl, ?_⟩) ?_ ?_
        rotate_left
        · intro w'
          go_simp
          with_reducible rfl
        rotate_left
        · simp only [Act.put, List.setIfInBounds_toArray, List.set_cons_zero, List.set_cons_succ, i64_w, i32_w]
          rfl
        refine take_ (i := 9) (N := (some 63)) (v := ?_) (a' := ?_) #[true, true, true, true, true, true, true, true, true, true, false, false, false, false, false, false, false] rfl rfl (take_ofW HT_.out HW_.out (by kernel_rfl)) (fun _ _ _ h => h) (Or.inl ⟨by rfl, ?_⟩) hHeld ?_ ?_
        rotate_left
        · rintro w' ⟨⟨_, s1, _⟩, _⟩
          go_simp
          with_reducible rfl
        rotate_left
        · simp only [Act.put, List.setIfInBounds_toArray, List.set_cons_zero, List.set_cons_succ, i64_w, i32_w]
          rfl
        refine pure_ (i := 10) (N := (some 64)) (v := ?_) (a' := ?_) #[true, true, true, true, true, true, true, true, true, true, true, false, false, false, false, false, false] rfl rfl (any_of HT_.out (by kernel_rfl)) (fun _ _ _ h => h) (Or.inl ⟨by rfl, ?_⟩) ?_ ?_
        rotate_left
        · intro w'
          go_simp
          with_reducible rfl
        rotate_left
        · simp only [Act.put, List.setIfInBounds_toArray, List.set_cons_zero, List.set_cons_succ, i64_w, i32_w]
          rfl
        refine pure_ (i := 11) (N := (some 65)) (v := ?_) (a' := ?_) #[true, true, true, true, true, true, true, true, true, true, true, true, false, false, false, false, false] rfl rfl (any_of HT_.out (by kernel_rfl)) (fun _ _ _ h => h) (Or.inl ⟨by rfl, ?_⟩) ?_ ?_
        rotate_left
        · intro w'
          go_simp
          with_reducible rfl
        rotate_left
        · simp only [Act.put, List.setIfInBounds_toArray, List.set_cons_zero, List.set_cons_succ, i64_w, i32_w]
          rfl
        refine pure_ (i := 12) (N := (some 66)) (v := ?_) (a' := ?_) #[true, true, true, true, true, true, true, true, true, true, true, true, true, false, false, false, false] rfl rfl (any_of HT_.out (by kernel_rfl)) (fun _ _ _ h => h) (Or.inl ⟨by rfl, ?_⟩) ?_ ?_
        rotate_left
        · intro w'
          go_simp
          with_reducible rfl
        rotate_left
        · simp only [Act.put, List.setIfInBounds_toArray, List.set_cons_zero, List.set_cons_succ, i64_w, i32_w]
          rfl
        refine take_ (i := 13) (N := (some 67)) (v := ?_) (a' := ?_) #[true, true, true, true, true, true, true, true, true, true, true, true, true, true, false, false, false] rfl rfl (take_ofW HT_.out HW_.out (by kernel_rfl)) (fun _ _ _ h => h) (Or.inl ⟨by rfl, ?_⟩) hHeld ?_ ?_
        rotate_left
        · rintro w' ⟨⟨_, _, s1⟩, _⟩
          go_simp
          with_reducible rfl
        rotate_left
        · simp only [Act.put, List.setIfInBounds_toArray, List.set_cons_zero, List.set_cons_succ, i64_w, i32_w]
          rfl
        refine pure_ (i := 14) (N := (some 68)) (v := ?_) (a' := ?_) #[true, true, true, true, true, true, true, true, true, true, true, true, true, true, true, false, false] rfl rfl (any_of HT_.out (by kernel_rfl)) (fun _ _ _ h => h) (Or.inl ⟨by rfl, ?_⟩) ?_ ?_
        rotate_left
        · intro w'
          go_simp
          with_reducible rfl
        rotate_left
        · simp only [Act.put, List.setIfInBounds_toArray, List.set_cons_zero, List.set_cons_succ, i64_w, i32_w]
          rfl
        refine one_ (i := 15) (N := (some 69)) #[true, true, true, true, true, true, true, true, true, true, true, true, true, true, true, true, false] rfl rfl (one_of HT_.out (by kernel_rfl)) (by decide) (fun K9 hK => ?_)

        refine value_ (v := .pointer (some ⟨W1.drew.heap.size, 0, none⟩)) (w1 := W1.drew.alloc (.cells #[.string key, .string x.key, .string x.val, .int .i64 x.made, .int .i64 x.mod, .pointer pl, .pointer pr, .int .i64 h] 153 (0, 0))) (by rfl) rfl (by unfold execOp; go_simp) ?_
        refine hK.out _ _ (HC7.out (new_alloc _ _)) (fun hHeld => ?_)
        clear hK K9
        refine norm_ (a' := ?_) ?_ ?_
        rotate_left
        · show Act.put _ (some 69) _ = _
          simp only [Act.put, List.setIfInBounds_toArray, List.set_cons_zero, List.set_cons_succ]
          rfl
        refine pure_ (i := 16) (N := (some 6)) (v := ?_) (a' := ?_) #[true, true, true, true, true, true, true, true, true, true, true, true, true, true, true, true, true] rfl rfl (any_of HT_.out (by kernel_rfl)) (fun _ _ _ h => h) (Or.inl ⟨by rfl, ?_⟩) ?_ ?_
        rotate_left
        · intro w'
          go_simp
          with_reducible rfl
        rotate_left
        · simp only [Act.put, List.setIfInBounds_toArray, List.set_cons_zero, List.set_cons_succ, i64_w, i32_w]
          rfl
        refine done_ (done_of HT_.out (by kernel_rfl)) ?_
        clear HT_ HW_ hHeld
        go_wp2_with fail
        go_ret
        have hna := new_alloc W1.drew (.cells #[.string key, .string x.key, .string x.val, .int .i64 x.made, .int .i64 x.mod, .pointer pl, .pointer pr, .int .i64 h] 153 (0, 0))
        exact ⟨_, rfl, by rw [HE.out]; exact ⟨_, pl, pr, rfl, heap_alloc_new _ _, (hl.out.below HW.out.2).below hna, (hr.out.below HW.out.2).below hna⟩, HW.out.2.trans (hna.mono HW.out.2.size)⟩
def entOf (x : S46) : Ent := ⟨x.f0, x.f1, x.f2, x.f3⟩
/-- May an entry stand behind a key, in a tree of a revision? -/
def goodE (last : ByteArray) (rev : Int) (x : Ent) : Bool := !(Op.bytesLess x.key.toList last.toList || x.key.toList == last.toList) && (mayOpB false x.key x.val && (decide (1 ≤ x.made) && (decide (x.made ≤ x.mod) && decide (x.mod ≤ rev))))
/-- The keys ahead of number k. -/
def lastK (l : List S46) : Nat → ByteArray
  | 0 => ⟨#[]⟩
  | k + 1 => (rd_T46 l k).f0
def goodTo (l : List S46) (rev : Int) : Nat → Bool
  | 0 => true
  | k + 1 => goodTo l rev k && goodE (lastK l k) rev (entOf (rd_T46 l k))
def treeTo (l : List S46) : Nat → Shf
  | 0 => .nil
  | k + 1 => Shf.put (rd_T46 l k).f0 (entOf (rd_T46 l k)) (treeTo l k)
theorem treeTo_ok (l : List S46) : ∀ k, (treeTo l k).ok ∧ (treeTo l k).cnt ≤ k
  | 0 => ⟨trivial, Nat.le_refl _⟩
  | k + 1 => by
    have h := treeTo_ok l k
    have h2 := Shf.put_ok (rd_T46 l k).f0 (entOf (rd_T46 l k)) h.1
    exact ⟨h2.1, Nat.le_trans h2.2 (by have := h.2; omega)⟩
theorem goodTo_mono {l : List S46} {rev : Int} : ∀ {k n : Nat}, k ≤ n → goodTo l rev k = false → goodTo l rev n = false
  | k, 0, hk, h => by
    have : k = 0 := by omega
    subst this; exact h
  | k, n + 1, hk, h => by
    by_cases e : k = n + 1
    · subst e; exact h
    · show (goodTo l rev n && _) = false
      rw [goodTo_mono (k := k) (n := n) (by omega) h]; rfl
def ofOK (l : List S46) (rev : Int) : Bool := decide (0 ≤ rev) && (decide (rev ≤ 1099511627776) && goodTo l rev l.length)
/-- What Of leaves. -/
def OfRes (l : List S46) (rev : Int) (w : World) (e : Ending) (w' : World) : Prop :=
  (ofOK l rev = true ∧ ∃ Tb v, e = .returned (.tuple #[.pointer (some ⟨Tb, 0, none⟩), .int .i64 0]) ∧ w.heap.size ≤ Tb ∧ w'.heap[Tb]? = some (.cells #[.pointer v, .int .i64 l.length, .int .i64 rev, .int .i64 rev, .slice none 0 0] 111 (0, 0)) ∧ SH w' v (treeTo l l.length)) ∨
  (ofOK l rev = false ∧ e = .returned (.tuple #[.pointer none, .int .i64 4]))
theorem mayRev_calls (rev : Int) (w : World) : Calls Try.prog 67 #[.int .i64 rev] w fun e w' => e = .returned (.bool (decide (0 ≤ rev) && decide (rev ≤ 1099511627776))) ∧ Below w.heap.size w w' :=
  (tree_mayRev.calls rev _ w (by
    unfold tree_mayRev.f
    by_cases h : rev ≥ 0
    · rw [if_pos h]; have : decide (0 ≤ rev) = true := by simpa using h
      rw [this]; rfl
    · rw [if_neg h]; have : decide (0 ≤ rev) = false := by simpa using h
      rw [this]; rfl)).mono fun e w' ⟨h1, h2⟩ => ⟨h1, drawn_below h2⟩
theorem mayOp_calls (d : Bool) (k v : ByteArray) (b : Bool) (w : World) (hs : k.size ≤ 9000000000000000000) (hb : mayOpB d k v = b) : Calls Try.prog 68 #[.agg #[.bool d, .string k, .string v]] w fun e w' => e = .returned (.bool b) ∧ Below w.heap.size w w' :=
  tree_mayOp.calls (k.size + 6) d k v b w (by rw [← hb]; exact mayOp_is d k v hs _ (by omega))
set_option maxHeartbeats 8000000 in
set_option maxRecDepth 100000 in
theorem of_calls (A : Option Addr) (c : Nat) (l : List S46) (rev : Int) (w : World) (g : Kd.C k46 w A l.length l) (hlc : l.length ≤ c) (hl : l.length ≤ 1000000000) (hsz : ∀ y ∈ l, y.f0.size ≤ 9000000000000000000) :
    Calls Try.prog 37 #[.slice A l.length c, .int .i64 rev] w fun e w' => OfRes l rev w e w' ∧ Below w.heap.size w w' := by
  have HG := Aside.mk g
  obtain ⟨n, hn⟩ : ∃ n, l.length = n := ⟨_, rfl⟩
  have HN := Aside.mk hn
  have HSZ := Aside.mk hsz
  rw [hn] at hlc hl ⊢
  clear g hn hsz
  cases hr : (decide (0 ≤ rev) && decide (rev ≤ 1099511627776)) with
  | false =>
    have HR := Aside.mk hr
    have HE : Aside (ofOK l rev = false) := ⟨by
      unfold ofOK
      rw [← Bool.and_assoc, hr]; rfl⟩
    clear hr
    go_enter Try.func37, Try.ntmps37
    go_wp2_with fail
    refine (mayRev_calls rev w).mono ?_
    rintro e w1 ⟨rfl, hb⟩
    rw [HR.out]
    have HB := Aside.mk hb
    clear hb
    go_wp2_with fail
    go_ret2
    exact ⟨.inr ⟨HE.out, rfl⟩, HB.out⟩
  | true =>
    have HR := Aside.mk hr
    have HE : Aside (ofOK l rev = goodTo l rev n) := ⟨by
      unfold ofOK
      rw [← Bool.and_assoc, hr, HN.out]; rfl⟩
    clear hr
    go_enter Try.func37, Try.ntmps37
    go_wp2_with fail
    refine (mayRev_calls rev w).mono ?_
    rintro e w1 ⟨rfl, hb⟩
    rw [HR.out]
    have HB1 := Aside.mk hb
    clear hb
    obtain ⟨w2, hw2⟩ : ∃ w2, w2 = w1.alloc (.cells #[.pointer none, .int .i64 n, .int .i64 rev, .int .i64 rev, .slice none 0 0] 111 (0, 0)) := ⟨_, rfl⟩
    have HB2 : Aside (Below w.heap.size w w2) := ⟨by rw [hw2]; exact HB1.out.alloc HB1.out.size _⟩
    have HT2 : Aside (w2.heap[w1.heap.size]? = some (.cells #[.pointer none, .int .i64 n, .int .i64 rev, .int .i64 rev, .slice none 0 0] 111 (0, 0))) := ⟨by rw [hw2]; exact heap_alloc_new w1 _⟩
    have HW2 := Aside.mk hw2
    have HTN := Aside.mk HB1.out.size
    clear hw2
    go_wp2_with fail
    rw [← HW2.out]
    obtain ⟨Tb, hTb⟩ : ∃ Tb, w1.heap.size = Tb := ⟨_, rfl⟩
    rw [hTb] at HT2 HTN ⊢
    clear hTb HW2
    go_loopw [7, 21] (fun v7 v21 wr => ∃ (k : Nat) (v : Option Addr), k ≤ n ∧ v7 = .string (lastK l k) ∧ v21 = .int .i64 k ∧ Aside (goodTo l rev k = true ∧ SH wr v (treeTo l k) ∧ wr.heap[Tb]? = some (.cells #[.pointer v, .int .i64 n, .int .i64 rev, .int .i64 rev, .slice none 0 0] 111 (0, 0)) ∧ Below w.heap.size w wr)) (fun _ v21 _ => n - (intOf v21).toNat)
    case atStart => exact ⟨0, none, by omega, rfl, rfl, ⟨rfl, rfl, HT2.out, HB2.out⟩⟩
    case round =>
      obtain ⟨k, v, hk, rfl, rfl, HRr⟩ := hrel
      by_cases hlt : k < n
      · obtain ⟨ad, he, hf0, hf1, hf2, hf3⟩ := at_T46 (Kd.C_below HG.out HRr.out.2.2.2) (k : Int) (by omega) (by rw [HN.out]; omega)
        subst he
        obtain ⟨z, hz⟩ : ∃ z, rd_T46 l k = z := ⟨_, rfl⟩
        have HZ0 : Aside (goodTo l rev (k + 1) = (goodTo l rev k && goodE (lastK l k) rev (entOf z)) ∧ treeTo l (k + 1) = Shf.put z.f0 (entOf z) (treeTo l k) ∧ lastK l (k + 1) = z.f0) := ⟨by rw [← hz]; exact ⟨rfl, rfl, rfl⟩⟩
        have HZS : Aside (z.f0.size ≤ 9000000000000000000) := ⟨HSZ.out z (by
          rw [← hz]
          unfold rd_T46
          rw [Int.toNat_natCast, List.getD_eq_getElem?_getD, List.getElem?_eq_getElem (by rw [HN.out]; exact hlt)]
          exact List.getElem_mem _)⟩
        rw [hz] at hf0 hf1 hf2 hf3
        simp only [Int.toNat_natCast] at hf0 hf1 hf2 hf3
        clear hz
        obtain ⟨x, hx⟩ : ∃ x, entOf z = x := ⟨_, rfl⟩
        have hx0 : z.f0 = x.key := by rw [← hx]; rfl
        have hx1 : z.f1 = x.val := by rw [← hx]; rfl
        have hx2 : z.f2 = x.made := by rw [← hx]; rfl
        have hx3 : z.f3 = x.mod := by rw [← hx]; rfl
        rw [hx, hx0] at HZ0
        rw [hx0] at HZS
        rw [hx0] at hf0; rw [hx1] at hf1; rw [hx2] at hf2; rw [hx3] at hf3
        clear hx hx0 hx1 hx2 hx3
        obtain ⟨la, hla⟩ : ∃ la, lastK l k = la := ⟨_, rfl⟩
        rw [hla] at HZ0
        rw [hla]
        obtain ⟨t, ht⟩ : ∃ t, treeTo l k = t := ⟨_, rfl⟩
        have hok := treeTo_ok l k
        rw [ht] at HZ0 HRr hok
        have HT := Aside.mk (And.intro hok.1 (show t.cnt ≤ 1000000000 by have := hok.2; omega))
        have hbad : goodE la rev x = false → Aside (ofOK l rev = false) := fun h => ⟨by rw [HE.out]; exact goodTo_mono (k := k + 1) (by omega) (by rw [HZ0.out.1, h, Bool.and_false])⟩
        have HBAD := Aside.mk hbad
        have HGD : Aside (goodE la rev x = true → goodTo l rev (k + 1) = true) := ⟨fun h => by rw [HZ0.out.1, h, HRr.out.1]; rfl⟩
        have HBX : Aside ((wr.alloc (.cells #[.string x.key, .string x.val, .int .i64 x.made, .int .i64 x.mod] 46 (0, 0))).heap[wr.heap.size]? = some (.cells #[.string x.key, .string x.val, .int .i64 x.made, .int .i64 x.mod] 46 (0, 0)) ∧ Below wr.heap.size wr (wr.alloc (.cells #[.string x.key, .string x.val, .int .i64 x.made, .int .i64 x.mod] 46 (0, 0)))) := ⟨heap_alloc_new wr _, new_alloc wr _⟩
        obtain ⟨wx, hwx⟩ : ∃ wx, wx = wr.alloc (.cells #[.string x.key, .string x.val, .int .i64 x.made, .int .i64 x.mod] 46 (0, 0)) := ⟨_, rfl⟩
        have HWX := Aside.mk hwx
        rw [← hwx] at HBX
        clear hla ht hok hbad hwx
        cases d1 : (Op.bytesLess x.key.toList la.toList || x.key.toList == la.toList) with
        | true =>
          have HF := HBAD.out (by unfold goodE; rw [d1]; rfl)
          go_wp2_with fail
          go_ret2
          rw [← HWX.out]
          exact ⟨.inr ⟨HF.out, rfl⟩, HRr.out.2.2.2.trans (HBX.out.2.mono HRr.out.2.2.2.size)⟩
        | false =>
          cases d2 : mayOpB false x.key x.val with
          | false =>
            have HF := HBAD.out (by unfold goodE; rw [d1, d2]; rfl)
            have HMO := Aside.mk d2
            clear d2
            go_wp2_with fail
            rw [← HWX.out]
            refine (mayOp_calls false x.key x.val false wx HZS.out HMO.out).mono ?_
            rintro e w5 ⟨rfl, hb⟩
            have HB5 : Aside (Below w.heap.size w w5) := ⟨(HRr.out.2.2.2.trans (HBX.out.2.mono HRr.out.2.2.2.size)).trans (hb.mono (Nat.le_trans HRr.out.2.2.2.size HBX.out.2.size))⟩
            clear hb
            go_wp2_with fail
            go_ret2
            exact ⟨.inr ⟨HF.out, rfl⟩, HB5.out⟩
          | true =>
            have HMO := Aside.mk d2
            clear d2
            go_wp2_with fail
            rw [← HWX.out]
            refine (mayOp_calls false x.key x.val true wx HZS.out HMO.out).mono ?_
            rintro e w5 ⟨rfl, hb⟩
            have HBR : Aside (Below wr.heap.size wr w5) := ⟨HBX.out.2.trans (hb.mono HBX.out.2.size)⟩
            have HB5 : Aside (Below w.heap.size w w5) := ⟨HRr.out.2.2.2.trans (HBR.out.mono HRr.out.2.2.2.size)⟩
            have hbx5 : w5.heap[wr.heap.size]? = some (.cells #[.string x.key, .string x.val, .int .i64 x.made, .int .i64 x.mod] 46 (0, 0)) := (hb.block _ (lt_of_block HBX.out.1)).trans HBX.out.1
            have c0 := cell_at hbx5 0
            have c1 := cell_at hbx5 1
            have c2 := cell_at hbx5 2
            have c3 := cell_at hbx5 3
            simp only [List.getElem?_toArray, List.getElem?_cons_zero, List.getElem?_cons_succ] at c0 c1 c2 c3
            have HBX5 := Aside.mk hbx5
            clear hb hbx5
            by_cases h1 : 1 ≤ x.made
            · by_cases h2 : x.made ≤ x.mod
              · by_cases h3 : x.mod ≤ rev
                · have HGO := Aside.mk (HGD.out (by unfold goodE; rw [d1, HMO.out]; simp [h1, h2, h3]))
                  go_upto_region 11 with fail
                  obtain ⟨Wd, hWd⟩ : ∃ Wd, Wd = w5.drew := ⟨_, rfl⟩
                  have hd : Below w5.heap.size w5 Wd := by rw [hWd]; exact below_drew1 (Below.refl _ _)
                  have HD := Aside.mk hd
                  have hTb5 := (HBR.out.block Tb (lt_of_block HRr.out.2.2.1)).trans HRr.out.2.2.1
                  have hTbd := (hd.block Tb (lt_of_block hTb5)).trans hTb5
                  have hbxd := (hd.block _ (lt_of_block HBX5.out)).trans HBX5.out
                  have HTB := Aside.mk hTbd
                  have HSV : Aside (SH Wd v t) := ⟨(HRr.out.2.1.below HBR.out).below hd⟩
                  have HC : Aside (∀ {W : World}, Below Wd.heap.size Wd W → (W.cell? ⟨Tb, 0, none⟩ = some (.pointer v) ∧ W.cell? ⟨wr.heap.size, 0, none⟩ = some (.string x.key) ∧ W.cell? ⟨wr.heap.size, 1, none⟩ = some (.string x.val) ∧ W.cell? ⟨wr.heap.size, 2, none⟩ = some (.int .i64 x.made) ∧ W.cell? ⟨wr.heap.size, 3, none⟩ = some (.int .i64 x.mod))) := ⟨fun hB => by
                    have k1 := fun (i : Nat) => hB.cell (p := ⟨Tb, i, none⟩) (lt_of_block hTbd)
                    have k2 := fun (i : Nat) => hB.cell (p := ⟨wr.heap.size, i, none⟩) (lt_of_block hbxd)
                    exact ⟨(k1 0).trans (cell_at hTbd 0), (k2 0).trans (cell_at hbxd 0), (k2 1).trans (cell_at hbxd 1), (k2 2).trans (cell_at hbxd 2), (k2 3).trans (cell_at hbxd 3)⟩⟩
                  have HFZ : Aside (∀ {W : World}, Below Wd.heap.size Wd W → W.frozen? ⟨Tb, 0, none⟩ = false) := ⟨fun hB => (hB.frozen (p := ⟨Tb, 0, none⟩) (lt_of_block hTbd)).trans (free_at hTbd 0)⟩
                  have t0 := HC.out (Below.refl _ _)
                  clear hd hTb5 hTbd hbxd c0 c1 c2 c3
                  subst hWd
                  refine start_ (n := 12) (S := (fun w' => w'.cell? ⟨Tb, 0, none⟩ = some (.pointer v) ∧ w'.cell? ⟨wr.heap.size, 0, none⟩ = some (.string x.key) ∧ w'.cell? ⟨wr.heap.size, 1, none⟩ = some (.string x.val) ∧ w'.cell? ⟨wr.heap.size, 2, none⟩ = some (.int .i64 x.made) ∧ w'.cell? ⟨wr.heap.size, 3, none⟩ = some (.int .i64 x.mod))) (ds := [11]) #[false, false, false, false, false, false, false, false, false, false, false, false] (by kernel_rfl) rfl rfl t0 (fun hHeld => ?_); refine with_tabW sof11_tab sof11_bits (fun HT_ HW_ => ?_)
                  refine pure_ (i := 0) (N := (some 58)) (v := ?_) (a' := ?_) #[true, false, false, false, false, false, false, false, false, false, false, false] rfl rfl (any_of HT_.out (by kernel_rfl)) (fun _ _ _ h => h) (Or.inl ⟨by rfl, ?_⟩) ?_ ?_
                  rotate_left
                  · intro w'
                    go_simp
                    with_reducible rfl
                  rotate_left
                  · simp only [Act.put, List.setIfInBounds_toArray, List.set_cons_zero, List.set_cons_succ, i64_w, i32_w]
                    rfl
                  refine pure_ (i := 1) (N := (some 59)) (v := ?_) (a' := ?_) #[true, true, false, false, false, false, false, false, false, false, false, false] rfl rfl (any_of HT_.out (by kernel_rfl)) (fun _ _ _ h => h) (Or.inl ⟨by rfl, ?_⟩) ?_ ?_
                  rotate_left
                  · intro w'
                    go_simp
                    with_reducible rfl
                  rotate_left
                  · simp only [Act.put, List.setIfInBounds_toArray, List.set_cons_zero, List.set_cons_succ, i64_w, i32_w]
                    rfl
                  refine pure_ (i := 2) (N := (some 60)) (v := ?_) (a' := ?_) #[true, true, true, false, false, false, false, false, false, false, false, false] rfl rfl (any_of HT_.out (by kernel_rfl)) (fun _ _ _ h => h) (Or.inl ⟨by rfl, ?_⟩) ?_ ?_
                  rotate_left
                  · intro w'
                    go_simp
                    with_reducible rfl
                  rotate_left
                  · simp only [Act.put, List.setIfInBounds_toArray, List.set_cons_zero, List.set_cons_succ, i64_w, i32_w]
                    rfl
                  refine pure_ (i := 3) (N := (some 61)) (v := ?_) (a' := ?_) #[true, true, true, true, false, false, false, false, false, false, false, false] rfl rfl (any_of HT_.out (by kernel_rfl)) (fun _ _ _ h => h) (Or.inl ⟨by rfl, ?_⟩) ?_ ?_
                  rotate_left
                  · intro w'
                    go_simp
                    with_reducible rfl
                  rotate_left
                  · simp only [Act.put, List.setIfInBounds_toArray, List.set_cons_zero, List.set_cons_succ, i64_w, i32_w]
                    rfl
                  refine take_ (i := 4) (N := (some 62)) (v := ?_) (a' := ?_) #[true, true, true, true, true, false, false, false, false, false, false, false] rfl rfl (take_ofW HT_.out HW_.out (by kernel_rfl)) (fun _ _ _ h => h) (Or.inl ⟨by rfl, ?_⟩) hHeld ?_ ?_
                  rotate_left
                  · rintro w' ⟨s1, _⟩
                    go_simp
                    with_reducible rfl
                  rotate_left
                  · simp only [Act.put, List.setIfInBounds_toArray, List.set_cons_zero, List.set_cons_succ, i64_w, i32_w]
                    rfl
                  refine pure_ (i := 5) (N := (some 63)) (v := ?_) (a' := ?_) #[true, true, true, true, true, true, false, false, false, false, false, false] rfl rfl (any_of HT_.out (by kernel_rfl)) (fun _ _ _ h => h) (Or.inl ⟨by rfl, ?_⟩) ?_ ?_
                  rotate_left
                  · intro w'
                    go_simp
                    with_reducible rfl
                  rotate_left
                  · simp only [Act.put, List.setIfInBounds_toArray, List.set_cons_zero, List.set_cons_succ, i64_w, i32_w]
                    rfl
                  refine take_ (i := 6) (N := (some 64)) (v := ?_) (a' := ?_) #[true, true, true, true, true, true, true, false, false, false, false, false] rfl rfl (take_ofW HT_.out HW_.out (by kernel_rfl)) (fun _ _ _ h => h) (Or.inl ⟨by rfl, ?_⟩) hHeld ?_ ?_
                  rotate_left
                  · rintro w' ⟨_, s1, _⟩
                    go_simp
                    with_reducible rfl
                  rotate_left
                  · simp only [Act.put, List.setIfInBounds_toArray, List.set_cons_zero, List.set_cons_succ, i64_w, i32_w]
                    rfl
                  refine take_ (i := 7) (N := (some 65)) (v := ?_) (a' := ?_) #[true, true, true, true, true, true, true, true, false, false, false, false] rfl rfl (take_ofW HT_.out HW_.out (by kernel_rfl)) (fun _ _ _ h => h) (Or.inl ⟨by rfl, ?_⟩) hHeld ?_ ?_
                  rotate_left
                  · rintro w' ⟨_, s1, s2, s3, s4⟩
                    go_simp
                    with_reducible rfl
                  rotate_left
                  · simp only [Act.put, List.setIfInBounds_toArray, List.set_cons_zero, List.set_cons_succ, i64_w, i32_w]
                    rfl
                  refine one_ (i := 8) (N := (some 66)) #[true, true, true, true, true, true, true, true, true, false, false, false] rfl rfl (one_of HT_.out (by kernel_rfl)) (by decide) (fun K9 hK => ?_)
                  refine goes_ Try.func69 (by kernel_rfl) rfl #[.pointer v, .string x.key, .agg #[.string x.key, .string x.val, .int .i64 x.made, .int .i64 x.mod]] (by rfl) rfl rfl (by (try simp only [List.map_toArray, List.map_cons, List.map_nil]); first | done | rfl) ?_
                  refine (put_calls t v x.key x w5.drew (HSV.out) HT.out.1 (by have := HT.out.2; omega)).mono ?_
                  rintro e w8 ⟨v8, rfl, hS8, hb8⟩
                  refine ⟨_, rfl, ?_⟩
                  have HB8 := Aside.mk hb8
                  have HS8 := Aside.mk hS8
                  clear hb8 hS8
                  refine hK.out _ _ (HC.out HB8.out) (fun hHeld => ?_)
                  clear hK K9
                  refine norm_ (a' := ?_) ?_ ?_
                  rotate_left
                  · show Act.put _ (some 66) _ = _
                    simp only [Act.put, List.setIfInBounds_toArray, List.set_cons_zero, List.set_cons_succ]
                    rfl
                  refine pure_ (i := 9) (N := (some 67)) (v := ?_) (a' := ?_) #[true, true, true, true, true, true, true, true, true, true, false, false] rfl rfl (any_of HT_.out (by kernel_rfl)) (fun _ _ _ h => h) (Or.inl ⟨by rfl, ?_⟩) ?_ ?_
                  rotate_left
                  · intro w'
                    go_simp
                    with_reducible rfl
                  rotate_left
                  · simp only [Act.put, List.setIfInBounds_toArray, List.set_cons_zero, List.set_cons_succ, i64_w, i32_w]
                    rfl
                  refine pure_ (i := 10) (N := (some 68)) (v := ?_) (a' := ?_) #[true, true, true, true, true, true, true, true, true, true, true, false] rfl rfl (any_of HT_.out (by kernel_rfl)) (fun _ _ _ h => h) (Or.inl ⟨by rfl, ?_⟩) ?_ ?_
                  rotate_left
                  · intro w'
                    go_simp
                    with_reducible rfl
                  rotate_left
                  · simp only [Act.put, List.setIfInBounds_toArray, List.set_cons_zero, List.set_cons_succ, i64_w, i32_w]
                    rfl
                  refine last_ (i := 11) (N := none) #[true, true, true, true, true, true, true, true, true, true, true, true] rfl rfl (one_of HT_.out (by kernel_rfl)) (by decide) (fun K9 hK => ?_)
                  have q1 : w8.cell? ⟨Tb, 0, none⟩ = some (.pointer v) := (HC.out HB8.out).1
                  have q2 : w8.frozen? ⟨Tb, 0, none⟩ = false := HFZ.out HB8.out
                  refine skip_ (w1 := w8.setCell ⟨Tb, 0, none⟩ (.pointer v8)) (by rfl) rfl (by unfold execOp; go_simp) ?_
                  refine hK.out _ _ ?_
                  clear hK K9
                  refine done_ (done_of HT_.out (by kernel_rfl)) ?_
                  clear HT_ HW_ hHeld
                  have HZZ : Aside (goodTo l rev (k + 1) = true ∧ SH (w8.setCell ⟨Tb, 0, none⟩ (.pointer v8)) v8 (treeTo l (k + 1)) ∧ (w8.setCell ⟨Tb, 0, none⟩ (.pointer v8)).heap[Tb]? = some (.cells #[.pointer v8, .int .i64 n, .int .i64 rev, .int .i64 rev, .slice none 0 0] 111 (0, 0)) ∧ Below w.heap.size w (w8.setCell ⟨Tb, 0, none⟩ (.pointer v8))) := ⟨by
                    have hT8 := (HB8.out.block Tb (lt_of_block HTB.out)).trans HTB.out
                    have hf : Fr (fun q => q = Tb) w8 (w8.setCell ⟨Tb, 0, none⟩ (.pointer v8)) := (Fr.refl (fun q => q = Tb) w8).setCell (.inl rfl) _
                    have hBW : Below w.heap.size w w8 := (HB5.out.trans (HD.out.mono HB5.out.size)).trans (HB8.out.mono (Nat.le_trans HB5.out.size HD.out.size))
                    refine ⟨HGO.out, ?_, heap_setCell_eq _ hT8, hBW.trans (hf.below hBW.size (fun q e => by rw [e]; exact HTN.out))⟩
                    rw [HZ0.out.2.1]
                    exact SH.fr hf (fun q cs tt e hq => by subst e; rw [hT8] at hq; cases hq; decide) HS8.out⟩
                  clear t0 d1
                  go_wp2_with fail
                  go_roundw
                  case rel => exact ⟨k + 1, v8, by omega, by rw [HZ0.out.2.2], by go_num, HZZ⟩
                  case measure => simp [intOf]; omega
                · have HF := HBAD.out (by unfold goodE; rw [d1, HMO.out]; simp [h3])
                  go_wp2_with fail
                  go_ret2
                  exact ⟨.inr ⟨HF.out, rfl⟩, HB5.out⟩
              · have HF := HBAD.out (by unfold goodE; rw [d1, HMO.out]; simp [h2])
                go_wp2_with fail
                go_ret2
                exact ⟨.inr ⟨HF.out, rfl⟩, HB5.out⟩
            · have HF := HBAD.out (by unfold goodE; rw [d1, HMO.out]; simp [h1])
              go_wp2_with fail
              go_ret2
              exact ⟨.inr ⟨HF.out, rfl⟩, HB5.out⟩
      · obtain rfl : k = n := by omega
        have HF : Aside (ofOK l rev = true) := ⟨by rw [HE.out]; exact HRr.out.1⟩
        go_wp2_with fail
        go_ret2
        exact ⟨.inl ⟨HF.out, Tb, v, rfl, HTN.out, by rw [HN.out]; exact HRr.out.2.2.1, by rw [HN.out]; exact HRr.out.2.1⟩, HRr.out.2.2.2⟩
end Go.Proofs.Ytagkobpbhfkmdaa.C
/-! from CA -/
namespace Go.Proofs.Ytagkobpbhfkmdaa.C
open Go.RowKit Go.Proofs.Ytagkobpbhfkmdaa.Q Go.Proofs.YtagkobpbhfkmdaaW.PrintLast Go.Proofs.YtagkobpbhfkmdaaW.PrintWords
set_option linter.unusedVariables false
set_option linter.unusedSimpArgs false
/-- What is known of a key. -/
structure Fct where
  asof : Int
  there : Bool
  x : Ent
def entZ : Ent := ⟨ByteArray.mk #[], ByteArray.mk #[], 0, 0⟩
def fctZ : Fct := ⟨0, false, entZ⟩
def factC (f : Fct) : Array Value := #[.int .i64 f.asof, .bool f.there, .string f.x.key, .string f.x.val, .int .i64 f.x.made, .int .i64 f.x.mod]
def factV (f : Fct) : Value := .agg (factC f)
abbrev Fcts := ByteArray → Option Fct
/-- A cache: block C, its map in block M. -/
structure CA (w : World) (C M : Nat) (f : Fcts) (u : Int) : Prop where
  box : w.heap[C]? = some (.cells #[.map (some M), .int .i64 u] 79 (0, 0))
  map : ∃ es c, w.heap[M]? = some (.map es c) ∧ GMap Value.string factV es c f
theorem CA.keep {w w' : World} {C M : Nat} {f : Fcts} {u : Int} (h : CA w C M f u) (e1 : w'.heap[C]? = w.heap[C]?) (e2 : w'.heap[M]? = w.heap[M]?) : CA w' C M f u := by
  obtain ⟨hb, es, c, hm, hg⟩ := h
  exact ⟨e1.trans hb, es, c, e2.trans hm, hg⟩
theorem CA.ltC {w : World} {C M : Nat} {f : Fcts} {u : Int} (h : CA w C M f u) : C < w.heap.size := lt_of_block h.box
theorem CA.ltM {w : World} {C M : Nat} {f : Fcts} {u : Int} (h : CA w C M f u) : M < w.heap.size := by
  obtain ⟨hb, es, c, hm, hg⟩ := h
  exact lt_of_block hm
theorem CA.ne {w : World} {C M : Nat} {f : Fcts} {u : Int} (h : CA w C M f u) : C ≠ M := fun e => by
  obtain ⟨hb, es, c, hm, hg⟩ := h
  rw [e, hm] at hb
  cases hb
theorem CA.fr {F : Nat → Prop} {w w' : World} {C M : Nat} {f : Fcts} {u : Int} (h : CA w C M f u) (hf : Fr F w w') (h1 : ¬ F C) (h2 : ¬ F M) : CA w' C M f u := h.keep (hf.block C h.ltC h1) (hf.block M h.ltM h2)
theorem CA.below {w w' : World} {C M : Nat} {f : Fcts} {u : Int} (h : CA w C M f u) (hf : Below w.heap.size w w') : CA w' C M f u := h.keep (hf.block C h.ltC) (hf.block M h.ltM)
theorem strK : KeyOK Try.prog 9 Value.string := strKey Try.underlying9
theorem zeroFact (u : World) : (zeroValue 87).run Try.prog u = .ok (factV fctZ) u := by kernel_rfl
theorem look_fact {w : World} {C M : Nat} {f : Fcts} {u : Int} (h : CA w C M f u) (k : ByteArray) (ok : Bool) : (Instr.lookup 77 (.map (some M)) (.string k) ok).run Try.prog w = .ok (if ok then .tuple #[factV ((f k).getD fctZ), .bool (f k).isSome] else factV ((f k).getD fctZ)) w := by
  obtain ⟨hb, es, c, hm, hg⟩ := h
  cases hf : f k with
  | none => exact hg.lookup_none strK Try.underlying77 zeroFact hm hf ok
  | some v => exact hg.lookup_some strK Try.underlying77 hm hf ok
def asofM (f : Fcts) (u : Int) (k : ByteArray) : Int := match f k with | none => u | some v => if v.asof < u then u else v.asof
def getM (f : Fcts) (k : ByteArray) : Ent × Bool := (((f k).getD fctZ).x, ((f k).getD fctZ).there)
set_option maxHeartbeats 1000000 in
set_option maxRecDepth 100000 in
theorem cnew_calls (w : World) : Calls Try.prog 10 #[] w fun e w' => ∃ C M, e = .returned (.pointer (some ⟨C, 0, none⟩)) ∧ CA w' C M (fun _ => none) (-1) ∧ w.heap.size ≤ C ∧ w.heap.size ≤ M ∧ Below w.heap.size w w' := by
  have hmk := run_makeMap (P := Try.prog) 77 w
  go_enter Try.func10, Try.ntmps10
  go_wp2_with fail
  go_ret
  refine ⟨w.heap.size + 1, w.heap.size, rfl, ⟨?_, #[], 0, blk_al (heap_alloc_new w _) _, GMap.empty _ _ _⟩, by omega, Nat.le_refl _, ((Below.refl _ _).alloc (Nat.le_refl _) _).alloc (by simp) _⟩
  have h1 := heap_alloc_new (w.alloc (.map #[] 0)) (.cells #[.map (some w.heap.size), .int .i64 (-1)] 79 (0, 0))
  rw [show (w.alloc (.map #[] 0)).heap.size = w.heap.size + 1 by simp] at h1
  exact h1
set_option maxHeartbeats 1000000 in
set_option maxRecDepth 100000 in
theorem cupto_calls (C M : Nat) (f : Fcts) (u : Int) (w : World) (h : CA w C M f u) : Calls Try.prog 20 #[.pointer (some ⟨C, 0, none⟩)] w fun e w' => e = .returned (.int .i64 u) ∧ w = w' := by
  have t1 := cell_at h.box 1
  clear h
  go_enter Try.func20, Try.ntmps20
  go_wp2_with fail
  go_ret
  exact ⟨rfl, rfl⟩
set_option maxHeartbeats 1000000 in
set_option maxRecDepth 100000 in
theorem casof_calls (C M : Nat) (f : Fcts) (u : Int) (k : ByteArray) (w : World) (h : CA w C M f u) : Calls Try.prog 17 #[.pointer (some ⟨C, 0, none⟩), .string k] w fun e w' => e = .returned (.int .i64 (asofM f u k)) ∧ Below w.heap.size w w' := by
  have t0 := cell_at h.box 0
  have t1 : w.cell? ⟨C, 1, none⟩ = some (.int .i64 u) := cell_at h.box 1
  have hlt := h.ltC
  have hne : ¬ C = w.heap.size := by omega
  have hl := look_fact h k true
  unfold asofM
  rw [if_pos rfl] at hl
  cases hf : f k with
  | none =>
    rw [hf] at hl
    replace hl : (Instr.lookup 77 (.map (some M)) (.string k) true).run Try.prog w = .ok (.tuple #[.agg #[.int .i64 0, .bool false, .string (ByteArray.mk #[]), .string (ByteArray.mk #[]), .int .i64 0, .int .i64 0], .bool false]) w := hl
    clear h hf
    go_enter Try.func17, Try.ntmps17
    go_wp2_with fail
    go_ret
    exact ⟨rfl, (Below.refl _ _).alloc (Nat.le_refl _) _⟩
  | some v =>
    obtain ⟨a, th, x⟩ := v
    rw [hf] at hl
    replace hl : (Instr.lookup 77 (.map (some M)) (.string k) true).run Try.prog w = .ok (.tuple #[.agg #[.int .i64 a, .bool th, .string x.key, .string x.val, .int .i64 x.made, .int .i64 x.mod], .bool true]) w := hl
    dsimp only
    clear h hf
    by_cases hau : a < u
    · rw [if_pos hau]
      go_enter Try.func17, Try.ntmps17
      go_wp2_with fail
      go_quiet (fail)
      go_wp2_with fail
      go_ret
      exact ⟨rfl, ((Below.refl _ _).alloc (Nat.le_refl _) _).trans ⟨rfl, rfl, rfl, Nat.le_refl _, fun _ _ => rfl⟩⟩
    · rw [if_neg hau]
      have hau' : u ≤ a := by omega
      go_enter Try.func17, Try.ntmps17
      go_wp2_with fail
      go_quiet (fail)
      go_wp2_with fail
      go_ret
      exact ⟨rfl, ((Below.refl _ _).alloc (Nat.le_refl _) _).trans ⟨rfl, rfl, rfl, Nat.le_refl _, fun _ _ => rfl⟩⟩
set_option maxHeartbeats 1000000 in
set_option maxRecDepth 100000 in
theorem cget_calls (C M : Nat) (f : Fcts) (u : Int) (k : ByteArray) (w : World) (h : CA w C M f u) : Calls Try.prog 16 #[.pointer (some ⟨C, 0, none⟩), .string k] w fun e w' => e = .returned (.tuple #[.agg #[.string (getM f k).1.key, .string (getM f k).1.val, .int .i64 (getM f k).1.made, .int .i64 (getM f k).1.mod], .bool (getM f k).2]) ∧ Below w.heap.size w w' := by
  have t0 : w.cell? ⟨C, 0, none⟩ = some (.map (some M)) := cell_at h.box 0
  have hlt := h.ltC
  have hne : ¬ C = w.heap.size := by omega
  have hl := look_fact (h.below ((Below.refl _ _).alloc (Nat.le_refl _) (Obj.cells #[Value.string (ByteArray.mk #[]), Value.string (ByteArray.mk #[]), Value.int IntKind.i64 0, Value.int IntKind.i64 0] 46 (0, 0)))) k false
  rw [if_neg (by decide)] at hl
  unfold getM
  obtain ⟨v, hv⟩ : ∃ v, (f k).getD fctZ = v := ⟨_, rfl⟩
  rw [hv] at hl ⊢
  obtain ⟨a, th, x⟩ := v
  dsimp only
  replace hl : (Instr.lookup 77 (.map (some M)) (.string k) false).run Try.prog (w.alloc (Obj.cells #[Value.string (ByteArray.mk #[]), Value.string (ByteArray.mk #[]), Value.int IntKind.i64 0, Value.int IntKind.i64 0] 46 (0, 0))) = .ok (.agg #[.int .i64 a, .bool th, .string x.key, .string x.val, .int .i64 x.made, .int .i64 x.mod]) (w.alloc (Obj.cells #[Value.string (ByteArray.mk #[]), Value.string (ByteArray.mk #[]), Value.int IntKind.i64 0, Value.int IntKind.i64 0] 46 (0, 0))) := hl
  clear h hv
  go_enter Try.func16, Try.ntmps16
  go_wp2_with fail
  have hz0 : ((w.alloc (Obj.cells #[Value.string (ByteArray.mk #[]), Value.string (ByteArray.mk #[]), Value.int IntKind.i64 0, Value.int IntKind.i64 0] 46 (0, 0))).alloc (Obj.cells #[Value.int IntKind.i64 a, Value.bool th, Value.string x.key, Value.string x.val, Value.int IntKind.i64 x.made, Value.int IntKind.i64 x.mod] 87 (0, 0))).heap[w.heap.size]? = some (Obj.cells #[Value.string (ByteArray.mk #[]), Value.string (ByteArray.mk #[]), Value.int IntKind.i64 0, Value.int IntKind.i64 0] 46 (0, 0)) := blk_al (heap_alloc_new w _) _
  have hz1 : ((w.alloc (Obj.cells #[Value.string (ByteArray.mk #[]), Value.string (ByteArray.mk #[]), Value.int IntKind.i64 0, Value.int IntKind.i64 0] 46 (0, 0))).alloc (Obj.cells #[Value.int IntKind.i64 a, Value.bool th, Value.string x.key, Value.string x.val, Value.int IntKind.i64 x.made, Value.int IntKind.i64 x.mod] 87 (0, 0))).heap[w.heap.size + 1]? = some (Obj.cells #[Value.int IntKind.i64 a, Value.bool th, Value.string x.key, Value.string x.val, Value.int IntKind.i64 x.made, Value.int IntKind.i64 x.mod] 87 (0, 0)) := by
    rw [show w.heap.size + 1 = (w.alloc (Obj.cells #[Value.string (ByteArray.mk #[]), Value.string (ByteArray.mk #[]), Value.int IntKind.i64 0, Value.int IntKind.i64 0] 46 (0, 0))).heap.size by simp]
    exact heap_alloc_new _ _
  have hzF := ((Fr.refl (fun _ => False) w).alloc (Obj.cells #[Value.string (ByteArray.mk #[]), Value.string (ByteArray.mk #[]), Value.int IntKind.i64 0, Value.int IntKind.i64 0] 46 (0, 0))).alloc (Obj.cells #[Value.int IntKind.i64 a, Value.bool th, Value.string x.key, Value.string x.val, Value.int IntKind.i64 x.made, Value.int IntKind.i64 x.mod] 87 (0, 0))
  generalize ((w.alloc (Obj.cells #[Value.string (ByteArray.mk #[]), Value.string (ByteArray.mk #[]), Value.int IntKind.i64 0, Value.int IntKind.i64 0] 46 (0, 0))).alloc (Obj.cells #[Value.int IntKind.i64 a, Value.bool th, Value.string x.key, Value.string x.val, Value.int IntKind.i64 x.made, Value.int IntKind.i64 x.mod] 87 (0, 0))) = wx at *
  obtain ⟨b0, hb0⟩ : ∃ b0, w.heap.size = b0 := ⟨_, rfl⟩
  rw [hb0] at hz0 hz1 hne ⊢
  have HZ := Aside.mk (And.intro (show wx.drew.heap[b0]? = _ from hz0) hzF.drew)
  have y0 := cell_at hz0 0
  have y1 := cell_at hz0 1
  have y2 := cell_at hz0 2
  have y3 := cell_at hz0 3
  have v0 := free_at hz0 0
  have v1 := free_at hz0 1
  have v2 := free_at hz0 2
  have v3 := free_at hz0 3
  have x1 := cell_at hz1 1
  have x2 := cell_at hz1 2
  have x3 := cell_at hz1 3
  have x4 := cell_at hz1 4
  have x5 := cell_at hz1 5
  clear hz0 hz1 hzF
  go_region_with (fail)
  all_goals (
    go_wp2_with fail
    refine at_world (fun W hW => ?_)
    have hw0 : W.heap[b0]? = some (Obj.cells #[Value.string x.key, Value.string x.val, Value.int IntKind.i64 x.made, Value.int IntKind.i64 x.mod] 46 (0, 0)) := by
      rw [hW]
      exact set4 (T := 46) HZ.out.1 _ _ _ _
    have z0 := cell_at hw0 0
    have z1 := cell_at hw0 1
    have z2 := cell_at hw0 2
    have z3 := cell_at hw0 3
    refine bodyPost_ret (by simp [results, Try.results16, go_sem, z0, z1, z2, z3]; try rfl) rfl ?_
    subst hW
    exact ⟨rfl, (Fr.below (F := fun _ => False) ((((HZ.out.2.setCell (p := ⟨b0, 0, none⟩) (.inr (by show w.heap.size ≤ b0; omega)) _).setCell (p := ⟨b0, 1, none⟩) (.inr (by show w.heap.size ≤ b0; omega)) _).setCell (p := ⟨b0, 2, none⟩) (.inr (by show w.heap.size ≤ b0; omega)) _).setCell (p := ⟨b0, 3, none⟩) (.inr (by show w.heap.size ≤ b0; omega)) _) (by omega) (fun k h => h.elim))⟩)
end Go.Proofs.Ytagkobpbhfkmdaa.C
/-! from CM -/
namespace Go.Proofs.Ytagkobpbhfkmdaa.C
open Go.RowKit Go.Proofs.Ytagkobpbhfkmdaa.Q Go.Proofs.YtagkobpbhfkmdaaW.PrintLast Go.Proofs.YtagkobpbhfkmdaaW.PrintWords
set_option linter.unusedVariables false
set_option linter.unusedSimpArgs false
abbrev Ev := S75
def evB (last rev : Int) (x : Ev) : Bool := !decide (x.f0 < last) && (!decide (x.f0 > rev) && (keyB x.f2 && (!decide ((x.f3.size : Int) > 128) && (!x.f1 || x.f3.toList == []))))
def evsB (rev : Int) : Int → List Ev → Bool
  | _, [] => true
  | last, x :: l => evB last rev x && evsB rev x.f0 l
def cmayB (fr rev : Int) (l : List Ev) : Bool := decide (0 ≤ rev ∧ rev ≤ 1099511627776 ∧ 1 ≤ fr ∧ fr ≤ rev + 1) && evsB rev fr l
theorem may_l0 (rev : Int) (l : List Ev) (hl : l.length ≤ 1000000000) (hs : ∀ x ∈ l, x.f2.size ≤ 100000) : ∀ (d i : Nat), i + d = l.length → ∀ (last : Int) (k : Nat), d + 100010 < k → cache_may.l0 k rev last l (l.length : Int) (i : Int) = some (evsB rev last (l.drop i)) := by
  intro d
  induction d with
  | zero =>
    intro i hi last k hk
    obtain ⟨k, rfl⟩ : ∃ m, k = m + 1 := ⟨k - 1, by omega⟩
    simp only [cache_may.l0]
    rw [if_neg (by omega), List.drop_eq_nil_of_le (by omega)]
    rfl
  | succ d ih =>
    intro i hi last k hk
    obtain ⟨k, rfl⟩ : ∃ m, k = m + 1 := ⟨k - 1, by omega⟩
    have hlt : i < l.length := by omega
    have hx : rd_T75 l (i : Int) = l[i] := by
      unfold rd_T75
      rw [Int.toNat_natCast, List.getD_eq_getElem?_getD, List.getElem?_eq_getElem hlt]
      rfl
    have hd : l.drop i = l[i] :: l.drop (i + 1) := List.drop_eq_getElem_cons hlt
    have hw : wrap64 ((i : Int) + 1) = ((i + 1 : Nat) : Int) := by unfold wrap64; omega
    simp only [cache_may.l0]
    rw [if_pos (by omega), if_pos (by omega), if_pos (by omega), hx, hd, hw, key_is _ (by have := hs _ (List.getElem_mem hlt); omega) k (by have := hs _ (List.getElem_mem hlt); omega)]
    simp only [Option.bind_some]
    show _ = some (evB last rev l[i] && evsB rev l[i].f0 (l.drop (i + 1)))
    unfold evB
    by_cases h1 : l[i].f0 < last
    · rw [if_pos h1, decide_eq_true h1]; rfl
    · rw [if_neg h1, decide_eq_false h1]
      by_cases h2 : l[i].f0 > rev
      · rw [if_pos h2, decide_eq_true h2]; rfl
      · rw [if_neg h2, decide_eq_false h2]
        cases hk : keyB l[i].f2 with
        | false => rfl
        | true =>
          rw [if_pos rfl]
          by_cases h3 : (l[i].f3.size : Int) > 128
          · rw [if_pos h3, decide_eq_true h3]; rfl
          · rw [if_neg h3, decide_eq_false h3]
            cases hd : l[i].f1 with
            | false =>
              rw [if_neg (by decide), ih (i + 1) (by omega) _ k (by omega)]
              simp
            | true =>
              rw [if_pos rfl]
              by_cases h4 : l[i].f3.toList = []
              · rw [if_pos h4, ih (i + 1) (by omega) _ k (by omega), h4]
                simp
              · rw [if_neg h4]
                simp [h4]
theorem cmay_is (fr rev : Int) (l : List Ev) (hl : l.length ≤ 1000000000) (hs : ∀ x ∈ l, x.f2.size ≤ 100000) : cache_may.f (l.length + 100020) fr rev l = some (cmayB fr rev l) := by
  unfold cache_may.f cmayB
  have hj : ∀ b, cache_may.j0 (l.length + 100020) fr rev l b = some (!b && evsB rev fr l) := fun b => by
    simp only [cache_may.j0]
    cases b with
    | true => rw [if_pos rfl]; rfl
    | false =>
      rw [if_neg (by decide)]
      have := may_l0 rev l hl hs l.length 0 (by omega) fr (l.length + 100019) (by omega)
      simpa using this
  rw [hj, hj]
  by_cases h1 : rev < 0
  · rw [if_pos h1, decide_eq_false (by omega)]; rfl
  · rw [if_neg h1]
    by_cases h2 : rev > 1099511627776
    · rw [if_pos h2, decide_eq_false (by omega)]; rfl
    · rw [if_neg h2]
      have hw : wrap64 (rev + 1) = rev + 1 := by unfold wrap64; omega
      rw [hw]
      by_cases h3 : fr < 1
      · rw [if_pos h3, decide_eq_false (by omega)]; rfl
      · rw [if_neg h3]
        congr 2
        rw [Bool.eq_iff_iff]
        simp
        omega
end Go.Proofs.Ytagkobpbhfkmdaa.C
/-! from TG -/
namespace Go.Proofs.Ytagkobpbhfkmdaa.C
open Go.RowKit Go.Proofs.YtagkobpbhfkmdaaW.PrintLast Go.Proofs.YtagkobpbhfkmdaaW.PrintWords
set_option linter.unusedVariables false
set_option linter.unusedSimpArgs false
def entZ0 : Ent := ⟨ByteArray.mk #[], ByteArray.mk #[], 0, 0⟩
namespace Shf
def get (key : ByteArray) : Shf → Ent × Bool
  | nil => (entZ0, false)
  | node sk se l r _ => if (sk.toList == key.toList) = true then (se, true) else if slt key sk = true then get key l else get key r
end Shf
theorem SH.unique {w : World} : ∀ {t t' : Shf} {v : Option Addr}, SH w v t → SH w v t' → t = t'
  | .nil, .nil, _, _, _ => rfl
  | .nil, .node _ _ _ _ _, _, h, ⟨b, vl, vr, h1, _⟩ => by
    have : _ = none := h
    rw [this] at h1; cases h1
  | .node _ _ _ _ _, .nil, _, ⟨b, vl, vr, h1, _⟩, h => by
    have : _ = none := h
    rw [this] at h1; cases h1
  | .node k e l r x, .node k' e' l' r' x', _, ⟨b, vl, vr, h1, h2, h3, h4⟩, ⟨b', vl', vr', h1', h2', h3', h4'⟩ => by
    rw [h1] at h1'
    cases h1'
    rw [h2] at h2'
    simp only [Option.some.injEq, Obj.cells.injEq, Array.mk.injEq, List.cons.injEq, Value.string.injEq, Value.int.injEq, Value.pointer.injEq, and_true, true_and] at h2'
    obtain ⟨rfl, e1, e2, e3, e4, rfl, rfl, rfl⟩ := h2'
    rw [SH.unique h3 h3', SH.unique h4 h4']
    cases e
    cases e'
    dsimp only at e1 e2 e3 e4
    rw [e1, e2, e3, e4]
/-- How many nodes lie at v. -/
noncomputable def shN (w : World) (v : Value) : Nat := open Classical in if h : ∃ n, ∃ (p : Option Addr) (t : Shf), v = .pointer p ∧ SH w p t ∧ t.cnt = n then h.choose else 0
theorem shN_eq {w : World} {p : Option Addr} {t : Shf} (h : SH w p t) : shN w (.pointer p) = t.cnt := by
  have hx : ∃ n, ∃ (p' : Option Addr) (t : Shf), (Value.pointer p) = .pointer p' ∧ SH w p' t ∧ t.cnt = n := ⟨_, p, t, rfl, h, rfl⟩
  unfold shN
  rw [dif_pos hx]
  obtain ⟨p', t', h1, h2, h3⟩ := hx.choose_spec
  cases h1
  rw [← h3, SH.unique h2 h]
set_option maxHeartbeats 2000000 in
set_option maxRecDepth 100000 in
theorem sget_calls (t0 : Shf) (v0 : Option Addr) (key : ByteArray) (w : World) (h : SH w v0 t0) :
    Calls Try.prog 82 #[.pointer v0, .string key] w fun e w' => e = .returned (.tuple #[.agg #[.string (Shf.get key t0).1.key, .string (Shf.get key t0).1.val, .int .i64 (Shf.get key t0).1.made, .int .i64 (Shf.get key t0).1.mod], .bool (Shf.get key t0).2]) ∧ Below w.heap.size w w' := by
  obtain ⟨X, hX⟩ : ∃ X, Shf.get key t0 = X := ⟨_, rfl⟩
  rw [hX]
  have hz := heap_alloc_new w (Obj.cells #[Value.string (ByteArray.mk #[]), Value.string (ByteArray.mk #[]), Value.int IntKind.i64 0, Value.int IntKind.i64 0] 46 (0, 0))
  have hF := (Fr.refl (fun _ => False) w).alloc (Obj.cells #[Value.string (ByteArray.mk #[]), Value.string (ByteArray.mk #[]), Value.int IntKind.i64 0, Value.int IntKind.i64 0] 46 (0, 0))
  have h1 := SH.below ((Below.refl w.heap.size w).alloc (Nat.le_refl _) (Obj.cells #[Value.string (ByteArray.mk #[]), Value.string (ByteArray.mk #[]), Value.int IntKind.i64 0, Value.int IntKind.i64 0] 46 (0, 0))) h
  obtain ⟨b0, hb0⟩ : ∃ b0, w.heap.size = b0 := ⟨_, rfl⟩
  rw [hb0] at hz
  have HZ := Aside.mk (And.intro hz (And.intro hF hb0))
  have HS : Aside (SH (w.alloc (Obj.cells #[Value.string (ByteArray.mk #[]), Value.string (ByteArray.mk #[]), Value.int IntKind.i64 0, Value.int IntKind.i64 0] 46 (0, 0))) v0 t0 ∧ Shf.get key t0 = X) := ⟨h1, hX⟩
  clear h1 h hX hz hF
  go_enter Try.func82, Try.ntmps82
  go_wp2_with fail
  try rw [hb0]
  clear hb0
  generalize w.alloc (Obj.cells #[Value.string (ByteArray.mk #[]), Value.string (ByteArray.mk #[]), Value.int IntKind.i64 0, Value.int IntKind.i64 0] 46 (0, 0)) = w1 at *
  go_loopw [0] (fun v0 wr => ∃ (v : Option Addr) (t : Shf), v0 = .pointer v ∧ Aside (wr = w1 ∧ SH w1 v t ∧ Shf.get key t = X)) (fun v0 wr => shN w1 v0)
  case atStart => exact ⟨_, _, rfl, ⟨rfl, HS.out.1, HS.out.2⟩⟩
  case round =>
    obtain ⟨v, t, rfl, HI⟩ := hrel
    obtain ⟨hwr, hsh, hgx⟩ := HI.out
    subst hwr
    have HM := Aside.mk (shN_eq hsh)
    cases t with
    | nil =>
      obtain rfl : v = none := hsh
      have HX := Aside.mk hgx
      clear hgx HI HM
      have y0 := cell_at HZ.out.1 0
      have y1 := cell_at HZ.out.1 1
      have y2 := cell_at HZ.out.1 2
      have y3 := cell_at HZ.out.1 3
      have f0 := free_at HZ.out.1 0
      have f1 := free_at HZ.out.1 1
      have f2 := free_at HZ.out.1 2
      have f3 := free_at HZ.out.1 3
      go_wp2_with fail
      refine at_world (fun W hW => ?_)
      have hw0 : W.heap[b0]? = some (Obj.cells #[Value.string (ByteArray.mk #[]), Value.string (ByteArray.mk #[]), Value.int IntKind.i64 0, Value.int IntKind.i64 0] 46 (0, 0)) := by
        rw [hW]
        exact set4 (T := 46) HZ.out.1 _ _ _ _
      have z0 := cell_at hw0 0
      have z1 := cell_at hw0 1
      have z2 := cell_at hw0 2
      have z3 := cell_at hw0 3
      refine bodyPost_ret (by simp [results, Try.results82, go_sem, z0, z1, z2, z3]; try rfl) rfl ?_
      subst hW
      rw [← HX.out]
      have hb0 := HZ.out.2.2
      exact ⟨rfl, (Fr.below (F := fun _ => False) ((((HZ.out.2.1.setCell (p := ⟨b0, 0, none⟩) (.inr (by show w.heap.size ≤ b0; omega)) _).setCell (p := ⟨b0, 1, none⟩) (.inr (by show w.heap.size ≤ b0; omega)) _).setCell (p := ⟨b0, 2, none⟩) (.inr (by show w.heap.size ≤ b0; omega)) _).setCell (p := ⟨b0, 3, none⟩) (.inr (by show w.heap.size ≤ b0; omega)) _) (by omega) (fun k h => h.elim))⟩
    | node sk se l r hh =>
      obtain ⟨b, vl, vr, rfl, hb, hl, hr⟩ := hsh
      have t0 := cell_at hb 0
      have t1 := cell_at hb 1
      have t2 := cell_at hb 2
      have t3 := cell_at hb 3
      have t4 := cell_at hb 4
      have t5 := cell_at hb 5
      have t6 := cell_at hb 6
      have HL := Aside.mk (And.intro hl hr)
      unfold Shf.get at hgx
      cases hq : (sk.toList == key.toList) with
      | true =>
        rw [if_pos hq] at hgx
        have HX := Aside.mk hgx
        have hq2 : (!(sk.toList == key.toList)) = false := by rw [hq]; rfl
        clear hgx HI HM hl hr hb HL
        have y0 := cell_at HZ.out.1 0
        have y1 := cell_at HZ.out.1 1
        have y2 := cell_at HZ.out.1 2
        have y3 := cell_at HZ.out.1 3
        have f0 := free_at HZ.out.1 0
        have f1 := free_at HZ.out.1 1
        have f2 := free_at HZ.out.1 2
        have f3 := free_at HZ.out.1 3
        go_wp2_with fail
        refine at_world (fun W hW => ?_)
        have hw0 : W.heap[b0]? = some (Obj.cells #[Value.string se.key, Value.string se.val, Value.int IntKind.i64 se.made, Value.int IntKind.i64 se.mod] 46 (0, 0)) := by
          rw [hW]
          exact set4 (T := 46) HZ.out.1 _ _ _ _
        have z0 := cell_at hw0 0
        have z1 := cell_at hw0 1
        have z2 := cell_at hw0 2
        have z3 := cell_at hw0 3
        refine bodyPost_ret (by simp [results, Try.results82, go_sem, z0, z1, z2, z3]; try rfl) rfl ?_
        subst hW
        rw [← HX.out]
        have hb0 := HZ.out.2.2
        exact ⟨rfl, (Fr.below (F := fun _ => False) ((((HZ.out.2.1.setCell (p := ⟨b0, 0, none⟩) (.inr (by show w.heap.size ≤ b0; omega)) _).setCell (p := ⟨b0, 1, none⟩) (.inr (by show w.heap.size ≤ b0; omega)) _).setCell (p := ⟨b0, 2, none⟩) (.inr (by show w.heap.size ≤ b0; omega)) _).setCell (p := ⟨b0, 3, none⟩) (.inr (by show w.heap.size ≤ b0; omega)) _) (by omega) (fun k h => h.elim))⟩
      | false =>
        rw [if_neg (by rw [hq]; decide)] at hgx
        have hq2 : (!(sk.toList == key.toList)) = true := by rw [hq]; rfl
        cases hlt : slt key sk with
        | true =>
          rw [if_pos hlt] at hgx
          have hlt2 : Op.bytesLess key.toList sk.toList = true := hlt
          have HX := Aside.mk hgx
          clear hgx HI hl hr hb hlt
          go_wp2_with fail
          go_roundw
          case rel => exact ⟨_, l, rfl, ⟨by first | rfl | trivial, HL.out.1, HX.out⟩⟩
          case measure => rw [HM.out, shN_eq HL.out.1]; simp only [Shf.cnt]; omega
        | false =>
          rw [if_neg (by rw [hlt]; decide)] at hgx
          have hlt2 : Op.bytesLess key.toList sk.toList = false := hlt
          have HX := Aside.mk hgx
          clear hgx HI hl hr hb hlt
          go_wp2_with fail
          go_roundw
          case rel => exact ⟨_, r, rfl, ⟨by first | rfl | trivial, HL.out.2, HX.out⟩⟩
          case measure => rw [HM.out, shN_eq HL.out.2]; simp only [Shf.cnt]; omega
end Go.Proofs.Ytagkobpbhfkmdaa.C
/-! from DR -/
namespace Go.Proofs.Ytagkobpbhfkmdaa.C
open Go.RowKit Go.Proofs.YtagkobpbhfkmdaaW.PrintLast Go.Proofs.YtagkobpbhfkmdaaW.PrintWords
set_option linter.unusedVariables false
set_option linter.unusedSimpArgs false
namespace Shf
/-- The node with the least key. -/
def leastT : Shf → Shf
  | nil => nil
  | node k e nil r h => node k e nil r h
  | node _ _ (node lk le ll lr lh) _ _ => leastT (node lk le ll lr lh)
theorem leastT_node : ∀ {t : Shf}, t ≠ nil → ∃ k e l r h, leastT t = node k e l r h
  | nil, hn => absurd rfl hn
  | node k e nil r h, _ => ⟨k, e, nil, r, h, rfl⟩
  | node _ _ (node lk le ll lr lh) _ _, _ => leastT_node (t := node lk le ll lr lh) (fun hh => by cases hh)
def drop (key : ByteArray) : Shf → Shf
  | nil => nil
  | node sk se l r h =>
    if slt key sk = true then lvl sk se (drop key l) r else if (slt key sk || key.toList == sk.toList) = false then lvl sk se l (drop key r)
    else match l with
      | nil => r
      | node lk le ll lr lh => match leastT r with
        | nil => node lk le ll lr lh
        | node nk ne _ _ _ => lvl nk ne (node lk le ll lr lh) (drop nk r)
theorem leastT_nil {t : Shf} (h : leastT t = nil) : t = nil := by
  cases t with
  | nil => rfl
  | node k e l r x =>
    obtain ⟨_, _, _, _, _, he⟩ := leastT_node (t := node k e l r x) (fun hh => by cases hh)
    rw [he] at h; cases h
theorem drop_a {key k : ByteArray} {e : Ent} {r : Shf} {h : Int} (h1 : slt key k = false) (h2 : (slt key k || key.toList == k.toList) = true) : drop key (node k e nil r h) = r := by
  unfold drop
  rw [if_neg (by rw [h1]; decide), if_neg (by rw [h2]; decide)]
theorem drop_b {key k lk : ByteArray} {e le : Ent} {r ll lr : Shf} {h lh : Int} (h1 : slt key k = false) (h2 : (slt key k || key.toList == k.toList) = true) (h3 : leastT r = nil) : drop key (node k e (node lk le ll lr lh) r h) = node lk le ll lr lh := by
  unfold drop
  rw [if_neg (by rw [h1]; decide), if_neg (by rw [h2]; decide)]
  dsimp only
  rw [h3]
theorem drop_c {key k lk nk : ByteArray} {e le ne : Ent} {r ll lr nl nr : Shf} {h lh nh : Int} (h1 : slt key k = false) (h2 : (slt key k || key.toList == k.toList) = true) (h3 : leastT r = node nk ne nl nr nh) : drop key (node k e (node lk le ll lr lh) r h) = lvl nk ne (node lk le ll lr lh) (drop nk r) := by
  rw [drop]
  rw [if_neg (by rw [h1]; decide), if_neg (by rw [h2]; decide)]
  try dsimp only
  rw [h3]
theorem drop_ok (key : ByteArray) : ∀ {t : Shf}, ok t → ok (drop key t) ∧ (drop key t).cnt ≤ t.cnt := by
  intro t
  induction t generalizing key with
  | nil => exact fun _ => ⟨trivial, Nat.le_refl _⟩
  | node sk se l r h ihl ihr =>
    rintro ⟨hl, hr, he⟩
    unfold drop
    split
    · have h1 := ihl key hl
      have h2 := lvl_ok (k := sk) (e := se) h1.1 hr
      exact ⟨h2.1, by rw [h2.2]; simp only [cnt]; omega⟩
    · split
      · have h1 := ihr key hr
        have h2 := lvl_ok (k := sk) (e := se) hl h1.1
        exact ⟨h2.1, by rw [h2.2]; simp only [cnt]; omega⟩
      · cases l with
        | nil => exact ⟨hr, by simp only [cnt]; omega⟩
        | node lk le ll lr lh =>
          dsimp only
          cases hle : leastT r with
          | nil => exact ⟨hl, by simp only [cnt]; omega⟩
          | node nk ne nl nr nh =>
            have h1 := ihr nk hr
            have h2 := lvl_ok (k := nk) (e := ne) hl h1.1
            exact ⟨h2.1, by rw [h2.2]; simp only [cnt] at *; omega⟩
end Shf
set_option maxHeartbeats 2000000 in
set_option maxRecDepth 100000 in
theorem sleast_calls (t0 : Shf) (v0 : Option Addr) (w : World) (h : SH w v0 t0) (hn : t0 ≠ .nil) :
    Calls Try.prog 108 #[.pointer v0] w fun e w' => ∃ v, e = .returned (.pointer v) ∧ SH w v (Shf.leastT t0) ∧ w = w' := by
  obtain ⟨X, hX⟩ : ∃ X, Shf.leastT t0 = X := ⟨_, rfl⟩
  rw [hX]
  have HS := Aside.mk (And.intro h (And.intro hn hX))
  clear h hn hX
  go_enter Try.func108, Try.ntmps108
  go_wp2_with fail
  go_loopw [0] (fun v0 wr => ∃ (v : Option Addr) (t : Shf), v0 = .pointer v ∧ Aside (w = wr ∧ SH w v t ∧ t ≠ .nil ∧ Shf.leastT t = X)) (fun v0 wr => shN w v0)
  case atStart => exact ⟨_, _, rfl, ⟨rfl, HS.out⟩⟩
  case round =>
    obtain ⟨v, t, rfl, HI⟩ := hrel
    obtain ⟨hwr, hsh, hne, hgx⟩ := HI.out
    subst hwr
    have HM := Aside.mk (shN_eq hsh)
    cases t with
    | nil => exact absurd rfl hne
    | node sk se l r hh =>
      have HSH := Aside.mk hsh
      obtain ⟨b, vl, vr, rfl, hb, hl, hr⟩ := hsh
      have t5 := cell_at hb 5
      have HL := Aside.mk hl
      cases l with
      | nil =>
        obtain rfl : vl = none := hl
        have HX := Aside.mk hgx
        clear hgx HI HM hb hr hne
        go_wp2_with fail
        go_ret
        rw [← HX.out]
        exact ⟨_, rfl, HSH.out, rfl⟩
      | node lk le ll lr lh =>
        have hgx' : Shf.leastT (.node lk le ll lr lh) = X := hgx
        have HX := Aside.mk hgx'
        obtain ⟨bl, _, _, rfl, _, _, _⟩ := hl
        clear hgx hgx' HI hb hr hne
        go_wp2_with fail
        go_roundw
        case rel => exact ⟨_, _, rfl, ⟨by first | rfl | trivial, HL.out, fun h => (by cases h), HX.out⟩⟩
        case measure => rw [HM.out, shN_eq HL.out]; simp only [Shf.cnt]; omega
def shd4T : Bool × List (List Nat × List Nat) := (true, [([], []), ([], []), ([1], [1]), ([2], [2]), ([3], [3]), ([], []), ([4, 5], [4, 5]), ([], []), ([7], [7]), ([8], [8]), ([9], [9]), ([0, 6, 10, 6], [0, 6, 10]), ([11, 11, 0, 1, 2, 3, 4, 5, 6, 7, 8, 9, 10, 11], [11])])
def shd4B : List Nat := [0, 0, 2, 6, 14, 0, 62, 0, 128, 384, 896, 2047, 4095]
theorem shd4_tab : rtab .any (opsOf Try.f99 4) = shd4T := by kernel_rfl
theorem shd4_bits : waitsOk shd4T.2 shd4B = true := by kernel_rfl
def shd6T : Bool × List (List Nat × List Nat) := (true, [([], []), ([], []), ([1], [1]), ([2], [2]), ([3], [3]), ([], []), ([5], [5]), ([6], [6]), ([7], [7]), ([], []), ([8, 9], [8, 9]), ([0, 4, 10, 10], [0, 4, 10]), ([11, 11, 0, 1, 2, 3, 4, 5, 6, 7, 8, 9, 10, 11], [11])])
def shd6B : List Nat := [0, 0, 2, 6, 14, 0, 32, 96, 224, 0, 992, 2047, 4095]
theorem shd6_tab : rtab .any (opsOf Try.f99 6) = shd6T := by kernel_rfl
theorem shd6_bits : waitsOk shd6T.2 shd6B = true := by kernel_rfl
def shd12T : Bool × List (List Nat × List Nat) := (true, [([], []), ([], []), ([1], [1]), ([2], [2]), ([3], [3]), ([], []), ([5], [5]), ([6], [6]), ([7], [7]), ([], []), ([9], [9]), ([10], [10]), ([11], [11]), ([8, 12], [8, 12]), ([0, 4, 13, 13], [0, 4, 13]), ([14, 14, 0, 1, 2, 3, 4, 5, 6, 7, 8, 9, 10, 11, 12, 13, 14], [14])])
def shd12B : List Nat := [0, 0, 2, 6, 14, 0, 32, 96, 224, 0, 512, 1536, 3584, 8160, 16383, 32767]
theorem shd12_tab : rtab .any (opsOf Try.f99 12) = shd12T := by kernel_rfl
theorem shd12_bits : waitsOk shd12T.2 shd12B = true := by kernel_rfl
set_option maxHeartbeats 8000000 in
set_option maxRecDepth 100000 in
theorem sdrop_calls : ∀ (t : Shf) (v : Option Addr) (key : ByteArray) (w : World), SH w v t → t.ok → t.cnt ≤ 10000000000 →
    Calls Try.prog 99 #[.pointer v, .string key] w fun e' w' => ∃ v', e' = .returned (.pointer v') ∧ SH w' v' (Shf.drop key t) ∧ Below w.heap.size w w'
  | .nil, v, key, w, hs, ho, hn => by
    obtain rfl : v = none := hs
    clear ho hn
    go_enter Try.func99, Try.ntmps99
    go_wp2_with fail
    go_ret
    exact ⟨_, rfl, rfl, Below.refl _ _⟩
  | .node sk se l r h, v, key, w, hs', ho, hn => by
    have ihl := sdrop_calls l
    have ihr := sdrop_calls r
    have hs := Aside.mk hs'
    obtain ⟨b, pl, pr, rfl, hb, hl', hr'⟩ := hs'
    have hl := Aside.mk hl'
    have hr := Aside.mk hr'
    have hn2 : l.cnt + r.cnt + 1 ≤ 10000000000 := hn
    have HO := Aside.mk (And.intro ho.1 (And.intro ho.2.1 hn2))
    have HW : Aside (Below w.heap.size w w.drew) := ⟨below_drew1 (Below.refl _ _)⟩
    have HC0 : Aside (∀ {W : World}, Below w.drew.heap.size w.drew W → (W.cell? ⟨b, 5, none⟩ = some (.pointer pl) ∧ W.cell? ⟨b, 6, none⟩ = some (.pointer pr))) := ⟨fun hB => by
      have k1 := fun (i : Nat) => hB.cell (p := ⟨b, i, none⟩) (show b < w.drew.heap.size from lt_of_block hb)
      exact ⟨(k1 5).trans (cell_at hb 5), (k1 6).trans (cell_at hb 6)⟩⟩
    have c0 : w.cell? ⟨b, 0, none⟩ = some (.string sk) := cell_at hb 0
    have HB0 := Aside.mk hb
    clear ho hn hn2 hb
    cases d1 : Op.bytesLess key.toList sk.toList with
    | true =>
      have HE : Aside (Shf.drop key (.node sk se l r h) = Shf.lvl sk se (Shf.drop key l) r) := ⟨by show (if slt key sk = true then _ else _) = _; rw [if_pos (show slt key sk = true from d1)]⟩
      have HC := HC0
      clear hl' hr' HC0
      go_enter Try.func99, Try.ntmps99
      go_upto_region 4 with fail
      have t0 := HC.out (Below.refl _ _)
      refine start_ (n := 13) (S := (fun w' => w'.cell? ⟨b, 5, none⟩ = some (.pointer pl) ∧ w'.cell? ⟨b, 6, none⟩ = some (.pointer pr))) (ds := []) #[false, false, false, false, false, false, false, false, false, false, false, false, false] (by kernel_rfl) rfl rfl t0 (fun hHeld => ?_); refine with_tabW shd4_tab shd4_bits (fun HT_ HW_ => ?_)
      refine pure_ (i := 0) (N := (some 16)) (v := ?_) (a' := ?_) #[true, false, false, false, false, false, false, false, false, false, false, false, false] rfl rfl (any_of HT_.out (by kernel_rfl)) (fun _ _ _ h => h) (Or.inl ⟨by rfl, ?_⟩) ?_ ?_
      rotate_left
      · intro w'
        go_simp
        with_reducible rfl
      rotate_left
      · simp only [Act.put, List.setIfInBounds_toArray, List.set_cons_zero, List.set_cons_succ, i64_w, i32_w]
        rfl
      refine pure_ (i := 1) (N := (some 17)) (v := ?_) (a' := ?_) #[true, true, false, false, false, false, false, false, false, false, false, false, false] rfl rfl (any_of HT_.out (by kernel_rfl)) (fun _ _ _ h => h) (Or.inl ⟨by rfl, ?_⟩) ?_ ?_
      rotate_left
      · intro w'
        go_simp
        with_reducible rfl
      rotate_left
      · simp only [Act.put, List.setIfInBounds_toArray, List.set_cons_zero, List.set_cons_succ, i64_w, i32_w]
        rfl
      refine pure_ (i := 2) (N := (some 18)) (v := ?_) (a' := ?_) #[true, true, true, false, false, false, false, false, false, false, false, false, false] rfl rfl (any_of HT_.out (by kernel_rfl)) (fun _ _ _ h => h) (Or.inl ⟨by rfl, ?_⟩) ?_ ?_
      rotate_left
      · intro w'
        go_simp
        with_reducible rfl
      rotate_left
      · simp only [Act.put, List.setIfInBounds_toArray, List.set_cons_zero, List.set_cons_succ, i64_w, i32_w]
        rfl
      refine pure_ (i := 3) (N := (some 19)) (v := ?_) (a' := ?_) #[true, true, true, true, false, false, false, false, false, false, false, false, false] rfl rfl (any_of HT_.out (by kernel_rfl)) (fun _ _ _ h => h) (Or.inl ⟨by rfl, ?_⟩) ?_ ?_
      rotate_left
      · intro w'
        go_simp
        with_reducible rfl
      rotate_left
      · simp only [Act.put, List.setIfInBounds_toArray, List.set_cons_zero, List.set_cons_succ, i64_w, i32_w]
        rfl
      refine take_ (i := 4) (N := (some 20)) (v := ?_) (a' := ?_) #[true, true, true, true, true, false, false, false, false, false, false, false, false] rfl rfl (take_ofW HT_.out HW_.out (by kernel_rfl)) (fun _ _ _ h => h) (Or.inl ⟨by rfl, ?_⟩) hHeld ?_ ?_
      rotate_left
      · rintro w' ⟨s1, _⟩
        go_simp
        with_reducible rfl
      rotate_left
      · simp only [Act.put, List.setIfInBounds_toArray, List.set_cons_zero, List.set_cons_succ, i64_w, i32_w]
        rfl
      refine pure_ (i := 5) (N := (some 21)) (v := ?_) (a' := ?_) #[true, true, true, true, true, true, false, false, false, false, false, false, false] rfl rfl (any_of HT_.out (by kernel_rfl)) (fun _ _ _ h => h) (Or.inl ⟨by rfl, ?_⟩) ?_ ?_
      rotate_left
      · intro w'
        go_simp
        with_reducible rfl
      rotate_left
      · simp only [Act.put, List.setIfInBounds_toArray, List.set_cons_zero, List.set_cons_succ, i64_w, i32_w]
        rfl
      refine pure_ (i := 7) (N := (some 23)) (v := ?_) (a' := ?_) #[true, true, true, true, true, true, false, true, false, false, false, false, false] rfl rfl (any_of HT_.out (by kernel_rfl)) (fun _ _ _ h => h) (Or.inl ⟨by rfl, ?_⟩) ?_ ?_
      rotate_left
      · intro w'
        go_simp
        with_reducible rfl
      rotate_left
      · simp only [Act.put, List.setIfInBounds_toArray, List.set_cons_zero, List.set_cons_succ, i64_w, i32_w]
        rfl
      refine pure_ (i := 8) (N := (some 24)) (v := ?_) (a' := ?_) #[true, true, true, true, true, true, false, true, true, false, false, false, false] rfl rfl (any_of HT_.out (by kernel_rfl)) (fun _ _ _ h => h) (Or.inl ⟨by rfl, ?_⟩) ?_ ?_
      rotate_left
      · intro w'
        go_simp
        with_reducible rfl
      rotate_left
      · simp only [Act.put, List.setIfInBounds_toArray, List.set_cons_zero, List.set_cons_succ, i64_w, i32_w]
        rfl
      refine pure_ (i := 9) (N := (some 25)) (v := ?_) (a' := ?_) #[true, true, true, true, true, true, false, true, true, true, false, false, false] rfl rfl (any_of HT_.out (by kernel_rfl)) (fun _ _ _ h => h) (Or.inl ⟨by rfl, ?_⟩) ?_ ?_
      rotate_left
      · intro w'
        go_simp
        with_reducible rfl
      rotate_left
      · simp only [Act.put, List.setIfInBounds_toArray, List.set_cons_zero, List.set_cons_succ, i64_w, i32_w]
        rfl
      refine take_ (i := 10) (N := (some 26)) (v := ?_) (a' := ?_) #[true, true, true, true, true, true, false, true, true, true, true, false, false] rfl rfl (take_ofW HT_.out HW_.out (by kernel_rfl)) (fun _ _ _ h => h) (Or.inl ⟨by rfl, ?_⟩) hHeld ?_ ?_
      rotate_left
      · rintro w' ⟨_, s1⟩
        go_simp
        with_reducible rfl
      rotate_left
      · simp only [Act.put, List.setIfInBounds_toArray, List.set_cons_zero, List.set_cons_succ, i64_w, i32_w]
        rfl
      refine one_ (i := 6) (N := (some 22)) #[true, true, true, true, true, true, true, true, true, true, true, false, false] rfl rfl (one_of HT_.out (by kernel_rfl)) (by decide) (fun K9 hK => ?_)
      refine goes_ Try.func99 (by kernel_rfl) rfl #[.pointer pl, .string key] (by rfl) rfl rfl (by (try simp only [List.map_toArray, List.map_cons, List.map_nil]); first | done | rfl) ?_
      refine (ihl pl key w.drew (hl.out.below HW.out) HO.out.1 (by have := HO.out.2.2; omega)).mono ?_
      rintro e w7 ⟨v7, rfl, hS7, hb7⟩
      refine ⟨_, rfl, ?_⟩
      have HB7 := Aside.mk hb7
      have HS7 := Aside.mk hS7
      clear hb7 hS7
      refine hK.out _ _ (HC.out (HB7.out)) (fun hHeld => ?_)
      clear hK K9
      refine norm_ (a' := ?_) ?_ ?_
      rotate_left
      · show Act.put _ (some 22) _ = _
        simp only [Act.put, List.setIfInBounds_toArray, List.set_cons_zero, List.set_cons_succ]
        rfl
      refine one_ (i := 11) (N := (some 27)) #[true, true, true, true, true, true, true, true, true, true, true, true, false] rfl rfl (one_of HT_.out (by kernel_rfl)) (by decide) (fun K9 hK => ?_)
      refine goes_ Try.func90 (by kernel_rfl) rfl #[.pointer (some ⟨b, 0, none⟩), .pointer v7, .pointer pr] (by rfl) rfl rfl (by (try simp only [List.map_toArray, List.map_cons, List.map_nil]); first | done | rfl) ?_
      refine (level_calls sk se l r (Shf.drop key l) r h _ _ _ _ ((hs.out.below HW.out).below HB7.out) HS7.out ((hr.out.below HW.out).below HB7.out) (Shf.drop_ok key HO.out.1).1 HO.out.2.1 (by have := (Shf.drop_ok key HO.out.1).2; have := HO.out.2.2; omega)).mono ?_
      rintro e w12 ⟨v12, rfl, hS12, hb12⟩
      refine ⟨_, rfl, ?_⟩
      have HB12 := Aside.mk hb12
      have HS12 := Aside.mk hS12
      clear hb12 hS12
      refine hK.out _ _ (HC.out (HB7.out.trans (HB12.out.mono HB7.out.size))) (fun hHeld => ?_)
      clear hK K9
      refine norm_ (a' := ?_) ?_ ?_
      rotate_left
      · show Act.put _ (some 27) _ = _
        simp only [Act.put, List.setIfInBounds_toArray, List.set_cons_zero, List.set_cons_succ]
        rfl
      refine pure_ (i := 12) (N := (some 4)) (v := ?_) (a' := ?_) #[true, true, true, true, true, true, true, true, true, true, true, true, true] rfl rfl (any_of HT_.out (by kernel_rfl)) (fun _ _ _ h => h) (Or.inl ⟨by rfl, ?_⟩) ?_ ?_
      rotate_left
      · intro w'
        go_simp
        with_reducible rfl
      rotate_left
      · simp only [Act.put, List.setIfInBounds_toArray, List.set_cons_zero, List.set_cons_succ, i64_w, i32_w]
        rfl
      refine done_ (done_of HT_.out (by kernel_rfl)) ?_
      clear HT_ HW_ hHeld
      go_wp2_with fail
      go_ret
      exact ⟨v12, rfl, by rw [HE.out]; exact HS12.out, (HW.out.trans (HB7.out.mono HW.out.size)).trans (HB12.out.mono (Nat.le_trans HW.out.size HB7.out.size))⟩
    | false =>
      cases d3 : (key.toList == sk.toList) with
      | false =>
        have d2 : (Op.bytesLess key.toList sk.toList || key.toList == sk.toList) = false := by rw [d1, d3]; rfl
        have HE : Aside (Shf.drop key (.node sk se l r h) = Shf.lvl sk se l (Shf.drop key r)) := ⟨by show (if slt key sk = true then _ else if (slt key sk || key.toList == sk.toList) = false then _ else _) = _; rw [if_neg (by unfold slt; rw [d1]; simp), if_pos (show (slt key sk || key.toList == sk.toList) = false from d2)]⟩
        have HC := HC0
        clear hl' hr' HC0
        go_enter Try.func99, Try.ntmps99
        go_upto_region 6 with fail
        have t0 := HC.out (Below.refl _ _)
        refine start_ (n := 13) (S := (fun w' => w'.cell? ⟨b, 5, none⟩ = some (.pointer pl) ∧ w'.cell? ⟨b, 6, none⟩ = some (.pointer pr))) (ds := []) #[false, false, false, false, false, false, false, false, false, false, false, false, false] (by kernel_rfl) rfl rfl t0 (fun hHeld => ?_); refine with_tabW shd6_tab shd6_bits (fun HT_ HW_ => ?_)
        refine pure_ (i := 0) (N := (some 35)) (v := ?_) (a' := ?_) #[true, false, false, false, false, false, false, false, false, false, false, false, false] rfl rfl (any_of HT_.out (by kernel_rfl)) (fun _ _ _ h => h) (Or.inl ⟨by rfl, ?_⟩) ?_ ?_
        rotate_left
        · intro w'
          go_simp
          with_reducible rfl
        rotate_left
        · simp only [Act.put, List.setIfInBounds_toArray, List.set_cons_zero, List.set_cons_succ, i64_w, i32_w]
          rfl
        refine pure_ (i := 1) (N := (some 36)) (v := ?_) (a' := ?_) #[true, true, false, false, false, false, false, false, false, false, false, false, false] rfl rfl (any_of HT_.out (by kernel_rfl)) (fun _ _ _ h => h) (Or.inl ⟨by rfl, ?_⟩) ?_ ?_
        rotate_left
        · intro w'
          go_simp
          with_reducible rfl
        rotate_left
        · simp only [Act.put, List.setIfInBounds_toArray, List.set_cons_zero, List.set_cons_succ, i64_w, i32_w]
          rfl
        refine pure_ (i := 2) (N := (some 37)) (v := ?_) (a' := ?_) #[true, true, true, false, false, false, false, false, false, false, false, false, false] rfl rfl (any_of HT_.out (by kernel_rfl)) (fun _ _ _ h => h) (Or.inl ⟨by rfl, ?_⟩) ?_ ?_
        rotate_left
        · intro w'
          go_simp
          with_reducible rfl
        rotate_left
        · simp only [Act.put, List.setIfInBounds_toArray, List.set_cons_zero, List.set_cons_succ, i64_w, i32_w]
          rfl
        refine pure_ (i := 3) (N := (some 38)) (v := ?_) (a' := ?_) #[true, true, true, true, false, false, false, false, false, false, false, false, false] rfl rfl (any_of HT_.out (by kernel_rfl)) (fun _ _ _ h => h) (Or.inl ⟨by rfl, ?_⟩) ?_ ?_
        rotate_left
        · intro w'
          go_simp
          with_reducible rfl
        rotate_left
        · simp only [Act.put, List.setIfInBounds_toArray, List.set_cons_zero, List.set_cons_succ, i64_w, i32_w]
          rfl
        refine take_ (i := 4) (N := (some 39)) (v := ?_) (a' := ?_) #[true, true, true, true, true, false, false, false, false, false, false, false, false] rfl rfl (take_ofW HT_.out HW_.out (by kernel_rfl)) (fun _ _ _ h => h) (Or.inl ⟨by rfl, ?_⟩) hHeld ?_ ?_
        rotate_left
        · rintro w' ⟨s1, _⟩
          go_simp
          with_reducible rfl
        rotate_left
        · simp only [Act.put, List.setIfInBounds_toArray, List.set_cons_zero, List.set_cons_succ, i64_w, i32_w]
          rfl
        refine pure_ (i := 5) (N := (some 40)) (v := ?_) (a' := ?_) #[true, true, true, true, true, true, false, false, false, false, false, false, false] rfl rfl (any_of HT_.out (by kernel_rfl)) (fun _ _ _ h => h) (Or.inl ⟨by rfl, ?_⟩) ?_ ?_
        rotate_left
        · intro w'
          go_simp
          with_reducible rfl
        rotate_left
        · simp only [Act.put, List.setIfInBounds_toArray, List.set_cons_zero, List.set_cons_succ, i64_w, i32_w]
          rfl
        refine pure_ (i := 6) (N := (some 41)) (v := ?_) (a' := ?_) #[true, true, true, true, true, true, true, false, false, false, false, false, false] rfl rfl (any_of HT_.out (by kernel_rfl)) (fun _ _ _ h => h) (Or.inl ⟨by rfl, ?_⟩) ?_ ?_
        rotate_left
        · intro w'
          go_simp
          with_reducible rfl
        rotate_left
        · simp only [Act.put, List.setIfInBounds_toArray, List.set_cons_zero, List.set_cons_succ, i64_w, i32_w]
          rfl
        refine pure_ (i := 7) (N := (some 42)) (v := ?_) (a' := ?_) #[true, true, true, true, true, true, true, true, false, false, false, false, false] rfl rfl (any_of HT_.out (by kernel_rfl)) (fun _ _ _ h => h) (Or.inl ⟨by rfl, ?_⟩) ?_ ?_
        rotate_left
        · intro w'
          go_simp
          with_reducible rfl
        rotate_left
        · simp only [Act.put, List.setIfInBounds_toArray, List.set_cons_zero, List.set_cons_succ, i64_w, i32_w]
          rfl
        refine take_ (i := 8) (N := (some 43)) (v := ?_) (a' := ?_) #[true, true, true, true, true, true, true, true, true, false, false, false, false] rfl rfl (take_ofW HT_.out HW_.out (by kernel_rfl)) (fun _ _ _ h => h) (Or.inl ⟨by rfl, ?_⟩) hHeld ?_ ?_
        rotate_left
        · rintro w' ⟨_, s1⟩
          go_simp
          with_reducible rfl
        rotate_left
        · simp only [Act.put, List.setIfInBounds_toArray, List.set_cons_zero, List.set_cons_succ, i64_w, i32_w]
          rfl
        refine pure_ (i := 9) (N := (some 44)) (v := ?_) (a' := ?_) #[true, true, true, true, true, true, true, true, true, true, false, false, false] rfl rfl (any_of HT_.out (by kernel_rfl)) (fun _ _ _ h => h) (Or.inl ⟨by rfl, ?_⟩) ?_ ?_
        rotate_left
        · intro w'
          go_simp
          with_reducible rfl
        rotate_left
        · simp only [Act.put, List.setIfInBounds_toArray, List.set_cons_zero, List.set_cons_succ, i64_w, i32_w]
          rfl
        refine one_ (i := 10) (N := (some 45)) #[true, true, true, true, true, true, true, true, true, true, true, false, false] rfl rfl (one_of HT_.out (by kernel_rfl)) (by decide) (fun K9 hK => ?_)
        refine goes_ Try.func99 (by kernel_rfl) rfl #[.pointer pr, .string key] (by rfl) rfl rfl (by (try simp only [List.map_toArray, List.map_cons, List.map_nil]); first | done | rfl) ?_
        refine (ihr pr key w.drew (hr.out.below HW.out) HO.out.2.1 (by have := HO.out.2.2; omega)).mono ?_
        rintro e w7 ⟨v7, rfl, hS7, hb7⟩
        refine ⟨_, rfl, ?_⟩
        have HB7 := Aside.mk hb7
        have HS7 := Aside.mk hS7
        clear hb7 hS7
        refine hK.out _ _ (HC.out (HB7.out)) (fun hHeld => ?_)
        clear hK K9
        refine norm_ (a' := ?_) ?_ ?_
        rotate_left
        · show Act.put _ (some 45) _ = _
          simp only [Act.put, List.setIfInBounds_toArray, List.set_cons_zero, List.set_cons_succ]
          rfl
        refine one_ (i := 11) (N := (some 46)) #[true, true, true, true, true, true, true, true, true, true, true, true, false] rfl rfl (one_of HT_.out (by kernel_rfl)) (by decide) (fun K9 hK => ?_)
        refine goes_ Try.func90 (by kernel_rfl) rfl #[.pointer (some ⟨b, 0, none⟩), .pointer pl, .pointer v7] (by rfl) rfl rfl (by (try simp only [List.map_toArray, List.map_cons, List.map_nil]); first | done | rfl) ?_
        refine (level_calls sk se l r l (Shf.drop key r) h _ _ _ _ ((hs.out.below HW.out).below HB7.out) ((hl.out.below HW.out).below HB7.out) HS7.out HO.out.1 (Shf.drop_ok key HO.out.2.1).1 (by have := (Shf.drop_ok key HO.out.2.1).2; have := HO.out.2.2; omega)).mono ?_
        rintro e w12 ⟨v12, rfl, hS12, hb12⟩
        refine ⟨_, rfl, ?_⟩
        have HB12 := Aside.mk hb12
        have HS12 := Aside.mk hS12
        clear hb12 hS12
        refine hK.out _ _ (HC.out (HB7.out.trans (HB12.out.mono HB7.out.size))) (fun hHeld => ?_)
        clear hK K9
        refine norm_ (a' := ?_) ?_ ?_
        rotate_left
        · show Act.put _ (some 46) _ = _
          simp only [Act.put, List.setIfInBounds_toArray, List.set_cons_zero, List.set_cons_succ]
          rfl
        refine pure_ (i := 12) (N := (some 4)) (v := ?_) (a' := ?_) #[true, true, true, true, true, true, true, true, true, true, true, true, true] rfl rfl (any_of HT_.out (by kernel_rfl)) (fun _ _ _ h => h) (Or.inl ⟨by rfl, ?_⟩) ?_ ?_
        rotate_left
        · intro w'
          go_simp
          with_reducible rfl
        rotate_left
        · simp only [Act.put, List.setIfInBounds_toArray, List.set_cons_zero, List.set_cons_succ, i64_w, i32_w]
          rfl
        refine done_ (done_of HT_.out (by kernel_rfl)) ?_
        clear HT_ HW_ hHeld
        go_wp2_with fail
        go_ret
        exact ⟨v12, rfl, by rw [HE.out]; exact HS12.out, (HW.out.trans (HB7.out.mono HW.out.size)).trans (HB12.out.mono (Nat.le_trans HW.out.size HB7.out.size))⟩
      | true =>
        have d2 : (Op.bytesLess key.toList sk.toList || key.toList == sk.toList) = true := by rw [d1, d3]; rfl
        have hd1 : slt key sk = false := d1
        have hd2 : (slt key sk || key.toList == sk.toList) = true := d2
        have c5 : w.cell? ⟨b, 5, none⟩ = some (.pointer pl) := cell_at HB0.out 5
        have c6 : w.cell? ⟨b, 6, none⟩ = some (.pointer pr) := cell_at HB0.out 6
        cases l with
        | nil =>
          obtain rfl : pl = none := hl'
          have HE := Aside.mk (Shf.drop_a (e := se) (r := r) (h := h) hd1 hd2)
          clear hr'
          go_enter Try.func99, Try.ntmps99
          go_wp2_with fail
          go_ret
          exact ⟨_, rfl, by rw [HE.out]; exact hr.out, Below.refl _ _⟩
        | node lk le ll lr lh =>
          obtain ⟨bl, pll, plr, rfl, _, _, _⟩ := hl'
          cases hle : Shf.leastT r with
          | nil =>
            have hrn := Shf.leastT_nil hle
            have hE := Shf.drop_b (lk := lk) (le := le) (ll := ll) (lr := lr) (lh := lh) (e := se) (h := h) hd1 hd2 hle
            rw [hrn] at hr'
            obtain rfl : pr = none := hr'
            have HE := Aside.mk hE
            clear hE hle hrn
            go_enter Try.func99, Try.ntmps99
            go_wp2_with fail
            go_ret
            exact ⟨_, rfl, by rw [HE.out]; exact hl.out, Below.refl _ _⟩
          | node nk ne nl nr nh =>
            have hrn : r ≠ .nil := fun e => by rw [e] at hle; cases hle
            have hE := Shf.drop_c (lk := lk) (le := le) (ll := ll) (lr := lr) (lh := lh) (e := se) (h := h) hd1 hd2 hle
            have HE := Aside.mk hE
            have hlc := sleast_calls r pr w hr.out hrn
            rw [hle] at hlc
            have hprn : ∃ q, pr = some q := by
              cases r with
              | nil => exact absurd rfl hrn
              | node _ _ _ _ _ => obtain ⟨bq, _, _, hq, _⟩ := hr'; exact ⟨_, hq⟩
            obtain ⟨q, rfl⟩ := hprn
            obtain ⟨L, hL⟩ : ∃ L, Shf.node lk le ll lr lh = L := ⟨_, rfl⟩
            rw [hL] at HE hs hl HO
            have HLL := Aside.mk hL
            clear hE hle hrn hr' hL ihl
            go_enter Try.func99, Try.ntmps99
            go_wp2_with fail
            refine hlc.mono ?_
            rintro e w1 ⟨vn, rfl, hn1, rfl⟩
            have HN := Aside.mk hn1
            obtain ⟨bn, pnl, pnr, rfl, hbn, _, _⟩ := hn1
            have HC : Aside (∀ {W : World}, Below w.drew.heap.size w.drew W → (W.cell? ⟨b, 5, none⟩ = some (.pointer (some ⟨bl, 0, none⟩)) ∧ W.cell? ⟨b, 6, none⟩ = some (.pointer (some q)) ∧ W.cell? ⟨bn, 0, none⟩ = some (.string nk))) := ⟨fun hB => ⟨(HC0.out hB).1, (HC0.out hB).2, (hB.cell (p := ⟨bn, 0, none⟩) (show bn < w.drew.heap.size from lt_of_block hbn)).trans (cell_at hbn 0)⟩⟩
            clear hlc hbn HC0 c5 c6
            go_upto_region 12 with fail
            have t0 := HC.out (Below.refl _ _)
            refine start_ (n := 16) (S := (fun w' => w'.cell? ⟨b, 5, none⟩ = some (.pointer (some ⟨bl, 0, none⟩)) ∧ w'.cell? ⟨b, 6, none⟩ = some (.pointer (some q)) ∧ w'.cell? ⟨bn, 0, none⟩ = some (.string nk))) (ds := []) #[false, false, false, false, false, false, false, false, false, false, false, false, false, false, false, false] (by kernel_rfl) rfl rfl t0 (fun hHeld => ?_); refine with_tabW shd12_tab shd12_bits (fun HT_ HW_ => ?_)
            refine pure_ (i := 0) (N := (some 72)) (v := ?_) (a' := ?_) #[true, false, false, false, false, false, false, false, false, false, false, false, false, false, false, false] rfl rfl (any_of HT_.out (by kernel_rfl)) (fun _ _ _ h => h) (Or.inl ⟨by rfl, ?_⟩) ?_ ?_
            rotate_left
            · intro w'
              go_simp
              with_reducible rfl
            rotate_left
            · simp only [Act.put, List.setIfInBounds_toArray, List.set_cons_zero, List.set_cons_succ, i64_w, i32_w]
              rfl
            refine pure_ (i := 1) (N := (some 73)) (v := ?_) (a' := ?_) #[true, true, false, false, false, false, false, false, false, false, false, false, false, false, false, false] rfl rfl (any_of HT_.out (by kernel_rfl)) (fun _ _ _ h => h) (Or.inl ⟨by rfl, ?_⟩) ?_ ?_
            rotate_left
            · intro w'
              go_simp
              with_reducible rfl
            rotate_left
            · simp only [Act.put, List.setIfInBounds_toArray, List.set_cons_zero, List.set_cons_succ, i64_w, i32_w]
              rfl
            refine pure_ (i := 2) (N := (some 74)) (v := ?_) (a' := ?_) #[true, true, true, false, false, false, false, false, false, false, false, false, false, false, false, false] rfl rfl (any_of HT_.out (by kernel_rfl)) (fun _ _ _ h => h) (Or.inl ⟨by rfl, ?_⟩) ?_ ?_
            rotate_left
            · intro w'
              go_simp
              with_reducible rfl
            rotate_left
            · simp only [Act.put, List.setIfInBounds_toArray, List.set_cons_zero, List.set_cons_succ, i64_w, i32_w]
              rfl
            refine pure_ (i := 3) (N := (some 75)) (v := ?_) (a' := ?_) #[true, true, true, true, false, false, false, false, false, false, false, false, false, false, false, false] rfl rfl (any_of HT_.out (by kernel_rfl)) (fun _ _ _ h => h) (Or.inl ⟨by rfl, ?_⟩) ?_ ?_
            rotate_left
            · intro w'
              go_simp
              with_reducible rfl
            rotate_left
            · simp only [Act.put, List.setIfInBounds_toArray, List.set_cons_zero, List.set_cons_succ, i64_w, i32_w]
              rfl
            refine take_ (i := 4) (N := (some 76)) (v := ?_) (a' := ?_) #[true, true, true, true, true, false, false, false, false, false, false, false, false, false, false, false] rfl rfl (take_ofW HT_.out HW_.out (by kernel_rfl)) (fun _ _ _ h => h) (Or.inl ⟨by rfl, ?_⟩) hHeld ?_ ?_
            rotate_left
            · rintro w' ⟨s1, _, _⟩
              go_simp
              with_reducible rfl
            rotate_left
            · simp only [Act.put, List.setIfInBounds_toArray, List.set_cons_zero, List.set_cons_succ, i64_w, i32_w]
              rfl
            refine pure_ (i := 5) (N := (some 77)) (v := ?_) (a' := ?_) #[true, true, true, true, true, true, false, false, false, false, false, false, false, false, false, false] rfl rfl (any_of HT_.out (by kernel_rfl)) (fun _ _ _ h => h) (Or.inl ⟨by rfl, ?_⟩) ?_ ?_
            rotate_left
            · intro w'
              go_simp
              with_reducible rfl
            rotate_left
            · simp only [Act.put, List.setIfInBounds_toArray, List.set_cons_zero, List.set_cons_succ, i64_w, i32_w]
              rfl
            refine pure_ (i := 6) (N := (some 78)) (v := ?_) (a' := ?_) #[true, true, true, true, true, true, true, false, false, false, false, false, false, false, false, false] rfl rfl (any_of HT_.out (by kernel_rfl)) (fun _ _ _ h => h) (Or.inl ⟨by rfl, ?_⟩) ?_ ?_
            rotate_left
            · intro w'
              go_simp
              with_reducible rfl
            rotate_left
            · simp only [Act.put, List.setIfInBounds_toArray, List.set_cons_zero, List.set_cons_succ, i64_w, i32_w]
              rfl
            refine pure_ (i := 7) (N := (some 79)) (v := ?_) (a' := ?_) #[true, true, true, true, true, true, true, true, false, false, false, false, false, false, false, false] rfl rfl (any_of HT_.out (by kernel_rfl)) (fun _ _ _ h => h) (Or.inl ⟨by rfl, ?_⟩) ?_ ?_
            rotate_left
            · intro w'
              go_simp
              with_reducible rfl
            rotate_left
            · simp only [Act.put, List.setIfInBounds_toArray, List.set_cons_zero, List.set_cons_succ, i64_w, i32_w]
              rfl
            refine take_ (i := 8) (N := (some 80)) (v := ?_) (a' := ?_) #[true, true, true, true, true, true, true, true, true, false, false, false, false, false, false, false] rfl rfl (take_ofW HT_.out HW_.out (by kernel_rfl)) (fun _ _ _ h => h) (Or.inl ⟨by rfl, ?_⟩) hHeld ?_ ?_
            rotate_left
            · rintro w' ⟨_, s1, _⟩
              go_simp
              with_reducible rfl
            rotate_left
            · simp only [Act.put, List.setIfInBounds_toArray, List.set_cons_zero, List.set_cons_succ, i64_w, i32_w]
              rfl
            refine pure_ (i := 9) (N := (some 81)) (v := ?_) (a' := ?_) #[true, true, true, true, true, true, true, true, true, true, false, false, false, false, false, false] rfl rfl (any_of HT_.out (by kernel_rfl)) (fun _ _ _ h => h) (Or.inl ⟨by rfl, ?_⟩) ?_ ?_
            rotate_left
            · intro w'
              go_simp
              with_reducible rfl
            rotate_left
            · simp only [Act.put, List.setIfInBounds_toArray, List.set_cons_zero, List.set_cons_succ, i64_w, i32_w]
              rfl
            refine pure_ (i := 10) (N := (some 82)) (v := ?_) (a' := ?_) #[true, true, true, true, true, true, true, true, true, true, true, false, false, false, false, false] rfl rfl (any_of HT_.out (by kernel_rfl)) (fun _ _ _ h => h) (Or.inl ⟨by rfl, ?_⟩) ?_ ?_
            rotate_left
            · intro w'
              go_simp
              with_reducible rfl
            rotate_left
            · simp only [Act.put, List.setIfInBounds_toArray, List.set_cons_zero, List.set_cons_succ, i64_w, i32_w]
              rfl
            refine pure_ (i := 11) (N := (some 83)) (v := ?_) (a' := ?_) #[true, true, true, true, true, true, true, true, true, true, true, true, false, false, false, false] rfl rfl (any_of HT_.out (by kernel_rfl)) (fun _ _ _ h => h) (Or.inl ⟨by rfl, ?_⟩) ?_ ?_
            rotate_left
            · intro w'
              go_simp
              with_reducible rfl
            rotate_left
            · simp only [Act.put, List.setIfInBounds_toArray, List.set_cons_zero, List.set_cons_succ, i64_w, i32_w]
              rfl
            refine take_ (i := 12) (N := (some 84)) (v := ?_) (a' := ?_) #[true, true, true, true, true, true, true, true, true, true, true, true, true, false, false, false] rfl rfl (take_ofW HT_.out HW_.out (by kernel_rfl)) (fun _ _ _ h => h) (Or.inl ⟨by rfl, ?_⟩) hHeld ?_ ?_
            rotate_left
            · rintro w' ⟨_, _, s1⟩
              go_simp
              with_reducible rfl
            rotate_left
            · simp only [Act.put, List.setIfInBounds_toArray, List.set_cons_zero, List.set_cons_succ, i64_w, i32_w]
              rfl
            refine one_ (i := 13) (N := (some 85)) #[true, true, true, true, true, true, true, true, true, true, true, true, true, true, false, false] rfl rfl (one_of HT_.out (by kernel_rfl)) (by decide) (fun K9 hK => ?_)
            refine goes_ Try.func99 (by kernel_rfl) rfl #[.pointer (some q), .string nk] (by rfl) rfl rfl (by (try simp only [List.map_toArray, List.map_cons, List.map_nil]); first | done | rfl) ?_
            refine (ihr (some q) nk w.drew (hr.out.below HW.out) HO.out.2.1 (by have := HO.out.2.2; omega)).mono ?_
            rintro e w7 ⟨v7, rfl, hS7, hb7⟩
            refine ⟨_, rfl, ?_⟩
            have HB7 := Aside.mk hb7
            have HS7 := Aside.mk hS7
            clear hb7 hS7
            refine hK.out _ _ (HC.out (HB7.out)) (fun hHeld => ?_)
            clear hK K9
            refine norm_ (a' := ?_) ?_ ?_
            rotate_left
            · show Act.put _ (some 85) _ = _
              simp only [Act.put, List.setIfInBounds_toArray, List.set_cons_zero, List.set_cons_succ]
              rfl
            refine one_ (i := 14) (N := (some 86)) #[true, true, true, true, true, true, true, true, true, true, true, true, true, true, true, false] rfl rfl (one_of HT_.out (by kernel_rfl)) (by decide) (fun K9 hK => ?_)
            refine goes_ Try.func90 (by kernel_rfl) rfl #[.pointer (some ⟨bn, 0, none⟩), .pointer (some ⟨bl, 0, none⟩), .pointer v7] (by rfl) rfl rfl (by (try simp only [List.map_toArray, List.map_cons, List.map_nil]); first | done | rfl) ?_
            refine (level_calls nk ne nl nr L (Shf.drop nk r) nh _ _ _ _ ((HN.out.below HW.out).below HB7.out) ((hl.out.below HW.out).below HB7.out) HS7.out HO.out.1 (Shf.drop_ok nk HO.out.2.1).1 (by have := (Shf.drop_ok nk HO.out.2.1).2; have := HO.out.2.2; omega)).mono ?_
            rintro e w12 ⟨v12, rfl, hS12, hb12⟩
            refine ⟨_, rfl, ?_⟩
            have HB12 := Aside.mk hb12
            have HS12 := Aside.mk hS12
            clear hb12 hS12
            refine hK.out _ _ (HC.out (HB7.out.trans (HB12.out.mono HB7.out.size))) (fun hHeld => ?_)
            clear hK K9
            refine norm_ (a' := ?_) ?_ ?_
            rotate_left
            · show Act.put _ (some 86) _ = _
              simp only [Act.put, List.setIfInBounds_toArray, List.set_cons_zero, List.set_cons_succ]
              rfl
            refine pure_ (i := 15) (N := (some 4)) (v := ?_) (a' := ?_) #[true, true, true, true, true, true, true, true, true, true, true, true, true, true, true, true] rfl rfl (any_of HT_.out (by kernel_rfl)) (fun _ _ _ h => h) (Or.inl ⟨by rfl, ?_⟩) ?_ ?_
            rotate_left
            · intro w'
              go_simp
              with_reducible rfl
            rotate_left
            · simp only [Act.put, List.setIfInBounds_toArray, List.set_cons_zero, List.set_cons_succ, i64_w, i32_w]
              rfl
            refine done_ (done_of HT_.out (by kernel_rfl)) ?_
            clear HT_ HW_ hHeld
            go_wp2_with fail
            go_ret
            exact ⟨v12, rfl, by rw [HLL.out, HE.out]; exact HS12.out, (HW.out.trans (HB7.out.mono HW.out.size)).trans (HB12.out.mono (Nat.le_trans HW.out.size HB7.out.size))⟩
end Go.Proofs.Ytagkobpbhfkmdaa.C
