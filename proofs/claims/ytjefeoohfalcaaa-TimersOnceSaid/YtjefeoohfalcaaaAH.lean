/- clock.ahead, exactly: it draws, and lays blocks of its own. -/
import Derived.Sort.Grow
import Derived.Test.YtjefeoohfalcaaaIT
import Derived.Test.YtjefeoohfalcaaaAW
namespace Go.Proofs.Ytjefeoohfalcaaa.C
open Go.RowKit Go.Sort Go.Proofs.Ytjefeoohfalcaaa.Q Go.Proofs.YtjefeoohfalcaaaW.PrintLast Go.Proofs.YtjefeoohfalcaaaW.PrintWords
set_option linter.unusedVariables false
set_option linter.unusedSimpArgs false
theorem grown_of_below {w w' : World} (h : Below w.heap.size w w') (hd : w.drawn ≤ w'.drawn) : ∃ q os', w' = grow (w.drewN q) os' := by
  refine ⟨w'.drawn - w.drawn, w'.heap.extract w.heap.size w'.heap.size, ?_⟩
  obtain ⟨h1, h2, h3, h4, h5⟩ := h
  cases w with
  | mk hp tp dr os out =>
  cases w' with
  | mk hp' tp' dr' os' out' =>
  simp only at h1 h2 h3 h4 h5 hd
  subst h1; subst h2; subst h3
  unfold grow World.drewN
  simp only [World.mk.injEq, true_and, and_true]
  refine ⟨?_, by omega⟩
  apply Array.ext_getElem?
  intro i
  by_cases hi : i < hp.size
  · rw [h5 i hi, Array.getElem?_append, if_pos hi]
  · rw [Array.getElem?_append, if_neg hi, Array.getElem?_extract]
    by_cases h6 : i < hp'.size
    · rw [if_pos (by omega)]; congr 1; omega
    · rw [if_neg (by omega), Array.getElem?_eq_none (by omega)]
/-- What ahead's worlds hold: its parameters' boxes. -/
def AHeld (a b : Int × Int) (w W : World) : Prop := W.cell? ⟨w.heap.size, 0, none⟩ = some (.int .i64 a.1) ∧ W.cell? ⟨w.heap.size, 1, none⟩ = some (.int .i64 a.2) ∧ W.cell? ⟨w.heap.size + 1, 0, none⟩ = some (.int .i64 b.1) ∧ W.cell? ⟨w.heap.size + 1, 1, none⟩ = some (.int .i64 b.2) ∧ W.heap[w.heap.size]? = some (.cells #[.int .i64 a.1, .int .i64 a.2] 57 (0, 0)) ∧ W.heap[w.heap.size + 1]? = some (.cells #[.int .i64 b.1, .int .i64 b.2] 57 (0, 0)) ∧ Below w.heap.size w W ∧ w.drawn ≤ W.drawn
theorem aheld_mk {a b : Int × Int} {w W : World} (h5 : W.heap[w.heap.size]? = some (.cells #[.int .i64 a.1, .int .i64 a.2] 57 (0, 0))) (h6 : W.heap[w.heap.size + 1]? = some (.cells #[.int .i64 b.1, .int .i64 b.2] 57 (0, 0))) (h7 : Below w.heap.size w W) (h8 : w.drawn ≤ W.drawn) : AHeld a b w W :=
  ⟨cell_at h5 0, cell_at h5 1, cell_at h6 0, cell_at h6 1, h5, h6, h7, h8⟩
theorem aheld_start (a b : Int × Int) (w : World) : AHeld a b w (((w.alloc (.cells #[.int .i64 a.1, .int .i64 a.2] 57 (0, 0))).alloc (.cells #[.int .i64 b.1, .int .i64 b.2] 57 (0, 0))).drew) := by
  refine aheld_mk ?_ ?_ ?_ ?_
  · exact blk_alloc (blk_new w _) _
  · have := blk_new (w.alloc (.cells #[.int .i64 a.1, .int .i64 a.2] 57 (0, 0))) (.cells #[.int .i64 b.1, .int .i64 b.2] 57 (0, 0))
    rwa [World.size_alloc] at this
  · exact below_drew1 (((Below.refl _ w).alloc (Nat.le_refl _) _).alloc (by simp) _)
  · exact Nat.le_succ _
theorem aheld_drewN {a b : Int × Int} {w W : World} (h : AHeld a b w W) (n : Nat) : AHeld a b w (W.drewN n) := by
  obtain ⟨_, _, _, _, h5, h6, h7, h8⟩ := h
  exact aheld_mk h5 h6 (pw_below_drewN h7 n) (Nat.le_trans h8 (Nat.le_add_right _ _))
theorem aheld_alloc {a b : Int × Int} {w W : World} (h : AHeld a b w W) (o : Obj) : AHeld a b w (W.alloc o) := by
  obtain ⟨_, _, _, _, h5, h6, h7, h8⟩ := h
  exact aheld_mk (blk_alloc h5 o) (blk_alloc h6 o) (h7.alloc h7.size o) h8
theorem cmp_held {a b : Int × Int} {w W : World} (h : AHeld a b w W) (x y : Int) : Calls Try.prog 57 #[.int .i64 x, .int .i64 y] W fun e w' => e = .returned (.int .i64 (cmpI x y)) ∧ AHeld a b w w' :=
  (cmp_Compare_int64.calls x y _ W (cmp_is x y)).mono fun e w' h' => by
    obtain ⟨he, ⟨n, rfl⟩⟩ := h'
    exact ⟨he, aheld_drewN h n⟩
theorem or_held {a b : Int × Int} {w W : World} (h : AHeld a b w W) (x y r : Int) (hr : (if x = 0 then y else x) = r) (g : Nat) (hg : W.heap[g]? = some (.cells #[.int .i64 x, .int .i64 y] 3 (0, 0))) : Calls Try.prog 56 #[.slice (some ⟨g, 0, none⟩) 2 2] W fun e w' => e = .returned (.int .i64 r) ∧ AHeld a b w w' := by
  subst hr
  refine (cmp_Or_int.calls 4 (some ⟨g, 0, none⟩) 2 [x, y] _ W (block_C [x, y] (by simp) W g _ _ hg rfl) (by simp) (or_is x y)).mono fun e w' h' => ?_
  obtain ⟨he, ⟨n, rfl⟩⟩ := h'
  exact ⟨he, aheld_drewN h n⟩
def ah1T : Bool × List (List Nat × List Nat) := (true, [([], []), ([0], [0]), ([], []), ([2], [2]), ([1, 3], [1, 3]), ([], []), ([5], [5]), ([], []), ([7], [7]), ([6, 8, 4], [6, 8]), ([4, 9], [4, 9]), ([10, 9], [10]), ([11, 11, 0, 1, 2, 3, 4, 5, 6, 7, 8, 9, 10, 11], [11])])
def ah1B : List Nat := [0, 1, 0, 4, 15, 0, 32, 0, 128, 511, 1023, 2047, 4095]
theorem ah1_tab : rtab .any (opsOf Try.f47 1) = ah1T := by kernel_rfl
theorem ah1_bits : waitsOk ah1T.2 ah1B = true := by kernel_rfl

set_option maxHeartbeats 2000000 in
set_option maxRecDepth 100000 in
theorem ahead_exact (a b : Int × Int) (w : World) : Calls Try.prog 47 #[.agg #[.int .i64 a.1, .int .i64 a.2], .agg #[.int .i64 b.1, .int .i64 b.2]] w fun e w' => e = .returned (.int .i64 (aheadI a b)) ∧ ∃ q os', w' = grow (w.drewN q) os' := by
  go_enter Try.func47, Try.ntmps47
  go_upto_region 1 with fail
  refine start_ (n := 13) (S := (fun w' => AHeld a b w w')) (ds := []) #[false, false, false, false, false, false, false, false, false, false, false, false, false] (by kernel_rfl) rfl rfl (aheld_start a b w) (fun hHeld => ?_); refine with_tabW ah1_tab ah1_bits (fun HT_ HW_ => ?_)
  refine pure_ (i := 0) (N := (some 5)) (v := ?_) (a' := ?_) #[true, false, false, false, false, false, false, false, false, false, false, false, false] rfl rfl (any_of HT_.out (by kernel_rfl)) (fun _ _ _ h => h) (Or.inl ⟨by rfl, ?_⟩) ?_ ?_
  rotate_left
  · intro w'
    go_simp
    with_reducible rfl
  rotate_left
  · simp only [Act.put, List.setIfInBounds_toArray, List.set_cons_zero, List.set_cons_succ, i64_w, i32_w]
    rfl
  refine pure_ (i := 2) (N := (some 7)) (v := ?_) (a' := ?_) #[true, false, true, false, false, false, false, false, false, false, false, false, false] rfl rfl (any_of HT_.out (by kernel_rfl)) (fun _ _ _ h => h) (Or.inl ⟨by rfl, ?_⟩) ?_ ?_
  rotate_left
  · intro w'
    go_simp
    with_reducible rfl
  rotate_left
  · simp only [Act.put, List.setIfInBounds_toArray, List.set_cons_zero, List.set_cons_succ, i64_w, i32_w]
    rfl
  refine pure_ (i := 5) (N := (some 10)) (v := ?_) (a' := ?_) #[true, false, true, false, false, true, false, false, false, false, false, false, false] rfl rfl (any_of HT_.out (by kernel_rfl)) (fun _ _ _ h => h) (Or.inl ⟨by rfl, ?_⟩) ?_ ?_
  rotate_left
  · intro w'
    go_simp
    with_reducible rfl
  rotate_left
  · simp only [Act.put, List.setIfInBounds_toArray, List.set_cons_zero, List.set_cons_succ, i64_w, i32_w]
    rfl
  refine pure_ (i := 7) (N := (some 12)) (v := ?_) (a' := ?_) #[true, false, true, false, false, true, false, true, false, false, false, false, false] rfl rfl (any_of HT_.out (by kernel_rfl)) (fun _ _ _ h => h) (Or.inl ⟨by rfl, ?_⟩) ?_ ?_
  rotate_left
  · intro w'
    go_simp
    with_reducible rfl
  rotate_left
  · simp only [Act.put, List.setIfInBounds_toArray, List.set_cons_zero, List.set_cons_succ, i64_w, i32_w]
    rfl
  refine take_ (i := 1) (N := (some 6)) (v := ?_) (a' := ?_) #[true, true, true, false, false, true, false, true, false, false, false, false, false] rfl rfl (take_ofW HT_.out HW_.out (by kernel_rfl)) (fun _ _ _ h => h) (Or.inl ⟨by rfl, ?_⟩) hHeld ?_ ?_
  rotate_left
  · rintro w' ⟨_, s2, _⟩
    go_simp
    with_reducible rfl
  rotate_left
  · simp only [Act.put, List.setIfInBounds_toArray, List.set_cons_zero, List.set_cons_succ, i64_w, i32_w]
    rfl
  refine take_ (i := 3) (N := (some 8)) (v := ?_) (a' := ?_) #[true, true, true, true, false, true, false, true, false, false, false, false, false] rfl rfl (take_ofW HT_.out HW_.out (by kernel_rfl)) (fun _ _ _ h => h) (Or.inl ⟨by rfl, ?_⟩) hHeld ?_ ?_
  rotate_left
  · rintro w' ⟨_, _, _, s4, _⟩
    go_simp
    with_reducible rfl
  rotate_left
  · simp only [Act.put, List.setIfInBounds_toArray, List.set_cons_zero, List.set_cons_succ, i64_w, i32_w]
    rfl
  refine take_ (i := 6) (N := (some 11)) (v := ?_) (a' := ?_) #[true, true, true, true, false, true, true, true, false, false, false, false, false] rfl rfl (take_ofW HT_.out HW_.out (by kernel_rfl)) (fun _ _ _ h => h) (Or.inl ⟨by rfl, ?_⟩) hHeld ?_ ?_
  rotate_left
  · rintro w' ⟨s1, _⟩
    go_simp
    with_reducible rfl
  rotate_left
  · simp only [Act.put, List.setIfInBounds_toArray, List.set_cons_zero, List.set_cons_succ, i64_w, i32_w]
    rfl
  refine take_ (i := 8) (N := (some 13)) (v := ?_) (a' := ?_) #[true, true, true, true, false, true, true, true, true, false, false, false, false] rfl rfl (take_ofW HT_.out HW_.out (by kernel_rfl)) (fun _ _ _ h => h) (Or.inl ⟨by rfl, ?_⟩) hHeld ?_ ?_
  rotate_left
  · rintro w' ⟨_, _, s3, _⟩
    go_simp
    with_reducible rfl
  rotate_left
  · simp only [Act.put, List.setIfInBounds_toArray, List.set_cons_zero, List.set_cons_succ, i64_w, i32_w]
    rfl
  refine one_ (i := 4) (N := (some 9)) #[true, true, true, true, true, true, true, true, true, false, false, false, false] rfl rfl (one_of HT_.out (by kernel_rfl)) (by decide) (fun K9 hK => ?_)
  refine goes_ Try.func57 (by kernel_rfl) rfl #[.int .i64 a.2, .int .i64 b.2] (by rfl) rfl rfl (by (try simp only [List.map_toArray, List.map_cons, List.map_nil]); first | done | rfl) ?_
  refine (cmp_held hHeld a.2 b.2).mono ?_
  rintro e w4 ⟨rfl, hH⟩
  refine ⟨_, rfl, ?_⟩
  refine hK.out _ _ hH (fun hHeld => ?_)
  clear hK K9 hH
  refine norm_ (a' := ?_) ?_ ?_
  rotate_left
  · show Act.put _ (some 9) _ = _
    simp only [Act.put, List.setIfInBounds_toArray, List.set_cons_zero, List.set_cons_succ]
    rfl
  refine one_ (i := 9) (N := (some 14)) #[true, true, true, true, true, true, true, true, true, true, false, false, false] rfl rfl (one_of HT_.out (by kernel_rfl)) (by decide) (fun K9 hK => ?_)
  refine goes_ Try.func57 (by kernel_rfl) rfl #[.int .i64 a.1, .int .i64 b.1] (by rfl) rfl rfl (by (try simp only [List.map_toArray, List.map_cons, List.map_nil]); first | done | rfl) ?_
  refine (cmp_held hHeld a.1 b.1).mono ?_
  rintro e w5 ⟨rfl, hH⟩
  refine ⟨_, rfl, ?_⟩
  refine hK.out _ _ hH (fun hHeld => ?_)
  clear hK K9 hH
  refine norm_ (a' := ?_) ?_ ?_
  rotate_left
  · show Act.put _ (some 14) _ = _
    simp only [Act.put, List.setIfInBounds_toArray, List.set_cons_zero, List.set_cons_succ]
    rfl
  refine one_ (i := 10) (N := (some 15)) #[true, true, true, true, true, true, true, true, true, true, true, false, false] rfl rfl (one_of HT_.out (by kernel_rfl)) (by decide) (fun K9 hK => ?_)
  refine value_ (v := .slice (some ⟨w5.heap.size, 0, none⟩) 2 2) (w1 := w5.alloc (.cells #[.int .i64 (cmpI a.2 b.2), .int .i64 (cmpI a.1 b.1)] 3 (0, 0))) (by rfl) rfl (by unfold execOp; go_simp) ?_
  refine hK.out _ _ (aheld_alloc hHeld _) (fun hHeld => ?_)
  clear hK K9
  refine norm_ (a' := ?_) ?_ ?_
  rotate_left
  · show Act.put _ (some 15) _ = _
    simp only [Act.put, List.setIfInBounds_toArray, List.set_cons_zero, List.set_cons_succ]
    rfl
  refine one_ (i := 11) (N := (some 16)) #[true, true, true, true, true, true, true, true, true, true, true, true, false] rfl rfl (one_of HT_.out (by kernel_rfl)) (by decide) (fun K9 hK => ?_)
  refine goes_ Try.func56 (by kernel_rfl) rfl #[.slice (some ⟨w5.heap.size, 0, none⟩) 2 2] (by rfl) rfl rfl (by (try simp only [List.map_toArray, List.map_cons, List.map_nil]); first | done | rfl) ?_
  refine (or_held hHeld (cmpI a.2 b.2) (cmpI a.1 b.1) (aheadI a b) rfl w5.heap.size (blk_new w5 _)).mono ?_
  rintro e w6 ⟨rfl, hH⟩
  refine ⟨_, rfl, ?_⟩
  refine hK.out _ _ hH (fun hHeld => ?_)
  clear hK K9
  have HF := Aside.mk hH
  clear hH
  refine norm_ (a' := ?_) ?_ ?_
  rotate_left
  · show Act.put _ (some 16) _ = _
    simp only [Act.put, List.setIfInBounds_toArray, List.set_cons_zero, List.set_cons_succ]
    rfl
  refine pure_ (i := 12) (N := (some 4)) (v := ?_) (a' := ?_) #[true, true, true, true, true, true, true, true, true, true, true, true, true] rfl rfl (any_of HT_.out (by kernel_rfl)) (fun _ _ _ h => h) (Or.inl ⟨by rfl, ?_⟩) ?_ ?_
  rotate_left
  · intro w'
    go_simp
    with_reducible rfl
  rotate_left
  · simp only [Act.put, List.setIfInBounds_toArray, List.set_cons_zero, List.set_cons_succ, i64_w, i32_w]
    rfl
  refine done_ (done_of HT_.out (by kernel_rfl)) ?_
  clear HT_ HW_ hHeld
  go_wp2_with fail
  go_ret
  exact ⟨rfl, grown_of_below HF.out.2.2.2.2.2.2.1 HF.out.2.2.2.2.2.2.2⟩
end Go.Proofs.Ytjefeoohfalcaaa.C
