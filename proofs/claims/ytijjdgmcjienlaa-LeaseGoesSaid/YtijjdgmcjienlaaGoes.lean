/- The walk of LeaseGoes. -/
import Derived.Test.YtijjdgmcjienlaaIdle
import Derived.Test.YtijjdgmcjienlaaQx13
namespace Go.Proofs.Ytijjdgmcjienlaa.PL
open Go.RowKit Go.Proofs.Ytijjdgmcjienlaa.Q Go.Proofs.YtijjdgmcjienlaaW.PrintWords Go.Proofs.YtijjdgmcjienlaaW.PrintLast Go.Proofs.YtijjdgmcjienlaaW.PrintMore
set_option linter.unusedVariables false
set_option linter.unusedSimpArgs false
def goesT3 : Bool × List (List Nat × List Nat) := (true, [([], []), ([], []), ([], []), ([], []), ([], []), ([0, 1, 2, 3, 4], [0, 1, 2, 3, 4]), ([], []), ([], []), ([], []), ([], []), ([], []), ([6, 7, 8, 9, 10, 5], [6, 7, 8, 9, 10]), ([5, 11, 0, 1, 2, 3, 4, 5], [5]), ([11, 12, 0, 1, 2, 3, 4, 5, 6, 7, 8, 9, 10, 11, 12], [11])])
def goesB3 : List Nat := [0, 0, 0, 0, 0, 31, 0, 0, 0, 0, 0, 2047, 4095, 8191]
theorem goes_tab3 : rtab .any (opsOf Try.f5 3) = goesT3 := by kernel_rfl
theorem goes_bits3 : waitsOk goesT3.2 goesB3 = true := by kernel_rfl
theorem goes_facts (r : Rec) (q : ByteArray) (a b draw : Int) (c : Cfg) (hab : a ≤ b) (h0 : 0 ≤ a) (hm : b ≤ 1125899906842624) :
    (judgeI r true q a draw c = 0 ∧ judgeI r true q b draw c = 0) ∨ (judgeI r true q a draw c = 1 ∧ judgeI r true q b draw c = 1 ∧ judgeI r true q a 0 c = 1) ∨
    (judgeI r true q a draw c = 2 ∧ (judgeI r true q b draw c = 2 ∨ judgeI r true q b draw c = 3 ∨ judgeI r true q b draw c = 4) ∧ (judgeI r true q a 0 c = 2 ∨ judgeI r true q a 0 c = 3)) ∨
    (judgeI r true q a draw c = 3 ∧ (judgeI r true q b draw c = 3 ∨ judgeI r true q b draw c = 4) ∧ judgeI r true q a 0 c = 3) ∨
    (judgeI r true q a draw c = 4 ∧ judgeI r true q b draw c = 4 ∧ judgeI r true q a 0 c = 4) ∨
    (judgeI r true q a draw c = 5 ∧ (judgeI r true q b draw c = 5 ∨ judgeI r true q b draw c = 1) ∧ judgeI r true q a 0 c = 5) := by
  have ra : readB a = true := (read_iff a).2 (by omega)
  have rb : readB b = true := (read_iff b).2 (by omega)
  unfold judgeI
  rw [ra, rb]
  by_cases hG : (cfgB c && (nameB q && (true && ((decide (0 ≤ draw) && decide (draw ≤ c.c4)) && (!true || recB r.p r.e r.a))))) = true
  · simp only [if_pos hG]
    simp only [Bool.and_eq_true, decide_eq_true_eq, Bool.not_true, Bool.false_or] at hG
    obtain ⟨g1, g2, -, ⟨g3, g4⟩, g5⟩ := hG
    have hG0 : (cfgB c && (nameB q && (true && ((decide ((0 : Int) ≤ 0) && decide (0 ≤ c.c4)) && (!true || recB r.p r.e r.a))))) = true := by
      simp only [Bool.and_eq_true, decide_eq_true_eq, Bool.not_true, Bool.false_or]
      exact ⟨g1, g2, trivial, ⟨by omega, by omega⟩, g5⟩
    simp only [if_pos hG0, Bool.true_eq_false, if_false]
    cases hg : r.g with
    | true => simp
    | false =>
      simp only [Bool.false_eq_true, if_false]
      by_cases hp : r.p.toList = q.toList
      · simp only [if_pos hp]
        by_cases c1 : a ≥ r.a + c.c1
        · rw [if_pos c1, if_pos (show b ≥ r.a + c.c1 by omega), if_pos c1]; simp
        · rw [if_neg c1, if_neg c1]
          by_cases c2 : a ≥ r.a + c.c3 + draw
          · rw [if_pos c2, if_pos (show a ≥ r.a + c.c3 + 0 by omega), if_pos (show b ≥ r.a + c.c3 + draw by omega)]
            by_cases c3 : b ≥ r.a + c.c1
            · rw [if_pos c3]; simp
            · rw [if_neg c3]; simp
          · rw [if_neg c2]
            by_cases c3 : b ≥ r.a + c.c1
            · rw [if_pos c3]
              by_cases c4 : a ≥ r.a + c.c3 + 0
              · rw [if_pos c4]; simp
              · rw [if_neg c4]; simp
            · rw [if_neg c3]
              by_cases c4 : a ≥ r.a + c.c3 + 0
              · rw [if_pos c4]
                by_cases c5 : b ≥ r.a + c.c3 + draw
                · rw [if_pos c5]; simp
                · rw [if_neg c5]; simp
              · rw [if_neg c4]
                by_cases c5 : b ≥ r.a + c.c3 + draw
                · rw [if_pos c5]; simp
                · rw [if_neg c5]; simp
      · simp only [if_neg hp]
        by_cases c1 : a ≥ r.a + c.c2
        · rw [if_pos c1, if_pos (show b ≥ r.a + c.c2 by omega)]; simp
        · rw [if_neg c1]
          by_cases c3 : b ≥ r.a + c.c2
          · rw [if_pos c3]; simp
          · rw [if_neg c3]; simp
  · rw [if_neg hG, if_neg hG]
    exact .inl ⟨rfl, rfl⟩
theorem goes_bury (r : Rec) (a b : Int) (c : Cfg) (hab : a ≤ b) (h0 : 0 ≤ a) (hm : b ≤ 1125899906842624) (h : buryB r a c = true) : buryB r b c = true := by
  have ra : readB a = true := (read_iff a).2 (by omega)
  have rb : readB b = true := (read_iff b).2 (by omega)
  unfold buryB mayB at h ⊢
  rw [ra] at h
  rw [rb]
  simp only [Bool.and_eq_true, decide_eq_true_eq] at h ⊢
  exact ⟨h.1, h.2.1, by omega⟩
theorem goes_sweep (r : Rec) (a b : Int) (c : Cfg) (hab : a ≤ b) (h0 : 0 ≤ a) (hm : b ≤ 1125899906842624) (h : sweepB r a c = true) : sweepB r b c = true := by
  have ra : readB a = true := (read_iff a).2 (by omega)
  have rb : readB b = true := (read_iff b).2 (by omega)
  unfold sweepB mayB at h ⊢
  rw [ra] at h
  rw [rb]
  simp only [Bool.and_eq_true, decide_eq_true_eq] at h ⊢
  exact ⟨h.1, h.2.1, by omega⟩
theorem rank_is (x v : Int) (h : batonlaw19_rank.f 3 x = some v) (w : World) : Calls Try.prog 21 #[.int .u8 x] w fun e w' => e = .returned (.int .i64 v) ∧ Below w.heap.size w w' :=
  (batonlaw19_rank.calls 3 x v w h).mono fun e w' ⟨h1, ⟨n, h2⟩⟩ => ⟨h1, by subst h2; exact lease_below_drawn (Below.refl _ _)⟩
set_option maxHeartbeats 16000000 in
set_option maxRecDepth 100000 in
theorem goes_walk (r : Rec) (q : ByteArray) (a b draw : Int) (c : Cfg) (hr : r.p.size ≤ 140737488351232) (hq : q.size ≤ 140737488351232) (hs : Small c) (w : World) :
    Calls Try.prog 5 #[.agg r.arr, .string q, .int .i64 a, .int .i64 b, .int .i64 draw, .agg c.arr] w fun e w' => e = .returned (.bool true) ∧ Below w.heap.size w w' := by
  have hu := Try.underlying23
  go_enter Try.func5, Try.ntmps5
  go_wp2_with (first | ((with_reducible refine gate_load (T := 23) rfl ?_); refine wpList_load_row rfl 23 _ rfl w.heap.size rfl 23 r.arr (0, 0) _ (by with_reducible exact (Two.start w r c).rb) Try.underlying23 rfl (by kernel_rfl) ?_) | ((with_reducible refine gate_load (T := 25) rfl ?_); refine wpList_load_row rfl 25 _ rfl (w.heap.size + 1) rfl 25 c.arr (0, 0) _ (by with_reducible exact (Two.start w r c).cb) Try.underlying25 rfl (by kernel_rfl) ?_))
  cases hl : longB r q c with
  | true =>
    have HL := Aside0.mk hl
    clear hl
    refine (long_calls r q c _ HL.out _).mono ?_
    rintro e w1 ⟨rfl, hb⟩
    have K := Aside0.mk ((Two.start w r c).next hb)
    clear hb
    go_wp2_with fail
    refine (aw_true _).mono ?_
    rintro e w2 ⟨rfl, hb⟩
    have K := Aside0.mk (K.out.next hb)
    clear hb
    go_wp2_with fail
    go_ret
    exact ⟨rfl, K.out.bel⟩
  | false =>
    have HL := Aside0.mk hl
    clear hl
    refine (long_calls r q c _ HL.out _).mono ?_
    rintro e w1 ⟨rfl, hb⟩
    have K := Aside0.mk ((Two.start w r c).next hb)
    clear hb
    go_wp2_with fail
    refine (aw_true _).mono ?_
    rintro e w2 ⟨rfl, hb⟩
    have K := Aside0.mk (K.out.next hb)
    clear hb
    obtain ⟨x, EX⟩ : ∃ j, Aside0 (judgeI r true q a draw c = j) := ⟨_, ⟨rfl⟩⟩
    obtain ⟨y, EY⟩ : ∃ j, Aside0 (judgeI r true q b draw c = j) := ⟨_, ⟨rfl⟩⟩
    go_wp2_with fail
    have K := Aside0.mk (K.out.drew1)
    refine start_ (n := 14) (S := (fun w' => w'.heap[w.heap.size]? = some (.cells r.arr 23 (0, 0)) ∧ w'.heap[w.heap.size + 1]? = some (.cells c.arr 25 (0, 0)) ∧ w'.cell? ⟨w.heap.size, 0, none⟩ = some (.string r.p))) (ds := []) #[false, false, false, false, false, false, false, false, false, false, false, false, false, false] (by kernel_rfl) rfl rfl ⟨K.out.rb, K.out.cb, (blk_cell K.out.rb 0).trans (rec0 r)⟩ (fun hHeld => ?_); refine with_tabW goes_tab3 goes_bits3 (fun HT_ HW_ => ?_)
    generalize hWD : World.drew _ = wD at K hHeld ⊢
    clear hWD
    refine pure_ (i := 1) (N := some 25) (v := ?_) (a' := ?_) #[false, true, false, false, false, false, false, false, false, false, false, false, false, false] rfl rfl (any_of HT_.out (by kernel_rfl)) (fun _ _ _ h => h) (Or.inl ⟨by rfl, ?_⟩) ?_ ?_
    rotate_left
    · intro w'
      go_simp
      with_reducible rfl
    rotate_left
    · simp only [Act.put, List.setIfInBounds_toArray, List.set_cons_zero, List.set_cons_succ, i64_w, i32_w]
      rfl
    refine pure_ (i := 2) (N := some 26) (v := ?_) (a' := ?_) #[false, true, true, false, false, false, false, false, false, false, false, false, false, false] rfl rfl (any_of HT_.out (by kernel_rfl)) (fun _ _ _ h => h) (Or.inl ⟨by rfl, ?_⟩) ?_ ?_
    rotate_left
    · intro w'
      go_simp
      with_reducible rfl
    rotate_left
    · simp only [Act.put, List.setIfInBounds_toArray, List.set_cons_zero, List.set_cons_succ, i64_w, i32_w]
      rfl
    refine pure_ (i := 3) (N := some 27) (v := ?_) (a' := ?_) #[false, true, true, true, false, false, false, false, false, false, false, false, false, false] rfl rfl (any_of HT_.out (by kernel_rfl)) (fun _ _ _ h => h) (Or.inl ⟨by rfl, ?_⟩) ?_ ?_
    rotate_left
    · intro w'
      go_simp
      with_reducible rfl
    rotate_left
    · simp only [Act.put, List.setIfInBounds_toArray, List.set_cons_zero, List.set_cons_succ, i64_w, i32_w]
      rfl
    refine pure_ (i := 7) (N := some 31) (v := ?_) (a' := ?_) #[false, true, true, true, false, false, false, true, false, false, false, false, false, false] rfl rfl (any_of HT_.out (by kernel_rfl)) (fun _ _ _ h => h) (Or.inl ⟨by rfl, ?_⟩) ?_ ?_
    rotate_left
    · intro w'
      go_simp
      with_reducible rfl
    rotate_left
    · simp only [Act.put, List.setIfInBounds_toArray, List.set_cons_zero, List.set_cons_succ, i64_w, i32_w]
      rfl
    refine pure_ (i := 8) (N := some 32) (v := ?_) (a' := ?_) #[false, true, true, true, false, false, false, true, true, false, false, false, false, false] rfl rfl (any_of HT_.out (by kernel_rfl)) (fun _ _ _ h => h) (Or.inl ⟨by rfl, ?_⟩) ?_ ?_
    rotate_left
    · intro w'
      go_simp
      with_reducible rfl
    rotate_left
    · simp only [Act.put, List.setIfInBounds_toArray, List.set_cons_zero, List.set_cons_succ, i64_w, i32_w]
      rfl
    refine pure_ (i := 9) (N := some 33) (v := ?_) (a' := ?_) #[false, true, true, true, false, false, false, true, true, true, false, false, false, false] rfl rfl (any_of HT_.out (by kernel_rfl)) (fun _ _ _ h => h) (Or.inl ⟨by rfl, ?_⟩) ?_ ?_
    rotate_left
    · intro w'
      go_simp
      with_reducible rfl
    rotate_left
    · simp only [Act.put, List.setIfInBounds_toArray, List.set_cons_zero, List.set_cons_succ, i64_w, i32_w]
      rfl
    refine take_ (i := 0) (N := some 24) (v := .agg r.arr) (a' := ?_) #[true, true, true, true, false, false, false, true, true, true, false, false, false, false] rfl rfl (take_ofW HT_.out HW_.out (by kernel_rfl)) (fun _ _ _ h => h) (yields_row 23 _ rfl w.heap.size rfl 23 r.arr (0, 0) _ (fun _ h => h.1) Try.underlying23 rfl (by kernel_rfl) (by rfl)) hHeld ?_ ?_
    rotate_left
    · simp only [Act.put, List.setIfInBounds_toArray, List.set_cons_zero, List.set_cons_succ, i64_w, i32_w]
      rfl
    refine take_ (i := 4) (N := some 28) (v := .agg c.arr) (a' := ?_) #[true, true, true, true, true, false, false, true, true, true, false, false, false, false] rfl rfl (take_ofW HT_.out HW_.out (by kernel_rfl)) (fun _ _ _ h => h) (yields_row 25 _ rfl (w.heap.size + 1) rfl 25 c.arr (0, 0) _ (fun _ h => h.2.1) Try.underlying25 rfl (by kernel_rfl) (by rfl)) hHeld ?_ ?_
    rotate_left
    · simp only [Act.put, List.setIfInBounds_toArray, List.set_cons_zero, List.set_cons_succ, i64_w, i32_w]
      rfl
    refine take_ (i := 6) (N := some 30) (v := .agg r.arr) (a' := ?_) #[true, true, true, true, true, false, true, true, true, true, false, false, false, false] rfl rfl (take_ofW HT_.out HW_.out (by kernel_rfl)) (fun _ _ _ h => h) (yields_row 23 _ rfl w.heap.size rfl 23 r.arr (0, 0) _ (fun _ h => h.1) Try.underlying23 rfl (by kernel_rfl) (by rfl)) hHeld ?_ ?_
    rotate_left
    · simp only [Act.put, List.setIfInBounds_toArray, List.set_cons_zero, List.set_cons_succ, i64_w, i32_w]
      rfl
    refine take_ (i := 10) (N := some 34) (v := .agg c.arr) (a' := ?_) #[true, true, true, true, true, false, true, true, true, true, true, false, false, false] rfl rfl (take_ofW HT_.out HW_.out (by kernel_rfl)) (fun _ _ _ h => h) (yields_row 25 _ rfl (w.heap.size + 1) rfl 25 c.arr (0, 0) _ (fun _ h => h.2.1) Try.underlying25 rfl (by kernel_rfl) (by rfl)) hHeld ?_ ?_
    rotate_left
    · simp only [Act.put, List.setIfInBounds_toArray, List.set_cons_zero, List.set_cons_succ, i64_w, i32_w]
      rfl
    refine one_ (i := 5) (N := some 29) #[true, true, true, true, true, true, true, true, true, true, true, false, false, false] rfl rfl (one_of HT_.out (by kernel_rfl)) (by decide) (fun K9 hK => ?_)
    refine goes_ Try.func13 (by kernel_rfl) rfl #[.agg r.arr, .bool true, .string q, .int .i64 a, .int .i64 draw, .agg c.arr] (by rfl) rfl rfl (by (try simp only [List.map_toArray, List.map_cons, List.map_nil]); first | done | rfl) ?_
    refine (judge_is r true q a draw c hr hq hs _ _ EX.out).mono ?_
    rintro e w4 ⟨rfl, hb⟩
    refine ⟨_, rfl, ?_⟩
    have K := Aside0.mk (K.out.next hb)
    clear hb
    refine hK.out _ _ ⟨K.out.rb, K.out.cb, (blk_cell K.out.rb 0).trans (rec0 r)⟩ (fun hHeld => ?_)
    clear hK K9
    refine norm_ (a' := ?_) ?_ ?_
    rotate_left
    · show Act.put _ (some 29) _ = _
      simp only [Act.put, List.setIfInBounds_toArray, List.set_cons_zero, List.set_cons_succ, i64_w, i32_w]
      rfl
    refine one_ (i := 11) (N := some 35) #[true, true, true, true, true, true, true, true, true, true, true, true, false, false] rfl rfl (one_of HT_.out (by kernel_rfl)) (by decide) (fun K9 hK => ?_)
    refine goes_ Try.func13 (by kernel_rfl) rfl #[.agg r.arr, .bool true, .string q, .int .i64 b, .int .i64 draw, .agg c.arr] (by rfl) rfl rfl (by (try simp only [List.map_toArray, List.map_cons, List.map_nil]); first | done | rfl) ?_
    refine (judge_is r true q b draw c hr hq hs _ _ EY.out).mono ?_
    rintro e w5 ⟨rfl, hb⟩
    refine ⟨_, rfl, ?_⟩
    have K := Aside0.mk (K.out.next hb)
    clear hb
    refine hK.out _ _ ⟨K.out.rb, K.out.cb, (blk_cell K.out.rb 0).trans (rec0 r)⟩ (fun hHeld => ?_)
    clear hK K9
    refine norm_ (a' := ?_) ?_ ?_
    rotate_left
    · show Act.put _ (some 35) _ = _
      simp only [Act.put, List.setIfInBounds_toArray, List.set_cons_zero, List.set_cons_succ, i64_w, i32_w]
      rfl
    refine pure_ (i := 12) (N := some 13) (v := ?_) (a' := ?_) #[true, true, true, true, true, true, true, true, true, true, true, true, true, false] rfl rfl (any_of HT_.out (by kernel_rfl)) (fun _ _ _ h => h) (Or.inl ⟨by rfl, ?_⟩) ?_ ?_
    rotate_left
    · intro w'
      go_simp
      with_reducible rfl
    rotate_left
    · simp only [Act.put, List.setIfInBounds_toArray, List.set_cons_zero, List.set_cons_succ, i64_w, i32_w]
      rfl
    refine pure_ (i := 13) (N := some 14) (v := ?_) (a' := ?_) #[true, true, true, true, true, true, true, true, true, true, true, true, true, true] rfl rfl (any_of HT_.out (by kernel_rfl)) (fun _ _ _ h => h) (Or.inl ⟨by rfl, ?_⟩) ?_ ?_
    rotate_left
    · intro w'
      go_simp
      with_reducible rfl
    rotate_left
    · simp only [Act.put, List.setIfInBounds_toArray, List.set_cons_zero, List.set_cons_succ, i64_w, i32_w]
      rfl
    refine done_ (done_of HT_.out (by kernel_rfl)) ?_
    clear HT_ HW_ hHeld
    cases h1 : decide (b < a) with
    | true =>
      go_wp2_with fail
      go_ret
      exact ⟨by first | rfl | (simp; done), K.out.bel⟩
    | false =>
      cases h2 : decide (a < 0) with
      | true =>
        go_wp2_with fail
        go_ret
        exact ⟨by first | rfl | (simp; done), K.out.bel⟩
      | false =>
        cases h3 : decide (1125899906842624 < b) with
        | true =>
          go_wp2_with fail
          go_ret
          exact ⟨by first | rfl | (simp; done), K.out.bel⟩
        | false =>
          go_upto_region 6 with fail
          have k1 : a ≤ b := by have := of_decide_eq_false h1; omega
          have k2 : 0 ≤ a := by have := of_decide_eq_false h2; omega
          have k3 : b ≤ 1125899906842624 := by have := of_decide_eq_false h3; omega
          clear h1 h2 h3
          have hf := goes_facts r q a b draw c k1 k2 k3
          have hb1 := goes_bury r a b c k1 k2 k3
          have hs1 := goes_sweep r a b c k1 k2 k3
          clear k1 k2 k3
          obtain ⟨j, E0⟩ : ∃ j, Aside0 (judgeI r true q a 0 c = j) := ⟨_, ⟨rfl⟩⟩
          obtain ⟨ua, EBA⟩ : ∃ j, Aside0 (buryB r a c = j) := ⟨_, ⟨rfl⟩⟩
          obtain ⟨ub, EBB⟩ : ∃ j, Aside0 (buryB r b c = j) := ⟨_, ⟨rfl⟩⟩
          obtain ⟨va, ESA⟩ : ∃ j, Aside0 (sweepB r a c = j) := ⟨_, ⟨rfl⟩⟩
          obtain ⟨vb, ESB⟩ : ∃ j, Aside0 (sweepB r b c = j) := ⟨_, ⟨rfl⟩⟩
          rw [EX.out, EY.out, E0.out] at hf
          rw [EBA.out, EBB.out] at hb1
          rw [ESA.out, ESB.out] at hs1
          have HB := Aside0.mk hb1
          have HS := Aside0.mk hs1
          clear hb1 hs1
          rcases hf with ⟨rfl, rfl⟩ | ⟨rfl, rfl, rfl⟩ | ⟨rfl, hy, hj⟩ | ⟨rfl, hy, rfl⟩ | ⟨rfl, rfl, rfl⟩ | ⟨rfl, hy, rfl⟩
          · go_wp2_with fail
            refine (rank_is 0 0 (by rfl) _).mono ?_
            rintro e w6 ⟨rfl, hb⟩
            have K := Aside0.mk (K.out.next hb)
            clear hb
            go_wp2_with fail
            refine (rank_is 0 0 (by rfl) _).mono ?_
            rintro e w7 ⟨rfl, hb⟩
            have K := Aside0.mk (K.out.next hb)
            clear hb
            go_wp2_with (first | ((with_reducible refine gate_dst (N := 60) rfl ?_); refine gate_guard (by rfl) ?_; dsimp only; refine wpList_load_row rfl 23 _ rfl w.heap.size rfl 23 r.arr (0, 0) _ (by with_reducible exact K.out.rb) Try.underlying23 rfl (by kernel_rfl) ?_) | ((with_reducible refine gate_dst (N := 62) rfl ?_); refine gate_guard (by rfl) ?_; dsimp only; refine wpList_load_row rfl 25 _ rfl (w.heap.size + 1) rfl 25 c.arr (0, 0) _ (by with_reducible exact K.out.cb) Try.underlying25 rfl (by kernel_rfl) ?_))
            refine (bury_is r a c hr hs _ _ EBA.out).mono ?_
            rintro e w8 ⟨rfl, hb⟩
            have K := Aside0.mk (K.out.next hb)
            clear hb
            cases ua with
            | false =>
              go_wp2_with (first | ((with_reducible refine gate_dst (N := 73) rfl ?_); refine gate_guard (by rfl) ?_; dsimp only; refine wpList_load_row rfl 23 _ rfl w.heap.size rfl 23 r.arr (0, 0) _ (by with_reducible exact K.out.rb) Try.underlying23 rfl (by kernel_rfl) ?_) | ((with_reducible refine gate_dst (N := 75) rfl ?_); refine gate_guard (by rfl) ?_; dsimp only; refine wpList_load_row rfl 25 _ rfl (w.heap.size + 1) rfl 25 c.arr (0, 0) _ (by with_reducible exact K.out.cb) Try.underlying25 rfl (by kernel_rfl) ?_))
              refine (sweep_is r a c hr hs _ _ ESA.out).mono ?_
              rintro e w9 ⟨rfl, hb⟩
              have K := Aside0.mk (K.out.next hb)
              clear hb
              cases va with
              | false =>
                go_wp2_with (first | ((with_reducible refine gate_dst (N := 85) rfl ?_); refine wpList_load_row rfl 23 _ rfl w.heap.size rfl 23 r.arr (0, 0) _ (by with_reducible exact K.out.rb) Try.underlying23 rfl (by kernel_rfl) ?_) | ((with_reducible refine gate_dst (N := 88) rfl ?_); refine wpList_load_row rfl 25 _ rfl (w.heap.size + 1) rfl 25 c.arr (0, 0) _ (by with_reducible exact K.out.cb) Try.underlying25 rfl (by kernel_rfl) ?_))
                refine (judge_is r true q a 0 c hr hq hs _ _ E0.out).mono ?_
                rintro e w10 ⟨rfl, hb⟩
                have K := Aside0.mk (K.out.next hb)
                clear hb
                by_cases hj : j = 0
                · subst hj
                  go_wp2_with fail
                  go_ret
                  exact ⟨by first | rfl | (simp; done), K.out.bel⟩
                · have hj2 : (j == 0) = false := by simpa using hj
                  clear hj
                  go_wp2_with fail
                  go_ret
                  exact ⟨by first | rfl | (simp; done), K.out.bel⟩
              | true =>
                have vbt := HS.out rfl
                subst vbt
                go_wp2_with (first | ((with_reducible refine gate_dst (N := 78) rfl ?_); refine gate_guard (by rfl) ?_; dsimp only; refine wpList_load_row rfl 23 _ rfl w.heap.size rfl 23 r.arr (0, 0) _ (by with_reducible exact K.out.rb) Try.underlying23 rfl (by kernel_rfl) ?_) | ((with_reducible refine gate_dst (N := 80) rfl ?_); refine gate_guard (by rfl) ?_; dsimp only; refine wpList_load_row rfl 25 _ rfl (w.heap.size + 1) rfl 25 c.arr (0, 0) _ (by with_reducible exact K.out.cb) Try.underlying25 rfl (by kernel_rfl) ?_))
                refine (sweep_is r b c hr hs _ _ ESB.out).mono ?_
                rintro e w10 ⟨rfl, hb⟩
                have K := Aside0.mk (K.out.next hb)
                clear hb
                go_wp2_with (first | ((with_reducible refine gate_dst (N := 85) rfl ?_); refine wpList_load_row rfl 23 _ rfl w.heap.size rfl 23 r.arr (0, 0) _ (by with_reducible exact K.out.rb) Try.underlying23 rfl (by kernel_rfl) ?_) | ((with_reducible refine gate_dst (N := 88) rfl ?_); refine wpList_load_row rfl 25 _ rfl (w.heap.size + 1) rfl 25 c.arr (0, 0) _ (by with_reducible exact K.out.cb) Try.underlying25 rfl (by kernel_rfl) ?_))
                refine (judge_is r true q a 0 c hr hq hs _ _ E0.out).mono ?_
                rintro e w11 ⟨rfl, hb⟩
                have K := Aside0.mk (K.out.next hb)
                clear hb
                by_cases hj : j = 0
                · subst hj
                  go_wp2_with fail
                  go_ret
                  exact ⟨by first | rfl | (simp; done), K.out.bel⟩
                · have hj2 : (j == 0) = false := by simpa using hj
                  clear hj
                  go_wp2_with fail
                  go_ret
                  exact ⟨by first | rfl | (simp; done), K.out.bel⟩
            | true =>
              have ubt := HB.out rfl
              subst ubt
              go_wp2_with (first | ((with_reducible refine gate_dst (N := 65) rfl ?_); refine gate_guard (by rfl) ?_; dsimp only; refine wpList_load_row rfl 23 _ rfl w.heap.size rfl 23 r.arr (0, 0) _ (by with_reducible exact K.out.rb) Try.underlying23 rfl (by kernel_rfl) ?_) | ((with_reducible refine gate_dst (N := 67) rfl ?_); refine gate_guard (by rfl) ?_; dsimp only; refine wpList_load_row rfl 25 _ rfl (w.heap.size + 1) rfl 25 c.arr (0, 0) _ (by with_reducible exact K.out.cb) Try.underlying25 rfl (by kernel_rfl) ?_))
              refine (bury_is r b c hr hs _ _ EBB.out).mono ?_
              rintro e w9 ⟨rfl, hb⟩
              have K := Aside0.mk (K.out.next hb)
              clear hb
              go_wp2_with (first | ((with_reducible refine gate_dst (N := 73) rfl ?_); refine gate_guard (by rfl) ?_; dsimp only; refine wpList_load_row rfl 23 _ rfl w.heap.size rfl 23 r.arr (0, 0) _ (by with_reducible exact K.out.rb) Try.underlying23 rfl (by kernel_rfl) ?_) | ((with_reducible refine gate_dst (N := 75) rfl ?_); refine gate_guard (by rfl) ?_; dsimp only; refine wpList_load_row rfl 25 _ rfl (w.heap.size + 1) rfl 25 c.arr (0, 0) _ (by with_reducible exact K.out.cb) Try.underlying25 rfl (by kernel_rfl) ?_))
              refine (sweep_is r a c hr hs _ _ ESA.out).mono ?_
              rintro e w10 ⟨rfl, hb⟩
              have K := Aside0.mk (K.out.next hb)
              clear hb
              cases va with
              | false =>
                go_wp2_with (first | ((with_reducible refine gate_dst (N := 85) rfl ?_); refine wpList_load_row rfl 23 _ rfl w.heap.size rfl 23 r.arr (0, 0) _ (by with_reducible exact K.out.rb) Try.underlying23 rfl (by kernel_rfl) ?_) | ((with_reducible refine gate_dst (N := 88) rfl ?_); refine wpList_load_row rfl 25 _ rfl (w.heap.size + 1) rfl 25 c.arr (0, 0) _ (by with_reducible exact K.out.cb) Try.underlying25 rfl (by kernel_rfl) ?_))
                refine (judge_is r true q a 0 c hr hq hs _ _ E0.out).mono ?_
                rintro e w11 ⟨rfl, hb⟩
                have K := Aside0.mk (K.out.next hb)
                clear hb
                by_cases hj : j = 0
                · subst hj
                  go_wp2_with fail
                  go_ret
                  exact ⟨by first | rfl | (simp; done), K.out.bel⟩
                · have hj2 : (j == 0) = false := by simpa using hj
                  clear hj
                  go_wp2_with fail
                  go_ret
                  exact ⟨by first | rfl | (simp; done), K.out.bel⟩
              | true =>
                have vbt := HS.out rfl
                subst vbt
                go_wp2_with (first | ((with_reducible refine gate_dst (N := 78) rfl ?_); refine gate_guard (by rfl) ?_; dsimp only; refine wpList_load_row rfl 23 _ rfl w.heap.size rfl 23 r.arr (0, 0) _ (by with_reducible exact K.out.rb) Try.underlying23 rfl (by kernel_rfl) ?_) | ((with_reducible refine gate_dst (N := 80) rfl ?_); refine gate_guard (by rfl) ?_; dsimp only; refine wpList_load_row rfl 25 _ rfl (w.heap.size + 1) rfl 25 c.arr (0, 0) _ (by with_reducible exact K.out.cb) Try.underlying25 rfl (by kernel_rfl) ?_))
                refine (sweep_is r b c hr hs _ _ ESB.out).mono ?_
                rintro e w11 ⟨rfl, hb⟩
                have K := Aside0.mk (K.out.next hb)
                clear hb
                go_wp2_with (first | ((with_reducible refine gate_dst (N := 85) rfl ?_); refine wpList_load_row rfl 23 _ rfl w.heap.size rfl 23 r.arr (0, 0) _ (by with_reducible exact K.out.rb) Try.underlying23 rfl (by kernel_rfl) ?_) | ((with_reducible refine gate_dst (N := 88) rfl ?_); refine wpList_load_row rfl 25 _ rfl (w.heap.size + 1) rfl 25 c.arr (0, 0) _ (by with_reducible exact K.out.cb) Try.underlying25 rfl (by kernel_rfl) ?_))
                refine (judge_is r true q a 0 c hr hq hs _ _ E0.out).mono ?_
                rintro e w12 ⟨rfl, hb⟩
                have K := Aside0.mk (K.out.next hb)
                clear hb
                by_cases hj : j = 0
                · subst hj
                  go_wp2_with fail
                  go_ret
                  exact ⟨by first | rfl | (simp; done), K.out.bel⟩
                · have hj2 : (j == 0) = false := by simpa using hj
                  clear hj
                  go_wp2_with fail
                  go_ret
                  exact ⟨by first | rfl | (simp; done), K.out.bel⟩
          · go_wp2_with fail
            refine (rank_is 1 2 (by rfl) _).mono ?_
            rintro e w6 ⟨rfl, hb⟩
            have K := Aside0.mk (K.out.next hb)
            clear hb
            go_wp2_with fail
            refine (rank_is 1 2 (by rfl) _).mono ?_
            rintro e w7 ⟨rfl, hb⟩
            have K := Aside0.mk (K.out.next hb)
            clear hb
            go_wp2_with (first | ((with_reducible refine gate_dst (N := 60) rfl ?_); refine gate_guard (by rfl) ?_; dsimp only; refine wpList_load_row rfl 23 _ rfl w.heap.size rfl 23 r.arr (0, 0) _ (by with_reducible exact K.out.rb) Try.underlying23 rfl (by kernel_rfl) ?_) | ((with_reducible refine gate_dst (N := 62) rfl ?_); refine gate_guard (by rfl) ?_; dsimp only; refine wpList_load_row rfl 25 _ rfl (w.heap.size + 1) rfl 25 c.arr (0, 0) _ (by with_reducible exact K.out.cb) Try.underlying25 rfl (by kernel_rfl) ?_))
            refine (bury_is r a c hr hs _ _ EBA.out).mono ?_
            rintro e w8 ⟨rfl, hb⟩
            have K := Aside0.mk (K.out.next hb)
            clear hb
            cases ua with
            | false =>
              go_wp2_with (first | ((with_reducible refine gate_dst (N := 73) rfl ?_); refine gate_guard (by rfl) ?_; dsimp only; refine wpList_load_row rfl 23 _ rfl w.heap.size rfl 23 r.arr (0, 0) _ (by with_reducible exact K.out.rb) Try.underlying23 rfl (by kernel_rfl) ?_) | ((with_reducible refine gate_dst (N := 75) rfl ?_); refine gate_guard (by rfl) ?_; dsimp only; refine wpList_load_row rfl 25 _ rfl (w.heap.size + 1) rfl 25 c.arr (0, 0) _ (by with_reducible exact K.out.cb) Try.underlying25 rfl (by kernel_rfl) ?_))
              refine (sweep_is r a c hr hs _ _ ESA.out).mono ?_
              rintro e w9 ⟨rfl, hb⟩
              have K := Aside0.mk (K.out.next hb)
              clear hb
              cases va with
              | false =>
                go_wp2_with (first | ((with_reducible refine gate_dst (N := 85) rfl ?_); refine wpList_load_row rfl 23 _ rfl w.heap.size rfl 23 r.arr (0, 0) _ (by with_reducible exact K.out.rb) Try.underlying23 rfl (by kernel_rfl) ?_) | ((with_reducible refine gate_dst (N := 88) rfl ?_); refine wpList_load_row rfl 25 _ rfl (w.heap.size + 1) rfl 25 c.arr (0, 0) _ (by with_reducible exact K.out.cb) Try.underlying25 rfl (by kernel_rfl) ?_))
                refine (judge_is r true q a 0 c hr hq hs _ _ E0.out).mono ?_
                rintro e w10 ⟨rfl, hb⟩
                have K := Aside0.mk (K.out.next hb)
                clear hb
                go_wp2_with fail
                go_ret
                exact ⟨by first | rfl | (simp; done), K.out.bel⟩
              | true =>
                have vbt := HS.out rfl
                subst vbt
                go_wp2_with (first | ((with_reducible refine gate_dst (N := 78) rfl ?_); refine gate_guard (by rfl) ?_; dsimp only; refine wpList_load_row rfl 23 _ rfl w.heap.size rfl 23 r.arr (0, 0) _ (by with_reducible exact K.out.rb) Try.underlying23 rfl (by kernel_rfl) ?_) | ((with_reducible refine gate_dst (N := 80) rfl ?_); refine gate_guard (by rfl) ?_; dsimp only; refine wpList_load_row rfl 25 _ rfl (w.heap.size + 1) rfl 25 c.arr (0, 0) _ (by with_reducible exact K.out.cb) Try.underlying25 rfl (by kernel_rfl) ?_))
                refine (sweep_is r b c hr hs _ _ ESB.out).mono ?_
                rintro e w10 ⟨rfl, hb⟩
                have K := Aside0.mk (K.out.next hb)
                clear hb
                go_wp2_with (first | ((with_reducible refine gate_dst (N := 85) rfl ?_); refine wpList_load_row rfl 23 _ rfl w.heap.size rfl 23 r.arr (0, 0) _ (by with_reducible exact K.out.rb) Try.underlying23 rfl (by kernel_rfl) ?_) | ((with_reducible refine gate_dst (N := 88) rfl ?_); refine wpList_load_row rfl 25 _ rfl (w.heap.size + 1) rfl 25 c.arr (0, 0) _ (by with_reducible exact K.out.cb) Try.underlying25 rfl (by kernel_rfl) ?_))
                refine (judge_is r true q a 0 c hr hq hs _ _ E0.out).mono ?_
                rintro e w11 ⟨rfl, hb⟩
                have K := Aside0.mk (K.out.next hb)
                clear hb
                go_wp2_with fail
                go_ret
                exact ⟨by first | rfl | (simp; done), K.out.bel⟩
            | true =>
              have ubt := HB.out rfl
              subst ubt
              go_wp2_with (first | ((with_reducible refine gate_dst (N := 65) rfl ?_); refine gate_guard (by rfl) ?_; dsimp only; refine wpList_load_row rfl 23 _ rfl w.heap.size rfl 23 r.arr (0, 0) _ (by with_reducible exact K.out.rb) Try.underlying23 rfl (by kernel_rfl) ?_) | ((with_reducible refine gate_dst (N := 67) rfl ?_); refine gate_guard (by rfl) ?_; dsimp only; refine wpList_load_row rfl 25 _ rfl (w.heap.size + 1) rfl 25 c.arr (0, 0) _ (by with_reducible exact K.out.cb) Try.underlying25 rfl (by kernel_rfl) ?_))
              refine (bury_is r b c hr hs _ _ EBB.out).mono ?_
              rintro e w9 ⟨rfl, hb⟩
              have K := Aside0.mk (K.out.next hb)
              clear hb
              go_wp2_with (first | ((with_reducible refine gate_dst (N := 73) rfl ?_); refine gate_guard (by rfl) ?_; dsimp only; refine wpList_load_row rfl 23 _ rfl w.heap.size rfl 23 r.arr (0, 0) _ (by with_reducible exact K.out.rb) Try.underlying23 rfl (by kernel_rfl) ?_) | ((with_reducible refine gate_dst (N := 75) rfl ?_); refine gate_guard (by rfl) ?_; dsimp only; refine wpList_load_row rfl 25 _ rfl (w.heap.size + 1) rfl 25 c.arr (0, 0) _ (by with_reducible exact K.out.cb) Try.underlying25 rfl (by kernel_rfl) ?_))
              refine (sweep_is r a c hr hs _ _ ESA.out).mono ?_
              rintro e w10 ⟨rfl, hb⟩
              have K := Aside0.mk (K.out.next hb)
              clear hb
              cases va with
              | false =>
                go_wp2_with (first | ((with_reducible refine gate_dst (N := 85) rfl ?_); refine wpList_load_row rfl 23 _ rfl w.heap.size rfl 23 r.arr (0, 0) _ (by with_reducible exact K.out.rb) Try.underlying23 rfl (by kernel_rfl) ?_) | ((with_reducible refine gate_dst (N := 88) rfl ?_); refine wpList_load_row rfl 25 _ rfl (w.heap.size + 1) rfl 25 c.arr (0, 0) _ (by with_reducible exact K.out.cb) Try.underlying25 rfl (by kernel_rfl) ?_))
                refine (judge_is r true q a 0 c hr hq hs _ _ E0.out).mono ?_
                rintro e w11 ⟨rfl, hb⟩
                have K := Aside0.mk (K.out.next hb)
                clear hb
                go_wp2_with fail
                go_ret
                exact ⟨by first | rfl | (simp; done), K.out.bel⟩
              | true =>
                have vbt := HS.out rfl
                subst vbt
                go_wp2_with (first | ((with_reducible refine gate_dst (N := 78) rfl ?_); refine gate_guard (by rfl) ?_; dsimp only; refine wpList_load_row rfl 23 _ rfl w.heap.size rfl 23 r.arr (0, 0) _ (by with_reducible exact K.out.rb) Try.underlying23 rfl (by kernel_rfl) ?_) | ((with_reducible refine gate_dst (N := 80) rfl ?_); refine gate_guard (by rfl) ?_; dsimp only; refine wpList_load_row rfl 25 _ rfl (w.heap.size + 1) rfl 25 c.arr (0, 0) _ (by with_reducible exact K.out.cb) Try.underlying25 rfl (by kernel_rfl) ?_))
                refine (sweep_is r b c hr hs _ _ ESB.out).mono ?_
                rintro e w11 ⟨rfl, hb⟩
                have K := Aside0.mk (K.out.next hb)
                clear hb
                go_wp2_with (first | ((with_reducible refine gate_dst (N := 85) rfl ?_); refine wpList_load_row rfl 23 _ rfl w.heap.size rfl 23 r.arr (0, 0) _ (by with_reducible exact K.out.rb) Try.underlying23 rfl (by kernel_rfl) ?_) | ((with_reducible refine gate_dst (N := 88) rfl ?_); refine wpList_load_row rfl 25 _ rfl (w.heap.size + 1) rfl 25 c.arr (0, 0) _ (by with_reducible exact K.out.cb) Try.underlying25 rfl (by kernel_rfl) ?_))
                refine (judge_is r true q a 0 c hr hq hs _ _ E0.out).mono ?_
                rintro e w12 ⟨rfl, hb⟩
                have K := Aside0.mk (K.out.next hb)
                clear hb
                go_wp2_with fail
                go_ret
                exact ⟨by first | rfl | (simp; done), K.out.bel⟩
          · have HJ := Aside0.mk hj
            clear hj
            rcases hy with rfl | rfl | rfl
            · go_wp2_with fail
              refine (rank_is 2 1 (by rfl) _).mono ?_
              rintro e w6 ⟨rfl, hb⟩
              have K := Aside0.mk (K.out.next hb)
              clear hb
              go_wp2_with fail
              refine (rank_is 2 1 (by rfl) _).mono ?_
              rintro e w7 ⟨rfl, hb⟩
              have K := Aside0.mk (K.out.next hb)
              clear hb
              go_wp2_with (first | ((with_reducible refine gate_dst (N := 60) rfl ?_); refine gate_guard (by rfl) ?_; dsimp only; refine wpList_load_row rfl 23 _ rfl w.heap.size rfl 23 r.arr (0, 0) _ (by with_reducible exact K.out.rb) Try.underlying23 rfl (by kernel_rfl) ?_) | ((with_reducible refine gate_dst (N := 62) rfl ?_); refine gate_guard (by rfl) ?_; dsimp only; refine wpList_load_row rfl 25 _ rfl (w.heap.size + 1) rfl 25 c.arr (0, 0) _ (by with_reducible exact K.out.cb) Try.underlying25 rfl (by kernel_rfl) ?_))
              refine (bury_is r a c hr hs _ _ EBA.out).mono ?_
              rintro e w8 ⟨rfl, hb⟩
              have K := Aside0.mk (K.out.next hb)
              clear hb
              cases ua with
              | false =>
                go_wp2_with (first | ((with_reducible refine gate_dst (N := 73) rfl ?_); refine gate_guard (by rfl) ?_; dsimp only; refine wpList_load_row rfl 23 _ rfl w.heap.size rfl 23 r.arr (0, 0) _ (by with_reducible exact K.out.rb) Try.underlying23 rfl (by kernel_rfl) ?_) | ((with_reducible refine gate_dst (N := 75) rfl ?_); refine gate_guard (by rfl) ?_; dsimp only; refine wpList_load_row rfl 25 _ rfl (w.heap.size + 1) rfl 25 c.arr (0, 0) _ (by with_reducible exact K.out.cb) Try.underlying25 rfl (by kernel_rfl) ?_))
                refine (sweep_is r a c hr hs _ _ ESA.out).mono ?_
                rintro e w9 ⟨rfl, hb⟩
                have K := Aside0.mk (K.out.next hb)
                clear hb
                cases va with
                | false =>
                  go_wp2_with (first | ((with_reducible refine gate_dst (N := 85) rfl ?_); refine wpList_load_row rfl 23 _ rfl w.heap.size rfl 23 r.arr (0, 0) _ (by with_reducible exact K.out.rb) Try.underlying23 rfl (by kernel_rfl) ?_) | ((with_reducible refine gate_dst (N := 88) rfl ?_); refine wpList_load_row rfl 25 _ rfl (w.heap.size + 1) rfl 25 c.arr (0, 0) _ (by with_reducible exact K.out.cb) Try.underlying25 rfl (by kernel_rfl) ?_))
                  refine (judge_is r true q a 0 c hr hq hs _ _ E0.out).mono ?_
                  rintro e w10 ⟨rfl, hb⟩
                  have K := Aside0.mk (K.out.next hb)
                  clear hb
                  rcases HJ.out with rfl | rfl
                  · go_wp2_with fail
                    go_ret
                    exact ⟨by first | rfl | (simp; done), K.out.bel⟩
                  · go_wp2_with (first | ((with_reducible refine gate_dst (N := 96) rfl ?_); refine gate_guard (by rfl) ?_; dsimp only; refine wpList_load_row rfl 23 _ rfl w.heap.size rfl 23 r.arr (0, 0) _ (by with_reducible exact K.out.rb) Try.underlying23 rfl (by kernel_rfl) ?_) | ((with_reducible refine gate_dst (N := 99) rfl ?_); refine gate_guard (by rfl) ?_; dsimp only; refine wpList_load_row rfl 25 _ rfl (w.heap.size + 1) rfl 25 c.arr (0, 0) _ (by with_reducible exact K.out.cb) Try.underlying25 rfl (by kernel_rfl) ?_))
                    refine (judge_is r true q a 0 c hr hq hs _ _ E0.out).mono ?_
                    rintro e w11 ⟨rfl, hb⟩
                    have K := Aside0.mk (K.out.next hb)
                    clear hb
                    go_wp2_with fail
                    go_ret
                    exact ⟨by first | rfl | (simp; done), K.out.bel⟩
                | true =>
                  have vbt := HS.out rfl
                  subst vbt
                  go_wp2_with (first | ((with_reducible refine gate_dst (N := 78) rfl ?_); refine gate_guard (by rfl) ?_; dsimp only; refine wpList_load_row rfl 23 _ rfl w.heap.size rfl 23 r.arr (0, 0) _ (by with_reducible exact K.out.rb) Try.underlying23 rfl (by kernel_rfl) ?_) | ((with_reducible refine gate_dst (N := 80) rfl ?_); refine gate_guard (by rfl) ?_; dsimp only; refine wpList_load_row rfl 25 _ rfl (w.heap.size + 1) rfl 25 c.arr (0, 0) _ (by with_reducible exact K.out.cb) Try.underlying25 rfl (by kernel_rfl) ?_))
                  refine (sweep_is r b c hr hs _ _ ESB.out).mono ?_
                  rintro e w10 ⟨rfl, hb⟩
                  have K := Aside0.mk (K.out.next hb)
                  clear hb
                  go_wp2_with (first | ((with_reducible refine gate_dst (N := 85) rfl ?_); refine wpList_load_row rfl 23 _ rfl w.heap.size rfl 23 r.arr (0, 0) _ (by with_reducible exact K.out.rb) Try.underlying23 rfl (by kernel_rfl) ?_) | ((with_reducible refine gate_dst (N := 88) rfl ?_); refine wpList_load_row rfl 25 _ rfl (w.heap.size + 1) rfl 25 c.arr (0, 0) _ (by with_reducible exact K.out.cb) Try.underlying25 rfl (by kernel_rfl) ?_))
                  refine (judge_is r true q a 0 c hr hq hs _ _ E0.out).mono ?_
                  rintro e w11 ⟨rfl, hb⟩
                  have K := Aside0.mk (K.out.next hb)
                  clear hb
                  rcases HJ.out with rfl | rfl
                  · go_wp2_with fail
                    go_ret
                    exact ⟨by first | rfl | (simp; done), K.out.bel⟩
                  · go_wp2_with (first | ((with_reducible refine gate_dst (N := 96) rfl ?_); refine gate_guard (by rfl) ?_; dsimp only; refine wpList_load_row rfl 23 _ rfl w.heap.size rfl 23 r.arr (0, 0) _ (by with_reducible exact K.out.rb) Try.underlying23 rfl (by kernel_rfl) ?_) | ((with_reducible refine gate_dst (N := 99) rfl ?_); refine gate_guard (by rfl) ?_; dsimp only; refine wpList_load_row rfl 25 _ rfl (w.heap.size + 1) rfl 25 c.arr (0, 0) _ (by with_reducible exact K.out.cb) Try.underlying25 rfl (by kernel_rfl) ?_))
                    refine (judge_is r true q a 0 c hr hq hs _ _ E0.out).mono ?_
                    rintro e w12 ⟨rfl, hb⟩
                    have K := Aside0.mk (K.out.next hb)
                    clear hb
                    go_wp2_with fail
                    go_ret
                    exact ⟨by first | rfl | (simp; done), K.out.bel⟩
              | true =>
                have ubt := HB.out rfl
                subst ubt
                go_wp2_with (first | ((with_reducible refine gate_dst (N := 65) rfl ?_); refine gate_guard (by rfl) ?_; dsimp only; refine wpList_load_row rfl 23 _ rfl w.heap.size rfl 23 r.arr (0, 0) _ (by with_reducible exact K.out.rb) Try.underlying23 rfl (by kernel_rfl) ?_) | ((with_reducible refine gate_dst (N := 67) rfl ?_); refine gate_guard (by rfl) ?_; dsimp only; refine wpList_load_row rfl 25 _ rfl (w.heap.size + 1) rfl 25 c.arr (0, 0) _ (by with_reducible exact K.out.cb) Try.underlying25 rfl (by kernel_rfl) ?_))
                refine (bury_is r b c hr hs _ _ EBB.out).mono ?_
                rintro e w9 ⟨rfl, hb⟩
                have K := Aside0.mk (K.out.next hb)
                clear hb
                go_wp2_with (first | ((with_reducible refine gate_dst (N := 73) rfl ?_); refine gate_guard (by rfl) ?_; dsimp only; refine wpList_load_row rfl 23 _ rfl w.heap.size rfl 23 r.arr (0, 0) _ (by with_reducible exact K.out.rb) Try.underlying23 rfl (by kernel_rfl) ?_) | ((with_reducible refine gate_dst (N := 75) rfl ?_); refine gate_guard (by rfl) ?_; dsimp only; refine wpList_load_row rfl 25 _ rfl (w.heap.size + 1) rfl 25 c.arr (0, 0) _ (by with_reducible exact K.out.cb) Try.underlying25 rfl (by kernel_rfl) ?_))
                refine (sweep_is r a c hr hs _ _ ESA.out).mono ?_
                rintro e w10 ⟨rfl, hb⟩
                have K := Aside0.mk (K.out.next hb)
                clear hb
                cases va with
                | false =>
                  go_wp2_with (first | ((with_reducible refine gate_dst (N := 85) rfl ?_); refine wpList_load_row rfl 23 _ rfl w.heap.size rfl 23 r.arr (0, 0) _ (by with_reducible exact K.out.rb) Try.underlying23 rfl (by kernel_rfl) ?_) | ((with_reducible refine gate_dst (N := 88) rfl ?_); refine wpList_load_row rfl 25 _ rfl (w.heap.size + 1) rfl 25 c.arr (0, 0) _ (by with_reducible exact K.out.cb) Try.underlying25 rfl (by kernel_rfl) ?_))
                  refine (judge_is r true q a 0 c hr hq hs _ _ E0.out).mono ?_
                  rintro e w11 ⟨rfl, hb⟩
                  have K := Aside0.mk (K.out.next hb)
                  clear hb
                  rcases HJ.out with rfl | rfl
                  · go_wp2_with fail
                    go_ret
                    exact ⟨by first | rfl | (simp; done), K.out.bel⟩
                  · go_wp2_with (first | ((with_reducible refine gate_dst (N := 96) rfl ?_); refine gate_guard (by rfl) ?_; dsimp only; refine wpList_load_row rfl 23 _ rfl w.heap.size rfl 23 r.arr (0, 0) _ (by with_reducible exact K.out.rb) Try.underlying23 rfl (by kernel_rfl) ?_) | ((with_reducible refine gate_dst (N := 99) rfl ?_); refine gate_guard (by rfl) ?_; dsimp only; refine wpList_load_row rfl 25 _ rfl (w.heap.size + 1) rfl 25 c.arr (0, 0) _ (by with_reducible exact K.out.cb) Try.underlying25 rfl (by kernel_rfl) ?_))
                    refine (judge_is r true q a 0 c hr hq hs _ _ E0.out).mono ?_
                    rintro e w12 ⟨rfl, hb⟩
                    have K := Aside0.mk (K.out.next hb)
                    clear hb
                    go_wp2_with fail
                    go_ret
                    exact ⟨by first | rfl | (simp; done), K.out.bel⟩
                | true =>
                  have vbt := HS.out rfl
                  subst vbt
                  go_wp2_with (first | ((with_reducible refine gate_dst (N := 78) rfl ?_); refine gate_guard (by rfl) ?_; dsimp only; refine wpList_load_row rfl 23 _ rfl w.heap.size rfl 23 r.arr (0, 0) _ (by with_reducible exact K.out.rb) Try.underlying23 rfl (by kernel_rfl) ?_) | ((with_reducible refine gate_dst (N := 80) rfl ?_); refine gate_guard (by rfl) ?_; dsimp only; refine wpList_load_row rfl 25 _ rfl (w.heap.size + 1) rfl 25 c.arr (0, 0) _ (by with_reducible exact K.out.cb) Try.underlying25 rfl (by kernel_rfl) ?_))
                  refine (sweep_is r b c hr hs _ _ ESB.out).mono ?_
                  rintro e w11 ⟨rfl, hb⟩
                  have K := Aside0.mk (K.out.next hb)
                  clear hb
                  go_wp2_with (first | ((with_reducible refine gate_dst (N := 85) rfl ?_); refine wpList_load_row rfl 23 _ rfl w.heap.size rfl 23 r.arr (0, 0) _ (by with_reducible exact K.out.rb) Try.underlying23 rfl (by kernel_rfl) ?_) | ((with_reducible refine gate_dst (N := 88) rfl ?_); refine wpList_load_row rfl 25 _ rfl (w.heap.size + 1) rfl 25 c.arr (0, 0) _ (by with_reducible exact K.out.cb) Try.underlying25 rfl (by kernel_rfl) ?_))
                  refine (judge_is r true q a 0 c hr hq hs _ _ E0.out).mono ?_
                  rintro e w12 ⟨rfl, hb⟩
                  have K := Aside0.mk (K.out.next hb)
                  clear hb
                  rcases HJ.out with rfl | rfl
                  · go_wp2_with fail
                    go_ret
                    exact ⟨by first | rfl | (simp; done), K.out.bel⟩
                  · go_wp2_with (first | ((with_reducible refine gate_dst (N := 96) rfl ?_); refine gate_guard (by rfl) ?_; dsimp only; refine wpList_load_row rfl 23 _ rfl w.heap.size rfl 23 r.arr (0, 0) _ (by with_reducible exact K.out.rb) Try.underlying23 rfl (by kernel_rfl) ?_) | ((with_reducible refine gate_dst (N := 99) rfl ?_); refine gate_guard (by rfl) ?_; dsimp only; refine wpList_load_row rfl 25 _ rfl (w.heap.size + 1) rfl 25 c.arr (0, 0) _ (by with_reducible exact K.out.cb) Try.underlying25 rfl (by kernel_rfl) ?_))
                    refine (judge_is r true q a 0 c hr hq hs _ _ E0.out).mono ?_
                    rintro e w13 ⟨rfl, hb⟩
                    have K := Aside0.mk (K.out.next hb)
                    clear hb
                    go_wp2_with fail
                    go_ret
                    exact ⟨by first | rfl | (simp; done), K.out.bel⟩
            · go_wp2_with fail
              refine (rank_is 2 1 (by rfl) _).mono ?_
              rintro e w6 ⟨rfl, hb⟩
              have K := Aside0.mk (K.out.next hb)
              clear hb
              go_wp2_with fail
              refine (rank_is 3 2 (by rfl) _).mono ?_
              rintro e w7 ⟨rfl, hb⟩
              have K := Aside0.mk (K.out.next hb)
              clear hb
              go_wp2_with (first | ((with_reducible refine gate_dst (N := 60) rfl ?_); refine gate_guard (by rfl) ?_; dsimp only; refine wpList_load_row rfl 23 _ rfl w.heap.size rfl 23 r.arr (0, 0) _ (by with_reducible exact K.out.rb) Try.underlying23 rfl (by kernel_rfl) ?_) | ((with_reducible refine gate_dst (N := 62) rfl ?_); refine gate_guard (by rfl) ?_; dsimp only; refine wpList_load_row rfl 25 _ rfl (w.heap.size + 1) rfl 25 c.arr (0, 0) _ (by with_reducible exact K.out.cb) Try.underlying25 rfl (by kernel_rfl) ?_))
              refine (bury_is r a c hr hs _ _ EBA.out).mono ?_
              rintro e w8 ⟨rfl, hb⟩
              have K := Aside0.mk (K.out.next hb)
              clear hb
              cases ua with
              | false =>
                go_wp2_with (first | ((with_reducible refine gate_dst (N := 73) rfl ?_); refine gate_guard (by rfl) ?_; dsimp only; refine wpList_load_row rfl 23 _ rfl w.heap.size rfl 23 r.arr (0, 0) _ (by with_reducible exact K.out.rb) Try.underlying23 rfl (by kernel_rfl) ?_) | ((with_reducible refine gate_dst (N := 75) rfl ?_); refine gate_guard (by rfl) ?_; dsimp only; refine wpList_load_row rfl 25 _ rfl (w.heap.size + 1) rfl 25 c.arr (0, 0) _ (by with_reducible exact K.out.cb) Try.underlying25 rfl (by kernel_rfl) ?_))
                refine (sweep_is r a c hr hs _ _ ESA.out).mono ?_
                rintro e w9 ⟨rfl, hb⟩
                have K := Aside0.mk (K.out.next hb)
                clear hb
                cases va with
                | false =>
                  go_wp2_with (first | ((with_reducible refine gate_dst (N := 85) rfl ?_); refine wpList_load_row rfl 23 _ rfl w.heap.size rfl 23 r.arr (0, 0) _ (by with_reducible exact K.out.rb) Try.underlying23 rfl (by kernel_rfl) ?_) | ((with_reducible refine gate_dst (N := 88) rfl ?_); refine wpList_load_row rfl 25 _ rfl (w.heap.size + 1) rfl 25 c.arr (0, 0) _ (by with_reducible exact K.out.cb) Try.underlying25 rfl (by kernel_rfl) ?_))
                  refine (judge_is r true q a 0 c hr hq hs _ _ E0.out).mono ?_
                  rintro e w10 ⟨rfl, hb⟩
                  have K := Aside0.mk (K.out.next hb)
                  clear hb
                  rcases HJ.out with rfl | rfl
                  · go_wp2_with fail
                    go_ret
                    exact ⟨by first | rfl | (simp; done), K.out.bel⟩
                  · go_wp2_with (first | ((with_reducible refine gate_dst (N := 96) rfl ?_); refine gate_guard (by rfl) ?_; dsimp only; refine wpList_load_row rfl 23 _ rfl w.heap.size rfl 23 r.arr (0, 0) _ (by with_reducible exact K.out.rb) Try.underlying23 rfl (by kernel_rfl) ?_) | ((with_reducible refine gate_dst (N := 99) rfl ?_); refine gate_guard (by rfl) ?_; dsimp only; refine wpList_load_row rfl 25 _ rfl (w.heap.size + 1) rfl 25 c.arr (0, 0) _ (by with_reducible exact K.out.cb) Try.underlying25 rfl (by kernel_rfl) ?_))
                    refine (judge_is r true q a 0 c hr hq hs _ _ E0.out).mono ?_
                    rintro e w11 ⟨rfl, hb⟩
                    have K := Aside0.mk (K.out.next hb)
                    clear hb
                    go_wp2_with fail
                    go_ret
                    exact ⟨by first | rfl | (simp; done), K.out.bel⟩
                | true =>
                  have vbt := HS.out rfl
                  subst vbt
                  go_wp2_with (first | ((with_reducible refine gate_dst (N := 78) rfl ?_); refine gate_guard (by rfl) ?_; dsimp only; refine wpList_load_row rfl 23 _ rfl w.heap.size rfl 23 r.arr (0, 0) _ (by with_reducible exact K.out.rb) Try.underlying23 rfl (by kernel_rfl) ?_) | ((with_reducible refine gate_dst (N := 80) rfl ?_); refine gate_guard (by rfl) ?_; dsimp only; refine wpList_load_row rfl 25 _ rfl (w.heap.size + 1) rfl 25 c.arr (0, 0) _ (by with_reducible exact K.out.cb) Try.underlying25 rfl (by kernel_rfl) ?_))
                  refine (sweep_is r b c hr hs _ _ ESB.out).mono ?_
                  rintro e w10 ⟨rfl, hb⟩
                  have K := Aside0.mk (K.out.next hb)
                  clear hb
                  go_wp2_with (first | ((with_reducible refine gate_dst (N := 85) rfl ?_); refine wpList_load_row rfl 23 _ rfl w.heap.size rfl 23 r.arr (0, 0) _ (by with_reducible exact K.out.rb) Try.underlying23 rfl (by kernel_rfl) ?_) | ((with_reducible refine gate_dst (N := 88) rfl ?_); refine wpList_load_row rfl 25 _ rfl (w.heap.size + 1) rfl 25 c.arr (0, 0) _ (by with_reducible exact K.out.cb) Try.underlying25 rfl (by kernel_rfl) ?_))
                  refine (judge_is r true q a 0 c hr hq hs _ _ E0.out).mono ?_
                  rintro e w11 ⟨rfl, hb⟩
                  have K := Aside0.mk (K.out.next hb)
                  clear hb
                  rcases HJ.out with rfl | rfl
                  · go_wp2_with fail
                    go_ret
                    exact ⟨by first | rfl | (simp; done), K.out.bel⟩
                  · go_wp2_with (first | ((with_reducible refine gate_dst (N := 96) rfl ?_); refine gate_guard (by rfl) ?_; dsimp only; refine wpList_load_row rfl 23 _ rfl w.heap.size rfl 23 r.arr (0, 0) _ (by with_reducible exact K.out.rb) Try.underlying23 rfl (by kernel_rfl) ?_) | ((with_reducible refine gate_dst (N := 99) rfl ?_); refine gate_guard (by rfl) ?_; dsimp only; refine wpList_load_row rfl 25 _ rfl (w.heap.size + 1) rfl 25 c.arr (0, 0) _ (by with_reducible exact K.out.cb) Try.underlying25 rfl (by kernel_rfl) ?_))
                    refine (judge_is r true q a 0 c hr hq hs _ _ E0.out).mono ?_
                    rintro e w12 ⟨rfl, hb⟩
                    have K := Aside0.mk (K.out.next hb)
                    clear hb
                    go_wp2_with fail
                    go_ret
                    exact ⟨by first | rfl | (simp; done), K.out.bel⟩
              | true =>
                have ubt := HB.out rfl
                subst ubt
                go_wp2_with (first | ((with_reducible refine gate_dst (N := 65) rfl ?_); refine gate_guard (by rfl) ?_; dsimp only; refine wpList_load_row rfl 23 _ rfl w.heap.size rfl 23 r.arr (0, 0) _ (by with_reducible exact K.out.rb) Try.underlying23 rfl (by kernel_rfl) ?_) | ((with_reducible refine gate_dst (N := 67) rfl ?_); refine gate_guard (by rfl) ?_; dsimp only; refine wpList_load_row rfl 25 _ rfl (w.heap.size + 1) rfl 25 c.arr (0, 0) _ (by with_reducible exact K.out.cb) Try.underlying25 rfl (by kernel_rfl) ?_))
                refine (bury_is r b c hr hs _ _ EBB.out).mono ?_
                rintro e w9 ⟨rfl, hb⟩
                have K := Aside0.mk (K.out.next hb)
                clear hb
                go_wp2_with (first | ((with_reducible refine gate_dst (N := 73) rfl ?_); refine gate_guard (by rfl) ?_; dsimp only; refine wpList_load_row rfl 23 _ rfl w.heap.size rfl 23 r.arr (0, 0) _ (by with_reducible exact K.out.rb) Try.underlying23 rfl (by kernel_rfl) ?_) | ((with_reducible refine gate_dst (N := 75) rfl ?_); refine gate_guard (by rfl) ?_; dsimp only; refine wpList_load_row rfl 25 _ rfl (w.heap.size + 1) rfl 25 c.arr (0, 0) _ (by with_reducible exact K.out.cb) Try.underlying25 rfl (by kernel_rfl) ?_))
                refine (sweep_is r a c hr hs _ _ ESA.out).mono ?_
                rintro e w10 ⟨rfl, hb⟩
                have K := Aside0.mk (K.out.next hb)
                clear hb
                cases va with
                | false =>
                  go_wp2_with (first | ((with_reducible refine gate_dst (N := 85) rfl ?_); refine wpList_load_row rfl 23 _ rfl w.heap.size rfl 23 r.arr (0, 0) _ (by with_reducible exact K.out.rb) Try.underlying23 rfl (by kernel_rfl) ?_) | ((with_reducible refine gate_dst (N := 88) rfl ?_); refine wpList_load_row rfl 25 _ rfl (w.heap.size + 1) rfl 25 c.arr (0, 0) _ (by with_reducible exact K.out.cb) Try.underlying25 rfl (by kernel_rfl) ?_))
                  refine (judge_is r true q a 0 c hr hq hs _ _ E0.out).mono ?_
                  rintro e w11 ⟨rfl, hb⟩
                  have K := Aside0.mk (K.out.next hb)
                  clear hb
                  rcases HJ.out with rfl | rfl
                  · go_wp2_with fail
                    go_ret
                    exact ⟨by first | rfl | (simp; done), K.out.bel⟩
                  · go_wp2_with (first | ((with_reducible refine gate_dst (N := 96) rfl ?_); refine gate_guard (by rfl) ?_; dsimp only; refine wpList_load_row rfl 23 _ rfl w.heap.size rfl 23 r.arr (0, 0) _ (by with_reducible exact K.out.rb) Try.underlying23 rfl (by kernel_rfl) ?_) | ((with_reducible refine gate_dst (N := 99) rfl ?_); refine gate_guard (by rfl) ?_; dsimp only; refine wpList_load_row rfl 25 _ rfl (w.heap.size + 1) rfl 25 c.arr (0, 0) _ (by with_reducible exact K.out.cb) Try.underlying25 rfl (by kernel_rfl) ?_))
                    refine (judge_is r true q a 0 c hr hq hs _ _ E0.out).mono ?_
                    rintro e w12 ⟨rfl, hb⟩
                    have K := Aside0.mk (K.out.next hb)
                    clear hb
                    go_wp2_with fail
                    go_ret
                    exact ⟨by first | rfl | (simp; done), K.out.bel⟩
                | true =>
                  have vbt := HS.out rfl
                  subst vbt
                  go_wp2_with (first | ((with_reducible refine gate_dst (N := 78) rfl ?_); refine gate_guard (by rfl) ?_; dsimp only; refine wpList_load_row rfl 23 _ rfl w.heap.size rfl 23 r.arr (0, 0) _ (by with_reducible exact K.out.rb) Try.underlying23 rfl (by kernel_rfl) ?_) | ((with_reducible refine gate_dst (N := 80) rfl ?_); refine gate_guard (by rfl) ?_; dsimp only; refine wpList_load_row rfl 25 _ rfl (w.heap.size + 1) rfl 25 c.arr (0, 0) _ (by with_reducible exact K.out.cb) Try.underlying25 rfl (by kernel_rfl) ?_))
                  refine (sweep_is r b c hr hs _ _ ESB.out).mono ?_
                  rintro e w11 ⟨rfl, hb⟩
                  have K := Aside0.mk (K.out.next hb)
                  clear hb
                  go_wp2_with (first | ((with_reducible refine gate_dst (N := 85) rfl ?_); refine wpList_load_row rfl 23 _ rfl w.heap.size rfl 23 r.arr (0, 0) _ (by with_reducible exact K.out.rb) Try.underlying23 rfl (by kernel_rfl) ?_) | ((with_reducible refine gate_dst (N := 88) rfl ?_); refine wpList_load_row rfl 25 _ rfl (w.heap.size + 1) rfl 25 c.arr (0, 0) _ (by with_reducible exact K.out.cb) Try.underlying25 rfl (by kernel_rfl) ?_))
                  refine (judge_is r true q a 0 c hr hq hs _ _ E0.out).mono ?_
                  rintro e w12 ⟨rfl, hb⟩
                  have K := Aside0.mk (K.out.next hb)
                  clear hb
                  rcases HJ.out with rfl | rfl
                  · go_wp2_with fail
                    go_ret
                    exact ⟨by first | rfl | (simp; done), K.out.bel⟩
                  · go_wp2_with (first | ((with_reducible refine gate_dst (N := 96) rfl ?_); refine gate_guard (by rfl) ?_; dsimp only; refine wpList_load_row rfl 23 _ rfl w.heap.size rfl 23 r.arr (0, 0) _ (by with_reducible exact K.out.rb) Try.underlying23 rfl (by kernel_rfl) ?_) | ((with_reducible refine gate_dst (N := 99) rfl ?_); refine gate_guard (by rfl) ?_; dsimp only; refine wpList_load_row rfl 25 _ rfl (w.heap.size + 1) rfl 25 c.arr (0, 0) _ (by with_reducible exact K.out.cb) Try.underlying25 rfl (by kernel_rfl) ?_))
                    refine (judge_is r true q a 0 c hr hq hs _ _ E0.out).mono ?_
                    rintro e w13 ⟨rfl, hb⟩
                    have K := Aside0.mk (K.out.next hb)
                    clear hb
                    go_wp2_with fail
                    go_ret
                    exact ⟨by first | rfl | (simp; done), K.out.bel⟩
            · go_wp2_with fail
              refine (rank_is 2 1 (by rfl) _).mono ?_
              rintro e w6 ⟨rfl, hb⟩
              have K := Aside0.mk (K.out.next hb)
              clear hb
              go_wp2_with fail
              refine (rank_is 4 3 (by rfl) _).mono ?_
              rintro e w7 ⟨rfl, hb⟩
              have K := Aside0.mk (K.out.next hb)
              clear hb
              go_wp2_with (first | ((with_reducible refine gate_dst (N := 60) rfl ?_); refine gate_guard (by rfl) ?_; dsimp only; refine wpList_load_row rfl 23 _ rfl w.heap.size rfl 23 r.arr (0, 0) _ (by with_reducible exact K.out.rb) Try.underlying23 rfl (by kernel_rfl) ?_) | ((with_reducible refine gate_dst (N := 62) rfl ?_); refine gate_guard (by rfl) ?_; dsimp only; refine wpList_load_row rfl 25 _ rfl (w.heap.size + 1) rfl 25 c.arr (0, 0) _ (by with_reducible exact K.out.cb) Try.underlying25 rfl (by kernel_rfl) ?_))
              refine (bury_is r a c hr hs _ _ EBA.out).mono ?_
              rintro e w8 ⟨rfl, hb⟩
              have K := Aside0.mk (K.out.next hb)
              clear hb
              cases ua with
              | false =>
                go_wp2_with (first | ((with_reducible refine gate_dst (N := 73) rfl ?_); refine gate_guard (by rfl) ?_; dsimp only; refine wpList_load_row rfl 23 _ rfl w.heap.size rfl 23 r.arr (0, 0) _ (by with_reducible exact K.out.rb) Try.underlying23 rfl (by kernel_rfl) ?_) | ((with_reducible refine gate_dst (N := 75) rfl ?_); refine gate_guard (by rfl) ?_; dsimp only; refine wpList_load_row rfl 25 _ rfl (w.heap.size + 1) rfl 25 c.arr (0, 0) _ (by with_reducible exact K.out.cb) Try.underlying25 rfl (by kernel_rfl) ?_))
                refine (sweep_is r a c hr hs _ _ ESA.out).mono ?_
                rintro e w9 ⟨rfl, hb⟩
                have K := Aside0.mk (K.out.next hb)
                clear hb
                cases va with
                | false =>
                  go_wp2_with (first | ((with_reducible refine gate_dst (N := 85) rfl ?_); refine wpList_load_row rfl 23 _ rfl w.heap.size rfl 23 r.arr (0, 0) _ (by with_reducible exact K.out.rb) Try.underlying23 rfl (by kernel_rfl) ?_) | ((with_reducible refine gate_dst (N := 88) rfl ?_); refine wpList_load_row rfl 25 _ rfl (w.heap.size + 1) rfl 25 c.arr (0, 0) _ (by with_reducible exact K.out.cb) Try.underlying25 rfl (by kernel_rfl) ?_))
                  refine (judge_is r true q a 0 c hr hq hs _ _ E0.out).mono ?_
                  rintro e w10 ⟨rfl, hb⟩
                  have K := Aside0.mk (K.out.next hb)
                  clear hb
                  rcases HJ.out with rfl | rfl
                  · go_wp2_with fail
                    go_ret
                    exact ⟨by first | rfl | (simp; done), K.out.bel⟩
                  · go_wp2_with (first | ((with_reducible refine gate_dst (N := 96) rfl ?_); refine gate_guard (by rfl) ?_; dsimp only; refine wpList_load_row rfl 23 _ rfl w.heap.size rfl 23 r.arr (0, 0) _ (by with_reducible exact K.out.rb) Try.underlying23 rfl (by kernel_rfl) ?_) | ((with_reducible refine gate_dst (N := 99) rfl ?_); refine gate_guard (by rfl) ?_; dsimp only; refine wpList_load_row rfl 25 _ rfl (w.heap.size + 1) rfl 25 c.arr (0, 0) _ (by with_reducible exact K.out.cb) Try.underlying25 rfl (by kernel_rfl) ?_))
                    refine (judge_is r true q a 0 c hr hq hs _ _ E0.out).mono ?_
                    rintro e w11 ⟨rfl, hb⟩
                    have K := Aside0.mk (K.out.next hb)
                    clear hb
                    go_wp2_with fail
                    go_ret
                    exact ⟨by first | rfl | (simp; done), K.out.bel⟩
                | true =>
                  have vbt := HS.out rfl
                  subst vbt
                  go_wp2_with (first | ((with_reducible refine gate_dst (N := 78) rfl ?_); refine gate_guard (by rfl) ?_; dsimp only; refine wpList_load_row rfl 23 _ rfl w.heap.size rfl 23 r.arr (0, 0) _ (by with_reducible exact K.out.rb) Try.underlying23 rfl (by kernel_rfl) ?_) | ((with_reducible refine gate_dst (N := 80) rfl ?_); refine gate_guard (by rfl) ?_; dsimp only; refine wpList_load_row rfl 25 _ rfl (w.heap.size + 1) rfl 25 c.arr (0, 0) _ (by with_reducible exact K.out.cb) Try.underlying25 rfl (by kernel_rfl) ?_))
                  refine (sweep_is r b c hr hs _ _ ESB.out).mono ?_
                  rintro e w10 ⟨rfl, hb⟩
                  have K := Aside0.mk (K.out.next hb)
                  clear hb
                  go_wp2_with (first | ((with_reducible refine gate_dst (N := 85) rfl ?_); refine wpList_load_row rfl 23 _ rfl w.heap.size rfl 23 r.arr (0, 0) _ (by with_reducible exact K.out.rb) Try.underlying23 rfl (by kernel_rfl) ?_) | ((with_reducible refine gate_dst (N := 88) rfl ?_); refine wpList_load_row rfl 25 _ rfl (w.heap.size + 1) rfl 25 c.arr (0, 0) _ (by with_reducible exact K.out.cb) Try.underlying25 rfl (by kernel_rfl) ?_))
                  refine (judge_is r true q a 0 c hr hq hs _ _ E0.out).mono ?_
                  rintro e w11 ⟨rfl, hb⟩
                  have K := Aside0.mk (K.out.next hb)
                  clear hb
                  rcases HJ.out with rfl | rfl
                  · go_wp2_with fail
                    go_ret
                    exact ⟨by first | rfl | (simp; done), K.out.bel⟩
                  · go_wp2_with (first | ((with_reducible refine gate_dst (N := 96) rfl ?_); refine gate_guard (by rfl) ?_; dsimp only; refine wpList_load_row rfl 23 _ rfl w.heap.size rfl 23 r.arr (0, 0) _ (by with_reducible exact K.out.rb) Try.underlying23 rfl (by kernel_rfl) ?_) | ((with_reducible refine gate_dst (N := 99) rfl ?_); refine gate_guard (by rfl) ?_; dsimp only; refine wpList_load_row rfl 25 _ rfl (w.heap.size + 1) rfl 25 c.arr (0, 0) _ (by with_reducible exact K.out.cb) Try.underlying25 rfl (by kernel_rfl) ?_))
                    refine (judge_is r true q a 0 c hr hq hs _ _ E0.out).mono ?_
                    rintro e w12 ⟨rfl, hb⟩
                    have K := Aside0.mk (K.out.next hb)
                    clear hb
                    go_wp2_with fail
                    go_ret
                    exact ⟨by first | rfl | (simp; done), K.out.bel⟩
              | true =>
                have ubt := HB.out rfl
                subst ubt
                go_wp2_with (first | ((with_reducible refine gate_dst (N := 65) rfl ?_); refine gate_guard (by rfl) ?_; dsimp only; refine wpList_load_row rfl 23 _ rfl w.heap.size rfl 23 r.arr (0, 0) _ (by with_reducible exact K.out.rb) Try.underlying23 rfl (by kernel_rfl) ?_) | ((with_reducible refine gate_dst (N := 67) rfl ?_); refine gate_guard (by rfl) ?_; dsimp only; refine wpList_load_row rfl 25 _ rfl (w.heap.size + 1) rfl 25 c.arr (0, 0) _ (by with_reducible exact K.out.cb) Try.underlying25 rfl (by kernel_rfl) ?_))
                refine (bury_is r b c hr hs _ _ EBB.out).mono ?_
                rintro e w9 ⟨rfl, hb⟩
                have K := Aside0.mk (K.out.next hb)
                clear hb
                go_wp2_with (first | ((with_reducible refine gate_dst (N := 73) rfl ?_); refine gate_guard (by rfl) ?_; dsimp only; refine wpList_load_row rfl 23 _ rfl w.heap.size rfl 23 r.arr (0, 0) _ (by with_reducible exact K.out.rb) Try.underlying23 rfl (by kernel_rfl) ?_) | ((with_reducible refine gate_dst (N := 75) rfl ?_); refine gate_guard (by rfl) ?_; dsimp only; refine wpList_load_row rfl 25 _ rfl (w.heap.size + 1) rfl 25 c.arr (0, 0) _ (by with_reducible exact K.out.cb) Try.underlying25 rfl (by kernel_rfl) ?_))
                refine (sweep_is r a c hr hs _ _ ESA.out).mono ?_
                rintro e w10 ⟨rfl, hb⟩
                have K := Aside0.mk (K.out.next hb)
                clear hb
                cases va with
                | false =>
                  go_wp2_with (first | ((with_reducible refine gate_dst (N := 85) rfl ?_); refine wpList_load_row rfl 23 _ rfl w.heap.size rfl 23 r.arr (0, 0) _ (by with_reducible exact K.out.rb) Try.underlying23 rfl (by kernel_rfl) ?_) | ((with_reducible refine gate_dst (N := 88) rfl ?_); refine wpList_load_row rfl 25 _ rfl (w.heap.size + 1) rfl 25 c.arr (0, 0) _ (by with_reducible exact K.out.cb) Try.underlying25 rfl (by kernel_rfl) ?_))
                  refine (judge_is r true q a 0 c hr hq hs _ _ E0.out).mono ?_
                  rintro e w11 ⟨rfl, hb⟩
                  have K := Aside0.mk (K.out.next hb)
                  clear hb
                  rcases HJ.out with rfl | rfl
                  · go_wp2_with fail
                    go_ret
                    exact ⟨by first | rfl | (simp; done), K.out.bel⟩
                  · go_wp2_with (first | ((with_reducible refine gate_dst (N := 96) rfl ?_); refine gate_guard (by rfl) ?_; dsimp only; refine wpList_load_row rfl 23 _ rfl w.heap.size rfl 23 r.arr (0, 0) _ (by with_reducible exact K.out.rb) Try.underlying23 rfl (by kernel_rfl) ?_) | ((with_reducible refine gate_dst (N := 99) rfl ?_); refine gate_guard (by rfl) ?_; dsimp only; refine wpList_load_row rfl 25 _ rfl (w.heap.size + 1) rfl 25 c.arr (0, 0) _ (by with_reducible exact K.out.cb) Try.underlying25 rfl (by kernel_rfl) ?_))
                    refine (judge_is r true q a 0 c hr hq hs _ _ E0.out).mono ?_
                    rintro e w12 ⟨rfl, hb⟩
                    have K := Aside0.mk (K.out.next hb)
                    clear hb
                    go_wp2_with fail
                    go_ret
                    exact ⟨by first | rfl | (simp; done), K.out.bel⟩
                | true =>
                  have vbt := HS.out rfl
                  subst vbt
                  go_wp2_with (first | ((with_reducible refine gate_dst (N := 78) rfl ?_); refine gate_guard (by rfl) ?_; dsimp only; refine wpList_load_row rfl 23 _ rfl w.heap.size rfl 23 r.arr (0, 0) _ (by with_reducible exact K.out.rb) Try.underlying23 rfl (by kernel_rfl) ?_) | ((with_reducible refine gate_dst (N := 80) rfl ?_); refine gate_guard (by rfl) ?_; dsimp only; refine wpList_load_row rfl 25 _ rfl (w.heap.size + 1) rfl 25 c.arr (0, 0) _ (by with_reducible exact K.out.cb) Try.underlying25 rfl (by kernel_rfl) ?_))
                  refine (sweep_is r b c hr hs _ _ ESB.out).mono ?_
                  rintro e w11 ⟨rfl, hb⟩
                  have K := Aside0.mk (K.out.next hb)
                  clear hb
                  go_wp2_with (first | ((with_reducible refine gate_dst (N := 85) rfl ?_); refine wpList_load_row rfl 23 _ rfl w.heap.size rfl 23 r.arr (0, 0) _ (by with_reducible exact K.out.rb) Try.underlying23 rfl (by kernel_rfl) ?_) | ((with_reducible refine gate_dst (N := 88) rfl ?_); refine wpList_load_row rfl 25 _ rfl (w.heap.size + 1) rfl 25 c.arr (0, 0) _ (by with_reducible exact K.out.cb) Try.underlying25 rfl (by kernel_rfl) ?_))
                  refine (judge_is r true q a 0 c hr hq hs _ _ E0.out).mono ?_
                  rintro e w12 ⟨rfl, hb⟩
                  have K := Aside0.mk (K.out.next hb)
                  clear hb
                  rcases HJ.out with rfl | rfl
                  · go_wp2_with fail
                    go_ret
                    exact ⟨by first | rfl | (simp; done), K.out.bel⟩
                  · go_wp2_with (first | ((with_reducible refine gate_dst (N := 96) rfl ?_); refine gate_guard (by rfl) ?_; dsimp only; refine wpList_load_row rfl 23 _ rfl w.heap.size rfl 23 r.arr (0, 0) _ (by with_reducible exact K.out.rb) Try.underlying23 rfl (by kernel_rfl) ?_) | ((with_reducible refine gate_dst (N := 99) rfl ?_); refine gate_guard (by rfl) ?_; dsimp only; refine wpList_load_row rfl 25 _ rfl (w.heap.size + 1) rfl 25 c.arr (0, 0) _ (by with_reducible exact K.out.cb) Try.underlying25 rfl (by kernel_rfl) ?_))
                    refine (judge_is r true q a 0 c hr hq hs _ _ E0.out).mono ?_
                    rintro e w13 ⟨rfl, hb⟩
                    have K := Aside0.mk (K.out.next hb)
                    clear hb
                    go_wp2_with fail
                    go_ret
                    exact ⟨by first | rfl | (simp; done), K.out.bel⟩
          · rcases hy with rfl | rfl
            · go_wp2_with fail
              refine (rank_is 3 2 (by rfl) _).mono ?_
              rintro e w6 ⟨rfl, hb⟩
              have K := Aside0.mk (K.out.next hb)
              clear hb
              go_wp2_with fail
              refine (rank_is 3 2 (by rfl) _).mono ?_
              rintro e w7 ⟨rfl, hb⟩
              have K := Aside0.mk (K.out.next hb)
              clear hb
              go_wp2_with (first | ((with_reducible refine gate_dst (N := 60) rfl ?_); refine gate_guard (by rfl) ?_; dsimp only; refine wpList_load_row rfl 23 _ rfl w.heap.size rfl 23 r.arr (0, 0) _ (by with_reducible exact K.out.rb) Try.underlying23 rfl (by kernel_rfl) ?_) | ((with_reducible refine gate_dst (N := 62) rfl ?_); refine gate_guard (by rfl) ?_; dsimp only; refine wpList_load_row rfl 25 _ rfl (w.heap.size + 1) rfl 25 c.arr (0, 0) _ (by with_reducible exact K.out.cb) Try.underlying25 rfl (by kernel_rfl) ?_))
              refine (bury_is r a c hr hs _ _ EBA.out).mono ?_
              rintro e w8 ⟨rfl, hb⟩
              have K := Aside0.mk (K.out.next hb)
              clear hb
              cases ua with
              | false =>
                go_wp2_with (first | ((with_reducible refine gate_dst (N := 73) rfl ?_); refine gate_guard (by rfl) ?_; dsimp only; refine wpList_load_row rfl 23 _ rfl w.heap.size rfl 23 r.arr (0, 0) _ (by with_reducible exact K.out.rb) Try.underlying23 rfl (by kernel_rfl) ?_) | ((with_reducible refine gate_dst (N := 75) rfl ?_); refine gate_guard (by rfl) ?_; dsimp only; refine wpList_load_row rfl 25 _ rfl (w.heap.size + 1) rfl 25 c.arr (0, 0) _ (by with_reducible exact K.out.cb) Try.underlying25 rfl (by kernel_rfl) ?_))
                refine (sweep_is r a c hr hs _ _ ESA.out).mono ?_
                rintro e w9 ⟨rfl, hb⟩
                have K := Aside0.mk (K.out.next hb)
                clear hb
                cases va with
                | false =>
                  go_wp2_with (first | ((with_reducible refine gate_dst (N := 85) rfl ?_); refine wpList_load_row rfl 23 _ rfl w.heap.size rfl 23 r.arr (0, 0) _ (by with_reducible exact K.out.rb) Try.underlying23 rfl (by kernel_rfl) ?_) | ((with_reducible refine gate_dst (N := 88) rfl ?_); refine wpList_load_row rfl 25 _ rfl (w.heap.size + 1) rfl 25 c.arr (0, 0) _ (by with_reducible exact K.out.cb) Try.underlying25 rfl (by kernel_rfl) ?_))
                  refine (judge_is r true q a 0 c hr hq hs _ _ E0.out).mono ?_
                  rintro e w10 ⟨rfl, hb⟩
                  have K := Aside0.mk (K.out.next hb)
                  clear hb
                  go_wp2_with fail
                  go_ret
                  exact ⟨by first | rfl | (simp; done), K.out.bel⟩
                | true =>
                  have vbt := HS.out rfl
                  subst vbt
                  go_wp2_with (first | ((with_reducible refine gate_dst (N := 78) rfl ?_); refine gate_guard (by rfl) ?_; dsimp only; refine wpList_load_row rfl 23 _ rfl w.heap.size rfl 23 r.arr (0, 0) _ (by with_reducible exact K.out.rb) Try.underlying23 rfl (by kernel_rfl) ?_) | ((with_reducible refine gate_dst (N := 80) rfl ?_); refine gate_guard (by rfl) ?_; dsimp only; refine wpList_load_row rfl 25 _ rfl (w.heap.size + 1) rfl 25 c.arr (0, 0) _ (by with_reducible exact K.out.cb) Try.underlying25 rfl (by kernel_rfl) ?_))
                  refine (sweep_is r b c hr hs _ _ ESB.out).mono ?_
                  rintro e w10 ⟨rfl, hb⟩
                  have K := Aside0.mk (K.out.next hb)
                  clear hb
                  go_wp2_with (first | ((with_reducible refine gate_dst (N := 85) rfl ?_); refine wpList_load_row rfl 23 _ rfl w.heap.size rfl 23 r.arr (0, 0) _ (by with_reducible exact K.out.rb) Try.underlying23 rfl (by kernel_rfl) ?_) | ((with_reducible refine gate_dst (N := 88) rfl ?_); refine wpList_load_row rfl 25 _ rfl (w.heap.size + 1) rfl 25 c.arr (0, 0) _ (by with_reducible exact K.out.cb) Try.underlying25 rfl (by kernel_rfl) ?_))
                  refine (judge_is r true q a 0 c hr hq hs _ _ E0.out).mono ?_
                  rintro e w11 ⟨rfl, hb⟩
                  have K := Aside0.mk (K.out.next hb)
                  clear hb
                  go_wp2_with fail
                  go_ret
                  exact ⟨by first | rfl | (simp; done), K.out.bel⟩
              | true =>
                have ubt := HB.out rfl
                subst ubt
                go_wp2_with (first | ((with_reducible refine gate_dst (N := 65) rfl ?_); refine gate_guard (by rfl) ?_; dsimp only; refine wpList_load_row rfl 23 _ rfl w.heap.size rfl 23 r.arr (0, 0) _ (by with_reducible exact K.out.rb) Try.underlying23 rfl (by kernel_rfl) ?_) | ((with_reducible refine gate_dst (N := 67) rfl ?_); refine gate_guard (by rfl) ?_; dsimp only; refine wpList_load_row rfl 25 _ rfl (w.heap.size + 1) rfl 25 c.arr (0, 0) _ (by with_reducible exact K.out.cb) Try.underlying25 rfl (by kernel_rfl) ?_))
                refine (bury_is r b c hr hs _ _ EBB.out).mono ?_
                rintro e w9 ⟨rfl, hb⟩
                have K := Aside0.mk (K.out.next hb)
                clear hb
                go_wp2_with (first | ((with_reducible refine gate_dst (N := 73) rfl ?_); refine gate_guard (by rfl) ?_; dsimp only; refine wpList_load_row rfl 23 _ rfl w.heap.size rfl 23 r.arr (0, 0) _ (by with_reducible exact K.out.rb) Try.underlying23 rfl (by kernel_rfl) ?_) | ((with_reducible refine gate_dst (N := 75) rfl ?_); refine gate_guard (by rfl) ?_; dsimp only; refine wpList_load_row rfl 25 _ rfl (w.heap.size + 1) rfl 25 c.arr (0, 0) _ (by with_reducible exact K.out.cb) Try.underlying25 rfl (by kernel_rfl) ?_))
                refine (sweep_is r a c hr hs _ _ ESA.out).mono ?_
                rintro e w10 ⟨rfl, hb⟩
                have K := Aside0.mk (K.out.next hb)
                clear hb
                cases va with
                | false =>
                  go_wp2_with (first | ((with_reducible refine gate_dst (N := 85) rfl ?_); refine wpList_load_row rfl 23 _ rfl w.heap.size rfl 23 r.arr (0, 0) _ (by with_reducible exact K.out.rb) Try.underlying23 rfl (by kernel_rfl) ?_) | ((with_reducible refine gate_dst (N := 88) rfl ?_); refine wpList_load_row rfl 25 _ rfl (w.heap.size + 1) rfl 25 c.arr (0, 0) _ (by with_reducible exact K.out.cb) Try.underlying25 rfl (by kernel_rfl) ?_))
                  refine (judge_is r true q a 0 c hr hq hs _ _ E0.out).mono ?_
                  rintro e w11 ⟨rfl, hb⟩
                  have K := Aside0.mk (K.out.next hb)
                  clear hb
                  go_wp2_with fail
                  go_ret
                  exact ⟨by first | rfl | (simp; done), K.out.bel⟩
                | true =>
                  have vbt := HS.out rfl
                  subst vbt
                  go_wp2_with (first | ((with_reducible refine gate_dst (N := 78) rfl ?_); refine gate_guard (by rfl) ?_; dsimp only; refine wpList_load_row rfl 23 _ rfl w.heap.size rfl 23 r.arr (0, 0) _ (by with_reducible exact K.out.rb) Try.underlying23 rfl (by kernel_rfl) ?_) | ((with_reducible refine gate_dst (N := 80) rfl ?_); refine gate_guard (by rfl) ?_; dsimp only; refine wpList_load_row rfl 25 _ rfl (w.heap.size + 1) rfl 25 c.arr (0, 0) _ (by with_reducible exact K.out.cb) Try.underlying25 rfl (by kernel_rfl) ?_))
                  refine (sweep_is r b c hr hs _ _ ESB.out).mono ?_
                  rintro e w11 ⟨rfl, hb⟩
                  have K := Aside0.mk (K.out.next hb)
                  clear hb
                  go_wp2_with (first | ((with_reducible refine gate_dst (N := 85) rfl ?_); refine wpList_load_row rfl 23 _ rfl w.heap.size rfl 23 r.arr (0, 0) _ (by with_reducible exact K.out.rb) Try.underlying23 rfl (by kernel_rfl) ?_) | ((with_reducible refine gate_dst (N := 88) rfl ?_); refine wpList_load_row rfl 25 _ rfl (w.heap.size + 1) rfl 25 c.arr (0, 0) _ (by with_reducible exact K.out.cb) Try.underlying25 rfl (by kernel_rfl) ?_))
                  refine (judge_is r true q a 0 c hr hq hs _ _ E0.out).mono ?_
                  rintro e w12 ⟨rfl, hb⟩
                  have K := Aside0.mk (K.out.next hb)
                  clear hb
                  go_wp2_with fail
                  go_ret
                  exact ⟨by first | rfl | (simp; done), K.out.bel⟩
            · go_wp2_with fail
              refine (rank_is 3 2 (by rfl) _).mono ?_
              rintro e w6 ⟨rfl, hb⟩
              have K := Aside0.mk (K.out.next hb)
              clear hb
              go_wp2_with fail
              refine (rank_is 4 3 (by rfl) _).mono ?_
              rintro e w7 ⟨rfl, hb⟩
              have K := Aside0.mk (K.out.next hb)
              clear hb
              go_wp2_with (first | ((with_reducible refine gate_dst (N := 60) rfl ?_); refine gate_guard (by rfl) ?_; dsimp only; refine wpList_load_row rfl 23 _ rfl w.heap.size rfl 23 r.arr (0, 0) _ (by with_reducible exact K.out.rb) Try.underlying23 rfl (by kernel_rfl) ?_) | ((with_reducible refine gate_dst (N := 62) rfl ?_); refine gate_guard (by rfl) ?_; dsimp only; refine wpList_load_row rfl 25 _ rfl (w.heap.size + 1) rfl 25 c.arr (0, 0) _ (by with_reducible exact K.out.cb) Try.underlying25 rfl (by kernel_rfl) ?_))
              refine (bury_is r a c hr hs _ _ EBA.out).mono ?_
              rintro e w8 ⟨rfl, hb⟩
              have K := Aside0.mk (K.out.next hb)
              clear hb
              cases ua with
              | false =>
                go_wp2_with (first | ((with_reducible refine gate_dst (N := 73) rfl ?_); refine gate_guard (by rfl) ?_; dsimp only; refine wpList_load_row rfl 23 _ rfl w.heap.size rfl 23 r.arr (0, 0) _ (by with_reducible exact K.out.rb) Try.underlying23 rfl (by kernel_rfl) ?_) | ((with_reducible refine gate_dst (N := 75) rfl ?_); refine gate_guard (by rfl) ?_; dsimp only; refine wpList_load_row rfl 25 _ rfl (w.heap.size + 1) rfl 25 c.arr (0, 0) _ (by with_reducible exact K.out.cb) Try.underlying25 rfl (by kernel_rfl) ?_))
                refine (sweep_is r a c hr hs _ _ ESA.out).mono ?_
                rintro e w9 ⟨rfl, hb⟩
                have K := Aside0.mk (K.out.next hb)
                clear hb
                cases va with
                | false =>
                  go_wp2_with (first | ((with_reducible refine gate_dst (N := 85) rfl ?_); refine wpList_load_row rfl 23 _ rfl w.heap.size rfl 23 r.arr (0, 0) _ (by with_reducible exact K.out.rb) Try.underlying23 rfl (by kernel_rfl) ?_) | ((with_reducible refine gate_dst (N := 88) rfl ?_); refine wpList_load_row rfl 25 _ rfl (w.heap.size + 1) rfl 25 c.arr (0, 0) _ (by with_reducible exact K.out.cb) Try.underlying25 rfl (by kernel_rfl) ?_))
                  refine (judge_is r true q a 0 c hr hq hs _ _ E0.out).mono ?_
                  rintro e w10 ⟨rfl, hb⟩
                  have K := Aside0.mk (K.out.next hb)
                  clear hb
                  go_wp2_with fail
                  go_ret
                  exact ⟨by first | rfl | (simp; done), K.out.bel⟩
                | true =>
                  have vbt := HS.out rfl
                  subst vbt
                  go_wp2_with (first | ((with_reducible refine gate_dst (N := 78) rfl ?_); refine gate_guard (by rfl) ?_; dsimp only; refine wpList_load_row rfl 23 _ rfl w.heap.size rfl 23 r.arr (0, 0) _ (by with_reducible exact K.out.rb) Try.underlying23 rfl (by kernel_rfl) ?_) | ((with_reducible refine gate_dst (N := 80) rfl ?_); refine gate_guard (by rfl) ?_; dsimp only; refine wpList_load_row rfl 25 _ rfl (w.heap.size + 1) rfl 25 c.arr (0, 0) _ (by with_reducible exact K.out.cb) Try.underlying25 rfl (by kernel_rfl) ?_))
                  refine (sweep_is r b c hr hs _ _ ESB.out).mono ?_
                  rintro e w10 ⟨rfl, hb⟩
                  have K := Aside0.mk (K.out.next hb)
                  clear hb
                  go_wp2_with (first | ((with_reducible refine gate_dst (N := 85) rfl ?_); refine wpList_load_row rfl 23 _ rfl w.heap.size rfl 23 r.arr (0, 0) _ (by with_reducible exact K.out.rb) Try.underlying23 rfl (by kernel_rfl) ?_) | ((with_reducible refine gate_dst (N := 88) rfl ?_); refine wpList_load_row rfl 25 _ rfl (w.heap.size + 1) rfl 25 c.arr (0, 0) _ (by with_reducible exact K.out.cb) Try.underlying25 rfl (by kernel_rfl) ?_))
                  refine (judge_is r true q a 0 c hr hq hs _ _ E0.out).mono ?_
                  rintro e w11 ⟨rfl, hb⟩
                  have K := Aside0.mk (K.out.next hb)
                  clear hb
                  go_wp2_with fail
                  go_ret
                  exact ⟨by first | rfl | (simp; done), K.out.bel⟩
              | true =>
                have ubt := HB.out rfl
                subst ubt
                go_wp2_with (first | ((with_reducible refine gate_dst (N := 65) rfl ?_); refine gate_guard (by rfl) ?_; dsimp only; refine wpList_load_row rfl 23 _ rfl w.heap.size rfl 23 r.arr (0, 0) _ (by with_reducible exact K.out.rb) Try.underlying23 rfl (by kernel_rfl) ?_) | ((with_reducible refine gate_dst (N := 67) rfl ?_); refine gate_guard (by rfl) ?_; dsimp only; refine wpList_load_row rfl 25 _ rfl (w.heap.size + 1) rfl 25 c.arr (0, 0) _ (by with_reducible exact K.out.cb) Try.underlying25 rfl (by kernel_rfl) ?_))
                refine (bury_is r b c hr hs _ _ EBB.out).mono ?_
                rintro e w9 ⟨rfl, hb⟩
                have K := Aside0.mk (K.out.next hb)
                clear hb
                go_wp2_with (first | ((with_reducible refine gate_dst (N := 73) rfl ?_); refine gate_guard (by rfl) ?_; dsimp only; refine wpList_load_row rfl 23 _ rfl w.heap.size rfl 23 r.arr (0, 0) _ (by with_reducible exact K.out.rb) Try.underlying23 rfl (by kernel_rfl) ?_) | ((with_reducible refine gate_dst (N := 75) rfl ?_); refine gate_guard (by rfl) ?_; dsimp only; refine wpList_load_row rfl 25 _ rfl (w.heap.size + 1) rfl 25 c.arr (0, 0) _ (by with_reducible exact K.out.cb) Try.underlying25 rfl (by kernel_rfl) ?_))
                refine (sweep_is r a c hr hs _ _ ESA.out).mono ?_
                rintro e w10 ⟨rfl, hb⟩
                have K := Aside0.mk (K.out.next hb)
                clear hb
                cases va with
                | false =>
                  go_wp2_with (first | ((with_reducible refine gate_dst (N := 85) rfl ?_); refine wpList_load_row rfl 23 _ rfl w.heap.size rfl 23 r.arr (0, 0) _ (by with_reducible exact K.out.rb) Try.underlying23 rfl (by kernel_rfl) ?_) | ((with_reducible refine gate_dst (N := 88) rfl ?_); refine wpList_load_row rfl 25 _ rfl (w.heap.size + 1) rfl 25 c.arr (0, 0) _ (by with_reducible exact K.out.cb) Try.underlying25 rfl (by kernel_rfl) ?_))
                  refine (judge_is r true q a 0 c hr hq hs _ _ E0.out).mono ?_
                  rintro e w11 ⟨rfl, hb⟩
                  have K := Aside0.mk (K.out.next hb)
                  clear hb
                  go_wp2_with fail
                  go_ret
                  exact ⟨by first | rfl | (simp; done), K.out.bel⟩
                | true =>
                  have vbt := HS.out rfl
                  subst vbt
                  go_wp2_with (first | ((with_reducible refine gate_dst (N := 78) rfl ?_); refine gate_guard (by rfl) ?_; dsimp only; refine wpList_load_row rfl 23 _ rfl w.heap.size rfl 23 r.arr (0, 0) _ (by with_reducible exact K.out.rb) Try.underlying23 rfl (by kernel_rfl) ?_) | ((with_reducible refine gate_dst (N := 80) rfl ?_); refine gate_guard (by rfl) ?_; dsimp only; refine wpList_load_row rfl 25 _ rfl (w.heap.size + 1) rfl 25 c.arr (0, 0) _ (by with_reducible exact K.out.cb) Try.underlying25 rfl (by kernel_rfl) ?_))
                  refine (sweep_is r b c hr hs _ _ ESB.out).mono ?_
                  rintro e w11 ⟨rfl, hb⟩
                  have K := Aside0.mk (K.out.next hb)
                  clear hb
                  go_wp2_with (first | ((with_reducible refine gate_dst (N := 85) rfl ?_); refine wpList_load_row rfl 23 _ rfl w.heap.size rfl 23 r.arr (0, 0) _ (by with_reducible exact K.out.rb) Try.underlying23 rfl (by kernel_rfl) ?_) | ((with_reducible refine gate_dst (N := 88) rfl ?_); refine wpList_load_row rfl 25 _ rfl (w.heap.size + 1) rfl 25 c.arr (0, 0) _ (by with_reducible exact K.out.cb) Try.underlying25 rfl (by kernel_rfl) ?_))
                  refine (judge_is r true q a 0 c hr hq hs _ _ E0.out).mono ?_
                  rintro e w12 ⟨rfl, hb⟩
                  have K := Aside0.mk (K.out.next hb)
                  clear hb
                  go_wp2_with fail
                  go_ret
                  exact ⟨by first | rfl | (simp; done), K.out.bel⟩
          · go_wp2_with fail
            refine (rank_is 4 3 (by rfl) _).mono ?_
            rintro e w6 ⟨rfl, hb⟩
            have K := Aside0.mk (K.out.next hb)
            clear hb
            go_wp2_with fail
            refine (rank_is 4 3 (by rfl) _).mono ?_
            rintro e w7 ⟨rfl, hb⟩
            have K := Aside0.mk (K.out.next hb)
            clear hb
            go_wp2_with (first | ((with_reducible refine gate_dst (N := 60) rfl ?_); refine gate_guard (by rfl) ?_; dsimp only; refine wpList_load_row rfl 23 _ rfl w.heap.size rfl 23 r.arr (0, 0) _ (by with_reducible exact K.out.rb) Try.underlying23 rfl (by kernel_rfl) ?_) | ((with_reducible refine gate_dst (N := 62) rfl ?_); refine gate_guard (by rfl) ?_; dsimp only; refine wpList_load_row rfl 25 _ rfl (w.heap.size + 1) rfl 25 c.arr (0, 0) _ (by with_reducible exact K.out.cb) Try.underlying25 rfl (by kernel_rfl) ?_))
            refine (bury_is r a c hr hs _ _ EBA.out).mono ?_
            rintro e w8 ⟨rfl, hb⟩
            have K := Aside0.mk (K.out.next hb)
            clear hb
            cases ua with
            | false =>
              go_wp2_with (first | ((with_reducible refine gate_dst (N := 73) rfl ?_); refine gate_guard (by rfl) ?_; dsimp only; refine wpList_load_row rfl 23 _ rfl w.heap.size rfl 23 r.arr (0, 0) _ (by with_reducible exact K.out.rb) Try.underlying23 rfl (by kernel_rfl) ?_) | ((with_reducible refine gate_dst (N := 75) rfl ?_); refine gate_guard (by rfl) ?_; dsimp only; refine wpList_load_row rfl 25 _ rfl (w.heap.size + 1) rfl 25 c.arr (0, 0) _ (by with_reducible exact K.out.cb) Try.underlying25 rfl (by kernel_rfl) ?_))
              refine (sweep_is r a c hr hs _ _ ESA.out).mono ?_
              rintro e w9 ⟨rfl, hb⟩
              have K := Aside0.mk (K.out.next hb)
              clear hb
              cases va with
              | false =>
                go_wp2_with (first | ((with_reducible refine gate_dst (N := 85) rfl ?_); refine wpList_load_row rfl 23 _ rfl w.heap.size rfl 23 r.arr (0, 0) _ (by with_reducible exact K.out.rb) Try.underlying23 rfl (by kernel_rfl) ?_) | ((with_reducible refine gate_dst (N := 88) rfl ?_); refine wpList_load_row rfl 25 _ rfl (w.heap.size + 1) rfl 25 c.arr (0, 0) _ (by with_reducible exact K.out.cb) Try.underlying25 rfl (by kernel_rfl) ?_))
                refine (judge_is r true q a 0 c hr hq hs _ _ E0.out).mono ?_
                rintro e w10 ⟨rfl, hb⟩
                have K := Aside0.mk (K.out.next hb)
                clear hb
                go_wp2_with fail
                go_ret
                exact ⟨by first | rfl | (simp; done), K.out.bel⟩
              | true =>
                have vbt := HS.out rfl
                subst vbt
                go_wp2_with (first | ((with_reducible refine gate_dst (N := 78) rfl ?_); refine gate_guard (by rfl) ?_; dsimp only; refine wpList_load_row rfl 23 _ rfl w.heap.size rfl 23 r.arr (0, 0) _ (by with_reducible exact K.out.rb) Try.underlying23 rfl (by kernel_rfl) ?_) | ((with_reducible refine gate_dst (N := 80) rfl ?_); refine gate_guard (by rfl) ?_; dsimp only; refine wpList_load_row rfl 25 _ rfl (w.heap.size + 1) rfl 25 c.arr (0, 0) _ (by with_reducible exact K.out.cb) Try.underlying25 rfl (by kernel_rfl) ?_))
                refine (sweep_is r b c hr hs _ _ ESB.out).mono ?_
                rintro e w10 ⟨rfl, hb⟩
                have K := Aside0.mk (K.out.next hb)
                clear hb
                go_wp2_with (first | ((with_reducible refine gate_dst (N := 85) rfl ?_); refine wpList_load_row rfl 23 _ rfl w.heap.size rfl 23 r.arr (0, 0) _ (by with_reducible exact K.out.rb) Try.underlying23 rfl (by kernel_rfl) ?_) | ((with_reducible refine gate_dst (N := 88) rfl ?_); refine wpList_load_row rfl 25 _ rfl (w.heap.size + 1) rfl 25 c.arr (0, 0) _ (by with_reducible exact K.out.cb) Try.underlying25 rfl (by kernel_rfl) ?_))
                refine (judge_is r true q a 0 c hr hq hs _ _ E0.out).mono ?_
                rintro e w11 ⟨rfl, hb⟩
                have K := Aside0.mk (K.out.next hb)
                clear hb
                go_wp2_with fail
                go_ret
                exact ⟨by first | rfl | (simp; done), K.out.bel⟩
            | true =>
              have ubt := HB.out rfl
              subst ubt
              go_wp2_with (first | ((with_reducible refine gate_dst (N := 65) rfl ?_); refine gate_guard (by rfl) ?_; dsimp only; refine wpList_load_row rfl 23 _ rfl w.heap.size rfl 23 r.arr (0, 0) _ (by with_reducible exact K.out.rb) Try.underlying23 rfl (by kernel_rfl) ?_) | ((with_reducible refine gate_dst (N := 67) rfl ?_); refine gate_guard (by rfl) ?_; dsimp only; refine wpList_load_row rfl 25 _ rfl (w.heap.size + 1) rfl 25 c.arr (0, 0) _ (by with_reducible exact K.out.cb) Try.underlying25 rfl (by kernel_rfl) ?_))
              refine (bury_is r b c hr hs _ _ EBB.out).mono ?_
              rintro e w9 ⟨rfl, hb⟩
              have K := Aside0.mk (K.out.next hb)
              clear hb
              go_wp2_with (first | ((with_reducible refine gate_dst (N := 73) rfl ?_); refine gate_guard (by rfl) ?_; dsimp only; refine wpList_load_row rfl 23 _ rfl w.heap.size rfl 23 r.arr (0, 0) _ (by with_reducible exact K.out.rb) Try.underlying23 rfl (by kernel_rfl) ?_) | ((with_reducible refine gate_dst (N := 75) rfl ?_); refine gate_guard (by rfl) ?_; dsimp only; refine wpList_load_row rfl 25 _ rfl (w.heap.size + 1) rfl 25 c.arr (0, 0) _ (by with_reducible exact K.out.cb) Try.underlying25 rfl (by kernel_rfl) ?_))
              refine (sweep_is r a c hr hs _ _ ESA.out).mono ?_
              rintro e w10 ⟨rfl, hb⟩
              have K := Aside0.mk (K.out.next hb)
              clear hb
              cases va with
              | false =>
                go_wp2_with (first | ((with_reducible refine gate_dst (N := 85) rfl ?_); refine wpList_load_row rfl 23 _ rfl w.heap.size rfl 23 r.arr (0, 0) _ (by with_reducible exact K.out.rb) Try.underlying23 rfl (by kernel_rfl) ?_) | ((with_reducible refine gate_dst (N := 88) rfl ?_); refine wpList_load_row rfl 25 _ rfl (w.heap.size + 1) rfl 25 c.arr (0, 0) _ (by with_reducible exact K.out.cb) Try.underlying25 rfl (by kernel_rfl) ?_))
                refine (judge_is r true q a 0 c hr hq hs _ _ E0.out).mono ?_
                rintro e w11 ⟨rfl, hb⟩
                have K := Aside0.mk (K.out.next hb)
                clear hb
                go_wp2_with fail
                go_ret
                exact ⟨by first | rfl | (simp; done), K.out.bel⟩
              | true =>
                have vbt := HS.out rfl
                subst vbt
                go_wp2_with (first | ((with_reducible refine gate_dst (N := 78) rfl ?_); refine gate_guard (by rfl) ?_; dsimp only; refine wpList_load_row rfl 23 _ rfl w.heap.size rfl 23 r.arr (0, 0) _ (by with_reducible exact K.out.rb) Try.underlying23 rfl (by kernel_rfl) ?_) | ((with_reducible refine gate_dst (N := 80) rfl ?_); refine gate_guard (by rfl) ?_; dsimp only; refine wpList_load_row rfl 25 _ rfl (w.heap.size + 1) rfl 25 c.arr (0, 0) _ (by with_reducible exact K.out.cb) Try.underlying25 rfl (by kernel_rfl) ?_))
                refine (sweep_is r b c hr hs _ _ ESB.out).mono ?_
                rintro e w11 ⟨rfl, hb⟩
                have K := Aside0.mk (K.out.next hb)
                clear hb
                go_wp2_with (first | ((with_reducible refine gate_dst (N := 85) rfl ?_); refine wpList_load_row rfl 23 _ rfl w.heap.size rfl 23 r.arr (0, 0) _ (by with_reducible exact K.out.rb) Try.underlying23 rfl (by kernel_rfl) ?_) | ((with_reducible refine gate_dst (N := 88) rfl ?_); refine wpList_load_row rfl 25 _ rfl (w.heap.size + 1) rfl 25 c.arr (0, 0) _ (by with_reducible exact K.out.cb) Try.underlying25 rfl (by kernel_rfl) ?_))
                refine (judge_is r true q a 0 c hr hq hs _ _ E0.out).mono ?_
                rintro e w12 ⟨rfl, hb⟩
                have K := Aside0.mk (K.out.next hb)
                clear hb
                go_wp2_with fail
                go_ret
                exact ⟨by first | rfl | (simp; done), K.out.bel⟩
          · rcases hy with rfl | rfl
            · go_wp2_with fail
              refine (rank_is 5 1 (by rfl) _).mono ?_
              rintro e w6 ⟨rfl, hb⟩
              have K := Aside0.mk (K.out.next hb)
              clear hb
              go_wp2_with fail
              refine (rank_is 5 1 (by rfl) _).mono ?_
              rintro e w7 ⟨rfl, hb⟩
              have K := Aside0.mk (K.out.next hb)
              clear hb
              go_wp2_with (first | ((with_reducible refine gate_dst (N := 60) rfl ?_); refine gate_guard (by rfl) ?_; dsimp only; refine wpList_load_row rfl 23 _ rfl w.heap.size rfl 23 r.arr (0, 0) _ (by with_reducible exact K.out.rb) Try.underlying23 rfl (by kernel_rfl) ?_) | ((with_reducible refine gate_dst (N := 62) rfl ?_); refine gate_guard (by rfl) ?_; dsimp only; refine wpList_load_row rfl 25 _ rfl (w.heap.size + 1) rfl 25 c.arr (0, 0) _ (by with_reducible exact K.out.cb) Try.underlying25 rfl (by kernel_rfl) ?_))
              refine (bury_is r a c hr hs _ _ EBA.out).mono ?_
              rintro e w8 ⟨rfl, hb⟩
              have K := Aside0.mk (K.out.next hb)
              clear hb
              cases ua with
              | false =>
                go_wp2_with (first | ((with_reducible refine gate_dst (N := 73) rfl ?_); refine gate_guard (by rfl) ?_; dsimp only; refine wpList_load_row rfl 23 _ rfl w.heap.size rfl 23 r.arr (0, 0) _ (by with_reducible exact K.out.rb) Try.underlying23 rfl (by kernel_rfl) ?_) | ((with_reducible refine gate_dst (N := 75) rfl ?_); refine gate_guard (by rfl) ?_; dsimp only; refine wpList_load_row rfl 25 _ rfl (w.heap.size + 1) rfl 25 c.arr (0, 0) _ (by with_reducible exact K.out.cb) Try.underlying25 rfl (by kernel_rfl) ?_))
                refine (sweep_is r a c hr hs _ _ ESA.out).mono ?_
                rintro e w9 ⟨rfl, hb⟩
                have K := Aside0.mk (K.out.next hb)
                clear hb
                cases va with
                | false =>
                  go_wp2_with (first | ((with_reducible refine gate_dst (N := 85) rfl ?_); refine wpList_load_row rfl 23 _ rfl w.heap.size rfl 23 r.arr (0, 0) _ (by with_reducible exact K.out.rb) Try.underlying23 rfl (by kernel_rfl) ?_) | ((with_reducible refine gate_dst (N := 88) rfl ?_); refine wpList_load_row rfl 25 _ rfl (w.heap.size + 1) rfl 25 c.arr (0, 0) _ (by with_reducible exact K.out.cb) Try.underlying25 rfl (by kernel_rfl) ?_))
                  refine (judge_is r true q a 0 c hr hq hs _ _ E0.out).mono ?_
                  rintro e w10 ⟨rfl, hb⟩
                  have K := Aside0.mk (K.out.next hb)
                  clear hb
                  go_wp2_with fail
                  go_ret
                  exact ⟨by first | rfl | (simp; done), K.out.bel⟩
                | true =>
                  have vbt := HS.out rfl
                  subst vbt
                  go_wp2_with (first | ((with_reducible refine gate_dst (N := 78) rfl ?_); refine gate_guard (by rfl) ?_; dsimp only; refine wpList_load_row rfl 23 _ rfl w.heap.size rfl 23 r.arr (0, 0) _ (by with_reducible exact K.out.rb) Try.underlying23 rfl (by kernel_rfl) ?_) | ((with_reducible refine gate_dst (N := 80) rfl ?_); refine gate_guard (by rfl) ?_; dsimp only; refine wpList_load_row rfl 25 _ rfl (w.heap.size + 1) rfl 25 c.arr (0, 0) _ (by with_reducible exact K.out.cb) Try.underlying25 rfl (by kernel_rfl) ?_))
                  refine (sweep_is r b c hr hs _ _ ESB.out).mono ?_
                  rintro e w10 ⟨rfl, hb⟩
                  have K := Aside0.mk (K.out.next hb)
                  clear hb
                  go_wp2_with (first | ((with_reducible refine gate_dst (N := 85) rfl ?_); refine wpList_load_row rfl 23 _ rfl w.heap.size rfl 23 r.arr (0, 0) _ (by with_reducible exact K.out.rb) Try.underlying23 rfl (by kernel_rfl) ?_) | ((with_reducible refine gate_dst (N := 88) rfl ?_); refine wpList_load_row rfl 25 _ rfl (w.heap.size + 1) rfl 25 c.arr (0, 0) _ (by with_reducible exact K.out.cb) Try.underlying25 rfl (by kernel_rfl) ?_))
                  refine (judge_is r true q a 0 c hr hq hs _ _ E0.out).mono ?_
                  rintro e w11 ⟨rfl, hb⟩
                  have K := Aside0.mk (K.out.next hb)
                  clear hb
                  go_wp2_with fail
                  go_ret
                  exact ⟨by first | rfl | (simp; done), K.out.bel⟩
              | true =>
                have ubt := HB.out rfl
                subst ubt
                go_wp2_with (first | ((with_reducible refine gate_dst (N := 65) rfl ?_); refine gate_guard (by rfl) ?_; dsimp only; refine wpList_load_row rfl 23 _ rfl w.heap.size rfl 23 r.arr (0, 0) _ (by with_reducible exact K.out.rb) Try.underlying23 rfl (by kernel_rfl) ?_) | ((with_reducible refine gate_dst (N := 67) rfl ?_); refine gate_guard (by rfl) ?_; dsimp only; refine wpList_load_row rfl 25 _ rfl (w.heap.size + 1) rfl 25 c.arr (0, 0) _ (by with_reducible exact K.out.cb) Try.underlying25 rfl (by kernel_rfl) ?_))
                refine (bury_is r b c hr hs _ _ EBB.out).mono ?_
                rintro e w9 ⟨rfl, hb⟩
                have K := Aside0.mk (K.out.next hb)
                clear hb
                go_wp2_with (first | ((with_reducible refine gate_dst (N := 73) rfl ?_); refine gate_guard (by rfl) ?_; dsimp only; refine wpList_load_row rfl 23 _ rfl w.heap.size rfl 23 r.arr (0, 0) _ (by with_reducible exact K.out.rb) Try.underlying23 rfl (by kernel_rfl) ?_) | ((with_reducible refine gate_dst (N := 75) rfl ?_); refine gate_guard (by rfl) ?_; dsimp only; refine wpList_load_row rfl 25 _ rfl (w.heap.size + 1) rfl 25 c.arr (0, 0) _ (by with_reducible exact K.out.cb) Try.underlying25 rfl (by kernel_rfl) ?_))
                refine (sweep_is r a c hr hs _ _ ESA.out).mono ?_
                rintro e w10 ⟨rfl, hb⟩
                have K := Aside0.mk (K.out.next hb)
                clear hb
                cases va with
                | false =>
                  go_wp2_with (first | ((with_reducible refine gate_dst (N := 85) rfl ?_); refine wpList_load_row rfl 23 _ rfl w.heap.size rfl 23 r.arr (0, 0) _ (by with_reducible exact K.out.rb) Try.underlying23 rfl (by kernel_rfl) ?_) | ((with_reducible refine gate_dst (N := 88) rfl ?_); refine wpList_load_row rfl 25 _ rfl (w.heap.size + 1) rfl 25 c.arr (0, 0) _ (by with_reducible exact K.out.cb) Try.underlying25 rfl (by kernel_rfl) ?_))
                  refine (judge_is r true q a 0 c hr hq hs _ _ E0.out).mono ?_
                  rintro e w11 ⟨rfl, hb⟩
                  have K := Aside0.mk (K.out.next hb)
                  clear hb
                  go_wp2_with fail
                  go_ret
                  exact ⟨by first | rfl | (simp; done), K.out.bel⟩
                | true =>
                  have vbt := HS.out rfl
                  subst vbt
                  go_wp2_with (first | ((with_reducible refine gate_dst (N := 78) rfl ?_); refine gate_guard (by rfl) ?_; dsimp only; refine wpList_load_row rfl 23 _ rfl w.heap.size rfl 23 r.arr (0, 0) _ (by with_reducible exact K.out.rb) Try.underlying23 rfl (by kernel_rfl) ?_) | ((with_reducible refine gate_dst (N := 80) rfl ?_); refine gate_guard (by rfl) ?_; dsimp only; refine wpList_load_row rfl 25 _ rfl (w.heap.size + 1) rfl 25 c.arr (0, 0) _ (by with_reducible exact K.out.cb) Try.underlying25 rfl (by kernel_rfl) ?_))
                  refine (sweep_is r b c hr hs _ _ ESB.out).mono ?_
                  rintro e w11 ⟨rfl, hb⟩
                  have K := Aside0.mk (K.out.next hb)
                  clear hb
                  go_wp2_with (first | ((with_reducible refine gate_dst (N := 85) rfl ?_); refine wpList_load_row rfl 23 _ rfl w.heap.size rfl 23 r.arr (0, 0) _ (by with_reducible exact K.out.rb) Try.underlying23 rfl (by kernel_rfl) ?_) | ((with_reducible refine gate_dst (N := 88) rfl ?_); refine wpList_load_row rfl 25 _ rfl (w.heap.size + 1) rfl 25 c.arr (0, 0) _ (by with_reducible exact K.out.cb) Try.underlying25 rfl (by kernel_rfl) ?_))
                  refine (judge_is r true q a 0 c hr hq hs _ _ E0.out).mono ?_
                  rintro e w12 ⟨rfl, hb⟩
                  have K := Aside0.mk (K.out.next hb)
                  clear hb
                  go_wp2_with fail
                  go_ret
                  exact ⟨by first | rfl | (simp; done), K.out.bel⟩
            · go_wp2_with fail
              refine (rank_is 5 1 (by rfl) _).mono ?_
              rintro e w6 ⟨rfl, hb⟩
              have K := Aside0.mk (K.out.next hb)
              clear hb
              go_wp2_with fail
              refine (rank_is 1 2 (by rfl) _).mono ?_
              rintro e w7 ⟨rfl, hb⟩
              have K := Aside0.mk (K.out.next hb)
              clear hb
              go_wp2_with (first | ((with_reducible refine gate_dst (N := 60) rfl ?_); refine gate_guard (by rfl) ?_; dsimp only; refine wpList_load_row rfl 23 _ rfl w.heap.size rfl 23 r.arr (0, 0) _ (by with_reducible exact K.out.rb) Try.underlying23 rfl (by kernel_rfl) ?_) | ((with_reducible refine gate_dst (N := 62) rfl ?_); refine gate_guard (by rfl) ?_; dsimp only; refine wpList_load_row rfl 25 _ rfl (w.heap.size + 1) rfl 25 c.arr (0, 0) _ (by with_reducible exact K.out.cb) Try.underlying25 rfl (by kernel_rfl) ?_))
              refine (bury_is r a c hr hs _ _ EBA.out).mono ?_
              rintro e w8 ⟨rfl, hb⟩
              have K := Aside0.mk (K.out.next hb)
              clear hb
              cases ua with
              | false =>
                go_wp2_with (first | ((with_reducible refine gate_dst (N := 73) rfl ?_); refine gate_guard (by rfl) ?_; dsimp only; refine wpList_load_row rfl 23 _ rfl w.heap.size rfl 23 r.arr (0, 0) _ (by with_reducible exact K.out.rb) Try.underlying23 rfl (by kernel_rfl) ?_) | ((with_reducible refine gate_dst (N := 75) rfl ?_); refine gate_guard (by rfl) ?_; dsimp only; refine wpList_load_row rfl 25 _ rfl (w.heap.size + 1) rfl 25 c.arr (0, 0) _ (by with_reducible exact K.out.cb) Try.underlying25 rfl (by kernel_rfl) ?_))
                refine (sweep_is r a c hr hs _ _ ESA.out).mono ?_
                rintro e w9 ⟨rfl, hb⟩
                have K := Aside0.mk (K.out.next hb)
                clear hb
                cases va with
                | false =>
                  go_wp2_with (first | ((with_reducible refine gate_dst (N := 85) rfl ?_); refine wpList_load_row rfl 23 _ rfl w.heap.size rfl 23 r.arr (0, 0) _ (by with_reducible exact K.out.rb) Try.underlying23 rfl (by kernel_rfl) ?_) | ((with_reducible refine gate_dst (N := 88) rfl ?_); refine wpList_load_row rfl 25 _ rfl (w.heap.size + 1) rfl 25 c.arr (0, 0) _ (by with_reducible exact K.out.cb) Try.underlying25 rfl (by kernel_rfl) ?_))
                  refine (judge_is r true q a 0 c hr hq hs _ _ E0.out).mono ?_
                  rintro e w10 ⟨rfl, hb⟩
                  have K := Aside0.mk (K.out.next hb)
                  clear hb
                  go_wp2_with fail
                  go_ret
                  exact ⟨by first | rfl | (simp; done), K.out.bel⟩
                | true =>
                  have vbt := HS.out rfl
                  subst vbt
                  go_wp2_with (first | ((with_reducible refine gate_dst (N := 78) rfl ?_); refine gate_guard (by rfl) ?_; dsimp only; refine wpList_load_row rfl 23 _ rfl w.heap.size rfl 23 r.arr (0, 0) _ (by with_reducible exact K.out.rb) Try.underlying23 rfl (by kernel_rfl) ?_) | ((with_reducible refine gate_dst (N := 80) rfl ?_); refine gate_guard (by rfl) ?_; dsimp only; refine wpList_load_row rfl 25 _ rfl (w.heap.size + 1) rfl 25 c.arr (0, 0) _ (by with_reducible exact K.out.cb) Try.underlying25 rfl (by kernel_rfl) ?_))
                  refine (sweep_is r b c hr hs _ _ ESB.out).mono ?_
                  rintro e w10 ⟨rfl, hb⟩
                  have K := Aside0.mk (K.out.next hb)
                  clear hb
                  go_wp2_with (first | ((with_reducible refine gate_dst (N := 85) rfl ?_); refine wpList_load_row rfl 23 _ rfl w.heap.size rfl 23 r.arr (0, 0) _ (by with_reducible exact K.out.rb) Try.underlying23 rfl (by kernel_rfl) ?_) | ((with_reducible refine gate_dst (N := 88) rfl ?_); refine wpList_load_row rfl 25 _ rfl (w.heap.size + 1) rfl 25 c.arr (0, 0) _ (by with_reducible exact K.out.cb) Try.underlying25 rfl (by kernel_rfl) ?_))
                  refine (judge_is r true q a 0 c hr hq hs _ _ E0.out).mono ?_
                  rintro e w11 ⟨rfl, hb⟩
                  have K := Aside0.mk (K.out.next hb)
                  clear hb
                  go_wp2_with fail
                  go_ret
                  exact ⟨by first | rfl | (simp; done), K.out.bel⟩
              | true =>
                have ubt := HB.out rfl
                subst ubt
                go_wp2_with (first | ((with_reducible refine gate_dst (N := 65) rfl ?_); refine gate_guard (by rfl) ?_; dsimp only; refine wpList_load_row rfl 23 _ rfl w.heap.size rfl 23 r.arr (0, 0) _ (by with_reducible exact K.out.rb) Try.underlying23 rfl (by kernel_rfl) ?_) | ((with_reducible refine gate_dst (N := 67) rfl ?_); refine gate_guard (by rfl) ?_; dsimp only; refine wpList_load_row rfl 25 _ rfl (w.heap.size + 1) rfl 25 c.arr (0, 0) _ (by with_reducible exact K.out.cb) Try.underlying25 rfl (by kernel_rfl) ?_))
                refine (bury_is r b c hr hs _ _ EBB.out).mono ?_
                rintro e w9 ⟨rfl, hb⟩
                have K := Aside0.mk (K.out.next hb)
                clear hb
                go_wp2_with (first | ((with_reducible refine gate_dst (N := 73) rfl ?_); refine gate_guard (by rfl) ?_; dsimp only; refine wpList_load_row rfl 23 _ rfl w.heap.size rfl 23 r.arr (0, 0) _ (by with_reducible exact K.out.rb) Try.underlying23 rfl (by kernel_rfl) ?_) | ((with_reducible refine gate_dst (N := 75) rfl ?_); refine gate_guard (by rfl) ?_; dsimp only; refine wpList_load_row rfl 25 _ rfl (w.heap.size + 1) rfl 25 c.arr (0, 0) _ (by with_reducible exact K.out.cb) Try.underlying25 rfl (by kernel_rfl) ?_))
                refine (sweep_is r a c hr hs _ _ ESA.out).mono ?_
                rintro e w10 ⟨rfl, hb⟩
                have K := Aside0.mk (K.out.next hb)
                clear hb
                cases va with
                | false =>
                  go_wp2_with (first | ((with_reducible refine gate_dst (N := 85) rfl ?_); refine wpList_load_row rfl 23 _ rfl w.heap.size rfl 23 r.arr (0, 0) _ (by with_reducible exact K.out.rb) Try.underlying23 rfl (by kernel_rfl) ?_) | ((with_reducible refine gate_dst (N := 88) rfl ?_); refine wpList_load_row rfl 25 _ rfl (w.heap.size + 1) rfl 25 c.arr (0, 0) _ (by with_reducible exact K.out.cb) Try.underlying25 rfl (by kernel_rfl) ?_))
                  refine (judge_is r true q a 0 c hr hq hs _ _ E0.out).mono ?_
                  rintro e w11 ⟨rfl, hb⟩
                  have K := Aside0.mk (K.out.next hb)
                  clear hb
                  go_wp2_with fail
                  go_ret
                  exact ⟨by first | rfl | (simp; done), K.out.bel⟩
                | true =>
                  have vbt := HS.out rfl
                  subst vbt
                  go_wp2_with (first | ((with_reducible refine gate_dst (N := 78) rfl ?_); refine gate_guard (by rfl) ?_; dsimp only; refine wpList_load_row rfl 23 _ rfl w.heap.size rfl 23 r.arr (0, 0) _ (by with_reducible exact K.out.rb) Try.underlying23 rfl (by kernel_rfl) ?_) | ((with_reducible refine gate_dst (N := 80) rfl ?_); refine gate_guard (by rfl) ?_; dsimp only; refine wpList_load_row rfl 25 _ rfl (w.heap.size + 1) rfl 25 c.arr (0, 0) _ (by with_reducible exact K.out.cb) Try.underlying25 rfl (by kernel_rfl) ?_))
                  refine (sweep_is r b c hr hs _ _ ESB.out).mono ?_
                  rintro e w11 ⟨rfl, hb⟩
                  have K := Aside0.mk (K.out.next hb)
                  clear hb
                  go_wp2_with (first | ((with_reducible refine gate_dst (N := 85) rfl ?_); refine wpList_load_row rfl 23 _ rfl w.heap.size rfl 23 r.arr (0, 0) _ (by with_reducible exact K.out.rb) Try.underlying23 rfl (by kernel_rfl) ?_) | ((with_reducible refine gate_dst (N := 88) rfl ?_); refine wpList_load_row rfl 25 _ rfl (w.heap.size + 1) rfl 25 c.arr (0, 0) _ (by with_reducible exact K.out.cb) Try.underlying25 rfl (by kernel_rfl) ?_))
                  refine (judge_is r true q a 0 c hr hq hs _ _ E0.out).mono ?_
                  rintro e w12 ⟨rfl, hb⟩
                  have K := Aside0.mk (K.out.next hb)
                  clear hb
                  go_wp2_with fail
                  go_ret
                  exact ⟨by first | rfl | (simp; done), K.out.bel⟩
end Go.Proofs.Ytijjdgmcjienlaa.PL
