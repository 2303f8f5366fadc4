/- The walk of LeaseIdle. -/
import Derived.Test.YtijjdgmcjienlaaLW
namespace Go.Proofs.Ytijjdgmcjienlaa.PL
open Go.RowKit Go.Proofs.Ytijjdgmcjienlaa.Q Go.Proofs.YtijjdgmcjienlaaW.PrintWords Go.Proofs.YtijjdgmcjienlaaW.PrintLast Go.Proofs.YtijjdgmcjienlaaW.PrintMore
set_option linter.unusedVariables false
set_option linter.unusedSimpArgs false
theorem yields_row {P : Program} {ops : Array Oper} {S : World → Prop} {o : Oper} {a : Act} (ty : TypeId) (x : Operand) (ho : o.op = .load ty x)
    (g : Nat) (hx : a.eval x = .pointer (some ⟨g, 0, none⟩)) (t : TypeId) (cs : Array Value) (fr : Nat × Nat) (d : TypeDesc) (hg : ∀ w, S w → w.heap[g]? = some (.cells cs t fr))
    (hu : P.underlying ty = some d) (hd : (match d with | .struct _ | .array _ _ => true | _ => false) = true) (hi : (P.info? ty).map (·.size) = some cs.size)
    (hw : Region.wanted o (yielded ops a.tmps) = true) : YieldsIf P ops S o (.agg cs) a := by
  refine Or.inl ⟨hw, fun w hs => ?_⟩
  unfold execOp
  simp only [ho, hx, Instr.loadAt, Instr.sureAddr, Sem.run_bind, Sem.run_pure, Result.andThen_ok, run_loadVar_row w g t ty cs fr d (hg w hs) hu hd hi]
theorem Two.drew1 {w0 w : World} {r : Rec} {c : Cfg} (h : Two w0 w r c) : Two w0 w.drew r c := ⟨blk_drew h.rb, blk_drew h.cb, below_drew1 h.bel⟩
def idleT3 : Bool × List (List Nat × List Nat) := (true, [([], []), ([], []), ([], []), ([0, 1, 2], [0, 1, 2]), ([], []), ([], []), ([], []), ([4, 5, 6, 3], [4, 5, 6]), ([3, 7, 0, 1, 2, 3], [3]), ([7, 8, 0, 1, 2, 3, 4, 5, 6, 7, 8], [7])])
def idleB3 : List Nat := [0, 0, 0, 7, 0, 0, 0, 127, 255, 511]
theorem idle_tab3 : rtab .any (opsOf Try.f7 3) = idleT3 := by kernel_rfl
theorem idle_bits3 : waitsOk idleT3.2 idleB3 = true := by kernel_rfl
def idleT8 : Bool × List (List Nat × List Nat) := (true, [([], []), ([], []), ([1], [1]), ([], []), ([], []), ([], []), ([0, 2, 3, 4, 5], [0, 2, 3, 4, 5]), ([], []), ([], []), ([], []), ([], []), ([], []), ([7, 8, 9, 10, 11, 6], [7, 8, 9, 10, 11]), ([6, 12, 0, 1, 2, 3, 4, 5, 6], [6]), ([12, 13, 0, 1, 2, 3, 4, 5, 6, 7, 8, 9, 10, 11, 12, 13], [12])])
def idleB8 : List Nat := [0, 0, 2, 0, 0, 0, 63, 0, 0, 0, 0, 0, 4095, 8191, 16383]
theorem idle_tab8 : rtab .any (opsOf Try.f7 8) = idleT8 := by kernel_rfl
theorem idle_bits8 : waitsOk idleT8.2 idleB8 = true := by kernel_rfl
theorem idle_facts (r : Rec) (q : ByteArray) (now draw : Int) (c : Cfg) : (buryB r now c = false ∧ ((sweepB r now c = true ∧ r.g = true) ∨ sweepB r now c = false)) ∨ (buryB r now c = true ∧ sweepB r now c = false ∧ r.g = false ∧
    (judgeI r true r.p now draw c = 4 ∨ judgeI r true r.p now draw c = 0) ∧ (judgeI r true q now draw c = 1 ∨ judgeI r true q now draw c = 0 ∨ (judgeI r true q now draw c = 4 ∧ r.p.toList = q.toList))) := by
  cases hb : buryB r now c with
  | false =>
    refine .inl ⟨rfl, ?_⟩
    cases hs : sweepB r now c with
    | false => exact .inr rfl
    | true =>
      unfold sweepB at hs
      simp only [Bool.and_eq_true] at hs
      exact .inl ⟨rfl, hs.2.1⟩
  | true =>
    unfold buryB at hb
    simp only [Bool.and_eq_true, decide_eq_true_eq, Bool.not_eq_true'] at hb
    obtain ⟨hm, hg, hn⟩ := hb
    have hc : cfgB c = true := by
      unfold mayB at hm
      simp only [Bool.and_eq_true] at hm
      simp_all
    have q3 := ((cfg_iff _).1 hc).1
    unfold CfgR at q3
    refine .inr ⟨rfl, ?_, hg, ?_, ?_⟩
    · unfold sweepB; rw [hg]; simp
    · unfold judgeI
      split
      · simp only [hg, Bool.true_eq_false, Bool.false_eq_true, if_false, if_true]
        rw [if_pos (show now ≥ r.a + c.c1 by omega)]
        exact .inl rfl
      · exact .inr rfl
    · unfold judgeI
      split
      · simp only [hg, Bool.true_eq_false, Bool.false_eq_true, if_false]
        by_cases hp : r.p.toList = q.toList
        · rw [if_pos hp, if_pos (show now ≥ r.a + c.c1 by omega)]
          exact .inr (.inr ⟨rfl, hp⟩)
        · rw [if_neg hp, if_pos (show now ≥ r.a + c.c2 by omega)]
          exact .inl rfl
      · exact .inr (.inl rfl)
set_option maxHeartbeats 8000000 in
set_option maxRecDepth 100000 in
theorem idle_walk (r : Rec) (q : ByteArray) (now draw : Int) (c : Cfg) (hr : r.p.size ≤ 140737488351232) (hq : q.size ≤ 140737488351232) (hs : Small c) (w : World) :
    Calls Try.prog 7 #[.agg r.arr, .string q, .int .i64 now, .int .i64 draw, .agg c.arr] w fun e w' => e = .returned (.bool true) ∧ Below w.heap.size w w' := by
  have hu := Try.underlying23
  go_enter Try.func7, Try.ntmps7
  go_wp2_with (first | ((with_reducible refine gate_load (T := 23) rfl ?_); refine wpList_load_row rfl 23 _ rfl w.heap.size rfl 23 r.arr (0, 0) _ (by with_reducible exact (Two.start w r c).rb) Try.underlying23 rfl (by kernel_rfl) ?_) | ((with_reducible refine gate_load (T := 25) rfl ?_); refine wpList_load_row rfl 25 _ rfl (w.heap.size + 1) rfl 25 c.arr (0, 0) _ (by with_reducible exact (Two.start w r c).cb) Try.underlying25 rfl (by kernel_rfl) ?_))
  cases hl : longB r q c with
  | true =>
    have HL := Aside0.mk hl
    clear hl
    refine (long_calls r q c _ HL.out _).mono ?_
    rintro e w1 ⟨rfl, hb⟩
    have K := Aside0.mk ((Two.start w r c).next hb)
    clear hb
    go_wp2_with fail
    refine (aw_true _).mono ?_
    rintro e w2 ⟨rfl, hb⟩
    have K := Aside0.mk (K.out.next hb)
    clear hb
    go_wp2_with fail
    go_ret
    exact ⟨rfl, K.out.bel⟩
  | false =>
    have HL := Aside0.mk hl
    clear hl
    refine (long_calls r q c _ HL.out _).mono ?_
    rintro e w1 ⟨rfl, hb⟩
    have K := Aside0.mk ((Two.start w r c).next hb)
    clear hb
    go_wp2_with fail
    refine (aw_true _).mono ?_
    rintro e w2 ⟨rfl, hb⟩
    have K := Aside0.mk (K.out.next hb)
    clear hb
    have HF := Aside0.mk (idle_facts r q now draw c)
    obtain ⟨vb, EB⟩ : ∃ j, Aside0 (buryB r now c = j) := ⟨_, ⟨rfl⟩⟩
    obtain ⟨vs, ES⟩ : ∃ j, Aside0 (sweepB r now c = j) := ⟨_, ⟨rfl⟩⟩
    obtain ⟨jo, EO⟩ : ∃ j, Aside0 (judgeI r true r.p now draw c = j) := ⟨_, ⟨rfl⟩⟩
    obtain ⟨jd, ED⟩ : ∃ j, Aside0 (judgeI r true q now draw c = j) := ⟨_, ⟨rfl⟩⟩
    rw [EB.out, ES.out, EO.out, ED.out] at HF
    go_wp2_with fail
    have K := Aside0.mk (K.out.drew1)
    refine start_ (n := 10) (S := (fun w' => w'.heap[w.heap.size]? = some (.cells r.arr 23 (0, 0)) ∧ w'.heap[w.heap.size + 1]? = some (.cells c.arr 25 (0, 0)) ∧ w'.cell? ⟨w.heap.size, 0, none⟩ = some (.string r.p))) (ds := []) #[false, false, false, false, false, false, false, false, false, false] (by kernel_rfl) rfl rfl ⟨K.out.rb, K.out.cb, (blk_cell K.out.rb 0).trans (rec0 r)⟩ (fun hHeld => ?_); refine with_tabW idle_tab3 idle_bits3 (fun HT_ HW_ => ?_)
    generalize hWD : World.drew _ = wD at K hHeld ⊢
    clear hWD
    refine pure_ (i := 1) (N := some 25) (v := ?_) (a' := ?_) #[false, true, false, false, false, false, false, false, false, false] rfl rfl (any_of HT_.out (by kernel_rfl)) (fun _ _ _ h => h) (Or.inl ⟨by rfl, ?_⟩) ?_ ?_
    rotate_left
    · intro w'
      go_simp
      with_reducible rfl
    rotate_left
    · simp only [Act.put, List.setIfInBounds_toArray, List.set_cons_zero, List.set_cons_succ, i64_w, i32_w]
      rfl
    refine pure_ (i := 5) (N := some 29) (v := ?_) (a' := ?_) #[false, true, false, false, false, true, false, false, false, false] rfl rfl (any_of HT_.out (by kernel_rfl)) (fun _ _ _ h => h) (Or.inl ⟨by rfl, ?_⟩) ?_ ?_
    rotate_left
    · intro w'
      go_simp
      with_reducible rfl
    rotate_left
    · simp only [Act.put, List.setIfInBounds_toArray, List.set_cons_zero, List.set_cons_succ, i64_w, i32_w]
      rfl
    refine take_ (i := 0) (N := some 24) (v := .agg r.arr) (a' := ?_) #[true, true, false, false, false, true, false, false, false, false] rfl rfl (take_ofW HT_.out HW_.out (by kernel_rfl)) (fun _ _ _ h => h) (yields_row 23 _ rfl w.heap.size rfl 23 r.arr (0, 0) _ (fun _ h => h.1) Try.underlying23 rfl (by kernel_rfl) (by rfl)) hHeld ?_ ?_
    rotate_left
    · simp only [Act.put, List.setIfInBounds_toArray, List.set_cons_zero, List.set_cons_succ, i64_w, i32_w]
      rfl
    refine take_ (i := 2) (N := some 26) (v := .agg c.arr) (a' := ?_) #[true, true, true, false, false, true, false, false, false, false] rfl rfl (take_ofW HT_.out HW_.out (by kernel_rfl)) (fun _ _ _ h => h) (yields_row 25 _ rfl (w.heap.size + 1) rfl 25 c.arr (0, 0) _ (fun _ h => h.2.1) Try.underlying25 rfl (by kernel_rfl) (by rfl)) hHeld ?_ ?_
    rotate_left
    · simp only [Act.put, List.setIfInBounds_toArray, List.set_cons_zero, List.set_cons_succ, i64_w, i32_w]
      rfl
    refine take_ (i := 4) (N := some 28) (v := .agg r.arr) (a' := ?_) #[true, true, true, false, true, true, false, false, false, false] rfl rfl (take_ofW HT_.out HW_.out (by kernel_rfl)) (fun _ _ _ h => h) (yields_row 23 _ rfl w.heap.size rfl 23 r.arr (0, 0) _ (fun _ h => h.1) Try.underlying23 rfl (by kernel_rfl) (by rfl)) hHeld ?_ ?_
    rotate_left
    · simp only [Act.put, List.setIfInBounds_toArray, List.set_cons_zero, List.set_cons_succ, i64_w, i32_w]
      rfl
    refine take_ (i := 6) (N := some 30) (v := .agg c.arr) (a' := ?_) #[true, true, true, false, true, true, true, false, false, false] rfl rfl (take_ofW HT_.out HW_.out (by kernel_rfl)) (fun _ _ _ h => h) (yields_row 25 _ rfl (w.heap.size + 1) rfl 25 c.arr (0, 0) _ (fun _ h => h.2.1) Try.underlying25 rfl (by kernel_rfl) (by rfl)) hHeld ?_ ?_
    rotate_left
    · simp only [Act.put, List.setIfInBounds_toArray, List.set_cons_zero, List.set_cons_succ, i64_w, i32_w]
      rfl
    refine one_ (i := 3) (N := some 27) #[true, true, true, true, true, true, true, false, false, false] rfl rfl (one_of HT_.out (by kernel_rfl)) (by decide) (fun K9 hK => ?_)
    refine goes_ Try.func15 (by kernel_rfl) rfl #[.agg r.arr, .int .i64 now, .agg c.arr] (by rfl) rfl rfl (by (try simp only [List.map_toArray, List.map_cons, List.map_nil]); first | done | rfl) ?_
    refine (bury_is r now c hr hs _ _ EB.out).mono ?_
    rintro e w4 ⟨rfl, hb⟩
    refine ⟨_, rfl, ?_⟩
    have K := Aside0.mk (K.out.next hb)
    clear hb
    refine hK.out _ _ ⟨K.out.rb, K.out.cb, (blk_cell K.out.rb 0).trans (rec0 r)⟩ (fun hHeld => ?_)
    clear hK K9
    refine norm_ (a' := ?_) ?_ ?_
    rotate_left
    · show Act.put _ (some 27) _ = _
      simp only [Act.put, List.setIfInBounds_toArray, List.set_cons_zero, List.set_cons_succ, i64_w, i32_w]
      rfl
    refine one_ (i := 7) (N := some 31) #[true, true, true, true, true, true, true, true, false, false] rfl rfl (one_of HT_.out (by kernel_rfl)) (by decide) (fun K9 hK => ?_)
    refine goes_ Try.func17 (by kernel_rfl) rfl #[.agg r.arr, .int .i64 now, .agg c.arr] (by rfl) rfl rfl (by (try simp only [List.map_toArray, List.map_cons, List.map_nil]); first | done | rfl) ?_
    refine (sweep_is r now c hr hs _ _ ES.out).mono ?_
    rintro e w5 ⟨rfl, hb⟩
    refine ⟨_, rfl, ?_⟩
    have K := Aside0.mk (K.out.next hb)
    clear hb
    refine hK.out _ _ ⟨K.out.rb, K.out.cb, (blk_cell K.out.rb 0).trans (rec0 r)⟩ (fun hHeld => ?_)
    clear hK K9
    refine norm_ (a' := ?_) ?_ ?_
    rotate_left
    · show Act.put _ (some 31) _ = _
      simp only [Act.put, List.setIfInBounds_toArray, List.set_cons_zero, List.set_cons_succ, i64_w, i32_w]
      rfl
    refine pure_ (i := 8) (N := some 11) (v := ?_) (a' := ?_) #[true, true, true, true, true, true, true, true, true, false] rfl rfl (any_of HT_.out (by kernel_rfl)) (fun _ _ _ h => h) (Or.inl ⟨by rfl, ?_⟩) ?_ ?_
    rotate_left
    · intro w'
      go_simp
      with_reducible rfl
    rotate_left
    · simp only [Act.put, List.setIfInBounds_toArray, List.set_cons_zero, List.set_cons_succ, i64_w, i32_w]
      rfl
    refine pure_ (i := 9) (N := some 12) (v := ?_) (a' := ?_) #[true, true, true, true, true, true, true, true, true, true] rfl rfl (any_of HT_.out (by kernel_rfl)) (fun _ _ _ h => h) (Or.inl ⟨by rfl, ?_⟩) ?_ ?_
    rotate_left
    · intro w'
      go_simp
      with_reducible rfl
    rotate_left
    · simp only [Act.put, List.setIfInBounds_toArray, List.set_cons_zero, List.set_cons_succ, i64_w, i32_w]
      rfl
    refine done_ (done_of HT_.out (by kernel_rfl)) ?_
    clear HT_ HW_ hHeld
    have q0 : w5.cell? ⟨w.heap.size, 0, none⟩ = some (.string r.p) := (blk_cell K.out.rb 0).trans (rec0 r)
    have q3 : w5.cell? ⟨w.heap.size, 3, none⟩ = some (.bool r.g) := (blk_cell K.out.rb 3).trans (rec3 r)
    have hf := HF.out
    clear HF
    rcases hf with ⟨rfl, ⟨rfl, hg⟩ | rfl⟩ | ⟨rfl, rfl, hg, ho, hd⟩
    · rw [hg] at q3
      clear hg
      go_wp2_with fail
      go_ret
      exact ⟨by first | rfl | (simp; done), K.out.bel⟩
    · go_wp2_with fail
      go_ret
      exact ⟨by first | rfl | (simp; done), K.out.bel⟩
    · rw [hg] at q3
      have HO := Aside0.mk ho
      have HD := Aside0.mk hd
      clear hg ho hd
      go_wp2_with fail
      have K := Aside0.mk (K.out.drew1)
      refine start_ (n := 15) (S := (fun w' => w'.heap[w.heap.size]? = some (.cells r.arr 23 (0, 0)) ∧ w'.heap[w.heap.size + 1]? = some (.cells c.arr 25 (0, 0)) ∧ w'.cell? ⟨w.heap.size, 0, none⟩ = some (.string r.p))) (ds := []) #[false, false, false, false, false, false, false, false, false, false, false, false, false, false, false] (by kernel_rfl) rfl rfl ⟨K.out.rb, K.out.cb, (blk_cell K.out.rb 0).trans (rec0 r)⟩ (fun hHeld => ?_); refine with_tabW idle_tab8 idle_bits8 (fun HT_ HW_ => ?_)
      generalize hWD : World.drew _ = wD at K hHeld ⊢
      clear hWD
      refine pure_ (i := 1) (N := some 51) (v := ?_) (a' := ?_) #[false, true, false, false, false, false, false, false, false, false, false, false, false, false, false] rfl rfl (any_of HT_.out (by kernel_rfl)) (fun _ _ _ h => h) (Or.inl ⟨by rfl, ?_⟩) ?_ ?_
      rotate_left
      · intro w'
        go_simp
        with_reducible rfl
      rotate_left
      · simp only [Act.put, List.setIfInBounds_toArray, List.set_cons_zero, List.set_cons_succ, i64_w, i32_w]
        rfl
      refine pure_ (i := 3) (N := some 53) (v := ?_) (a' := ?_) #[false, true, false, true, false, false, false, false, false, false, false, false, false, false, false] rfl rfl (any_of HT_.out (by kernel_rfl)) (fun _ _ _ h => h) (Or.inl ⟨by rfl, ?_⟩) ?_ ?_
      rotate_left
      · intro w'
        go_simp
        with_reducible rfl
      rotate_left
      · simp only [Act.put, List.setIfInBounds_toArray, List.set_cons_zero, List.set_cons_succ, i64_w, i32_w]
        rfl
      refine pure_ (i := 4) (N := some 54) (v := ?_) (a' := ?_) #[false, true, false, true, true, false, false, false, false, false, false, false, false, false, false] rfl rfl (any_of HT_.out (by kernel_rfl)) (fun _ _ _ h => h) (Or.inl ⟨by rfl, ?_⟩) ?_ ?_
      rotate_left
      · intro w'
        go_simp
        with_reducible rfl
      rotate_left
      · simp only [Act.put, List.setIfInBounds_toArray, List.set_cons_zero, List.set_cons_succ, i64_w, i32_w]
        rfl
      refine pure_ (i := 8) (N := some 58) (v := ?_) (a' := ?_) #[false, true, false, true, true, false, false, false, true, false, false, false, false, false, false] rfl rfl (any_of HT_.out (by kernel_rfl)) (fun _ _ _ h => h) (Or.inl ⟨by rfl, ?_⟩) ?_ ?_
      rotate_left
      · intro w'
        go_simp
        with_reducible rfl
      rotate_left
      · simp only [Act.put, List.setIfInBounds_toArray, List.set_cons_zero, List.set_cons_succ, i64_w, i32_w]
        rfl
      refine pure_ (i := 9) (N := some 59) (v := ?_) (a' := ?_) #[false, true, false, true, true, false, false, false, true, true, false, false, false, false, false] rfl rfl (any_of HT_.out (by kernel_rfl)) (fun _ _ _ h => h) (Or.inl ⟨by rfl, ?_⟩) ?_ ?_
      rotate_left
      · intro w'
        go_simp
        with_reducible rfl
      rotate_left
      · simp only [Act.put, List.setIfInBounds_toArray, List.set_cons_zero, List.set_cons_succ, i64_w, i32_w]
        rfl
      refine pure_ (i := 10) (N := some 60) (v := ?_) (a' := ?_) #[false, true, false, true, true, false, false, false, true, true, true, false, false, false, false] rfl rfl (any_of HT_.out (by kernel_rfl)) (fun _ _ _ h => h) (Or.inl ⟨by rfl, ?_⟩) ?_ ?_
      rotate_left
      · intro w'
        go_simp
        with_reducible rfl
      rotate_left
      · simp only [Act.put, List.setIfInBounds_toArray, List.set_cons_zero, List.set_cons_succ, i64_w, i32_w]
        rfl
      refine take_ (i := 0) (N := some 50) (v := .agg r.arr) (a' := ?_) #[true, true, false, true, true, false, false, false, true, true, true, false, false, false, false] rfl rfl (take_ofW HT_.out HW_.out (by kernel_rfl)) (fun _ _ _ h => h) (yields_row 23 _ rfl w.heap.size rfl 23 r.arr (0, 0) _ (fun _ h => h.1) Try.underlying23 rfl (by kernel_rfl) (by rfl)) hHeld ?_ ?_
      rotate_left
      · simp only [Act.put, List.setIfInBounds_toArray, List.set_cons_zero, List.set_cons_succ, i64_w, i32_w]
        rfl
      refine take_ (i := 2) (N := some 52) (v := ?_) (a' := ?_) #[true, true, true, true, true, false, false, false, true, true, true, false, false, false, false] rfl rfl (take_ofW HT_.out HW_.out (by kernel_rfl)) (fun _ _ _ h => h) (Or.inl ⟨by rfl, ?_⟩) hHeld ?_ ?_
      rotate_left
      · rintro w' ⟨_, _, s2⟩
        go_simp
        with_reducible rfl
      rotate_left
      · simp only [Act.put, List.setIfInBounds_toArray, List.set_cons_zero, List.set_cons_succ, i64_w, i32_w]
        rfl
      refine take_ (i := 5) (N := some 55) (v := .agg c.arr) (a' := ?_) #[true, true, true, true, true, true, false, false, true, true, true, false, false, false, false] rfl rfl (take_ofW HT_.out HW_.out (by kernel_rfl)) (fun _ _ _ h => h) (yields_row 25 _ rfl (w.heap.size + 1) rfl 25 c.arr (0, 0) _ (fun _ h => h.2.1) Try.underlying25 rfl (by kernel_rfl) (by rfl)) hHeld ?_ ?_
      rotate_left
      · simp only [Act.put, List.setIfInBounds_toArray, List.set_cons_zero, List.set_cons_succ, i64_w, i32_w]
        rfl
      refine take_ (i := 7) (N := some 57) (v := .agg r.arr) (a' := ?_) #[true, true, true, true, true, true, false, true, true, true, true, false, false, false, false] rfl rfl (take_ofW HT_.out HW_.out (by kernel_rfl)) (fun _ _ _ h => h) (yields_row 23 _ rfl w.heap.size rfl 23 r.arr (0, 0) _ (fun _ h => h.1) Try.underlying23 rfl (by kernel_rfl) (by rfl)) hHeld ?_ ?_
      rotate_left
      · simp only [Act.put, List.setIfInBounds_toArray, List.set_cons_zero, List.set_cons_succ, i64_w, i32_w]
        rfl
      refine take_ (i := 11) (N := some 61) (v := .agg c.arr) (a' := ?_) #[true, true, true, true, true, true, false, true, true, true, true, true, false, false, false] rfl rfl (take_ofW HT_.out HW_.out (by kernel_rfl)) (fun _ _ _ h => h) (yields_row 25 _ rfl (w.heap.size + 1) rfl 25 c.arr (0, 0) _ (fun _ h => h.2.1) Try.underlying25 rfl (by kernel_rfl) (by rfl)) hHeld ?_ ?_
      rotate_left
      · simp only [Act.put, List.setIfInBounds_toArray, List.set_cons_zero, List.set_cons_succ, i64_w, i32_w]
        rfl
      refine one_ (i := 6) (N := some 56) #[true, true, true, true, true, true, true, true, true, true, true, true, false, false, false] rfl rfl (one_of HT_.out (by kernel_rfl)) (by decide) (fun K9 hK => ?_)
      refine goes_ Try.func13 (by kernel_rfl) rfl #[.agg r.arr, .bool true, .string r.p, .int .i64 now, .int .i64 draw, .agg c.arr] (by rfl) rfl rfl (by (try simp only [List.map_toArray, List.map_cons, List.map_nil]); first | done | rfl) ?_
      refine (judge_is r true r.p now draw c hr hr hs _ _ EO.out).mono ?_
      rintro e w6 ⟨rfl, hb⟩
      refine ⟨_, rfl, ?_⟩
      have K := Aside0.mk (K.out.next hb)
      clear hb
      refine hK.out _ _ ⟨K.out.rb, K.out.cb, (blk_cell K.out.rb 0).trans (rec0 r)⟩ (fun hHeld => ?_)
      clear hK K9
      refine norm_ (a' := ?_) ?_ ?_
      rotate_left
      · show Act.put _ (some 56) _ = _
        simp only [Act.put, List.setIfInBounds_toArray, List.set_cons_zero, List.set_cons_succ, i64_w, i32_w]
        rfl
      refine one_ (i := 12) (N := some 62) #[true, true, true, true, true, true, true, true, true, true, true, true, true, false, false] rfl rfl (one_of HT_.out (by kernel_rfl)) (by decide) (fun K9 hK => ?_)
      refine goes_ Try.func13 (by kernel_rfl) rfl #[.agg r.arr, .bool true, .string q, .int .i64 now, .int .i64 draw, .agg c.arr] (by rfl) rfl rfl (by (try simp only [List.map_toArray, List.map_cons, List.map_nil]); first | done | rfl) ?_
      refine (judge_is r true q now draw c hr hq hs _ _ ED.out).mono ?_
      rintro e w7 ⟨rfl, hb⟩
      refine ⟨_, rfl, ?_⟩
      have K := Aside0.mk (K.out.next hb)
      clear hb
      refine hK.out _ _ ⟨K.out.rb, K.out.cb, (blk_cell K.out.rb 0).trans (rec0 r)⟩ (fun hHeld => ?_)
      clear hK K9
      refine norm_ (a' := ?_) ?_ ?_
      rotate_left
      · show Act.put _ (some 62) _ = _
        simp only [Act.put, List.setIfInBounds_toArray, List.set_cons_zero, List.set_cons_succ, i64_w, i32_w]
        rfl
      refine pure_ (i := 13) (N := some 13) (v := ?_) (a' := ?_) #[true, true, true, true, true, true, true, true, true, true, true, true, true, true, false] rfl rfl (any_of HT_.out (by kernel_rfl)) (fun _ _ _ h => h) (Or.inl ⟨by rfl, ?_⟩) ?_ ?_
      rotate_left
      · intro w'
        go_simp
        with_reducible rfl
      rotate_left
      · simp only [Act.put, List.setIfInBounds_toArray, List.set_cons_zero, List.set_cons_succ, i64_w, i32_w]
        rfl
      refine pure_ (i := 14) (N := some 14) (v := ?_) (a' := ?_) #[true, true, true, true, true, true, true, true, true, true, true, true, true, true, true] rfl rfl (any_of HT_.out (by kernel_rfl)) (fun _ _ _ h => h) (Or.inl ⟨by rfl, ?_⟩) ?_ ?_
      rotate_left
      · intro w'
        go_simp
        with_reducible rfl
      rotate_left
      · simp only [Act.put, List.setIfInBounds_toArray, List.set_cons_zero, List.set_cons_succ, i64_w, i32_w]
        rfl
      refine done_ (done_of HT_.out (by kernel_rfl)) ?_
      clear HT_ HW_ hHeld
      clear q0 q3
      have q0 : w7.cell? ⟨w.heap.size, 0, none⟩ = some (.string r.p) := (blk_cell K.out.rb 0).trans (rec0 r)
      rcases HO.out with rfl | rfl <;> rcases HD.out with rfl | rfl | ⟨rfl, hp⟩
      all_goals (try (have hp1 : (q.toList == r.p.toList) = true := by simpa using hp.symm))
      all_goals (try clear hp)
      all_goals (go_wp2_with fail)
      all_goals go_ret
      all_goals exact ⟨by first | rfl | (simp; done), K.out.bel⟩
  
end Go.Proofs.Ytijjdgmcjienlaa.PL
