/- The walk of LeaseApart: with what Judge and Bury answer it comes to true on each way. -/
import Derived.Test.YtijjdgmcjienlaaLW
import Derived.Test.YtijjdgmcjienlaaQx11
namespace Go.Proofs.Ytijjdgmcjienlaa.PL
open Go.RowKit Go.Proofs.Ytijjdgmcjienlaa.Q Go.Proofs.YtijjdgmcjienlaaW.PrintWords Go.Proofs.YtijjdgmcjienlaaW.PrintLast
set_option linter.unusedVariables false
theorem Two.set {w0 w5 w : World} {r : Rec} {c : Cfg} (h : Two w0 w r c) (a : Int) (hb : Below w5.heap.size w5 w) {r' : Rec} {c' : Cfg} (h5 : Two w0 w5 r' c') : Two w0 (w.setCell ⟨w5.heap.size, 2, none⟩ (.int .i64 a)) r c := by
  have l1 : w0.heap.size + 1 < w5.heap.size := blk_lt h5.cb
  exact ⟨(Below.heap_setCell w _ _ _ (by show w0.heap.size ≠ w5.heap.size; omega)).trans h.rb, (Below.heap_setCell w _ _ _ (by show w0.heap.size + 1 ≠ w5.heap.size; omega)).trans h.cb, below_set h.bel (by omega)⟩
theorem sblock (r : Rec) (a : Int) {w : World} {g : Nat} (h : w.heap[g]? = some (.cells r.arr 23 (0, 0))) : (w.setCell ⟨g, 2, none⟩ (.int .i64 a)).heap[g]? = some (.cells (Rec.arr { r with a := a }) 23 (0, 0)) :=
  blk_put h 2 _ rfl
def withinB (now t skew : Int) : Bool := decide (0 ≤ now) && (decide (0 ≤ t) && (decide (now ≤ 1125899906842624) && (decide (t ≤ 1125899906842624) && (decide (now - t ≤ skew) && decide (t - now ≤ skew)))))
theorem within_is (now t skew : Int) (v : Bool) (h : withinB now t skew = v) (w : World) : Calls Try.prog 20 #[.int .i64 now, .int .i64 t, .int .i64 skew] w fun e w' => e = .returned (.bool v) ∧ Drawn0 w w' := by
  subst h
  refine batonlaw19_within.calls now t skew _ w ?_
  unfold batonlaw19_within.f withinB
  by_cases h1 : now ≥ 0
  · rw [if_pos h1, decide_eq_true (p := 0 ≤ now) h1]
    by_cases h2 : t ≥ 0
    · rw [if_pos h2, decide_eq_true (p := 0 ≤ t) h2]
      by_cases h3 : now ≤ 1125899906842624
      · rw [if_pos h3, decide_eq_true h3]
        by_cases h4 : t ≤ 1125899906842624
        · rw [if_pos h4, decide_eq_true h4, wrap_in (x := now - t) (by omega) (by omega), wrap_in (x := t - now) (by omega) (by omega)]
          by_cases h5 : now - t ≤ skew
          · rw [if_pos h5, decide_eq_true h5]; rfl
          · rw [if_neg h5, decide_eq_false h5]; rfl
        · rw [if_neg h4, decide_eq_false h4]; rfl
      · rw [if_neg h3, decide_eq_false h3]; rfl
    · rw [if_neg h2, decide_eq_false (p := 0 ≤ t) h2]; rfl
  · rw [if_neg h1, decide_eq_false (p := 0 ≤ now) h1]; rfl
/-- THE STAGE'S THEOREM, of the plain functions. -/
theorem apart_fact (r : Rec) (at' : Int) (q : ByteArray) (c : Cfg) (t n u m draw second : Int) (h0 : r.a ≤ at') (hc : cfgB c = true) (h1 : withinB n t c.c5 = true) (h2 : withinB m u c.c5 = true)
    (hj : judgeI r true r.p n draw c = 2 ∨ judgeI r true r.p n draw c = 3) (hx : (¬ r.p.toList = q.toList ∧ judgeI { r with a := at' } true q m second c = 1) ∨ buryB { r with a := at' } m c = true) : t < u := by
  have q3 := ((cfg_iff _).1 hc).1
  unfold CfgR at q3
  simp only [withinB, Bool.and_eq_true, decide_eq_true_eq] at h1 h2
  have g1 : r.g = false ∧ n < r.a + c.c1 := by
    unfold judgeI at hj
    split at hj
    · cases hg : r.g with
      | true => simp [hg] at hj
      | false =>
        simp only [hg, Bool.false_eq_true, if_false, if_true] at hj
        refine ⟨rfl, ?_⟩
        by_cases g : n ≥ r.a + c.c1
        · simp [g] at hj
        · omega
    · simp at hj
  have g2 : at' + c.c2 ≤ m := by
    rcases hx with ⟨hp, hx⟩ | hx
    · unfold judgeI at hx
      split at hx
      · simp only [g1.1, Bool.true_eq_false, Bool.false_eq_true, if_false] at hx
        by_cases g : m ≥ at' + c.c2
        · omega
        · simp [g] at hx
      · simp at hx
    · unfold buryB at hx
      simp only [Bool.and_eq_true, decide_eq_true_eq] at hx
      omega
  omega
set_option maxHeartbeats 8000000 in
set_option maxRecDepth 100000 in
theorem apart_walk (r : Rec) (at' : Int) (q : ByteArray) (c : Cfg) (t n u m draw second : Int) (hr : r.p.size ≤ 140737488351232) (hq : q.size ≤ 140737488351232) (hs : Small c) (w : World) :
    Calls Try.prog 4 #[.agg r.arr, .int .i64 at', .string q, .agg c.arr, .int .i64 t, .int .i64 n, .int .i64 u, .int .i64 m, .int .i64 draw, .int .i64 second] w fun e w' => e = .returned (.bool true) ∧ Below w.heap.size w w' := by
  have hu := Try.underlying23
  go_enter Try.func4, Try.ntmps4
  go_wp2_with (first | ((with_reducible refine gate_load (T := 23) rfl ?_); refine wpList_load_row rfl 23 _ rfl w.heap.size rfl 23 r.arr (0, 0) _ (by with_reducible exact (Two.start w r c).rb) Try.underlying23 rfl (by kernel_rfl) ?_) | ((with_reducible refine gate_load (T := 25) rfl ?_); refine wpList_load_row rfl 25 _ rfl (w.heap.size + 1) rfl 25 c.arr (0, 0) _ (by with_reducible exact (Two.start w r c).cb) Try.underlying25 rfl (by kernel_rfl) ?_))
  cases hl : longB r q c with
  | true =>
    have HL := Aside0.mk hl
    clear hl
    refine (long_calls r q c _ HL.out _).mono ?_
    rintro e w1 ⟨rfl, hb⟩
    have K := Aside0.mk ((Two.start w r c).next hb)
    clear hb
    go_wp2_with fail
    refine (aw_true _).mono ?_
    rintro e w2 ⟨rfl, hb⟩
    have K := Aside0.mk (K.out.next hb)
    clear hb
    go_wp2_with fail
    go_ret
    exact ⟨by first | rfl | (simp; done), K.out.bel⟩
  | false =>
    have HL := Aside0.mk hl
    clear hl
    refine (long_calls r q c _ HL.out _).mono ?_
    rintro e w1 ⟨rfl, hb⟩
    have K := Aside0.mk ((Two.start w r c).next hb)
    clear hb
    go_wp2_with fail
    refine (aw_true _).mono ?_
    rintro e w2 ⟨rfl, hb⟩
    have K := Aside0.mk (K.out.next hb)
    clear hb
    have q0 : w2.cell? ⟨w.heap.size, 0, none⟩ = some (.string r.p) := (blk_cell K.out.rb 0).trans (rec0 r)
    have q2 : w2.cell? ⟨w.heap.size, 2, none⟩ = some (.int .i64 r.a) := (blk_cell K.out.rb 2).trans (rec2 r)
    have q5 : w2.cell? ⟨w.heap.size + 1, 5, none⟩ = some (.int .i64 c.c5) := (blk_cell K.out.cb 5).trans (cfg5 c)
    cases hA : decide (at' < r.a) with
    | true =>
      go_wp2_with (first | ((with_reducible refine gate_load (T := 23) rfl ?_); refine wpList_load_row rfl 23 _ rfl w.heap.size rfl 23 r.arr (0, 0) _ (by with_reducible exact K.out.rb) Try.underlying23 rfl (by kernel_rfl) ?_) | ((with_reducible refine gate_load (T := 25) rfl ?_); refine wpList_load_row rfl 25 _ rfl (w.heap.size + 1) rfl 25 c.arr (0, 0) _ (by with_reducible exact K.out.cb) Try.underlying25 rfl (by kernel_rfl) ?_))
      go_ret
      exact ⟨by first | rfl | (simp; done), K.out.bel⟩
    | false =>
      have HA := Aside0.mk hA
      go_wp2_with (first | ((with_reducible refine gate_load (T := 23) rfl ?_); refine wpList_load_row rfl 23 _ rfl w.heap.size rfl 23 r.arr (0, 0) _ (by with_reducible exact K.out.rb) Try.underlying23 rfl (by kernel_rfl) ?_) | ((with_reducible refine gate_load (T := 25) rfl ?_); refine wpList_load_row rfl 25 _ rfl (w.heap.size + 1) rfl 25 c.arr (0, 0) _ (by with_reducible exact K.out.cb) Try.underlying25 rfl (by kernel_rfl) ?_) | ((with_reducible refine gate_dst (N := 37) rfl ?_); refine gate_guard (by rfl) ?_; dsimp only; refine wpList_load_row rfl 25 _ rfl (w.heap.size + 1) rfl 25 c.arr (0, 0) _ (by with_reducible exact K.out.cb) Try.underlying25 rfl (by kernel_rfl) ?_))
      cases hC : cfgB c with
      | true =>
        have HC := Aside0.mk hC
        clear hC q0 q2 q5
        refine (cfg_is c hs _ _ HC.out).mono ?_
        rintro e w3 ⟨rfl, hb⟩
        have K := Aside0.mk (K.out.next hb)
        clear hb
        have q0 : w3.cell? ⟨w.heap.size, 0, none⟩ = some (.string r.p) := (blk_cell K.out.rb 0).trans (rec0 r)
        have q2 : w3.cell? ⟨w.heap.size, 2, none⟩ = some (.int .i64 r.a) := (blk_cell K.out.rb 2).trans (rec2 r)
        have q5 : w3.cell? ⟨w.heap.size + 1, 5, none⟩ = some (.int .i64 c.c5) := (blk_cell K.out.cb 5).trans (cfg5 c)
        cases hX : withinB n t c.c5 with
        | true =>
          have X1 := Aside0.mk hX
          clear hX
          go_wp2_with fail
          refine (within_is n t c.c5 _ X1.out _).mono ?_
          rintro e w' ⟨rfl, ⟨nd, rfl⟩⟩
          have K := Aside0.mk (K.out.drawn nd)
          generalize w3.drewN nd = w4 at *
          clear q0 q2 q5
          have q0 : w4.cell? ⟨w.heap.size, 0, none⟩ = some (.string r.p) := (blk_cell K.out.rb 0).trans (rec0 r)
          have q2 : w4.cell? ⟨w.heap.size, 2, none⟩ = some (.int .i64 r.a) := (blk_cell K.out.rb 2).trans (rec2 r)
          have q5 : w4.cell? ⟨w.heap.size + 1, 5, none⟩ = some (.int .i64 c.c5) := (blk_cell K.out.cb 5).trans (cfg5 c)
          cases hY : withinB m u c.c5 with
          | true =>
            have X2 := Aside0.mk hY
            clear hY
            go_wp2_with fail
            refine (within_is m u c.c5 _ X2.out _).mono ?_
            rintro e w' ⟨rfl, ⟨nd2, rfl⟩⟩
            have K := Aside0.mk (K.out.drawn nd2)
            generalize w4.drewN nd2 = w4b at *
            clear q0 q2 q5
            have q0 : w4b.cell? ⟨w.heap.size, 0, none⟩ = some (.string r.p) := (blk_cell K.out.rb 0).trans (rec0 r)
            have q2 : w4b.cell? ⟨w.heap.size, 2, none⟩ = some (.int .i64 r.a) := (blk_cell K.out.rb 2).trans (rec2 r)
            have q5 : w4b.cell? ⟨w.heap.size + 1, 5, none⟩ = some (.int .i64 c.c5) := (blk_cell K.out.cb 5).trans (cfg5 c)
            go_wp2_with (first | ((with_reducible refine gate_load (T := 23) rfl ?_); refine wpList_load_row rfl 23 _ rfl w.heap.size rfl 23 r.arr (0, 0) _ (by with_reducible exact K.out.rb) Try.underlying23 rfl (by kernel_rfl) ?_) | ((with_reducible refine gate_load (T := 25) rfl ?_); refine wpList_load_row rfl 25 _ rfl (w.heap.size + 1) rfl 25 c.arr (0, 0) _ (by with_reducible exact K.out.cb) Try.underlying25 rfl (by kernel_rfl) ?_))
            obtain ⟨j, EJ⟩ : ∃ j, Aside0 (judgeI r true r.p n draw c = j) := ⟨_, ⟨rfl⟩⟩
            clear q0 q2 q5 hA
            refine (judge_is r true r.p n draw c hr hr hs _ _ EJ.out).mono ?_
            rintro e w5 ⟨rfl, hb⟩
            have K := Aside0.mk (K.out.next hb)
            clear hb
            have q0 : w5.cell? ⟨w.heap.size, 0, none⟩ = some (.string r.p) := (blk_cell K.out.rb 0).trans (rec0 r)
            have q2 : w5.cell? ⟨w.heap.size, 2, none⟩ = some (.int .i64 r.a) := (blk_cell K.out.rb 2).trans (rec2 r)
            have q5 : w5.cell? ⟨w.heap.size + 1, 5, none⟩ = some (.int .i64 c.c5) := (blk_cell K.out.cb 5).trans (cfg5 c)
            by_cases hj : j = 2 ∨ j = 3
            · have HJ := Aside0.mk hj
              obtain ⟨vb, EB⟩ : ∃ v, Aside0 (buryB { r with a := at' } m c = v) := ⟨_, ⟨rfl⟩⟩
              obtain ⟨j2, E2⟩ : ∃ v, Aside0 (judgeI { r with a := at' } true q m second c = v) := ⟨_, ⟨rfl⟩⟩
              have HT : ∀ v : Bool, ((¬ r.p.toList = q.toList ∧ j2 = 1) ∨ vb = true) → v = decide (t < u) → v = true := by
                intro v hx hv
                rw [hv]
                refine decide_eq_true (apart_fact r at' q c t n u m draw second (by have := of_decide_eq_false HA.out; omega) HC.out X1.out X2.out (by rw [EJ.out]; exact HJ.out) ?_)
                rw [E2.out, EB.out]; exact hx
              have HTT := Aside0.mk HT
              clear HT hj
              have hjc := HJ.out
              by_cases hp : r.p.toList = q.toList
              · have hp1 : (q.toList == r.p.toList) = true := by simpa using hp.symm
                have hp2 : (q.toList != r.p.toList) = false := bne_eq_false_iff_eq.mpr hp.symm
                have HP := Aside0.mk hp
                clear hp
                rcases hjc with rfl | rfl
                · go_wp2_with (first | ((with_reducible refine gate_dst (N := 70) rfl ?_); (try (refine gate_guard (by rfl) ?_; dsimp only)); refine wpList_load_row rfl 23 _ rfl w.heap.size rfl 23 r.arr (0, 0) _ (by with_reducible exact K.out.rb) Try.underlying23 rfl (by kernel_rfl) ?_) | ((with_reducible refine gate_store (T := 23) rfl ?_); refine wpList_store_row rfl 23 (.tmp 22) (.tmp 70) rfl w5.heap.size r.arr rfl rfl 23 _ (by with_reducible exact heap_alloc_new w5 _) (by kernel_rfl) (by rfl) (by simp [Rec.arr, Value.oneCell']) ?_; generalize hW : World.setRow _ _ _ = W6; have SB0 : Aside0 (W6.heap[w5.heap.size]? = some (.cells r.arr 23 (0, 0))) := ⟨by rw [← hW]; exact setRow_heap _ _ _ _ _ _ (heap_alloc_new w5 _)⟩; have B6 : Aside0 (Below w5.heap.size w5 W6) := ⟨by rw [← hW]; exact below_setRow ((Below.refl _ _).alloc (Nat.le_refl _) _) (Nat.le_refl _) r.arr⟩; clear hW; have s2 : W6.cell? ⟨w5.heap.size, 2, none⟩ = some (.int .i64 r.a) := (blk_cell SB0.out 2).trans (rec2 r); have f2 := blk_frozen SB0.out 2; have K6 := Aside0.mk (K.out.next B6.out); have K7 := Aside0.mk (K6.out.set at' B6.out K.out); have o0 : W6.cell? ⟨w.heap.size, 0, none⟩ = some (.string r.p) := (blk_cell K6.out.rb 0).trans (rec0 r); have n1 : w.heap.size ≠ w5.heap.size := Nat.ne_of_lt (blk_lt K.out.rb); have n2 : w5.heap.size ≠ w.heap.size := Nat.ne_of_gt (blk_lt K.out.rb); have SB7 := Aside0.mk (sblock r at' SB0.out)) | ((with_reducible refine gate_dst (N := 87) rfl ?_); refine gate_guard (by rfl) ?_; dsimp only; refine wpList_load_row rfl 23 _ rfl w5.heap.size rfl 23 (Rec.arr { r with a := at' }) (0, 0) _ (by with_reducible exact SB7.out) Try.underlying23 rfl (by kernel_rfl) ?_) | ((with_reducible refine gate_dst (N := 89) rfl ?_); refine gate_guard (by rfl) ?_; dsimp only; refine wpList_load_row rfl 25 _ rfl (w.heap.size + 1) rfl 25 c.arr (0, 0) _ (by with_reducible exact K7.out.cb) Try.underlying25 rfl (by kernel_rfl) ?_))
                  refine (bury_is { r with a := at' } m c hr hs _ _ EB.out).mono ?_
                  rintro e w6 ⟨rfl, hb⟩
                  have K := Aside0.mk (K7.out.next hb)
                  clear hb
                  cases vb with
                  | false =>
                    go_wp2_with fail
                    go_ret
                    exact ⟨by first | rfl | (simp; done), K.out.bel⟩
                  | true =>
                    have ht : decide (t < u) = true := HTT.out _ (.inr rfl) rfl
                    go_wp2_with fail
                    go_ret
                    exact ⟨by first | rfl | (simp; done), K.out.bel⟩
                · go_wp2_with (first | ((with_reducible refine gate_dst (N := 70) rfl ?_); (try (refine gate_guard (by rfl) ?_; dsimp only)); refine wpList_load_row rfl 23 _ rfl w.heap.size rfl 23 r.arr (0, 0) _ (by with_reducible exact K.out.rb) Try.underlying23 rfl (by kernel_rfl) ?_) | ((with_reducible refine gate_store (T := 23) rfl ?_); refine wpList_store_row rfl 23 (.tmp 22) (.tmp 70) rfl w5.heap.size r.arr rfl rfl 23 _ (by with_reducible exact heap_alloc_new w5 _) (by kernel_rfl) (by rfl) (by simp [Rec.arr, Value.oneCell']) ?_; generalize hW : World.setRow _ _ _ = W6; have SB0 : Aside0 (W6.heap[w5.heap.size]? = some (.cells r.arr 23 (0, 0))) := ⟨by rw [← hW]; exact setRow_heap _ _ _ _ _ _ (heap_alloc_new w5 _)⟩; have B6 : Aside0 (Below w5.heap.size w5 W6) := ⟨by rw [← hW]; exact below_setRow ((Below.refl _ _).alloc (Nat.le_refl _) _) (Nat.le_refl _) r.arr⟩; clear hW; have s2 : W6.cell? ⟨w5.heap.size, 2, none⟩ = some (.int .i64 r.a) := (blk_cell SB0.out 2).trans (rec2 r); have f2 := blk_frozen SB0.out 2; have K6 := Aside0.mk (K.out.next B6.out); have K7 := Aside0.mk (K6.out.set at' B6.out K.out); have o0 : W6.cell? ⟨w.heap.size, 0, none⟩ = some (.string r.p) := (blk_cell K6.out.rb 0).trans (rec0 r); have n1 : w.heap.size ≠ w5.heap.size := Nat.ne_of_lt (blk_lt K.out.rb); have n2 : w5.heap.size ≠ w.heap.size := Nat.ne_of_gt (blk_lt K.out.rb); have SB7 := Aside0.mk (sblock r at' SB0.out)) | ((with_reducible refine gate_dst (N := 87) rfl ?_); refine gate_guard (by rfl) ?_; dsimp only; refine wpList_load_row rfl 23 _ rfl w5.heap.size rfl 23 (Rec.arr { r with a := at' }) (0, 0) _ (by with_reducible exact SB7.out) Try.underlying23 rfl (by kernel_rfl) ?_) | ((with_reducible refine gate_dst (N := 89) rfl ?_); refine gate_guard (by rfl) ?_; dsimp only; refine wpList_load_row rfl 25 _ rfl (w.heap.size + 1) rfl 25 c.arr (0, 0) _ (by with_reducible exact K7.out.cb) Try.underlying25 rfl (by kernel_rfl) ?_))
                  refine (bury_is { r with a := at' } m c hr hs _ _ EB.out).mono ?_
                  rintro e w6 ⟨rfl, hb⟩
                  have K := Aside0.mk (K7.out.next hb)
                  clear hb
                  cases vb with
                  | false =>
                    go_wp2_with fail
                    go_ret
                    exact ⟨by first | rfl | (simp; done), K.out.bel⟩
                  | true =>
                    have ht : decide (t < u) = true := HTT.out _ (.inr rfl) rfl
                    go_wp2_with fail
                    go_ret
                    exact ⟨by first | rfl | (simp; done), K.out.bel⟩
              · have hp1 : (q.toList == r.p.toList) = false := by simpa using (fun e : q.toList = r.p.toList => hp e.symm)
                have hp2 : (q.toList != r.p.toList) = true := bne_iff_ne.mpr (fun e => hp e.symm)
                have HP := Aside0.mk hp
                clear hp
                rcases hjc with rfl | rfl
                · go_wp2_with (first | ((with_reducible refine gate_dst (N := 70) rfl ?_); (try (refine gate_guard (by rfl) ?_; dsimp only)); refine wpList_load_row rfl 23 _ rfl w.heap.size rfl 23 r.arr (0, 0) _ (by with_reducible exact K.out.rb) Try.underlying23 rfl (by kernel_rfl) ?_) | ((with_reducible refine gate_store (T := 23) rfl ?_); refine wpList_store_row rfl 23 (.tmp 22) (.tmp 70) rfl w5.heap.size r.arr rfl rfl 23 _ (by with_reducible exact heap_alloc_new w5 _) (by kernel_rfl) (by rfl) (by simp [Rec.arr, Value.oneCell']) ?_; generalize hW : World.setRow _ _ _ = W6; have SB0 : Aside0 (W6.heap[w5.heap.size]? = some (.cells r.arr 23 (0, 0))) := ⟨by rw [← hW]; exact setRow_heap _ _ _ _ _ _ (heap_alloc_new w5 _)⟩; have B6 : Aside0 (Below w5.heap.size w5 W6) := ⟨by rw [← hW]; exact below_setRow ((Below.refl _ _).alloc (Nat.le_refl _) _) (Nat.le_refl _) r.arr⟩; clear hW; have s2 : W6.cell? ⟨w5.heap.size, 2, none⟩ = some (.int .i64 r.a) := (blk_cell SB0.out 2).trans (rec2 r); have f2 := blk_frozen SB0.out 2; have K6 := Aside0.mk (K.out.next B6.out); have K7 := Aside0.mk (K6.out.set at' B6.out K.out); have o0 : W6.cell? ⟨w.heap.size, 0, none⟩ = some (.string r.p) := (blk_cell K6.out.rb 0).trans (rec0 r); have n1 : w.heap.size ≠ w5.heap.size := Nat.ne_of_lt (blk_lt K.out.rb); have n2 : w5.heap.size ≠ w.heap.size := Nat.ne_of_gt (blk_lt K.out.rb); have SB7 := Aside0.mk (sblock r at' SB0.out)) | ((with_reducible refine gate_dst (N := 78) rfl ?_); refine gate_guard (by rfl) ?_; dsimp only; refine wpList_load_row rfl 23 _ rfl w5.heap.size rfl 23 (Rec.arr { r with a := at' }) (0, 0) _ (by with_reducible exact SB7.out) Try.underlying23 rfl (by kernel_rfl) ?_) | ((with_reducible refine gate_dst (N := 82) rfl ?_); refine gate_guard (by rfl) ?_; dsimp only; refine wpList_load_row rfl 25 _ rfl (w.heap.size + 1) rfl 25 c.arr (0, 0) _ (by with_reducible exact K7.out.cb) Try.underlying25 rfl (by kernel_rfl) ?_))
                  refine (judge_is { r with a := at' } true q m second c hr hq hs _ _ E2.out).mono ?_
                  rintro e w6 ⟨rfl, hb⟩
                  have SB := Aside0.mk (blk_below SB7.out hb)
                  have K := Aside0.mk (K7.out.next hb)
                  clear hb
                  by_cases h1 : j2 = 1
                  · subst h1
                    have ht : decide (t < u) = true := HTT.out _ (.inl ⟨HP.out, rfl⟩) rfl
                    go_wp2_with fail
                    go_ret
                    exact ⟨by first | rfl | (simp; done), K.out.bel⟩
                  · have h2 : (j2 == 1) = false := by simpa using h1
                    clear h1
                    go_wp2_with (first | ((with_reducible refine gate_dst (N := 87) rfl ?_); refine gate_guard (by rfl) ?_; dsimp only; refine wpList_load_row rfl 23 _ rfl w5.heap.size rfl 23 (Rec.arr { r with a := at' }) (0, 0) _ (by with_reducible exact SB.out) Try.underlying23 rfl (by kernel_rfl) ?_) | ((with_reducible refine gate_dst (N := 89) rfl ?_); refine gate_guard (by rfl) ?_; dsimp only; refine wpList_load_row rfl 25 _ rfl (w.heap.size + 1) rfl 25 c.arr (0, 0) _ (by with_reducible exact K.out.cb) Try.underlying25 rfl (by kernel_rfl) ?_))
                    refine (bury_is { r with a := at' } m c hr hs _ _ EB.out).mono ?_
                    rintro e w7 ⟨rfl, hb⟩
                    have K := Aside0.mk (K.out.next hb)
                    clear hb
                    cases vb with
                    | false =>
                      go_wp2_with fail
                      go_ret
                      exact ⟨by first | rfl | (simp; done), K.out.bel⟩
                    | true =>
                      have ht : decide (t < u) = true := HTT.out _ (.inr rfl) rfl
                      go_wp2_with fail
                      go_ret
                      exact ⟨by first | rfl | (simp; done), K.out.bel⟩
                · go_wp2_with (first | ((with_reducible refine gate_dst (N := 70) rfl ?_); (try (refine gate_guard (by rfl) ?_; dsimp only)); refine wpList_load_row rfl 23 _ rfl w.heap.size rfl 23 r.arr (0, 0) _ (by with_reducible exact K.out.rb) Try.underlying23 rfl (by kernel_rfl) ?_) | ((with_reducible refine gate_store (T := 23) rfl ?_); refine wpList_store_row rfl 23 (.tmp 22) (.tmp 70) rfl w5.heap.size r.arr rfl rfl 23 _ (by with_reducible exact heap_alloc_new w5 _) (by kernel_rfl) (by rfl) (by simp [Rec.arr, Value.oneCell']) ?_; generalize hW : World.setRow _ _ _ = W6; have SB0 : Aside0 (W6.heap[w5.heap.size]? = some (.cells r.arr 23 (0, 0))) := ⟨by rw [← hW]; exact setRow_heap _ _ _ _ _ _ (heap_alloc_new w5 _)⟩; have B6 : Aside0 (Below w5.heap.size w5 W6) := ⟨by rw [← hW]; exact below_setRow ((Below.refl _ _).alloc (Nat.le_refl _) _) (Nat.le_refl _) r.arr⟩; clear hW; have s2 : W6.cell? ⟨w5.heap.size, 2, none⟩ = some (.int .i64 r.a) := (blk_cell SB0.out 2).trans (rec2 r); have f2 := blk_frozen SB0.out 2; have K6 := Aside0.mk (K.out.next B6.out); have K7 := Aside0.mk (K6.out.set at' B6.out K.out); have o0 : W6.cell? ⟨w.heap.size, 0, none⟩ = some (.string r.p) := (blk_cell K6.out.rb 0).trans (rec0 r); have n1 : w.heap.size ≠ w5.heap.size := Nat.ne_of_lt (blk_lt K.out.rb); have n2 : w5.heap.size ≠ w.heap.size := Nat.ne_of_gt (blk_lt K.out.rb); have SB7 := Aside0.mk (sblock r at' SB0.out)) | ((with_reducible refine gate_dst (N := 78) rfl ?_); refine gate_guard (by rfl) ?_; dsimp only; refine wpList_load_row rfl 23 _ rfl w5.heap.size rfl 23 (Rec.arr { r with a := at' }) (0, 0) _ (by with_reducible exact SB7.out) Try.underlying23 rfl (by kernel_rfl) ?_) | ((with_reducible refine gate_dst (N := 82) rfl ?_); refine gate_guard (by rfl) ?_; dsimp only; refine wpList_load_row rfl 25 _ rfl (w.heap.size + 1) rfl 25 c.arr (0, 0) _ (by with_reducible exact K7.out.cb) Try.underlying25 rfl (by kernel_rfl) ?_))
                  refine (judge_is { r with a := at' } true q m second c hr hq hs _ _ E2.out).mono ?_
                  rintro e w6 ⟨rfl, hb⟩
                  have SB := Aside0.mk (blk_below SB7.out hb)
                  have K := Aside0.mk (K7.out.next hb)
                  clear hb
                  by_cases h1 : j2 = 1
                  · subst h1
                    have ht : decide (t < u) = true := HTT.out _ (.inl ⟨HP.out, rfl⟩) rfl
                    go_wp2_with fail
                    go_ret
                    exact ⟨by first | rfl | (simp; done), K.out.bel⟩
                  · have h2 : (j2 == 1) = false := by simpa using h1
                    clear h1
                    go_wp2_with (first | ((with_reducible refine gate_dst (N := 87) rfl ?_); refine gate_guard (by rfl) ?_; dsimp only; refine wpList_load_row rfl 23 _ rfl w5.heap.size rfl 23 (Rec.arr { r with a := at' }) (0, 0) _ (by with_reducible exact SB.out) Try.underlying23 rfl (by kernel_rfl) ?_) | ((with_reducible refine gate_dst (N := 89) rfl ?_); refine gate_guard (by rfl) ?_; dsimp only; refine wpList_load_row rfl 25 _ rfl (w.heap.size + 1) rfl 25 c.arr (0, 0) _ (by with_reducible exact K.out.cb) Try.underlying25 rfl (by kernel_rfl) ?_))
                    refine (bury_is { r with a := at' } m c hr hs _ _ EB.out).mono ?_
                    rintro e w7 ⟨rfl, hb⟩
                    have K := Aside0.mk (K.out.next hb)
                    clear hb
                    cases vb with
                    | false =>
                      go_wp2_with fail
                      go_ret
                      exact ⟨by first | rfl | (simp; done), K.out.bel⟩
                    | true =>
                      have ht : decide (t < u) = true := HTT.out _ (.inr rfl) rfl
                      go_wp2_with fail
                      go_ret
                      exact ⟨by first | rfl | (simp; done), K.out.bel⟩
            · have n2 : (j != 2) = true := by simpa using (fun e => hj (.inl e))
              have n3 : (j != 3) = true := by simpa using (fun e => hj (.inr e))
              clear hj
              go_wp2_with fail
              go_ret
              exact ⟨by first | rfl | (simp; done), K.out.bel⟩
          | false =>
            have X2 := Aside0.mk hY
            clear hY
            go_wp2_with fail
            refine (within_is m u c.c5 _ X2.out _).mono ?_
            rintro e w' ⟨rfl, ⟨nd2, rfl⟩⟩
            go_wp2_with fail
            go_ret
            exact ⟨by first | rfl | (simp; done), by first | exact K.out.bel | exact lease_below_drawn K.out.bel⟩
        | false =>
          have X1 := Aside0.mk hX
          clear hX
          go_wp2_with fail
          refine (within_is n t c.c5 _ X1.out _).mono ?_
          rintro e w' ⟨rfl, ⟨nd, rfl⟩⟩
          go_wp2_with fail
          go_ret
          exact ⟨by first | rfl | (simp; done), by first | exact K.out.bel | exact lease_below_drawn K.out.bel⟩
      | false =>
        have HC := Aside0.mk hC
        clear hC
        refine (cfg_is c hs _ _ HC.out).mono ?_
        rintro e w3 ⟨rfl, hb⟩
        have K := Aside0.mk (K.out.next hb)
        clear hb
        go_wp2_with fail
        go_ret
        exact ⟨by first | rfl | (simp; done), K.out.bel⟩
end Go.Proofs.Ytijjdgmcjienlaa.PL
