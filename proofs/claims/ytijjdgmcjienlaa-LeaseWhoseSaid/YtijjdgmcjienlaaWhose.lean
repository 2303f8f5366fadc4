/- The walk of LeaseWhose: with what Judge answers it comes to true on each way. -/
import Derived.Test.YtijjdgmcjienlaaLW
namespace Go.Proofs.Ytijjdgmcjienlaa.PL
open Go.RowKit Go.Proofs.Ytijjdgmcjienlaa.Q Go.Proofs.YtijjdgmcjienlaaW.PrintWords Go.Proofs.YtijjdgmcjienlaaW.PrintLast
set_option linter.unusedVariables false
/-- What the two answers can be, and what they say. -/
theorem whose_facts (r : Rec) (q : ByteArray) (now draw : Int) (c : Cfg) : (judgeI r true q now draw c = 0 ∧ (judgeI r false q now draw c = 0 ∨ judgeI r false q now draw c = 1)) ∨ (judgeI r false q now draw c = 1 ∧
    ((r.g = true ∧ judgeI r true q now draw c = 1) ∨ (r.g = false ∧ ((r.p.toList = q.toList ∧ (judgeI r true q now draw c = 2 ∨ judgeI r true q now draw c = 3 ∨ judgeI r true q now draw c = 4)) ∨ (¬ r.p.toList = q.toList ∧ (judgeI r true q now draw c = 1 ∨ judgeI r true q now draw c = 5)))))) := by
  unfold judgeI
  simp only [Bool.not_true, Bool.not_false, Bool.false_or, Bool.true_or, Bool.and_true]
  generalize cfgB c = b1
  generalize nameB q = b2
  generalize readB now = b3
  generalize (decide (0 ≤ draw) && decide (draw ≤ c.c4)) = b4
  generalize recB r.p r.e r.a = b5
  cases hg : r.g <;> cases b1 <;> cases b2 <;> cases b3 <;> cases b4 <;> cases b5 <;> simp <;> (by_cases hp : r.p.toList = q.toList <;> simp [hp] <;> (repeat' split) <;> simp_all <;> omega)
set_option maxHeartbeats 4000000 in
set_option maxRecDepth 100000 in
theorem whose_walk (r : Rec) (q : ByteArray) (now draw : Int) (c : Cfg) (hr : r.p.size ≤ 140737488351232) (hq : q.size ≤ 140737488351232) (hs : Small c) (w : World) :
    Calls Try.prog 6 #[.agg r.arr, .string q, .int .i64 now, .int .i64 draw, .agg c.arr] w fun e w' => e = .returned (.bool true) ∧ Below w.heap.size w w' := by
  have hu := Try.underlying23
  go_enter Try.func6, Try.ntmps6
  go_wp2_with (first | ((with_reducible refine gate_load (T := 23) rfl ?_); (try (refine gate_guard (by rfl) ?_; dsimp only)); refine wpList_load_row rfl 23 _ rfl w.heap.size rfl 23 r.arr (0, 0) _ (Two.start w r c).rb Try.underlying23 rfl (by kernel_rfl) ?_) | ((with_reducible refine gate_load (T := 25) rfl ?_); (try (refine gate_guard (by rfl) ?_; dsimp only)); refine wpList_load_row rfl 25 _ rfl (w.heap.size + 1) rfl 25 c.arr (0, 0) _ (Two.start w r c).cb Try.underlying25 rfl (by kernel_rfl) ?_))
  cases hl : longB r q c with
  | true =>
    have HL := Aside0.mk hl
    clear hl
    refine (long_calls r q c _ HL.out _).mono ?_
    rintro e w1 ⟨rfl, hb⟩
    have K := Aside0.mk ((Two.start w r c).next hb)
    clear hb
    go_wp2_with fail
    refine (aw_true _).mono ?_
    rintro e w2 ⟨rfl, hb⟩
    have K := Aside0.mk (K.out.next hb)
    clear hb
    go_wp2_with fail
    go_ret
    exact ⟨rfl, K.out.bel⟩
  | false =>
    have HL := Aside0.mk hl
    clear hl
    refine (long_calls r q c _ HL.out _).mono ?_
    rintro e w1 ⟨rfl, hb⟩
    have K := Aside0.mk ((Two.start w r c).next hb)
    clear hb
    go_wp2_with fail
    refine (aw_true _).mono ?_
    rintro e w2 ⟨rfl, hb⟩
    have K := Aside0.mk (K.out.next hb)
    clear hb
    go_wp2_with (first | ((with_reducible refine gate_load (T := 23) rfl ?_); (try (refine gate_guard (by rfl) ?_; dsimp only)); refine wpList_load_row rfl 23 _ rfl w.heap.size rfl 23 r.arr (0, 0) _ K.out.rb Try.underlying23 rfl (by kernel_rfl) ?_) | ((with_reducible refine gate_load (T := 25) rfl ?_); (try (refine gate_guard (by rfl) ?_; dsimp only)); refine wpList_load_row rfl 25 _ rfl (w.heap.size + 1) rfl 25 c.arr (0, 0) _ K.out.cb Try.underlying25 rfl (by kernel_rfl) ?_))
    have HF := Aside0.mk (whose_facts r q now draw c)
    obtain ⟨j1, E1⟩ : ∃ j, Aside0 (judgeI r true q now draw c = j) := ⟨_, ⟨rfl⟩⟩
    obtain ⟨j0, E0⟩ : ∃ j, Aside0 (judgeI r false q now draw c = j) := ⟨_, ⟨rfl⟩⟩
    rw [E1.out, E0.out] at HF
    refine (judge_is r true q now draw c hr hq hs _ _ E1.out).mono ?_
    rintro e w3 ⟨rfl, hb⟩
    have K := Aside0.mk (K.out.next hb)
    clear hb
    go_wp2_with (first | ((with_reducible refine gate_load (T := 23) rfl ?_); (try (refine gate_guard (by rfl) ?_; dsimp only)); refine wpList_load_row rfl 23 _ rfl w.heap.size rfl 23 r.arr (0, 0) _ K.out.rb Try.underlying23 rfl (by kernel_rfl) ?_) | ((with_reducible refine gate_load (T := 25) rfl ?_); (try (refine gate_guard (by rfl) ?_; dsimp only)); refine wpList_load_row rfl 25 _ rfl (w.heap.size + 1) rfl 25 c.arr (0, 0) _ K.out.cb Try.underlying25 rfl (by kernel_rfl) ?_))
    refine (judge_is r false q now draw c hr hq hs _ _ E0.out).mono ?_
    rintro e w4 ⟨rfl, hb⟩
    have K := Aside0.mk (K.out.next hb)
    clear hb
    have q0 : w4.cell? ⟨w.heap.size, 0, none⟩ = some (.string r.p) := (blk_cell K.out.rb 0).trans (rec0 r)
    have q3 : w4.cell? ⟨w.heap.size, 3, none⟩ = some (.bool r.g) := (blk_cell K.out.rb 3).trans (rec3 r)
    have hf := HF.out
    clear HF
    rcases hf with ⟨rfl, rfl | rfl⟩ | ⟨rfl, ⟨hg, rfl⟩ | ⟨hg, ⟨hp, rfl | rfl | rfl⟩ | ⟨hp, rfl | rfl⟩⟩⟩
    all_goals (try rw [hg] at q3)
    all_goals (try (have hg' := Aside0.mk hg; clear hg))
    all_goals (try (have hp1 : (r.p.toList == q.toList) = true := by simpa using hp))
    all_goals (try (have hp1 : (r.p.toList == q.toList) = false := by simpa using hp))
    all_goals (try (have hp' := Aside0.mk hp; clear hp))
    all_goals (go_wp2_with fail)
    all_goals go_ret
    all_goals exact ⟨by first | rfl | (simp; done), K.out.bel⟩
  
end Go.Proofs.Ytijjdgmcjienlaa.PL
