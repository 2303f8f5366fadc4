/- Small things for the walks of the laws of layer 19: what 'long' and 'awake' answer; loads of whole structs. -/
import Derived.Test.YtijjdgmcjienlaaPJ
namespace Go.Proofs.Ytijjdgmcjienlaa.PL
open Go.RowKit Go.Proofs.Ytijjdgmcjienlaa.Q Go.Proofs.YtijjdgmcjienlaaW.PrintWords Go.Proofs.YtijjdgmcjienlaaW.PrintLast
set_option linter.unusedVariables false
def longB (r : Rec) (q : ByteArray) (c : Cfg) : Bool := decide (r.p.size > 3000) || (decide (q.size > 3000) || (decide (c.n0.size > 3000) || decide (c.n1.size > 3000)))
theorem long_calls (r : Rec) (q : ByteArray) (c : Cfg) (v : Bool) (h : longB r q c = v) (w : World) :
    Calls Try.prog 11 #[.agg r.arr, .string q, .agg c.arr] w fun e w' => e = .returned (.bool v) ∧ Below w.heap.size w w' := by
  subst h
  refine batonlaw19_long.calls r.p r.e r.a r.g q c.c0 c.c1 c.c2 c.c3 c.c4 c.c5 c.c6 c.c7 c.c8 c.c9 c.c10 c.c11 c.c12 c.c13 c.c14 c.c15 c.c16 c.c17 c.n0 c.n1 _ w ?_
  unfold batonlaw19_long.f longB
  have e : ∀ s : ByteArray, decide (s.size > 3000) = decide ((s.size : Int) > 3000) := fun s => decide_eq_decide.2 (by omega)
  rw [e, e, e, e]
  by_cases h1 : (r.p.size : Int) > 3000
  · rw [if_pos h1, decide_eq_true h1]; rfl
  · rw [if_neg h1, decide_eq_false h1]
    by_cases h2 : (q.size : Int) > 3000
    · rw [if_pos h2, decide_eq_true h2]; rfl
    · rw [if_neg h2, decide_eq_false h2]
      by_cases h3 : (c.n0.size : Int) > 3000
      · rw [if_pos h3, decide_eq_true h3]; rfl
      · rw [if_neg h3, decide_eq_false h3]; rfl
theorem judge_is (r : Rec) (there : Bool) (q : ByteArray) (now draw : Int) (c : Cfg) (hr : r.p.size ≤ 140737488351232) (hq : q.size ≤ 140737488351232) (hs : Small c) (w : World) (v : Int) (h : judgeI r there q now draw c = v) :
    Calls Try.prog 13 #[.agg r.arr, .bool there, .string q, .int .i64 now, .int .i64 draw, .agg c.arr] w fun e w' => e = .returned (.int .u8 v) ∧ Below w.heap.size w w' := by
  subst h
  exact judge_calls r there q now draw c hr hq hs w
theorem bury_is (r : Rec) (now : Int) (c : Cfg) (hr : r.p.size ≤ 140737488351232) (hs : Small c) (w : World) (v : Bool) (h : buryB r now c = v) :
    Calls Try.prog 15 #[.agg r.arr, .int .i64 now, .agg c.arr] w fun e w' => e = .returned (.bool v) ∧ Below w.heap.size w w' := by
  subst h
  exact bury_calls r now c hr hs w
theorem sweep_is (r : Rec) (now : Int) (c : Cfg) (hr : r.p.size ≤ 140737488351232) (hs : Small c) (w : World) (v : Bool) (h : sweepB r now c = v) :
    Calls Try.prog 17 #[.agg r.arr, .int .i64 now, .agg c.arr] w fun e w' => e = .returned (.bool v) ∧ Below w.heap.size w w' := by
  subst h
  exact sweep_calls r now c hr hs w
theorem cfg_is (c : Cfg) (hs : Small c) (w : World) (v : Bool) (h : cfgB c = v) : Calls Try.prog 19 #[.agg c.arr] w fun e w' => e = .returned (.bool v) ∧ Below w.heap.size w w' := by
  subst h
  exact cfg_calls c hs w
theorem rec0 (r : Rec) : r.arr[0]? = some (.string r.p) := rfl
theorem rec1 (r : Rec) : r.arr[1]? = some (.int .i64 r.e) := rfl
theorem rec2 (r : Rec) : r.arr[2]? = some (.int .i64 r.a) := rfl
theorem rec3 (r : Rec) : r.arr[3]? = some (.bool r.g) := rfl
theorem cfg5 (c : Cfg) : c.arr[5]? = some (.int .i64 c.c5) := rfl
/-- Two blocks stay. -/
structure Two (w0 w : World) (r : Rec) (c : Cfg) : Prop where
  rb : w.heap[w0.heap.size]? = some (.cells r.arr 23 (0, 0))
  cb : w.heap[w0.heap.size + 1]? = some (.cells c.arr 25 (0, 0))
  bel : Below w0.heap.size w0 w
theorem Two.start (w : World) (r : Rec) (c : Cfg) : Two w ((w.alloc (.cells r.arr 23 (0, 0))).alloc (.cells c.arr 25 (0, 0))) r c :=
  ⟨blk_alloc (heap_alloc_new w _) _, heap_alloc2_new w _ _, ((Below.refl _ _).alloc (Nat.le_refl _) _).alloc (by simp) _⟩
theorem Two.next {w0 w w' : World} {r : Rec} {c : Cfg} (h : Two w0 w r c) (hb : Below w.heap.size w w') : Two w0 w' r c := ⟨blk_below h.rb hb, blk_below h.cb hb, h.bel.trans (hb.mono h.bel.size)⟩
theorem Two.drawn {w0 w : World} {r : Rec} {c : Cfg} (h : Two w0 w r c) (n : Nat) : Two w0 (w.drewN n) r c := ⟨h.rb, h.cb, lease_below_drawn h.bel⟩
end Go.Proofs.Ytijjdgmcjienlaa.PL
