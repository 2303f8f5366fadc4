/- Configurations and records as Lean structures; what may be, and what is done with a request, as plain functions; the contracts of the program's Judge, Bury, Sweep, MayConfig over them. -/
import Derived.Test.YtijjdgmcjienlaaPL
import Derived.Test.YtijjdgmcjienlaaRCD
namespace Go.Proofs.Ytijjdgmcjienlaa.PL
open Go.RowKit Go.Proofs.Ytijjdgmcjienlaa.Q Go.Proofs.YtijjdgmcjienlaaW.PrintWords Go.Proofs.YtijjdgmcjienlaaW.PrintLast
set_option linter.unusedVariables false
structure Cfg where
  c0 : Int
  c1 : Int
  c2 : Int
  c3 : Int
  c4 : Int
  c5 : Int
  c6 : Int
  c7 : Int
  c8 : Int
  c9 : Int
  c10 : Int
  c11 : Int
  c12 : Int
  c13 : Int
  c14 : Int
  c15 : Int
  c16 : Int
  c17 : Int
  n0 : ByteArray
  n1 : ByteArray
structure Rec where
  p : ByteArray
  e : Int
  a : Int
  g : Bool
def Cfg.arr (c : Cfg) : Array Value := #[.int .i64 c.c0, .int .i64 c.c1, .int .i64 c.c2, .int .i64 c.c3, .int .i64 c.c4, .int .i64 c.c5, .int .i64 c.c6, .int .i64 c.c7, .int .i64 c.c8, .int .i64 c.c9, .int .i64 c.c10, .int .i64 c.c11, .int .i64 c.c12, .int .i64 c.c13, .int .i64 c.c14, .int .i64 c.c15, .int .i64 c.c16, .int .i64 c.c17, .string c.n0, .string c.n1]
def Rec.arr (r : Rec) : Array Value := #[.string r.p, .int .i64 r.e, .int .i64 r.a, .bool r.g]
def cfgB (c : Cfg) : Bool := lease_numsOk c.c0 c.c1 c.c2 c.c3 c.c4 c.c5 c.c6 c.c7 c.c8 c.c9 c.c10 c.c11 c.c12 c.c13 c.c14 c.c15 c.c16 c.c17 && (lease_spans c.c0 c.c1 c.c2 c.c3 c.c4 c.c5 c.c6 c.c7 c.c8 c.c9 c.c10 c.c11 c.c12 c.c13 c.c14 c.c15 c.c16 c.c17 && (mayNameB c.n0 && (mayNameB c.n1 && !(c.n0.toList == c.n1.toList))))
def CfgR (c : Cfg) : Prop := ((1 ≤ c.c0 ∧ c.c0 ≤ 3) ∧ (1 ≤ c.c1 ∧ c.c1 ≤ 1073741824) ∧ (1 ≤ c.c2 ∧ c.c2 ≤ 1073741824) ∧ (1 ≤ c.c3 ∧ c.c3 ≤ 1073741824) ∧ (0 ≤ c.c4 ∧ c.c4 ≤ 1073741824) ∧ (0 ≤ c.c5 ∧ c.c5 ≤ 1073741824) ∧ (1 ≤ c.c6 ∧ c.c6 ≤ 1073741824) ∧ (1 ≤ c.c7 ∧ c.c7 ≤ 1073741824) ∧ (1 ≤ c.c8 ∧ c.c8 ≤ 1073741824) ∧ (1 ≤ c.c9 ∧ c.c9 ≤ 16) ∧ (1 ≤ c.c10 ∧ c.c10 ≤ 65536) ∧ (1 ≤ c.c11 ∧ c.c11 ≤ 1048576) ∧ (1 ≤ c.c12 ∧ c.c12 ≤ 1048576) ∧ (1 ≤ c.c13 ∧ c.c13 ≤ 1048576) ∧ (1 ≤ c.c14 ∧ c.c14 ≤ 1048576) ∧ (64 ≤ c.c15 ∧ c.c15 ≤ 1048576) ∧ (1 ≤ c.c16 ∧ c.c16 ≤ 1048576) ∧ (0 ≤ c.c17 ∧ c.c17 ≤ 1048576)) ∧ c.c3 + c.c4 < c.c1 ∧ c.c1 + 2 * c.c5 ≤ c.c2 ∧ c.c2 ≤ c.c6
def Small (c : Cfg) : Prop := c.n0.size ≤ 140737488351232 ∧ c.n1.size ≤ 140737488351232
theorem nums_iff (c : Cfg) : lease_numsOk c.c0 c.c1 c.c2 c.c3 c.c4 c.c5 c.c6 c.c7 c.c8 c.c9 c.c10 c.c11 c.c12 c.c13 c.c14 c.c15 c.c16 c.c17 = true ↔ (1 ≤ c.c0 ∧ c.c0 ≤ 3) ∧ (1 ≤ c.c1 ∧ c.c1 ≤ 1073741824) ∧ (1 ≤ c.c2 ∧ c.c2 ≤ 1073741824) ∧ (1 ≤ c.c3 ∧ c.c3 ≤ 1073741824) ∧ (0 ≤ c.c4 ∧ c.c4 ≤ 1073741824) ∧ (0 ≤ c.c5 ∧ c.c5 ≤ 1073741824) ∧ (1 ≤ c.c6 ∧ c.c6 ≤ 1073741824) ∧ (1 ≤ c.c7 ∧ c.c7 ≤ 1073741824) ∧ (1 ≤ c.c8 ∧ c.c8 ≤ 1073741824) ∧ (1 ≤ c.c9 ∧ c.c9 ≤ 16) ∧ (1 ≤ c.c10 ∧ c.c10 ≤ 65536) ∧ (1 ≤ c.c11 ∧ c.c11 ≤ 1048576) ∧ (1 ≤ c.c12 ∧ c.c12 ≤ 1048576) ∧ (1 ≤ c.c13 ∧ c.c13 ≤ 1048576) ∧ (1 ≤ c.c14 ∧ c.c14 ≤ 1048576) ∧ (64 ≤ c.c15 ∧ c.c15 ≤ 1048576) ∧ (1 ≤ c.c16 ∧ c.c16 ≤ 1048576) ∧ (0 ≤ c.c17 ∧ c.c17 ≤ 1048576) := by
  simp only [lease_numsOk, lease_nums, lease_nin, List.any_cons, List.any_nil, Bool.or_false, Bool.and_eq_true, Bool.not_eq_true', Bool.or_eq_false_iff, Bool.not_eq_false', Bool.and_eq_true, decide_eq_true_eq, ge_iff_le, and_assoc]
theorem spans_iff (c : Cfg) (h : (1 ≤ c.c0 ∧ c.c0 ≤ 3) ∧ (1 ≤ c.c1 ∧ c.c1 ≤ 1073741824) ∧ (1 ≤ c.c2 ∧ c.c2 ≤ 1073741824) ∧ (1 ≤ c.c3 ∧ c.c3 ≤ 1073741824) ∧ (0 ≤ c.c4 ∧ c.c4 ≤ 1073741824) ∧ (0 ≤ c.c5 ∧ c.c5 ≤ 1073741824) ∧ (1 ≤ c.c6 ∧ c.c6 ≤ 1073741824) ∧ (1 ≤ c.c7 ∧ c.c7 ≤ 1073741824) ∧ (1 ≤ c.c8 ∧ c.c8 ≤ 1073741824) ∧ (1 ≤ c.c9 ∧ c.c9 ≤ 16) ∧ (1 ≤ c.c10 ∧ c.c10 ≤ 65536) ∧ (1 ≤ c.c11 ∧ c.c11 ≤ 1048576) ∧ (1 ≤ c.c12 ∧ c.c12 ≤ 1048576) ∧ (1 ≤ c.c13 ∧ c.c13 ≤ 1048576) ∧ (1 ≤ c.c14 ∧ c.c14 ≤ 1048576) ∧ (64 ≤ c.c15 ∧ c.c15 ≤ 1048576) ∧ (1 ≤ c.c16 ∧ c.c16 ≤ 1048576) ∧ (0 ≤ c.c17 ∧ c.c17 ≤ 1048576)) : lease_spans c.c0 c.c1 c.c2 c.c3 c.c4 c.c5 c.c6 c.c7 c.c8 c.c9 c.c10 c.c11 c.c12 c.c13 c.c14 c.c15 c.c16 c.c17 = true ↔ c.c3 + c.c4 < c.c1 ∧ c.c1 + 2 * c.c5 ≤ c.c2 ∧ c.c2 ≤ c.c6 := by
  have w1 : wrap64 (c.c3 + c.c4) = c.c3 + c.c4 := wrap_in (by omega) (by omega)
  have w2 : wrap64 (2 * c.c5) = 2 * c.c5 := wrap_in (by omega) (by omega)
  have w3 : wrap64 (c.c1 + 2 * c.c5) = c.c1 + 2 * c.c5 := wrap_in (by omega) (by omega)
  unfold lease_spans
  rw [w1, w2, w3]
  simp only [Bool.and_eq_true, decide_eq_true_eq]
theorem cfg_iff (c : Cfg) : cfgB c = true ↔ CfgR c ∧ mayNameB c.n0 = true ∧ mayNameB c.n1 = true ∧ (c.n0.toList == c.n1.toList) = false := by
  unfold cfgB CfgR
  simp only [Bool.and_eq_true, Bool.not_eq_true']
  constructor
  · rintro ⟨h1, h2, h3⟩
    have g := (nums_iff c).1 h1
    exact ⟨⟨g, (spans_iff c g).1 h2⟩, h3⟩
  · rintro ⟨⟨g, h2⟩, h3⟩
    exact ⟨(nums_iff c).2 g, (spans_iff c g).2 h2, h3⟩
theorem ev_cfg (c : Cfg) (hs : Small c) : Ev (fun k => lease_MayConfig.f k c.c0 c.c1 c.c2 c.c3 c.c4 c.c5 c.c6 c.c7 c.c8 c.c9 c.c10 c.c11 c.c12 c.c13 c.c14 c.c15 c.c16 c.c17 c.n0 c.n1) (cfgB c) := by
  unfold lease_MayConfig.f cfgB
  refine ev_ite (fun h1 => ev_ite (fun h2 => Ev.bind (ev_mayName _ hs.1) (ev_ite (fun h3 => Ev.bind (ev_mayName _ hs.2) (ev_ite (fun h4 => ev_some ?_) (fun h4 => ev_some ?_))) (fun h3 => ev_some ?_))) (fun h2 => ev_some ?_)) (fun h1 => ev_some ?_)
  · rw [h1, h2, h3, h4]; rfl
  · rw [h1, h2, h3, Bool.eq_false_iff.mpr h4]; rfl
  · rw [h1, h2, Bool.eq_false_iff.mpr h3]; rfl
  · rw [h1, Bool.eq_false_iff.mpr h2]; rfl
  · rw [Bool.eq_false_iff.mpr h1]; rfl
def readB (n : Int) : Bool := decide (0 ≤ n) && decide (n ≤ 1125899906842624)
def mayB (r : Rec) (now : Int) (c : Cfg) : Bool := readB now && (recB r.p r.e r.a && cfgB c)
theorem bound_is (n l m : Int) : lease_bound_in.f n l m = some (decide (l ≤ n) && decide (n ≤ m)) := by
  rw [lease_bound_some]
  unfold lease_nin
  simp only [Bool.not_not]
theorem ev_may (r : Rec) (now : Int) (c : Cfg) (hr : r.p.size ≤ 140737488351232) (hs : Small c) : Ev (fun k => lease_may.f k r.p r.e r.a r.g now c.c0 c.c1 c.c2 c.c3 c.c4 c.c5 c.c6 c.c7 c.c8 c.c9 c.c10 c.c11 c.c12 c.c13 c.c14 c.c15 c.c16 c.c17 c.n0 c.n1) (mayB r now c) := by
  unfold lease_may.f mayB
  rw [bound_is]
  simp only [Option.bind_some]
  refine ev_ite (fun h1 => Ev.bind (ev_rec r.p r.e r.a r.g hr) (ev_ite (fun h2 => Ev.bind (ev_cfg c hs) (ev_some ?_)) (fun h2 => ev_some ?_))) (fun h1 => ev_some ?_)
  · rw [show readB now = true from h1, h2]; rfl
  · rw [show readB now = true from h1, Bool.eq_false_iff.mpr h2]; rfl
  · rw [show readB now = false from Bool.eq_false_iff.mpr h1]; rfl
/-- What is done with a request; whether a record is to be buried, or swept. -/
def judgeI (r : Rec) (there : Bool) (q : ByteArray) (now draw : Int) (c : Cfg) : Int :=
  if (cfgB c && (nameB q && (readB now && ((decide (0 ≤ draw) && decide (draw ≤ c.c4)) && (!there || recB r.p r.e r.a))))) = true then
    (if there = false then 1 else if r.g = true then 1 else if r.p.toList = q.toList then (if now ≥ r.a + c.c1 then 4 else if now ≥ r.a + c.c3 + draw then 3 else 2) else if now ≥ r.a + c.c2 then 1 else 5)
  else 0
def buryB (r : Rec) (now : Int) (c : Cfg) : Bool := mayB r now c && (!r.g && decide (now ≥ r.a + c.c6))
def sweepB (r : Rec) (now : Int) (c : Cfg) : Bool := mayB r now c && (r.g && decide (now ≥ r.a + c.c7))
theorem read_iff (n : Int) : readB n = true ↔ 0 ≤ n ∧ n ≤ 1125899906842624 := by
  unfold readB
  simp
theorem rec_iff (p : ByteArray) (e a : Int) : recB p e a = true ↔ nameB p = true ∧ (1 ≤ e ∧ e ≤ 1099511627776) ∧ 0 ≤ a ∧ a ≤ 1125899906842624 := by
  unfold recB
  simp only [Bool.and_eq_true, decide_eq_true_eq]
  constructor
  · rintro ⟨h1, h2, h3, h4, h5⟩; exact ⟨h1, ⟨h2, h3⟩, h4, h5⟩
  · rintro ⟨h1, ⟨h2, h3⟩, h4, h5⟩; exact ⟨h1, h2, h3, h4, h5⟩
theorem ev_bury (r : Rec) (now : Int) (c : Cfg) (hr : r.p.size ≤ 140737488351232) (hs : Small c) : Ev (fun k => lease_Bury.f k r.p r.e r.a r.g now c.c0 c.c1 c.c2 c.c3 c.c4 c.c5 c.c6 c.c7 c.c8 c.c9 c.c10 c.c11 c.c12 c.c13 c.c14 c.c15 c.c16 c.c17 c.n0 c.n1) (buryB r now c) := by
  unfold lease_Bury.f buryB
  refine Ev.bind (ev_may r now c hr hs) (ev_ite (fun h => ev_ite (fun g => ev_some ?_) (fun g => ev_some ?_)) (fun h => ev_some ?_))
  · rw [g]; simp
  · rw [h, Bool.eq_false_iff.mpr g]
    unfold mayB at h
    simp only [Bool.and_eq_true] at h
    obtain ⟨h1, h2, h3⟩ := h
    have q1 := (read_iff _).1 h1
    have q2 := (rec_iff _ _ _).1 h2
    have q3 := ((cfg_iff _).1 h3).1
    unfold CfgR at q3
    rw [wrap_in (by omega) (by omega)]
    simp only [Bool.not_false, Bool.true_and]
    exact decide_eq_decide.2 (by omega)
  · rw [Bool.eq_false_iff.mpr h]; rfl
theorem ev_sweep (r : Rec) (now : Int) (c : Cfg) (hr : r.p.size ≤ 140737488351232) (hs : Small c) : Ev (fun k => lease_Sweep.f k r.p r.e r.a r.g now c.c0 c.c1 c.c2 c.c3 c.c4 c.c5 c.c6 c.c7 c.c8 c.c9 c.c10 c.c11 c.c12 c.c13 c.c14 c.c15 c.c16 c.c17 c.n0 c.n1) (sweepB r now c) := by
  unfold lease_Sweep.f sweepB
  refine Ev.bind (ev_may r now c hr hs) (ev_ite (fun h => ev_ite (fun g => ev_some ?_) (fun g => ev_some ?_)) (fun h => ev_some ?_))
  · rw [h, g]
    unfold mayB at h
    simp only [Bool.and_eq_true] at h
    obtain ⟨h1, h2, h3⟩ := h
    have q1 := (read_iff _).1 h1
    have q2 := (rec_iff _ _ _).1 h2
    have q3 := ((cfg_iff _).1 h3).1
    unfold CfgR at q3
    rw [wrap_in (by omega) (by omega)]
    simp only [Bool.true_and]
    exact decide_eq_decide.2 (by omega)
  · rw [Bool.eq_false_iff.mpr g]; simp
  · rw [Bool.eq_false_iff.mpr h]; rfl
theorem ev_judge (r : Rec) (there : Bool) (q : ByteArray) (now draw : Int) (c : Cfg) (hr : r.p.size ≤ 140737488351232) (hq : q.size ≤ 140737488351232) (hs : Small c) :
    Ev (fun k => lease_Judge.f k r.p r.e r.a r.g there q now draw c.c0 c.c1 c.c2 c.c3 c.c4 c.c5 c.c6 c.c7 c.c8 c.c9 c.c10 c.c11 c.c12 c.c13 c.c14 c.c15 c.c16 c.c17 c.n0 c.n1) (judgeI r there q now draw c) := by
  -- behind the tests: what is done
  have hj2 : ∀ r : Rec, cfgB c = true → readB now = true → (0 ≤ draw ∧ draw ≤ c.c4) → recB r.p r.e r.a = true → ∀ x : Bool, x = (r.g || (!decide (r.p.toList = q.toList) && decide (now ≥ r.a + c.c2))) →
      Ev (fun k => lease_Judge.j2 k q draw (now - r.a) 0 x r.p r.e r.a r.g c.c0 c.c1 c.c2 c.c3 c.c4 c.c5 c.c6 c.c7 c.c8 c.c9 c.c10 c.c11 c.c12 c.c13 c.c14 c.c15 c.c16 c.c17 c.n0 c.n1) (if r.g = true then 1 else if r.p.toList = q.toList then (if now ≥ r.a + c.c1 then 4 else if now ≥ r.a + c.c3 + draw then 3 else 2) else if now ≥ r.a + c.c2 then 1 else 5) := by
    intro r h1 h2 h3 h4 x hx
    have q1 := (read_iff _).1 h2
    have q2 := (rec_iff _ _ _).1 h4
    have q3 := ((cfg_iff _).1 h1).1
    unfold CfgR at q3
    refine ev_shift ?_
    simp only [lease_Judge.j2]
    rw [wrap_in (x := c.c3 + draw) (by omega) (by omega)]
    cases hg : r.g with
    | true =>
      rw [hg] at hx
      subst hx
      simp only [Bool.true_or, if_true]
      exact Ev.now _
    | false =>
      rw [hg] at hx
      simp only [Bool.false_or] at hx
      simp only [Bool.false_eq_true, if_false]
      by_cases hp : r.p.toList = q.toList
      · have hx' : x = false := by rw [hx, decide_eq_true hp]; rfl
        subst hx'
        simp only [Bool.false_eq_true, if_false, if_pos hp]
        refine ev_ite (fun g1 => ev_some ?_) (fun g1 => ev_ite (fun g2 => ev_some ?_) (fun g2 => ev_some ?_))
        · rw [if_pos (by omega)]; decide
        · rw [if_neg (by omega), if_pos (by omega)]; decide
        · rw [if_neg (by omega), if_neg (by omega)]; decide
      · simp only [if_neg hp]
        by_cases hb : now ≥ r.a + c.c2
        · have hx' : x = true := by rw [hx, decide_eq_false hp, decide_eq_true hb]; rfl
          subst hx'
          simp only [if_true, if_pos hb]
          exact Ev.now _
        · have hx' : x = false := by rw [hx, decide_eq_false hp, decide_eq_false hb]; rfl
          subst hx'
          simp only [Bool.false_eq_true, if_false, if_neg hb]
          exact Ev.now _
  have hj1 : ∀ r : Rec, cfgB c = true → readB now = true → (0 ≤ draw ∧ draw ≤ c.c4) → recB r.p r.e r.a = true → Ev (fun k => lease_Judge.j1 k q now draw false r.p r.e r.a r.g c.c0 c.c1 c.c2 c.c3 c.c4 c.c5 c.c6 c.c7 c.c8 c.c9 c.c10 c.c11 c.c12 c.c13 c.c14 c.c15 c.c16 c.c17 c.n0 c.n1) (if r.g = true then 1 else if r.p.toList = q.toList then (if now ≥ r.a + c.c1 then 4 else if now ≥ r.a + c.c3 + draw then 3 else 2) else if now ≥ r.a + c.c2 then 1 else 5) := by
    intro r h1 h2 h3 h4
    have q1 := (read_iff _).1 h2
    have q2 := (rec_iff _ _ _).1 h4
    have q3 := ((cfg_iff _).1 h1).1
    unfold CfgR at q3
    refine ev_shift ?_
    simp only [lease_Judge.j1, Bool.false_eq_true, if_false]
    rw [wrap_in (x := now - r.a) (by omega) (by omega)]
    refine ev_ite (fun g => hj2 r h1 h2 h3 h4 _ ?_) (fun g => ev_ite (fun g2 => hj2 r h1 h2 h3 h4 _ ?_) (fun g2 => hj2 r h1 h2 h3 h4 _ ?_))
    · rw [g]; rfl
    · rw [Bool.eq_false_iff.mpr g, decide_eq_true g2]; rfl
    · rw [Bool.eq_false_iff.mpr g, decide_eq_false g2]
      simp only [Bool.false_or, Bool.not_false, Bool.true_and]
      exact decide_eq_decide.2 (by omega)
  have hno : ∀ r : Rec, Ev (fun k => lease_Judge.j1 k q now draw true r.p r.e r.a r.g c.c0 c.c1 c.c2 c.c3 c.c4 c.c5 c.c6 c.c7 c.c8 c.c9 c.c10 c.c11 c.c12 c.c13 c.c14 c.c15 c.c16 c.c17 c.n0 c.n1) 0 := by
    intro r
    refine ev_shift ?_
    simp only [lease_Judge.j1, if_true]
    exact Ev.now _
  have hj0 : ∀ r : Rec, r.p.size ≤ 140737488351232 → Ev (fun k => lease_Judge.j0 k q now draw r.p r.e r.a r.g c.c0 c.c1 c.c2 c.c3 c.c4 c.c5 c.c6 c.c7 c.c8 c.c9 c.c10 c.c11 c.c12 c.c13 c.c14 c.c15 c.c16 c.c17 c.n0 c.n1) (if (cfgB c && (nameB q && (readB now && ((decide (0 ≤ draw) && decide (draw ≤ c.c4)) && recB r.p r.e r.a)))) = true then (if r.g = true then 1 else if r.p.toList = q.toList then (if now ≥ r.a + c.c1 then 4 else if now ≥ r.a + c.c3 + draw then 3 else 2) else if now ≥ r.a + c.c2 then 1 else 5) else 0) := by
    intro r hr
    refine ev_shift ?_
    simp only [lease_Judge.j0]
    refine Ev.bind (ev_name q hq) (ev_ite (fun h1 => Ev.bind (ev_may r now c hr hs) (ev_ite (fun h2 => ?_) (fun h2 => ?_))) (fun h1 => ?_))
    · rw [bound_is]
      simp only [Option.bind_some]
      unfold mayB at h2
      simp only [Bool.and_eq_true] at h2
      obtain ⟨g1, g2, g3⟩ := h2
      rw [g1, g2, g3, h1]
      cases hd : (decide (0 ≤ draw) && decide (draw ≤ c.c4)) with
      | true =>
        simp only [Bool.and_eq_true, decide_eq_true_eq] at hd
        simpa using hj1 r g3 g1 hd g2
      | false => simpa using hno r
    · refine ev_is (hno r) ?_
      rw [if_neg]
      intro h
      apply h2
      simp only [Bool.and_eq_true] at h
      unfold mayB
      simp only [Bool.and_eq_true]
      exact ⟨h.2.2.1, h.2.2.2.2, h.1⟩
    · refine ev_is (hno r) ?_
      rw [if_neg]
      intro h
      simp only [Bool.and_eq_true] at h
      exact h1 h.2.1
  unfold lease_Judge.f judgeI
  refine ev_ite (fun h => ?_) (fun h => ?_)
  · rw [h]
    simpa using hj0 r hr
  · have ht := Bool.eq_false_iff.mpr h
    rw [ht]
    unfold lease_none.f
    simp only [Option.bind_some]
    refine ev_is (hj0 ⟨q, 1, 0, true⟩ hq) ?_
    unfold recB
    cases nameB q <;> simp
/-! ### the contracts -/
theorem cfg_calls (c : Cfg) (hs : Small c) (w : World) : Calls Try.prog 19 #[.agg c.arr] w fun e w' => e = .returned (.bool (cfgB c)) ∧ Below w.heap.size w w' := by
  obtain ⟨k, h⟩ := (ev_cfg c hs).rounds
  exact lease_MayConfig.calls k c.c0 c.c1 c.c2 c.c3 c.c4 c.c5 c.c6 c.c7 c.c8 c.c9 c.c10 c.c11 c.c12 c.c13 c.c14 c.c15 c.c16 c.c17 c.n0 c.n1 _ w h
theorem judge_calls (r : Rec) (there : Bool) (q : ByteArray) (now draw : Int) (c : Cfg) (hr : r.p.size ≤ 140737488351232) (hq : q.size ≤ 140737488351232) (hs : Small c) (w : World) :
    Calls Try.prog 13 #[.agg r.arr, .bool there, .string q, .int .i64 now, .int .i64 draw, .agg c.arr] w fun e w' => e = .returned (.int .u8 (judgeI r there q now draw c)) ∧ Below w.heap.size w w' := by
  obtain ⟨k, h⟩ := (ev_judge r there q now draw c hr hq hs).rounds
  exact lease_Judge.calls k r.p r.e r.a r.g there q now draw c.c0 c.c1 c.c2 c.c3 c.c4 c.c5 c.c6 c.c7 c.c8 c.c9 c.c10 c.c11 c.c12 c.c13 c.c14 c.c15 c.c16 c.c17 c.n0 c.n1 _ w h
theorem bury_calls (r : Rec) (now : Int) (c : Cfg) (hr : r.p.size ≤ 140737488351232) (hs : Small c) (w : World) :
    Calls Try.prog 15 #[.agg r.arr, .int .i64 now, .agg c.arr] w fun e w' => e = .returned (.bool (buryB r now c)) ∧ Below w.heap.size w w' := by
  obtain ⟨k, h⟩ := (ev_bury r now c hr hs).rounds
  exact lease_Bury.calls k r.p r.e r.a r.g now c.c0 c.c1 c.c2 c.c3 c.c4 c.c5 c.c6 c.c7 c.c8 c.c9 c.c10 c.c11 c.c12 c.c13 c.c14 c.c15 c.c16 c.c17 c.n0 c.n1 _ w h
theorem sweep_calls (r : Rec) (now : Int) (c : Cfg) (hr : r.p.size ≤ 140737488351232) (hs : Small c) (w : World) :
    Calls Try.prog 17 #[.agg r.arr, .int .i64 now, .agg c.arr] w fun e w' => e = .returned (.bool (sweepB r now c)) ∧ Below w.heap.size w w' := by
  obtain ⟨k, h⟩ := (ev_sweep r now c hr hs).rounds
  exact lease_Sweep.calls k r.p r.e r.a r.g now c.c0 c.c1 c.c2 c.c3 c.c4 c.c5 c.c6 c.c7 c.c8 c.c9 c.c10 c.c11 c.c12 c.c13 c.c14 c.c15 c.c16 c.c17 c.n0 c.n1 _ w h
end Go.Proofs.Ytijjdgmcjienlaa.PL
