/- The law's long, plain: what it does not call long has few parts, and short texts. -/
import Derived.Test.YtagkobpbhfkmdaaQx2
import Derived.Test.YtagkobpbhfkmdaaCM
namespace Go.Proofs.Ytagkobpbhfkmdaa.C
open Go.RowKit Go.Proofs.Ytagkobpbhfkmdaa.Q Go.Proofs.YtagkobpbhfkmdaaW.PrintLast Go.Proofs.YtagkobpbhfkmdaaW.PrintWords
set_option linter.unusedVariables false
abbrev Sd' := S33
theorem rd_getS {l : List S33} {k : Nat} {x : S33} (h : l[k]? = some x) : rd_T33 l (k : Int) = x := by
  unfold rd_T33
  rw [Int.toNat_natCast, List.getD_eq_getElem?_getD, h]
  rfl
theorem mn_le (x : Nat) : 0 ≤ mn (x : Int) 20000 ∧ mn (x : Int) 20000 ≤ 20000 ∧ (mn (x : Int) 20000 < 20000 → x < 20000) := by
  unfold mn
  split <;> omega
theorem w64 {x : Int} (h : -9223372036854775808 ≤ x ∧ x < 9223372036854775808) : wrap64 x = x := by unfold wrap64; omega
theorem rd_x46 {l : List S46} {j : Nat} (h : j < l.length) : rd_T46 l (j : Int) = l[j] := by
  unfold rd_T46
  rw [Int.toNat_natCast, List.getD_eq_getElem?_getD, List.getElem?_eq_getElem h]
  rfl
theorem rd_x75 {l : List S75} {j : Nat} (h : j < l.length) : rd_T75 l (j : Int) = l[j] := by
  unfold rd_T75
  rw [Int.toNat_natCast, List.getD_eq_getElem?_getD, List.getElem?_eq_getElem h]
  rfl
theorem rd_xs {l : List ByteArray} {j : Nat} (h : j < l.length) : rdOf ByteArray.empty l (j : Int) = l[j] := by
  unfold rdOf
  rw [Int.toNat_natCast, List.getD_eq_getElem?_getD, List.getElem?_eq_getElem h]
  rfl
theorem long_l3 (x0 : List S33) (i : Nat) (s : S33) (hs : x0[i]? = some s) (hi2 : x0.length ≤ 1000) : ∀ (d j : Nat), j + d = s.f5.length → s.f5.length ≤ 300 → ∀ (a : Int), 0 ≤ a → a + d * 40020 ≤ 1000000000000 → ∃ a', (∀ k : Nat, batonlaw21_long.l3 (k + d + 1) x0 a (i : Int) (j : Int) = batonlaw21_long.l0 k x0 a' ((i + 1 : Nat) : Int)) ∧ a ≤ a' ∧ a' ≤ a + d * 40020 ∧ (a' < 20000 → ∀ x ∈ s.f5.drop j, x.f2.size < 20000 ∧ x.f3.size < 20000) := by
  have hlt := (List.getElem?_eq_some_iff.1 hs).1
  intro d
  induction d with
  | zero =>
    intro j hj hd a h0 h1
    refine ⟨a, fun k => ?_, by omega, by omega, fun _ x hx => ?_⟩
    · show batonlaw21_long.l3 (k + 1) _ _ _ _ = _
      simp only [batonlaw21_long.l3]
      rw [if_pos (by omega), if_pos (by omega), rd_getS hs, if_neg (by omega), w64 (by omega)]
      rfl
    · rw [List.drop_of_length_le (by omega)] at hx
      cases hx
  | succ d ih =>
    intro j hj hd a h0 h1
    have hjl : j < s.f5.length := by omega
    have m1 := mn_le s.f5[j].f2.size
    have m2 := mn_le s.f5[j].f3.size
    obtain ⟨a', h2, h3, h4, h5⟩ := ih (j + 1) (by omega) (by omega) (a + 20 + mn (s.f5[j].f2.size : Int) 20000 + mn (s.f5[j].f3.size : Int) 20000) (by omega) (by omega)
    refine ⟨a', fun k => ?_, by omega, by omega, fun h x hx => ?_⟩
    · show batonlaw21_long.l3 ((k + d + 1) + 1) _ _ _ _ = _
      rw [batonlaw21_long.l3]
      rw [if_pos (by omega), if_pos (by omega), rd_getS hs, if_pos (by omega), if_pos (by omega), rd_x75 hjl, w64 (x := a + 20) (by omega), w64 (x := a + 20 + mn (s.f5[j].f2.size : Int) 20000) (by omega), w64 (x := a + 20 + mn (s.f5[j].f2.size : Int) 20000 + mn (s.f5[j].f3.size : Int) 20000) (by omega), w64 (x := (j : Int) + 1) (by omega), show ((j : Int) + 1) = ((j + 1 : Nat) : Int) by omega]
      exact h2 k
    · rw [List.drop_eq_getElem_cons hjl] at hx
      rcases List.mem_cons.1 hx with rfl | hx
      · exact ⟨m1.2.2 (by omega), m2.2.2 (by omega)⟩
      · exact h5 h x hx
theorem long_l2 (x0 : List S33) (i : Nat) (s : S33) (hs : x0[i]? = some s) (hi2 : x0.length ≤ 1000) : ∀ (d j : Nat), j + d = s.f4.length → s.f4.length ≤ 300 → ∀ (a : Int), 0 ≤ a → a + d * 40020 ≤ 1000000000000 → ∃ a', (∀ k : Nat, batonlaw21_long.l2 (k + d + 1) x0 a (i : Int) (j : Int) = batonlaw21_long.l3 k x0 a' (i : Int) ((0 : Nat) : Int)) ∧ a ≤ a' ∧ a' ≤ a + d * 40020 ∧ (a' < 20000 → ∀ x ∈ s.f4.drop j, x.f0.size < 20000 ∧ x.f1.size < 20000) := by
  have hlt := (List.getElem?_eq_some_iff.1 hs).1
  intro d
  induction d with
  | zero =>
    intro j hj hd a h0 h1
    refine ⟨a, fun k => ?_, by omega, by omega, fun _ x hx => ?_⟩
    · show batonlaw21_long.l2 (k + 1) _ _ _ _ = _
      simp only [batonlaw21_long.l2]
      rw [if_pos (by omega), if_pos (by omega), rd_getS hs, if_neg (by omega)]
      rfl
    · rw [List.drop_of_length_le (by omega)] at hx
      cases hx
  | succ d ih =>
    intro j hj hd a h0 h1
    have hjl : j < s.f4.length := by omega
    have m1 := mn_le s.f4[j].f0.size
    have m2 := mn_le s.f4[j].f1.size
    obtain ⟨a', h2, h3, h4, h5⟩ := ih (j + 1) (by omega) (by omega) (a + 20 + mn (s.f4[j].f0.size : Int) 20000 + mn (s.f4[j].f1.size : Int) 20000) (by omega) (by omega)
    refine ⟨a', fun k => ?_, by omega, by omega, fun h x hx => ?_⟩
    · show batonlaw21_long.l2 ((k + d + 1) + 1) _ _ _ _ = _
      rw [batonlaw21_long.l2]
      rw [if_pos (by omega), if_pos (by omega), rd_getS hs, if_pos (by omega), if_pos (by omega), rd_x46 hjl, w64 (x := a + 20) (by omega), w64 (x := a + 20 + mn (s.f4[j].f0.size : Int) 20000) (by omega), w64 (x := a + 20 + mn (s.f4[j].f0.size : Int) 20000 + mn (s.f4[j].f1.size : Int) 20000) (by omega), w64 (x := (j : Int) + 1) (by omega), show ((j : Int) + 1) = ((j + 1 : Nat) : Int) by omega]
      exact h2 k
    · rw [List.drop_eq_getElem_cons hjl] at hx
      rcases List.mem_cons.1 hx with rfl | hx
      · exact ⟨m1.2.2 (by omega), m2.2.2 (by omega)⟩
      · exact h5 h x hx
theorem long_l1 (x0 : List S33) (i : Nat) (s : S33) (hs : x0[i]? = some s) (hi2 : x0.length ≤ 1000) : ∀ (d j : Nat), j + d = s.f3.length → s.f3.length ≤ 300 → ∀ (a : Int), 0 ≤ a → a + d * 20005 ≤ 1000000000000 → ∃ a', (∀ k : Nat, batonlaw21_long.l1 (k + d + 1) x0 a (i : Int) (j : Int) = batonlaw21_long.l2 k x0 a' (i : Int) ((0 : Nat) : Int)) ∧ a ≤ a' ∧ a' ≤ a + d * 20005 ∧ (a' < 20000 → ∀ x ∈ s.f3.drop j, x.size < 20000) := by
  have hlt := (List.getElem?_eq_some_iff.1 hs).1
  intro d
  induction d with
  | zero =>
    intro j hj hd a h0 h1
    refine ⟨a, fun k => ?_, by omega, by omega, fun _ x hx => ?_⟩
    · show batonlaw21_long.l1 (k + 1) _ _ _ _ = _
      simp only [batonlaw21_long.l1]
      rw [if_pos (by omega), if_pos (by omega), rd_getS hs, if_neg (by omega)]
      rfl
    · rw [List.drop_of_length_le (by omega)] at hx
      cases hx
  | succ d ih =>
    intro j hj hd a h0 h1
    have hjl : j < s.f3.length := by omega
    have m1 := mn_le s.f3[j].size
    obtain ⟨a', h2, h3, h4, h5⟩ := ih (j + 1) (by omega) (by omega) (a + 5 + mn (s.f3[j].size : Int) 20000) (by omega) (by omega)
    refine ⟨a', fun k => ?_, by omega, by omega, fun h x hx => ?_⟩
    · show batonlaw21_long.l1 ((k + d + 1) + 1) _ _ _ _ = _
      rw [batonlaw21_long.l1]
      rw [if_pos (by omega), if_pos (by omega), rd_getS hs, if_pos (by omega), if_pos (by omega), rd_xs hjl, w64 (x := a + 5) (by omega), w64 (x := a + 5 + mn (s.f3[j].size : Int) 20000) (by omega), w64 (x := (j : Int) + 1) (by omega), show ((j : Int) + 1) = ((j + 1 : Nat) : Int) by omega]
      exact h2 k
    · rw [List.drop_eq_getElem_cons hjl] at hx
      rcases List.mem_cons.1 hx with rfl | hx
      · exact m1.2.2 (by omega)
      · exact h5 h x hx
/-- Something told that is not much. -/
def Few (s : S33) : Prop := s.f3.length ≤ 300 ∧ s.f4.length ≤ 300 ∧ s.f5.length ≤ 300 ∧ (∀ x ∈ s.f3, x.size < 20000) ∧ (∀ x ∈ s.f4, x.f0.size < 20000 ∧ x.f1.size < 20000) ∧ (∀ x ∈ s.f5, x.f2.size < 20000 ∧ x.f3.size < 20000)
theorem long_l0 (x0 : List S33) (hx : x0.length ≤ 60) (hm : ∀ s ∈ x0, s.f3.length ≤ 140737488355328 ∧ s.f4.length ≤ 140737488355328 ∧ s.f5.length ≤ 140737488355328) : ∀ (d i : Nat), i + d = x0.length → ∀ a : Int, 0 ≤ a → a + d * 40000000 ≤ 900000000000 → ∃ K r, batonlaw21_long.l0 K x0 a (i : Int) = some r ∧ (r = false → a < 20000 ∧ ∀ s ∈ x0.drop i, Few s) := by
  intro d
  induction d with
  | zero =>
    intro i hi a h0 h1
    refine ⟨2, decide (a ≥ 20000), ?_, fun h => ⟨by simpa using h, fun s hs => ?_⟩⟩
    · simp only [batonlaw21_long.l0, batonlaw21_long.j1]
      rw [if_neg (by omega), if_neg (by decide)]
    · rw [List.drop_of_length_le (by omega)] at hs
      cases hs
  | succ d ih =>
    intro i hi a h0 h1
    have hlt : i < x0.length := by omega
    have hs : x0[i]? = some x0[i] := List.getElem?_eq_getElem hlt
    obtain ⟨g3, g4, g5⟩ := hm _ (List.getElem_mem hlt)
    by_cases ha : a < 20000
    · by_cases hbig : ((x0[i].f3.length : Int) + (x0[i].f4.length : Int) + (x0[i].f5.length : Int)) > 300
      · refine ⟨2, true, ?_, fun h => by cases h⟩
        simp only [batonlaw21_long.l0, batonlaw21_long.j1]
        rw [if_pos (by omega), decide_eq_true ha, if_pos rfl, if_pos (by omega), if_pos (by omega), rd_getS hs, w64 (x := (x0[i].f3.length : Int) + (x0[i].f4.length : Int)) (by omega), w64 (x := (x0[i].f3.length : Int) + (x0[i].f4.length : Int) + (x0[i].f5.length : Int)) (by omega), if_pos hbig]
      · obtain ⟨a1, e1, b1, b2, b3⟩ := long_l1 x0 i x0[i] hs (by omega) x0[i].f3.length 0 (by omega) (by omega) a h0 (by omega)
        obtain ⟨a2, e2, c1, c2, c3⟩ := long_l2 x0 i x0[i] hs (by omega) x0[i].f4.length 0 (by omega) (by omega) a1 (by omega) (by omega)
        obtain ⟨a3, e3, d1, d2, d3⟩ := long_l3 x0 i x0[i] hs (by omega) x0[i].f5.length 0 (by omega) (by omega) a2 (by omega) (by omega)
        obtain ⟨K, r, hr, hf⟩ := ih (i + 1) (by omega) a3 (by omega) (by omega)
        refine ⟨((K + x0[i].f5.length + 1) + x0[i].f4.length + 1) + x0[i].f3.length + 1 + 2, r, ?_, fun h => ?_⟩
        · show batonlaw21_long.l0 (_ + 1 + 1) _ _ _ = _
          simp only [batonlaw21_long.l0, batonlaw21_long.j1]
          rw [if_pos (by omega), decide_eq_true ha, if_pos rfl, if_pos (by omega), if_pos (by omega), rd_getS hs, w64 (x := (x0[i].f3.length : Int) + (x0[i].f4.length : Int)) (by omega), w64 (x := (x0[i].f3.length : Int) + (x0[i].f4.length : Int) + (x0[i].f5.length : Int)) (by omega), if_neg hbig]
          have q1 := e1 ((K + x0[i].f5.length + 1) + x0[i].f4.length + 1)
          rw [show ((0 : Nat) : Int) = 0 from rfl] at q1
          rw [q1]
          exact (e2 _).trans ((e3 K).trans hr)
        · obtain ⟨h3, h4⟩ := hf h
          refine ⟨ha, fun s hsd => ?_⟩
          rw [List.drop_eq_getElem_cons hlt] at hsd
          rcases List.mem_cons.1 hsd with rfl | hsd
          · exact ⟨by omega, by omega, by omega, b3 (by omega), c3 (by omega), d3 (by omega)⟩
          · exact h4 s hsd
    · refine ⟨2, true, ?_, fun h => by cases h⟩
      simp only [batonlaw21_long.l0, batonlaw21_long.j1]
      rw [if_pos (by omega), decide_eq_false ha, if_neg (by decide), decide_eq_true (by omega)]
end Go.Proofs.Ytagkobpbhfkmdaa.C
