/- The walk of ClockReadings. -/
import Derived.Test.YtjefeoohfalcaaaAW
namespace Go.Proofs.Ytjefeoohfalcaaa.C
open Go.RowKit
set_option linter.unusedVariables false
set_option linter.unusedSimpArgs false
theorem u64_nonneg (x : Int) : 0 ≤ IntKind.u64.wrap x := by rw [IntKind.wrap_u64]; omega
theorem cat_is {C b : Nat} {now : Int} {sk : List Int} {w : World} (h : CRep w C b now sk) (node a v : Int) (h1 : atI now sk node = a) (h2 : noneI sk.length node = v) : Calls Try.prog 14 #[.pointer (some ⟨C, 0, none⟩), .int .i64 node] w fun e w' => e = .returned (.tuple #[.int .i64 a, .int .i64 v]) ∧ w = w' := by
  subst h1; subst h2
  exact cat_calls C b now sk node w h
set_option maxHeartbeats 2000000 in
set_option maxRecDepth 100000 in
theorem readings_walk (skew n m : Int) (h0 : (Lit.int .i64 skew).wf = true) (h1 : (Lit.int .i64 n).wf = true) (h2 : (Lit.int .i64 m).wf = true) (w : World) : Calls Try.prog 3 #[.int .i64 skew, .int .i64 n, .int .i64 m] w fun e w' => e = .returned (.bool true) ∧ Below w.heap.size w w' := by
  clear h0 h1 h2
  obtain ⟨u0, e0⟩ : ∃ u0, IntKind.u64.wrap skew = u0 := ⟨_, rfl⟩
  obtain ⟨u1, e1⟩ : ∃ u1, IntKind.u64.wrap n = u1 := ⟨_, rfl⟩
  obtain ⟨u2, e2⟩ : ∃ u2, IntKind.u64.wrap m = u2 := ⟨_, rfl⟩
  have hu0 : 0 ≤ u0 := by rw [← e0]; exact u64_nonneg _
  have hu1 : 0 ≤ u1 := by rw [← e1]; exact u64_nonneg _
  have hu2 : 0 ≤ u2 := by rw [← e2]; exact u64_nonneg _
  obtain ⟨s, es⟩ : ∃ s, u0 % 2147483649 - 1073741824 = s := ⟨_, rfl⟩
  obtain ⟨n1, en⟩ : ∃ n1, u1 % 1125899906842625 = n1 := ⟨_, rfl⟩
  obtain ⟨q, eq⟩ : ∃ q, 1125899906842624 - n1 + 1 = q := ⟨_, rfl⟩
  obtain ⟨m1, em⟩ : ∃ m1, u2 % q = m1 := ⟨_, rfl⟩
  have hs0 : -1073741824 ≤ s := by omega
  have hs1 : s ≤ 1073741824 := by omega
  have hn0 : 0 ≤ n1 := by omega
  have hn1 : n1 ≤ 1125899906842624 := by omega
  have hq0 : 1 ≤ q := by omega
  have hq1 : q ≤ 1125899906842625 := by omega
  have hm0 : 0 ≤ m1 := by rw [← em]; exact Int.emod_nonneg _ (by omega)
  have hm1 : n1 + m1 ≤ 1125899906842624 := by have := Int.emod_lt_of_pos u2 (show 0 < q by omega); omega
  have eqw : IntKind.u64.wrap q = q := by rw [IntKind.wrap_u64]; omega
  obtain ⟨tt, et⟩ : ∃ tt, n1 + m1 = tt := ⟨_, rfl⟩
  obtain ⟨a, ea⟩ : ∃ a, rdg n1 s = a := ⟨_, rfl⟩
  obtain ⟨bb, eb⟩ : ∃ bb, rdg tt s = bb := ⟨_, rfl⟩
  obtain ⟨o, eo⟩ : ∃ o, worstI tt [0, s, 0] = o := ⟨_, rfl⟩
  have hab : a ≤ bb ∧ bb - a ≤ m1 := by rw [← ea, ← eb]; unfold rdg; omega
  have hbb : 0 ≤ bb ∧ bb ≤ 1125899906842624 := by rw [← eb]; exact rdg_in tt s
  have hat : 0 ≤ a ∧ a ≤ 1125899906842624 := by rw [← ea]; exact rdg_in n1 s
  have hoo : (bb - tt ≤ o ∧ tt - bb ≤ o ∧ (o = bb - tt ∨ o = tt - bb)) := by
    rw [← eo]
    show _ ∧ _ ∧ _
    unfold worstI
    simp only [List.foldl_cons, List.foldl_nil]
    unfold worseI
    rw [eb]
    have h00 : rdg tt 0 = tt := by unfold rdg; omega
    rw [h00]
    omega
  have hcase : (tt + s < 0 ∧ bb = 0) ∨ (1125899906842624 < tt + s ∧ bb = 1125899906842624) ∨ (0 ≤ tt + s ∧ tt + s ≤ 1125899906842624 ∧ bb = tt + s) := by rw [← eb]; unfold rdg; omega
  have A1 : Aside (atI n1 [0, s, 0] 1 = a ∧ noneI 3 1 = 0) := ⟨by rw [← ea]; rfl, by decide⟩
  have A2 : Aside (atI tt [0, s, 0] 1 = bb) := ⟨by rw [← eb]; rfl⟩
  have A3 : Aside ((noneI [0, s, 0].length 0 == 0 && atI tt [0, s, 0] 0 == tt) = true ∧ (noneI [0, s, 0].length 2 == 0 && atI tt [0, s, 0] 2 == tt) = true) := ⟨by
    have h00 : rdg tt 0 = tt := by unfold rdg; omega
    have e0 : atI tt [0, s, 0] 0 = tt := by show rdg tt 0 = tt; exact h00
    have e2 : atI tt [0, s, 0] 2 = tt := by show rdg tt 0 = tt; exact h00
    rw [e0, e2]
    simp [noneI]⟩
  have A4 := Aside.mk eo
  have p1 : passI 0 n1 = 0 := by unfold passI; rw [if_neg (by omega), if_neg (by omega)]
  have P1 : Aside (passI 0 n1 = 0 ∧ passed 0 n1 = n1) := ⟨p1, by unfold passed; rw [if_pos p1, Int.zero_add]⟩
  have p2 : passI n1 m1 = 0 := by unfold passI; rw [if_neg (by omega), if_neg (by omega)]
  have P2 : Aside (passI n1 m1 = 0 ∧ passed n1 m1 = tt) := ⟨p2, by unfold passed; rw [if_pos p2]; exact et⟩
  have p3 : skewI 3 1 s = 0 := by unfold skewI; rw [if_neg (by omega), if_neg (by omega)]
  have P3 : Aside (skewI 3 1 s = 0 ∧ skewed [0, 0, 0] 1 s = [0, s, 0]) := ⟨p3, (if_pos p3 : skewed [0, 0, 0] 1 s = [0, 0, 0].set (1 : Int).toNat s)⟩
  have htt : 0 ≤ tt ∧ tt ≤ 1125899906842624 := by omega
  obtain ⟨htt0, htt1⟩ := htt
  obtain ⟨hab0, hab1⟩ := hab
  obtain ⟨hbb0, hbb1⟩ := hbb
  obtain ⟨hat0, hat1⟩ := hat
  obtain ⟨ho0, ho1, ho2⟩ := hoo
  have ho3 : 0 ≤ o ∧ o ≤ 1125899906842624 := by omega
  obtain ⟨ho3, ho4⟩ := ho3
  have hos : o ≤ s ∨ o ≤ -s := by omega
  have hmain : ((bb < tt ∧ s < 0 ∧ tt - bb ≤ -s ∧ o = tt - bb) ∧ ((tt + s < 0 ∧ (bb == 0) = true) ∨ (0 ≤ tt + s ∧ tt + s ≤ 1125899906842624 ∧ (bb == tt + s) = true))) ∨ ((tt ≤ bb ∧ s < 0 ∧ bb - tt ≤ -s ∧ o = bb - tt) ∧ (tt + s < 0 ∧ (bb == 0) = true)) ∨ ((tt ≤ bb ∧ 0 ≤ s ∧ bb - tt ≤ s ∧ o = bb - tt) ∧ ((1125899906842624 < tt + s ∧ (bb == 1125899906842624) = true) ∨ (0 ≤ tt + s ∧ tt + s ≤ 1125899906842624 ∧ (bb == tt + s) = true))) := by
    simp only [beq_iff_eq]
    omega
  clear hos ho2 hcase p1 p2 p3 ea eb eo
  rcases hmain with ⟨⟨q1, q2, q3, q4⟩, hw⟩ | ⟨⟨q1, q2, q3, q4⟩, z1, z2⟩ | ⟨⟨q1, q2, q3, q4⟩, hw⟩
  · have A5 := Aside.mk (A4.out.trans q4)
    clear q4 A4
    rcases hw with ⟨z1, z2⟩ | ⟨z1, z2, z3⟩
    · go_enter Try.func3, Try.ntmps3
      go_upto_region 4 with fail
      clear e0 e1 e2 es en eq em eqw
      go_wp2_with fail
      refine (new_is 3 (by decide) [0, 0, 0] rfl w).mono ?_
      rintro e w1 ⟨C, b, rfl, hC, h1, h2, hb⟩
      have HC := Aside.mk hC
      have HB := Aside.mk hb
      have HN := Aside.mk (And.intro h1 h2)
      have HN2 := Aside.mk (And.intro (lt_of_block hC.box) (lt_of_block hC.row))
      clear hC h1 h2 hb
      go_wp2_with fail
      refine (aw_true w1).mono ?_
      rintro e w2 ⟨rfl, hb⟩
      have HC := Aside.mk (HC.out.fr (Fr.of_new (F := fun _ => False) hb) (fun f => f) (fun f => f))
      have HB := Aside.mk (HB.out.trans (hb.mono HB.out.size))
      clear hb HN2
      go_wp2_with fail
      refine (skew_is HC.out 1 s 0 [0, s, 0] P3.out.1 P3.out.2).mono ?_
      rintro e w3 ⟨rfl, hC, hF⟩
      have HC := Aside.mk hC
      have HB := Aside.mk (HB.out.trans (hF.below HB.out.size (fun k e => by rw [e]; exact HN.out.2)))
      clear hC hF
      go_wp2_with fail
      refine (pass_is HC.out n1 0 n1 P1.out.1 P1.out.2).mono ?_
      rintro e w4 ⟨rfl, hC, hF⟩
      have HC := Aside.mk hC
      have HB := Aside.mk (HB.out.trans (hF.below HB.out.size (fun k e => by rw [e]; exact HN.out.1)))
      clear hC hF
      go_wp2_with fail
      refine (cat_is HC.out 1 a 0 A1.out.1 A1.out.2).mono ?_
      rintro e w5 ⟨rfl, rfl⟩
      go_wp2_with fail
      refine (pass_is HC.out m1 0 tt P2.out.1 P2.out.2).mono ?_
      rintro e w5 ⟨rfl, hC, hF⟩
      have HC := Aside.mk hC
      have HB := Aside.mk (HB.out.trans (hF.below HB.out.size (fun k e => by rw [e]; exact HN.out.1)))
      clear hC hF
      go_wp2_with fail
      refine (cat_is HC.out 1 bb 0 A2.out A1.out.2).mono ?_
      rintro e w6 ⟨rfl, rfl⟩
      go_wp2_with fail
      refine (cnow_calls C b tt _ w5 HC.out).mono ?_
      rintro e w6 ⟨rfl, rfl⟩
      go_wp2_with fail
      refine (at_is C b tt [0, s, 0] 0 tt _ HC.out true A3.out.1).mono ?_
      rintro e w6 ⟨rfl, rfl⟩
      go_wp2_with fail
      refine (at_is C b tt [0, s, 0] 2 tt _ HC.out true A3.out.2).mono ?_
      rintro e w6 ⟨rfl, rfl⟩
      go_wp2_with fail
      refine (worst_is HC.out (tt - bb) A5.out).mono ?_
      rintro e w6 ⟨rfl, hF⟩
      have HB := Aside.mk (HB.out.trans (hF.below HB.out.size (fun k e => e.elim)))
      clear hF
      go_wp2_with fail
      all_goals go_ret
      all_goals exact ⟨by first | rfl | simp, HB.out⟩
    · go_enter Try.func3, Try.ntmps3
      go_upto_region 4 with fail
      clear e0 e1 e2 es en eq em eqw
      go_wp2_with fail
      refine (new_is 3 (by decide) [0, 0, 0] rfl w).mono ?_
      rintro e w1 ⟨C, b, rfl, hC, h1, h2, hb⟩
      have HC := Aside.mk hC
      have HB := Aside.mk hb
      have HN := Aside.mk (And.intro h1 h2)
      have HN2 := Aside.mk (And.intro (lt_of_block hC.box) (lt_of_block hC.row))
      clear hC h1 h2 hb
      go_wp2_with fail
      refine (aw_true w1).mono ?_
      rintro e w2 ⟨rfl, hb⟩
      have HC := Aside.mk (HC.out.fr (Fr.of_new (F := fun _ => False) hb) (fun f => f) (fun f => f))
      have HB := Aside.mk (HB.out.trans (hb.mono HB.out.size))
      clear hb HN2
      go_wp2_with fail
      refine (skew_is HC.out 1 s 0 [0, s, 0] P3.out.1 P3.out.2).mono ?_
      rintro e w3 ⟨rfl, hC, hF⟩
      have HC := Aside.mk hC
      have HB := Aside.mk (HB.out.trans (hF.below HB.out.size (fun k e => by rw [e]; exact HN.out.2)))
      clear hC hF
      go_wp2_with fail
      refine (pass_is HC.out n1 0 n1 P1.out.1 P1.out.2).mono ?_
      rintro e w4 ⟨rfl, hC, hF⟩
      have HC := Aside.mk hC
      have HB := Aside.mk (HB.out.trans (hF.below HB.out.size (fun k e => by rw [e]; exact HN.out.1)))
      clear hC hF
      go_wp2_with fail
      refine (cat_is HC.out 1 a 0 A1.out.1 A1.out.2).mono ?_
      rintro e w5 ⟨rfl, rfl⟩
      go_wp2_with fail
      refine (pass_is HC.out m1 0 tt P2.out.1 P2.out.2).mono ?_
      rintro e w5 ⟨rfl, hC, hF⟩
      have HC := Aside.mk hC
      have HB := Aside.mk (HB.out.trans (hF.below HB.out.size (fun k e => by rw [e]; exact HN.out.1)))
      clear hC hF
      go_wp2_with fail
      refine (cat_is HC.out 1 bb 0 A2.out A1.out.2).mono ?_
      rintro e w6 ⟨rfl, rfl⟩
      go_wp2_with fail
      refine (cnow_calls C b tt _ w5 HC.out).mono ?_
      rintro e w6 ⟨rfl, rfl⟩
      go_wp2_with fail
      refine (at_is C b tt [0, s, 0] 0 tt _ HC.out true A3.out.1).mono ?_
      rintro e w6 ⟨rfl, rfl⟩
      go_wp2_with fail
      refine (at_is C b tt [0, s, 0] 2 tt _ HC.out true A3.out.2).mono ?_
      rintro e w6 ⟨rfl, rfl⟩
      go_wp2_with fail
      refine (worst_is HC.out (tt - bb) A5.out).mono ?_
      rintro e w6 ⟨rfl, hF⟩
      have HB := Aside.mk (HB.out.trans (hF.below HB.out.size (fun k e => e.elim)))
      clear hF
      go_wp2_with fail
      all_goals go_ret
      all_goals exact ⟨by first | rfl | simp, HB.out⟩
  · have A5 := Aside.mk (A4.out.trans q4)
    clear q4 A4
    go_enter Try.func3, Try.ntmps3
    go_upto_region 4 with fail
    clear e0 e1 e2 es en eq em eqw
    go_wp2_with fail
    refine (new_is 3 (by decide) [0, 0, 0] rfl w).mono ?_
    rintro e w1 ⟨C, b, rfl, hC, h1, h2, hb⟩
    have HC := Aside.mk hC
    have HB := Aside.mk hb
    have HN := Aside.mk (And.intro h1 h2)
    have HN2 := Aside.mk (And.intro (lt_of_block hC.box) (lt_of_block hC.row))
    clear hC h1 h2 hb
    go_wp2_with fail
    refine (aw_true w1).mono ?_
    rintro e w2 ⟨rfl, hb⟩
    have HC := Aside.mk (HC.out.fr (Fr.of_new (F := fun _ => False) hb) (fun f => f) (fun f => f))
    have HB := Aside.mk (HB.out.trans (hb.mono HB.out.size))
    clear hb HN2
    go_wp2_with fail
    refine (skew_is HC.out 1 s 0 [0, s, 0] P3.out.1 P3.out.2).mono ?_
    rintro e w3 ⟨rfl, hC, hF⟩
    have HC := Aside.mk hC
    have HB := Aside.mk (HB.out.trans (hF.below HB.out.size (fun k e => by rw [e]; exact HN.out.2)))
    clear hC hF
    go_wp2_with fail
    refine (pass_is HC.out n1 0 n1 P1.out.1 P1.out.2).mono ?_
    rintro e w4 ⟨rfl, hC, hF⟩
    have HC := Aside.mk hC
    have HB := Aside.mk (HB.out.trans (hF.below HB.out.size (fun k e => by rw [e]; exact HN.out.1)))
    clear hC hF
    go_wp2_with fail
    refine (cat_is HC.out 1 a 0 A1.out.1 A1.out.2).mono ?_
    rintro e w5 ⟨rfl, rfl⟩
    go_wp2_with fail
    refine (pass_is HC.out m1 0 tt P2.out.1 P2.out.2).mono ?_
    rintro e w5 ⟨rfl, hC, hF⟩
    have HC := Aside.mk hC
    have HB := Aside.mk (HB.out.trans (hF.below HB.out.size (fun k e => by rw [e]; exact HN.out.1)))
    clear hC hF
    go_wp2_with fail
    refine (cat_is HC.out 1 bb 0 A2.out A1.out.2).mono ?_
    rintro e w6 ⟨rfl, rfl⟩
    go_wp2_with fail
    refine (cnow_calls C b tt _ w5 HC.out).mono ?_
    rintro e w6 ⟨rfl, rfl⟩
    go_wp2_with fail
    refine (at_is C b tt [0, s, 0] 0 tt _ HC.out true A3.out.1).mono ?_
    rintro e w6 ⟨rfl, rfl⟩
    go_wp2_with fail
    refine (at_is C b tt [0, s, 0] 2 tt _ HC.out true A3.out.2).mono ?_
    rintro e w6 ⟨rfl, rfl⟩
    go_wp2_with fail
    refine (worst_is HC.out (bb - tt) A5.out).mono ?_
    rintro e w6 ⟨rfl, hF⟩
    have HB := Aside.mk (HB.out.trans (hF.below HB.out.size (fun k e => e.elim)))
    clear hF
    go_wp2_with fail
    all_goals go_ret
    all_goals exact ⟨by first | rfl | simp, HB.out⟩
  · have A5 := Aside.mk (A4.out.trans q4)
    clear q4 A4
    rcases hw with ⟨z1, z2⟩ | ⟨z1, z2, z3⟩
    · go_enter Try.func3, Try.ntmps3
      go_upto_region 4 with fail
      clear e0 e1 e2 es en eq em eqw
      go_wp2_with fail
      refine (new_is 3 (by decide) [0, 0, 0] rfl w).mono ?_
      rintro e w1 ⟨C, b, rfl, hC, h1, h2, hb⟩
      have HC := Aside.mk hC
      have HB := Aside.mk hb
      have HN := Aside.mk (And.intro h1 h2)
      have HN2 := Aside.mk (And.intro (lt_of_block hC.box) (lt_of_block hC.row))
      clear hC h1 h2 hb
      go_wp2_with fail
      refine (aw_true w1).mono ?_
      rintro e w2 ⟨rfl, hb⟩
      have HC := Aside.mk (HC.out.fr (Fr.of_new (F := fun _ => False) hb) (fun f => f) (fun f => f))
      have HB := Aside.mk (HB.out.trans (hb.mono HB.out.size))
      clear hb HN2
      go_wp2_with fail
      refine (skew_is HC.out 1 s 0 [0, s, 0] P3.out.1 P3.out.2).mono ?_
      rintro e w3 ⟨rfl, hC, hF⟩
      have HC := Aside.mk hC
      have HB := Aside.mk (HB.out.trans (hF.below HB.out.size (fun k e => by rw [e]; exact HN.out.2)))
      clear hC hF
      go_wp2_with fail
      refine (pass_is HC.out n1 0 n1 P1.out.1 P1.out.2).mono ?_
      rintro e w4 ⟨rfl, hC, hF⟩
      have HC := Aside.mk hC
      have HB := Aside.mk (HB.out.trans (hF.below HB.out.size (fun k e => by rw [e]; exact HN.out.1)))
      clear hC hF
      go_wp2_with fail
      refine (cat_is HC.out 1 a 0 A1.out.1 A1.out.2).mono ?_
      rintro e w5 ⟨rfl, rfl⟩
      go_wp2_with fail
      refine (pass_is HC.out m1 0 tt P2.out.1 P2.out.2).mono ?_
      rintro e w5 ⟨rfl, hC, hF⟩
      have HC := Aside.mk hC
      have HB := Aside.mk (HB.out.trans (hF.below HB.out.size (fun k e => by rw [e]; exact HN.out.1)))
      clear hC hF
      go_wp2_with fail
      refine (cat_is HC.out 1 bb 0 A2.out A1.out.2).mono ?_
      rintro e w6 ⟨rfl, rfl⟩
      go_wp2_with fail
      refine (cnow_calls C b tt _ w5 HC.out).mono ?_
      rintro e w6 ⟨rfl, rfl⟩
      go_wp2_with fail
      refine (at_is C b tt [0, s, 0] 0 tt _ HC.out true A3.out.1).mono ?_
      rintro e w6 ⟨rfl, rfl⟩
      go_wp2_with fail
      refine (at_is C b tt [0, s, 0] 2 tt _ HC.out true A3.out.2).mono ?_
      rintro e w6 ⟨rfl, rfl⟩
      go_wp2_with fail
      refine (worst_is HC.out (bb - tt) A5.out).mono ?_
      rintro e w6 ⟨rfl, hF⟩
      have HB := Aside.mk (HB.out.trans (hF.below HB.out.size (fun k e => e.elim)))
      clear hF
      go_wp2_with fail
      all_goals go_ret
      all_goals exact ⟨by first | rfl | simp, HB.out⟩
    · go_enter Try.func3, Try.ntmps3
      go_upto_region 4 with fail
      clear e0 e1 e2 es en eq em eqw
      go_wp2_with fail
      refine (new_is 3 (by decide) [0, 0, 0] rfl w).mono ?_
      rintro e w1 ⟨C, b, rfl, hC, h1, h2, hb⟩
      have HC := Aside.mk hC
      have HB := Aside.mk hb
      have HN := Aside.mk (And.intro h1 h2)
      have HN2 := Aside.mk (And.intro (lt_of_block hC.box) (lt_of_block hC.row))
      clear hC h1 h2 hb
      go_wp2_with fail
      refine (aw_true w1).mono ?_
      rintro e w2 ⟨rfl, hb⟩
      have HC := Aside.mk (HC.out.fr (Fr.of_new (F := fun _ => False) hb) (fun f => f) (fun f => f))
      have HB := Aside.mk (HB.out.trans (hb.mono HB.out.size))
      clear hb HN2
      go_wp2_with fail
      refine (skew_is HC.out 1 s 0 [0, s, 0] P3.out.1 P3.out.2).mono ?_
      rintro e w3 ⟨rfl, hC, hF⟩
      have HC := Aside.mk hC
      have HB := Aside.mk (HB.out.trans (hF.below HB.out.size (fun k e => by rw [e]; exact HN.out.2)))
      clear hC hF
      go_wp2_with fail
      refine (pass_is HC.out n1 0 n1 P1.out.1 P1.out.2).mono ?_
      rintro e w4 ⟨rfl, hC, hF⟩
      have HC := Aside.mk hC
      have HB := Aside.mk (HB.out.trans (hF.below HB.out.size (fun k e => by rw [e]; exact HN.out.1)))
      clear hC hF
      go_wp2_with fail
      refine (cat_is HC.out 1 a 0 A1.out.1 A1.out.2).mono ?_
      rintro e w5 ⟨rfl, rfl⟩
      go_wp2_with fail
      refine (pass_is HC.out m1 0 tt P2.out.1 P2.out.2).mono ?_
      rintro e w5 ⟨rfl, hC, hF⟩
      have HC := Aside.mk hC
      have HB := Aside.mk (HB.out.trans (hF.below HB.out.size (fun k e => by rw [e]; exact HN.out.1)))
      clear hC hF
      go_wp2_with fail
      refine (cat_is HC.out 1 bb 0 A2.out A1.out.2).mono ?_
      rintro e w6 ⟨rfl, rfl⟩
      go_wp2_with fail
      refine (cnow_calls C b tt _ w5 HC.out).mono ?_
      rintro e w6 ⟨rfl, rfl⟩
      go_wp2_with fail
      refine (at_is C b tt [0, s, 0] 0 tt _ HC.out true A3.out.1).mono ?_
      rintro e w6 ⟨rfl, rfl⟩
      go_wp2_with fail
      refine (at_is C b tt [0, s, 0] 2 tt _ HC.out true A3.out.2).mono ?_
      rintro e w6 ⟨rfl, rfl⟩
      go_wp2_with fail
      refine (worst_is HC.out (bb - tt) A5.out).mono ?_
      rintro e w6 ⟨rfl, hF⟩
      have HB := Aside.mk (HB.out.trans (hF.below HB.out.size (fun k e => e.elim)))
      clear hF
      go_wp2_with fail
      all_goals go_ret
      all_goals exact ⟨by first | rfl | simp, HB.out⟩
end Go.Proofs.Ytjefeoohfalcaaa.C
