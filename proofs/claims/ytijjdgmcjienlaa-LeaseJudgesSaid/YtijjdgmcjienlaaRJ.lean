/- The walks of the document's Judge, Bury and Sweep. -/
import Derived.Test.YtijjdgmcjienlaaRE
import Derived.Test.YtijjdgmcjienlaaRC
import Derived.Test.YtijjdgmcjienlaaIdle
import Derived.Test.YtijjdgmcjienlaaQx7
namespace Go.Proofs.Ytijjdgmcjienlaa.PL
open Go.RowKit Go.Proofs.Ytijjdgmcjienlaa.Q Go.Proofs.YtijjdgmcjienlaaW.PrintWords Go.Proofs.YtijjdgmcjienlaaW.PrintLast Go.Proofs.YtijjdgmcjienlaaW.PrintMore
set_option linter.unusedVariables false
set_option linter.unusedSimpArgs false
theorem rcfg_is (c : Cfg) (hs : Small c) (w : World) (v : Bool) (h : cfgB c = v) : Calls Try.prog 24 #[.agg c.arr] w fun e w' => e = .returned (.bool v) ∧ Below w.heap.size w w' := by
  subst h
  rw [← refConj_is c]
  exact refcfg_is c.arr c.c0 c.c1 c.c2 c.c3 c.c4 c.c5 c.c6 c.c7 c.c8 c.c9 c.c10 c.c11 c.c12 c.c13 c.c14 c.c15 c.c16 c.c17 c.n0 c.n1 rfl rfl rfl rfl rfl rfl rfl rfl rfl rfl rfl rfl rfl rfl rfl rfl rfl rfl rfl rfl w hs.1 hs.2
theorem rname_is (q : ByteArray) (hq : q.size ≤ 140737488351232) (w : World) (v : Bool) (h : nameB q = v) : Calls Try.prog 30 #[.string q] w fun e w' => e = .returned (.bool v) ∧ Below w.heap.size w w' := by
  subst h
  obtain ⟨k, h⟩ := (ev_ref11 q hq).rounds
  exact (batonref11_Name.calls k q _ w h).mono fun e w' ⟨h1, ⟨n, h2⟩⟩ => ⟨h1, by subst h2; exact lease_below_drawn (Below.refl _ _)⟩
theorem rread_is (n : Int) (w : World) (v : Bool) (h : readB n = v) : Calls Try.prog 31 #[.int .i64 n] w fun e w' => e = .returned (.bool v) ∧ Below w.heap.size w w' := by
  subst h
  refine (batonref19_reading.calls n (readB n) w ?_).mono fun e w' ⟨h1, ⟨n, h2⟩⟩ => ⟨h1, by subst h2; exact lease_below_drawn (Below.refl _ _)⟩
  have hr := read_iff n
  unfold batonref19_reading.f
  by_cases h0 : n ≥ 0
  · rw [if_pos h0]
    by_cases h1 : n ≤ 1125899906842624
    · rw [decide_eq_true h1, hr.2 ⟨h0, h1⟩]
    · rw [decide_eq_false h1, Bool.eq_false_iff.mpr (fun e => h1 (hr.1 e).2)]
  · rw [if_neg h0, Bool.eq_false_iff.mpr (fun e => h0 (hr.1 e).1)]
theorem rmay_is (r : Rec) (hr : r.p.size ≤ 140737488351232) (w : World) (v : Bool) (h : recB r.p r.e r.a = v) : Calls Try.prog 32 #[.agg r.arr] w fun e w' => e = .returned (.bool v) ∧ Below w.heap.size w w' := by
  subst h
  obtain ⟨k, h⟩ := (ev_ref18 r.p r.e r.a r.g hr).rounds
  exact batonref18_May.calls k r.p r.e r.a r.g _ w h
theorem cfgc (c : Cfg) : c.arr[1]? = some (.int .i64 c.c1) ∧ c.arr[2]? = some (.int .i64 c.c2) ∧ c.arr[3]? = some (.int .i64 c.c3) ∧ c.arr[4]? = some (.int .i64 c.c4) ∧ c.arr[6]? = some (.int .i64 c.c6) ∧ c.arr[7]? = some (.int .i64 c.c7) := ⟨rfl, rfl, rfl, rfl, rfl, rfl⟩
theorem wr64 (x : Int) (h : IntKind.i64.wrap x = wrap64 x) : True := trivial
set_option maxHeartbeats 8000000 in
set_option maxRecDepth 100000 in
theorem rjudge_calls (r : Rec) (there : Bool) (q : ByteArray) (now draw : Int) (c : Cfg) (hr : r.p.size ≤ 140737488351232) (hq : q.size ≤ 140737488351232) (hs : Small c) (w : World) :
    Calls Try.prog 14 #[.agg r.arr, .bool there, .string q, .int .i64 now, .int .i64 draw, .agg c.arr] w fun e w' => e = .returned (.int .u8 (judgeI r there q now draw c)) ∧ Below w.heap.size w w' := by
  have hu := Try.underlying23
  go_enter Try.func14, Try.ntmps14
  go_wp2_with (first | ((with_reducible refine gate_dst (N := 13) rfl ?_); refine wpList_load_row rfl 25 _ rfl (w.heap.size + 1) rfl 25 c.arr (0, 0) _ (by with_reducible exact (Two.start w r c).cb) Try.underlying25 rfl (by kernel_rfl) ?_))
  obtain ⟨vc, EC⟩ : ∃ j, Aside0 (cfgB c = j) := ⟨_, ⟨rfl⟩⟩
  obtain ⟨vn, EN⟩ : ∃ j, Aside0 (nameB q = j) := ⟨_, ⟨rfl⟩⟩
  obtain ⟨vr, ER⟩ : ∃ j, Aside0 (readB now = j) := ⟨_, ⟨rfl⟩⟩
  obtain ⟨vm, EM⟩ : ∃ j, Aside0 (recB r.p r.e r.a = j) := ⟨_, ⟨rfl⟩⟩
  refine (rcfg_is c hs _ _ EC.out).mono ?_
  rintro e w1 ⟨rfl, hb⟩
  have K := Aside0.mk ((Two.start w r c).next hb)
  clear hb
  cases vc with
  | false =>
    have HV : Aside0 (judgeI r there q now draw c = 0) := ⟨by unfold judgeI; rw [if_neg]; simp [EC.out]⟩
    go_wp2_with fail
    go_ret
    exact ⟨by rw [HV.out]; first | done | rfl | (simp; done), K.out.bel⟩
  | true =>
    go_wp2_with fail
    refine (rname_is q hq _ _ EN.out).mono ?_
    rintro e w2 ⟨rfl, hb⟩
    have K := Aside0.mk (K.out.next hb)
    clear hb
    cases vn with
    | false =>
      have HV : Aside0 (judgeI r there q now draw c = 0) := ⟨by unfold judgeI; rw [if_neg]; simp [EN.out]⟩
      go_wp2_with fail
      go_ret
      exact ⟨by rw [HV.out]; first | done | rfl | (simp; done), K.out.bel⟩
    | true =>
      go_wp2_with fail
      refine (rread_is now _ _ ER.out).mono ?_
      rintro e w3 ⟨rfl, hb⟩
      have K := Aside0.mk (K.out.next hb)
      clear hb
      cases vr with
      | false =>
        have HV : Aside0 (judgeI r there q now draw c = 0) := ⟨by unfold judgeI; rw [if_neg]; simp [ER.out]⟩
        go_wp2_with fail
        go_ret
        exact ⟨by rw [HV.out]; first | done | rfl | (simp; done), K.out.bel⟩
      | true =>
        have z0 : w3.cell? ⟨w.heap.size, 0, none⟩ = some (.string r.p) := (blk_cell K.out.rb 0).trans (rec0 r)
        have z2 : w3.cell? ⟨w.heap.size, 2, none⟩ = some (.int .i64 r.a) := (blk_cell K.out.rb 2).trans (rec2 r)
        have z3 : w3.cell? ⟨w.heap.size, 3, none⟩ = some (.bool r.g) := (blk_cell K.out.rb 3).trans (rec3 r)
        have y1 : w3.cell? ⟨w.heap.size + 1, 1, none⟩ = some (.int .i64 c.c1) := (blk_cell K.out.cb 1).trans (cfgc c).1
        have y2 : w3.cell? ⟨w.heap.size + 1, 2, none⟩ = some (.int .i64 c.c2) := (blk_cell K.out.cb 2).trans (cfgc c).2.1
        have y3 : w3.cell? ⟨w.heap.size + 1, 3, none⟩ = some (.int .i64 c.c3) := (blk_cell K.out.cb 3).trans (cfgc c).2.2.1
        have y4 : w3.cell? ⟨w.heap.size + 1, 4, none⟩ = some (.int .i64 c.c4) := (blk_cell K.out.cb 4).trans (cfgc c).2.2.2.1
        have y6 : w3.cell? ⟨w.heap.size + 1, 6, none⟩ = some (.int .i64 c.c6) := (blk_cell K.out.cb 6).trans (cfgc c).2.2.2.2.1
        have y7 : w3.cell? ⟨w.heap.size + 1, 7, none⟩ = some (.int .i64 c.c7) := (blk_cell K.out.cb 7).trans (cfgc c).2.2.2.2.2
        cases hd1 : decide (draw < 0) with
        | true =>
          have HD1 := Aside0.mk hd1
          have HV : Aside0 (judgeI r there q now draw c = 0) := ⟨by unfold judgeI; rw [if_neg]; simp [show ¬ 0 ≤ draw by have := of_decide_eq_true HD1.out; omega]⟩
          go_wp2_with fail
          go_ret
          exact ⟨by rw [HV.out]; first | done | rfl | (simp; done), K.out.bel⟩
        | false =>
          have HD1 := Aside0.mk hd1
          cases hd2 : decide (c.c4 < draw) with
          | true =>
            have HD2 := Aside0.mk hd2
            have HV : Aside0 (judgeI r there q now draw c = 0) := ⟨by unfold judgeI; rw [if_neg]; simp [show ¬ draw ≤ c.c4 by have := of_decide_eq_true HD2.out; omega]⟩
            go_wp2_with fail
            go_ret
            exact ⟨by rw [HV.out]; first | done | rfl | (simp; done), K.out.bel⟩
          | false =>
            have HD2 := Aside0.mk hd2
            have G1 : Aside0 (decide (0 ≤ draw) = true) := ⟨by have := of_decide_eq_false HD1.out; exact decide_eq_true (by omega)⟩
            have G2 : Aside0 (decide (draw ≤ c.c4) = true) := ⟨by have := of_decide_eq_false HD2.out; exact decide_eq_true (by omega)⟩
            cases there with
            | false =>
              have HV : Aside0 (judgeI r false q now draw c = 1) := ⟨by unfold judgeI; rw [EC.out, EN.out, ER.out, G1.out, G2.out]; rfl⟩
              go_wp2_with fail
              go_ret
              exact ⟨by rw [HV.out]; first | done | rfl | (simp; done), K.out.bel⟩
            | true =>
              go_wp2_with (first | ((with_reducible refine gate_dst (N := 39) rfl ?_); refine gate_guard (by rfl) ?_; dsimp only; refine wpList_load_row rfl 23 _ rfl w.heap.size rfl 23 r.arr (0, 0) _ (by with_reducible exact K.out.rb) Try.underlying23 rfl (by kernel_rfl) ?_))
              refine (rmay_is r hr _ _ EM.out).mono ?_
              rintro e w4 ⟨rfl, hb⟩
              have K := Aside0.mk (K.out.next hb)
              clear hb
              cases vm with
              | false =>
                have HV : Aside0 (judgeI r true q now draw c = 0) := ⟨by unfold judgeI; rw [if_neg]; simp [EM.out]⟩
                go_wp2_with fail
                go_ret
                exact ⟨by rw [HV.out]; first | done | rfl | (simp; done), K.out.bel⟩
              | true =>
                have BD : Aside0 (wrap64 (r.a + c.c1) = r.a + c.c1 ∧ wrap64 (r.a + c.c2) = r.a + c.c2 ∧ wrap64 (wrap64 (r.a + c.c3) + draw) = r.a + c.c3 + draw) := ⟨by
                  have q1 := ((cfg_iff _).1 EC.out).1
                  unfold CfgR at q1
                  have q2 := (rec_iff _ _ _).1 EM.out
                  have g1 := of_decide_eq_true G1.out
                  have g2 := of_decide_eq_true G2.out
                  refine ⟨wrap_in (by omega) (by omega), wrap_in (by omega) (by omega), ?_⟩
                  rw [wrap_in (x := r.a + c.c3) (by omega) (by omega)]
                  exact wrap_in (by omega) (by omega)⟩
                have HI : Aside0 (judgeI r true q now draw c = (if r.g = true then 1 else if r.p.toList = q.toList then (if now ≥ r.a + c.c1 then 4 else if now ≥ r.a + c.c3 + draw then 3 else 2) else if now ≥ r.a + c.c2 then 1 else 5)) := ⟨by
                  unfold judgeI
                  rw [EC.out, EN.out, ER.out, EM.out, G1.out, G2.out]
                  rfl⟩
                have W1 : Aside0 (wrap64 (r.a + c.c1) = r.a + c.c1) := ⟨BD.out.1⟩
                have W2 : Aside0 (wrap64 (r.a + c.c2) = r.a + c.c2) := ⟨BD.out.2.1⟩
                have W3 : Aside0 (wrap64 (wrap64 (r.a + c.c3) + draw) = r.a + c.c3 + draw) := ⟨BD.out.2.2⟩
                clear z0 z2 z3 y1 y2 y3 y4 y6 y7
                have z0 : w4.cell? ⟨w.heap.size, 0, none⟩ = some (.string r.p) := (blk_cell K.out.rb 0).trans (rec0 r)
                have z2 : w4.cell? ⟨w.heap.size, 2, none⟩ = some (.int .i64 r.a) := (blk_cell K.out.rb 2).trans (rec2 r)
                have z3 : w4.cell? ⟨w.heap.size, 3, none⟩ = some (.bool r.g) := (blk_cell K.out.rb 3).trans (rec3 r)
                have y1 : w4.cell? ⟨w.heap.size + 1, 1, none⟩ = some (.int .i64 c.c1) := (blk_cell K.out.cb 1).trans (cfgc c).1
                have y2 : w4.cell? ⟨w.heap.size + 1, 2, none⟩ = some (.int .i64 c.c2) := (blk_cell K.out.cb 2).trans (cfgc c).2.1
                have y3 : w4.cell? ⟨w.heap.size + 1, 3, none⟩ = some (.int .i64 c.c3) := (blk_cell K.out.cb 3).trans (cfgc c).2.2.1
                have y4 : w4.cell? ⟨w.heap.size + 1, 4, none⟩ = some (.int .i64 c.c4) := (blk_cell K.out.cb 4).trans (cfgc c).2.2.2.1
                have y6 : w4.cell? ⟨w.heap.size + 1, 6, none⟩ = some (.int .i64 c.c6) := (blk_cell K.out.cb 6).trans (cfgc c).2.2.2.2.1
                have y7 : w4.cell? ⟨w.heap.size + 1, 7, none⟩ = some (.int .i64 c.c7) := (blk_cell K.out.cb 7).trans (cfgc c).2.2.2.2.2
                cases hg : r.g with
                | true =>
                  rw [hg] at z3
                  have GG := Aside0.mk hg
                  clear hg
                  have HV : Aside0 (judgeI r true q now draw c = 1) := ⟨by rw [HI.out]; rw [if_pos GG.out]⟩
                  go_wp2_with fail
                  go_ret
                  exact ⟨by rw [HV.out]; first | done | rfl | (simp; done), K.out.bel⟩
                | false =>
                  rw [hg] at z3
                  have GG := Aside0.mk hg
                  clear hg
                  by_cases hp : r.p.toList = q.toList
                  · have hp1 : (r.p.toList == q.toList) = true := by simpa using hp
                    have PP := Aside0.mk hp
                    clear hp
                    by_cases k1 : r.a + c.c1 ≤ now
                    · have k1d : decide (wrap64 (r.a + c.c1) ≤ now) = true := by rw [W1.out]; exact decide_eq_true k1
                      have Hk1 := Aside0.mk k1
                      clear k1
                      have HV : Aside0 (judgeI r true q now draw c = 4) := ⟨by rw [HI.out]; rw [if_neg (by rw [GG.out]; decide), if_pos PP.out, if_pos Hk1.out]⟩
                      go_wp2_with fail
                      go_ret
                      exact ⟨by rw [HV.out]; first | done | rfl | (simp; done), K.out.bel⟩
                    · have k1d : decide (wrap64 (r.a + c.c1) ≤ now) = false := by rw [W1.out]; exact decide_eq_false k1
                      have Hk1 := Aside0.mk k1
                      clear k1
                      by_cases k3 : r.a + c.c3 + draw ≤ now
                      · have k3d : decide (wrap64 (wrap64 (r.a + c.c3) + draw) ≤ now) = true := by rw [W3.out]; exact decide_eq_true k3
                        have Hk3 := Aside0.mk k3
                        clear k3
                        have HV : Aside0 (judgeI r true q now draw c = 3) := ⟨by rw [HI.out]; rw [if_neg (by rw [GG.out]; decide), if_pos PP.out, if_neg Hk1.out, if_pos Hk3.out]⟩
                        go_wp2_with fail
                        go_ret
                        exact ⟨by rw [HV.out]; first | done | rfl | (simp; done), K.out.bel⟩
                      · have k3d : decide (wrap64 (wrap64 (r.a + c.c3) + draw) ≤ now) = false := by rw [W3.out]; exact decide_eq_false k3
                        have Hk3 := Aside0.mk k3
                        clear k3
                        have HV : Aside0 (judgeI r true q now draw c = 2) := ⟨by rw [HI.out]; rw [if_neg (by rw [GG.out]; decide), if_pos PP.out, if_neg Hk1.out, if_neg Hk3.out]⟩
                        go_wp2_with fail
                        go_ret
                        exact ⟨by rw [HV.out]; first | done | rfl | (simp; done), K.out.bel⟩
                  · have hp1 : (r.p.toList == q.toList) = false := by simpa using hp
                    have PP := Aside0.mk hp
                    clear hp
                    by_cases k2 : r.a + c.c2 ≤ now
                    · have k2d : decide (wrap64 (r.a + c.c2) ≤ now) = true := by rw [W2.out]; exact decide_eq_true k2
                      have Hk2 := Aside0.mk k2
                      clear k2
                      have HV : Aside0 (judgeI r true q now draw c = 1) := ⟨by rw [HI.out]; rw [if_neg (by rw [GG.out]; decide), if_neg PP.out, if_pos Hk2.out]⟩
                      go_wp2_with fail
                      go_ret
                      exact ⟨by rw [HV.out]; first | done | rfl | (simp; done), K.out.bel⟩
                    · have k2d : decide (wrap64 (r.a + c.c2) ≤ now) = false := by rw [W2.out]; exact decide_eq_false k2
                      have Hk2 := Aside0.mk k2
                      clear k2
                      have HV : Aside0 (judgeI r true q now draw c = 5) := ⟨by rw [HI.out]; rw [if_neg (by rw [GG.out]; decide), if_neg PP.out, if_neg Hk2.out]⟩
                      go_wp2_with fail
                      go_ret
                      exact ⟨by rw [HV.out]; first | done | rfl | (simp; done), K.out.bel⟩
set_option maxHeartbeats 8000000 in
set_option maxRecDepth 100000 in
theorem rbury_calls (r : Rec) (now : Int) (c : Cfg) (hr : r.p.size ≤ 140737488351232) (hs : Small c) (w : World) :
    Calls Try.prog 16 #[.agg r.arr, .int .i64 now, .agg c.arr] w fun e w' => e = .returned (.bool (buryB r now c)) ∧ Below w.heap.size w w' := by
  have hu := Try.underlying23
  go_enter Try.func16, Try.ntmps16
  go_wp2_with (first | ((with_reducible refine gate_dst (N := 7) rfl ?_); refine wpList_load_row rfl 25 _ rfl (w.heap.size + 1) rfl 25 c.arr (0, 0) _ (by with_reducible exact (Two.start w r c).cb) Try.underlying25 rfl (by kernel_rfl) ?_))
  obtain ⟨vc, EC⟩ : ∃ j, Aside0 (cfgB c = j) := ⟨_, ⟨rfl⟩⟩
  obtain ⟨vr, ER⟩ : ∃ j, Aside0 (readB now = j) := ⟨_, ⟨rfl⟩⟩
  obtain ⟨vm, EM⟩ : ∃ j, Aside0 (recB r.p r.e r.a = j) := ⟨_, ⟨rfl⟩⟩
  refine (rcfg_is c hs _ _ EC.out).mono ?_
  rintro e w1 ⟨rfl, hb⟩
  have K := Aside0.mk ((Two.start w r c).next hb)
  clear hb
  cases vc with
  | false =>
    have HV : Aside0 (buryB r now c = false) := ⟨by unfold buryB mayB; simp [EC.out]⟩
    go_wp2_with fail
    go_ret
    exact ⟨by rw [HV.out]; first | done | rfl | (simp; done), K.out.bel⟩
  | true =>
    go_wp2_with (first | ((with_reducible refine gate_dst (N := 10) rfl ?_); refine gate_guard (by rfl) ?_; dsimp only; refine wpList_load_row rfl 23 _ rfl w.heap.size rfl 23 r.arr (0, 0) _ (by with_reducible exact K.out.rb) Try.underlying23 rfl (by kernel_rfl) ?_))
    refine (rmay_is r hr _ _ EM.out).mono ?_
    rintro e w2 ⟨rfl, hb⟩
    have K := Aside0.mk (K.out.next hb)
    clear hb
    cases vm with
    | false =>
      have HV : Aside0 (buryB r now c = false) := ⟨by unfold buryB mayB; simp [EM.out]⟩
      go_wp2_with fail
      go_ret
      exact ⟨by rw [HV.out]; first | done | rfl | (simp; done), K.out.bel⟩
    | true =>
      go_wp2_with fail
      refine (rread_is now _ _ ER.out).mono ?_
      rintro e w3 ⟨rfl, hb⟩
      have K := Aside0.mk (K.out.next hb)
      clear hb
      cases vr with
      | false =>
        have HV : Aside0 (buryB r now c = false) := ⟨by unfold buryB mayB; simp [ER.out]⟩
        go_wp2_with fail
        go_ret
        exact ⟨by rw [HV.out]; first | done | rfl | (simp; done), K.out.bel⟩
      | true =>
        have W6 : Aside0 (wrap64 (r.a + c.c6) = r.a + c.c6) := ⟨by
          have q1 := ((cfg_iff _).1 EC.out).1
          unfold CfgR at q1
          have q2 := (rec_iff _ _ _).1 EM.out
          exact wrap_in (by omega) (by omega)⟩
        have z0 : w3.cell? ⟨w.heap.size, 0, none⟩ = some (.string r.p) := (blk_cell K.out.rb 0).trans (rec0 r)
        have z2 : w3.cell? ⟨w.heap.size, 2, none⟩ = some (.int .i64 r.a) := (blk_cell K.out.rb 2).trans (rec2 r)
        have z3 : w3.cell? ⟨w.heap.size, 3, none⟩ = some (.bool r.g) := (blk_cell K.out.rb 3).trans (rec3 r)
        have y1 : w3.cell? ⟨w.heap.size + 1, 1, none⟩ = some (.int .i64 c.c1) := (blk_cell K.out.cb 1).trans (cfgc c).1
        have y2 : w3.cell? ⟨w.heap.size + 1, 2, none⟩ = some (.int .i64 c.c2) := (blk_cell K.out.cb 2).trans (cfgc c).2.1
        have y3 : w3.cell? ⟨w.heap.size + 1, 3, none⟩ = some (.int .i64 c.c3) := (blk_cell K.out.cb 3).trans (cfgc c).2.2.1
        have y4 : w3.cell? ⟨w.heap.size + 1, 4, none⟩ = some (.int .i64 c.c4) := (blk_cell K.out.cb 4).trans (cfgc c).2.2.2.1
        have y6 : w3.cell? ⟨w.heap.size + 1, 6, none⟩ = some (.int .i64 c.c6) := (blk_cell K.out.cb 6).trans (cfgc c).2.2.2.2.1
        have y7 : w3.cell? ⟨w.heap.size + 1, 7, none⟩ = some (.int .i64 c.c7) := (blk_cell K.out.cb 7).trans (cfgc c).2.2.2.2.2
        cases hg : r.g with
        | true =>
          rw [hg] at z3
          have GG := Aside0.mk hg
          clear hg
          have HV : Aside0 (buryB r now c = false) := ⟨by unfold buryB mayB; simp [GG.out]⟩
          go_wp2_with fail
          go_ret
          exact ⟨by rw [HV.out]; first | done | rfl | (simp; done), K.out.bel⟩
        | false =>
          rw [hg] at z3
          have GG := Aside0.mk hg
          clear hg
          by_cases k : r.a + c.c6 ≤ now
          · have kd : decide (wrap64 (r.a + c.c6) ≤ now) = true := by rw [W6.out]; exact decide_eq_true k
            have Hk := Aside0.mk k
            clear k
            have HV : Aside0 (buryB r now c = true) := ⟨by unfold buryB mayB; simp [EC.out, EM.out, ER.out, GG.out, Hk.out]⟩
            go_wp2_with fail
            go_ret
            exact ⟨by rw [HV.out]; first | done | rfl | (simp; done), K.out.bel⟩
          · have kd : decide (wrap64 (r.a + c.c6) ≤ now) = false := by rw [W6.out]; exact decide_eq_false k
            have Hk := Aside0.mk k
            clear k
            have HV : Aside0 (buryB r now c = false) := ⟨by unfold buryB mayB; simp [EC.out, EM.out, ER.out, GG.out]; exact Int.not_le.1 Hk.out⟩
            go_wp2_with fail
            go_ret
            exact ⟨by rw [HV.out]; first | done | rfl | (simp; done), K.out.bel⟩
set_option maxHeartbeats 8000000 in
set_option maxRecDepth 100000 in
theorem rsweep_calls (r : Rec) (now : Int) (c : Cfg) (hr : r.p.size ≤ 140737488351232) (hs : Small c) (w : World) :
    Calls Try.prog 18 #[.agg r.arr, .int .i64 now, .agg c.arr] w fun e w' => e = .returned (.bool (sweepB r now c)) ∧ Below w.heap.size w w' := by
  have hu := Try.underlying23
  go_enter Try.func18, Try.ntmps18
  go_wp2_with (first | ((with_reducible refine gate_dst (N := 7) rfl ?_); refine wpList_load_row rfl 25 _ rfl (w.heap.size + 1) rfl 25 c.arr (0, 0) _ (by with_reducible exact (Two.start w r c).cb) Try.underlying25 rfl (by kernel_rfl) ?_))
  obtain ⟨vc, EC⟩ : ∃ j, Aside0 (cfgB c = j) := ⟨_, ⟨rfl⟩⟩
  obtain ⟨vr, ER⟩ : ∃ j, Aside0 (readB now = j) := ⟨_, ⟨rfl⟩⟩
  obtain ⟨vm, EM⟩ : ∃ j, Aside0 (recB r.p r.e r.a = j) := ⟨_, ⟨rfl⟩⟩
  refine (rcfg_is c hs _ _ EC.out).mono ?_
  rintro e w1 ⟨rfl, hb⟩
  have K := Aside0.mk ((Two.start w r c).next hb)
  clear hb
  cases vc with
  | false =>
    have HV : Aside0 (sweepB r now c = false) := ⟨by unfold sweepB mayB; simp [EC.out]⟩
    go_wp2_with fail
    go_ret
    exact ⟨by rw [HV.out]; first | done | rfl | (simp; done), K.out.bel⟩
  | true =>
    go_wp2_with (first | ((with_reducible refine gate_dst (N := 10) rfl ?_); refine gate_guard (by rfl) ?_; dsimp only; refine wpList_load_row rfl 23 _ rfl w.heap.size rfl 23 r.arr (0, 0) _ (by with_reducible exact K.out.rb) Try.underlying23 rfl (by kernel_rfl) ?_))
    refine (rmay_is r hr _ _ EM.out).mono ?_
    rintro e w2 ⟨rfl, hb⟩
    have K := Aside0.mk (K.out.next hb)
    clear hb
    cases vm with
    | false =>
      have HV : Aside0 (sweepB r now c = false) := ⟨by unfold sweepB mayB; simp [EM.out]⟩
      go_wp2_with fail
      go_ret
      exact ⟨by rw [HV.out]; first | done | rfl | (simp; done), K.out.bel⟩
    | true =>
      go_wp2_with fail
      refine (rread_is now _ _ ER.out).mono ?_
      rintro e w3 ⟨rfl, hb⟩
      have K := Aside0.mk (K.out.next hb)
      clear hb
      cases vr with
      | false =>
        have HV : Aside0 (sweepB r now c = false) := ⟨by unfold sweepB mayB; simp [ER.out]⟩
        go_wp2_with fail
        go_ret
        exact ⟨by rw [HV.out]; first | done | rfl | (simp; done), K.out.bel⟩
      | true =>
        have W6 : Aside0 (wrap64 (r.a + c.c7) = r.a + c.c7) := ⟨by
          have q1 := ((cfg_iff _).1 EC.out).1
          unfold CfgR at q1
          have q2 := (rec_iff _ _ _).1 EM.out
          exact wrap_in (by omega) (by omega)⟩
        have z0 : w3.cell? ⟨w.heap.size, 0, none⟩ = some (.string r.p) := (blk_cell K.out.rb 0).trans (rec0 r)
        have z2 : w3.cell? ⟨w.heap.size, 2, none⟩ = some (.int .i64 r.a) := (blk_cell K.out.rb 2).trans (rec2 r)
        have z3 : w3.cell? ⟨w.heap.size, 3, none⟩ = some (.bool r.g) := (blk_cell K.out.rb 3).trans (rec3 r)
        have y1 : w3.cell? ⟨w.heap.size + 1, 1, none⟩ = some (.int .i64 c.c1) := (blk_cell K.out.cb 1).trans (cfgc c).1
        have y2 : w3.cell? ⟨w.heap.size + 1, 2, none⟩ = some (.int .i64 c.c2) := (blk_cell K.out.cb 2).trans (cfgc c).2.1
        have y3 : w3.cell? ⟨w.heap.size + 1, 3, none⟩ = some (.int .i64 c.c3) := (blk_cell K.out.cb 3).trans (cfgc c).2.2.1
        have y4 : w3.cell? ⟨w.heap.size + 1, 4, none⟩ = some (.int .i64 c.c4) := (blk_cell K.out.cb 4).trans (cfgc c).2.2.2.1
        have y6 : w3.cell? ⟨w.heap.size + 1, 6, none⟩ = some (.int .i64 c.c6) := (blk_cell K.out.cb 6).trans (cfgc c).2.2.2.2.1
        have y7 : w3.cell? ⟨w.heap.size + 1, 7, none⟩ = some (.int .i64 c.c7) := (blk_cell K.out.cb 7).trans (cfgc c).2.2.2.2.2
        cases hg : r.g with
        | false =>
          rw [hg] at z3
          have GG := Aside0.mk hg
          clear hg
          have HV : Aside0 (sweepB r now c = false) := ⟨by unfold sweepB mayB; simp [GG.out]⟩
          go_wp2_with fail
          go_ret
          exact ⟨by rw [HV.out]; first | done | rfl | (simp; done), K.out.bel⟩
        | true =>
          rw [hg] at z3
          have GG := Aside0.mk hg
          clear hg
          by_cases k : r.a + c.c7 ≤ now
          · have kd : decide (wrap64 (r.a + c.c7) ≤ now) = true := by rw [W6.out]; exact decide_eq_true k
            have Hk := Aside0.mk k
            clear k
            have HV : Aside0 (sweepB r now c = true) := ⟨by unfold sweepB mayB; simp [EC.out, EM.out, ER.out, GG.out, Hk.out]⟩
            go_wp2_with fail
            go_ret
            exact ⟨by rw [HV.out]; first | done | rfl | (simp; done), K.out.bel⟩
          · have kd : decide (wrap64 (r.a + c.c7) ≤ now) = false := by rw [W6.out]; exact decide_eq_false k
            have Hk := Aside0.mk k
            clear k
            have HV : Aside0 (sweepB r now c = false) := ⟨by unfold sweepB mayB; simp [EC.out, EM.out, ER.out, GG.out]; exact Int.not_le.1 Hk.out⟩
            go_wp2_with fail
            go_ret
            exact ⟨by rw [HV.out]; first | done | rfl | (simp; done), K.out.bel⟩
theorem rjudge_is (r : Rec) (there : Bool) (q : ByteArray) (now draw : Int) (c : Cfg) (hr : r.p.size ≤ 140737488351232) (hq : q.size ≤ 140737488351232) (hs : Small c) (w : World) (v : Int) (h : judgeI r there q now draw c = v) :
    Calls Try.prog 14 #[.agg r.arr, .bool there, .string q, .int .i64 now, .int .i64 draw, .agg c.arr] w fun e w' => e = .returned (.int .u8 v) ∧ Below w.heap.size w w' := by
  subst h
  exact rjudge_calls r there q now draw c hr hq hs w
theorem rbury_is (r : Rec) (now : Int) (c : Cfg) (hr : r.p.size ≤ 140737488351232) (hs : Small c) (w : World) (v : Bool) (h : buryB r now c = v) :
    Calls Try.prog 16 #[.agg r.arr, .int .i64 now, .agg c.arr] w fun e w' => e = .returned (.bool v) ∧ Below w.heap.size w w' := by
  subst h
  exact rbury_calls r now c hr hs w
theorem rsweep_is (r : Rec) (now : Int) (c : Cfg) (hr : r.p.size ≤ 140737488351232) (hs : Small c) (w : World) (v : Bool) (h : sweepB r now c = v) :
    Calls Try.prog 18 #[.agg r.arr, .int .i64 now, .agg c.arr] w fun e w' => e = .returned (.bool v) ∧ Below w.heap.size w w' := by
  subst h
  exact rsweep_calls r now c hr hs w
end Go.Proofs.Ytijjdgmcjienlaa.PL
