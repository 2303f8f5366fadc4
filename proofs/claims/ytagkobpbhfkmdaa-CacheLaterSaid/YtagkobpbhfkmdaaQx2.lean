-- Written by this session's own program (wip/myprint.py), in the form of the kit's print; checked by Lean alone.
import Derived.Test.YtagkobpbhfkmdaaQx0
namespace Go.Proofs.Ytagkobpbhfkmdaa.Q
open Go.RowKit Go.Proofs.YtagkobpbhfkmdaaW.PrintWords Go.Proofs.YtagkobpbhfkmdaaW.PrintLast Go.Proofs.YtagkobpbhfkmdaaW.PrintMore
attribute [local go_sem] max2_int min2_int max_two min_two max_three min_three max_four min_four   -- for this text's walks alone
set_option linter.unusedVariables false
set_option linter.unusedSimpArgs false

/-! ### batonlaw21_long: function 8 -/
mutual
def batonlaw21_long.l0 : Nat → List (S33) → Int → Int → Option (Bool)
  | 0, _, _, _ => none
  | k + 1, x0, x3, x4 => if x4 < (x0.length : Int) then (batonlaw21_long.j1 k x0 x3 x4 (decide (x3 < 20000))) else (batonlaw21_long.j1 k x0 x3 x4 false)
def batonlaw21_long.j1 : Nat → List (S33) → Int → Int → Bool → Option (Bool)
  | 0, _, _, _, _ => none
  | k + 1, x0, x3, x4, x18 => if x18 = true then (if 0 ≤ x4 then (if x4 < (x0.length : Int) then (if (wrap64 ((wrap64 ((((rd_T33 x0 x4).f3).length : Int) + (((rd_T33 x0 x4).f4).length : Int))) + (((rd_T33 x0 x4).f5).length : Int))) > 300 then (some true) else (batonlaw21_long.l1 k x0 x3 x4 0)) else (none)) else (none)) else (some (decide (x3 ≥ 20000)))
def batonlaw21_long.l1 : Nat → List (S33) → Int → Int → Int → Option (Bool)
  | 0, _, _, _, _ => none
  | k + 1, x0, x3, x4, x5 => if 0 ≤ x4 then (if x4 < (x0.length : Int) then (if x5 < (((rd_T33 x0 x4).f3).length : Int) then (if 0 ≤ x5 then (batonlaw21_long.l1 k x0 (wrap64 ((wrap64 (x3 + 5)) + (mn ((rdOf ByteArray.empty ((rd_T33 x0 x4).f3) x5).size : Int) 20000))) x4 (wrap64 (x5 + 1))) else (none)) else (batonlaw21_long.l2 k x0 x3 x4 0)) else (none)) else (none)
def batonlaw21_long.l2 : Nat → List (S33) → Int → Int → Int → Option (Bool)
  | 0, _, _, _, _ => none
  | k + 1, x0, x3, x4, x6 => if 0 ≤ x4 then (if x4 < (x0.length : Int) then (if x6 < (((rd_T33 x0 x4).f4).length : Int) then (if 0 ≤ x6 then (batonlaw21_long.l2 k x0 (wrap64 ((wrap64 ((wrap64 (x3 + 20)) + (mn (((rd_T46 ((rd_T33 x0 x4).f4) x6).f0).size : Int) 20000))) + (mn (((rd_T46 ((rd_T33 x0 x4).f4) x6).f1).size : Int) 20000))) x4 (wrap64 (x6 + 1))) else (none)) else (batonlaw21_long.l3 k x0 x3 x4 0)) else (none)) else (none)
def batonlaw21_long.l3 : Nat → List (S33) → Int → Int → Int → Option (Bool)
  | 0, _, _, _, _ => none
  | k + 1, x0, x3, x4, x7 => if 0 ≤ x4 then (if x4 < (x0.length : Int) then (if x7 < (((rd_T33 x0 x4).f5).length : Int) then (if 0 ≤ x7 then (batonlaw21_long.l3 k x0 (wrap64 ((wrap64 ((wrap64 (x3 + 20)) + (mn (((rd_T75 ((rd_T33 x0 x4).f5) x7).f2).size : Int) 20000))) + (mn (((rd_T75 ((rd_T33 x0 x4).f5) x7).f3).size : Int) 20000))) x4 (wrap64 (x7 + 1))) else (none)) else (batonlaw21_long.l0 k x0 x3 (wrap64 (x4 + 1)))) else (none)) else (none)
end
def batonlaw21_long.f (k : Nat) (l0 : List (S33)) : Option (Bool) := if (l0.length : Int) > 60 then (some true) else (batonlaw21_long.l0 k l0 0 0)
theorem batonlaw21_long.mono_l : ∀ k, (∀ y0 y1 y2, LeO (batonlaw21_long.l0 k y0 y1 y2) (batonlaw21_long.l0 (k + 1) y0 y1 y2)) ∧ (∀ y0 y1 y2 y3, LeO (batonlaw21_long.j1 k y0 y1 y2 y3) (batonlaw21_long.j1 (k + 1) y0 y1 y2 y3)) ∧ (∀ y0 y1 y2 y3, LeO (batonlaw21_long.l1 k y0 y1 y2 y3) (batonlaw21_long.l1 (k + 1) y0 y1 y2 y3)) ∧ (∀ y0 y1 y2 y3, LeO (batonlaw21_long.l2 k y0 y1 y2 y3) (batonlaw21_long.l2 (k + 1) y0 y1 y2 y3)) ∧ (∀ y0 y1 y2 y3, LeO (batonlaw21_long.l3 k y0 y1 y2 y3) (batonlaw21_long.l3 (k + 1) y0 y1 y2 y3))
  | 0 => ⟨fun _ _ _ r h => by simp [batonlaw21_long.l0] at h, fun _ _ _ _ r h => by simp [batonlaw21_long.j1] at h, fun _ _ _ _ r h => by simp [batonlaw21_long.l1] at h, fun _ _ _ _ r h => by simp [batonlaw21_long.l2] at h, fun _ _ _ _ r h => by simp [batonlaw21_long.l3] at h⟩
  | k + 1 => by
    obtain ⟨ih0, ih1, ih2, ih3, ih4⟩ := batonlaw21_long.mono_l k
    refine ⟨?_, ?_, ?_, ?_, ?_⟩
    · intro y0 y1 y2
      unfold batonlaw21_long.l0
      repeat' first
      | (with_reducible exact ih0 _ _ _)
      | (with_reducible exact ih1 _ _ _ _)
      | (with_reducible exact ih2 _ _ _ _)
      | (with_reducible exact ih3 _ _ _ _)
      | (with_reducible exact ih4 _ _ _ _)
      | (with_reducible exact LeO.refl _)
      | (with_reducible exact LeO.none _)
      | (with_reducible refine LeO.ite ?_ ?_)
      | (with_reducible refine LeO.bind ?_ (fun _ => ?_))
      | exact ih0 _ _ _
      | exact ih1 _ _ _ _
      | exact ih2 _ _ _ _
      | exact ih3 _ _ _ _
      | exact ih4 _ _ _ _
      | exact LeO.none _
      | refine LeO.ite ?_ ?_
      | refine LeO.bind ?_ (fun _ => ?_)
    · intro y0 y1 y2 y3
      unfold batonlaw21_long.j1
      repeat' first
      | (with_reducible exact ih0 _ _ _)
      | (with_reducible exact ih1 _ _ _ _)
      | (with_reducible exact ih2 _ _ _ _)
      | (with_reducible exact ih3 _ _ _ _)
      | (with_reducible exact ih4 _ _ _ _)
      | (with_reducible exact LeO.refl _)
      | (with_reducible exact LeO.none _)
      | (with_reducible refine LeO.ite ?_ ?_)
      | (with_reducible refine LeO.bind ?_ (fun _ => ?_))
      | exact ih0 _ _ _
      | exact ih1 _ _ _ _
      | exact ih2 _ _ _ _
      | exact ih3 _ _ _ _
      | exact ih4 _ _ _ _
      | exact LeO.none _
      | refine LeO.ite ?_ ?_
      | refine LeO.bind ?_ (fun _ => ?_)
    · intro y0 y1 y2 y3
      unfold batonlaw21_long.l1
      repeat' first
      | (with_reducible exact ih0 _ _ _)
      | (with_reducible exact ih1 _ _ _ _)
      | (with_reducible exact ih2 _ _ _ _)
      | (with_reducible exact ih3 _ _ _ _)
      | (with_reducible exact ih4 _ _ _ _)
      | (with_reducible exact LeO.refl _)
      | (with_reducible exact LeO.none _)
      | (with_reducible refine LeO.ite ?_ ?_)
      | (with_reducible refine LeO.bind ?_ (fun _ => ?_))
      | exact ih0 _ _ _
      | exact ih1 _ _ _ _
      | exact ih2 _ _ _ _
      | exact ih3 _ _ _ _
      | exact ih4 _ _ _ _
      | exact LeO.none _
      | refine LeO.ite ?_ ?_
      | refine LeO.bind ?_ (fun _ => ?_)
    · intro y0 y1 y2 y3
      unfold batonlaw21_long.l2
      repeat' first
      | (with_reducible exact ih0 _ _ _)
      | (with_reducible exact ih1 _ _ _ _)
      | (with_reducible exact ih2 _ _ _ _)
      | (with_reducible exact ih3 _ _ _ _)
      | (with_reducible exact ih4 _ _ _ _)
      | (with_reducible exact LeO.refl _)
      | (with_reducible exact LeO.none _)
      | (with_reducible refine LeO.ite ?_ ?_)
      | (with_reducible refine LeO.bind ?_ (fun _ => ?_))
      | exact ih0 _ _ _
      | exact ih1 _ _ _ _
      | exact ih2 _ _ _ _
      | exact ih3 _ _ _ _
      | exact ih4 _ _ _ _
      | exact LeO.none _
      | refine LeO.ite ?_ ?_
      | refine LeO.bind ?_ (fun _ => ?_)
    · intro y0 y1 y2 y3
      unfold batonlaw21_long.l3
      repeat' first
      | (with_reducible exact ih0 _ _ _)
      | (with_reducible exact ih1 _ _ _ _)
      | (with_reducible exact ih2 _ _ _ _)
      | (with_reducible exact ih3 _ _ _ _)
      | (with_reducible exact ih4 _ _ _ _)
      | (with_reducible exact LeO.refl _)
      | (with_reducible exact LeO.none _)
      | (with_reducible refine LeO.ite ?_ ?_)
      | (with_reducible refine LeO.bind ?_ (fun _ => ?_))
      | exact ih0 _ _ _
      | exact ih1 _ _ _ _
      | exact ih2 _ _ _ _
      | exact ih3 _ _ _ _
      | exact ih4 _ _ _ _
      | exact LeO.none _
      | refine LeO.ite ?_ ?_
      | refine LeO.bind ?_ (fun _ => ?_)
theorem batonlaw21_long.mono : ∀ a0 k, LeO (batonlaw21_long.f k a0) (batonlaw21_long.f (k + 1) a0) := by
  intro a0 k
  obtain ⟨ih0, ih1, ih2, ih3, ih4⟩ := batonlaw21_long.mono_l k
  unfold batonlaw21_long.f
  repeat' first
      | (with_reducible exact ih0 _ _ _)
      | (with_reducible exact ih1 _ _ _ _)
      | (with_reducible exact ih2 _ _ _ _)
      | (with_reducible exact ih3 _ _ _ _)
      | (with_reducible exact ih4 _ _ _ _)
      | (with_reducible exact LeO.refl _)
      | (with_reducible exact LeO.none _)
      | (with_reducible refine LeO.ite ?_ ?_)
      | (with_reducible refine LeO.bind ?_ (fun _ => ?_))
      | exact ih0 _ _ _
      | exact ih1 _ _ _ _
      | exact ih2 _ _ _ _
      | exact ih3 _ _ _ _
      | exact ih4 _ _ _ _
      | exact LeO.none _
      | refine LeO.ite ?_ ?_
      | refine LeO.bind ?_ (fun _ => ?_)
set_option maxHeartbeats 8000000 in
set_option maxRecDepth 100000 in
theorem batonlaw21_long.calls (k : Nat) (A0 : Option Addr) (c0 : Nat) (l0 : List (S33)) (r : Bool) (w : World) (hr0 : Kd.C k33 w A0 l0.length l0) (hc0 : l0.length ≤ c0) (h : batonlaw21_long.f k l0 = some r) :
    Calls Try.prog 8 #[.slice A0 l0.length c0] w fun e w' => e = .returned (.bool r) ∧ Below w.heap.size w w' := by
  have HR0 := Aside0.mk hr0
  have HC0 := Aside0.mk hc0
  clear hr0 hc0
  have HB := Aside0.mk (Below.refl w.heap.size w)
  have H : (if (l0.length : Int) > 60 then (some true) else (batonlaw21_long.l0 k l0 0 0)) = some r := h
  clear h
  by_cases c2 : (l0.length : Int) > 60
  · rw [if_pos c2] at H
    have c2b0 : decide (60 < (l0.length : Int)) = true := decide_eq_true c2
    have c2b1 : decide (60 < l0.length) = true := decide_eq_true (by omega)
    clear c2
    obtain rfl := Option.some.inj H
    go_enter Try.func8, Try.ntmps8
    go_wp2
    repeat (go_quiet (fail); try go_wp2)
    go_ret
    exact ⟨by first | rfl | (simp [errW_none, errW_some] <;> rfl) | (simp [*, errW_none, errW_some] <;> rfl), by repeat (first | (with_reducible first | exact HB.out | apply below_alloc | apply pw_below_drewN | apply below_drew1) | exact HB.out)⟩
  · rw [if_neg c2] at H
    have c2b0 : decide (60 < (l0.length : Int)) = false := decide_eq_false c2
    have c2b1 : decide (60 < l0.length) = false := decide_eq_false (by omega)
    clear c2
    have H' := Aside0.mk H
    clear H
    go_enter Try.func8, Try.ntmps8
    go_wp2
    repeat (go_quiet (fail); try go_wp2)
    go_loopg [3, 4] k (fun kq v3 v4 w' => ∃ (x3_1 : Int) (x4_1 : Int), v3 = .int .i64 x3_1 ∧ v4 = .int .i64 x4_1 ∧ Aside0 (batonlaw21_long.l0 kq l0 x3_1 x4_1 = some r) ∧ Aside0 (kq ≤ k) ∧ Aside0 (Below w.heap.size w w'))
    case atStart => exact ⟨(0), (0), (by first | rfl | (simp; done) | (simp [*]; done) | (simp [wrap64, wrap32]; done)), (by first | rfl | (simp; done) | (simp [*]; done) | (simp [wrap64, wrap32]; done)), H', ⟨Nat.le_refl _⟩, ⟨by repeat (first | (with_reducible first | exact HB.out | apply below_alloc | apply pw_below_drewN | apply below_drew1) | exact HB.out)⟩⟩
    case round =>
      clear H'
      try clear c2
      try clear c2b0
      try clear c2b1
      try clear p2
      obtain ⟨x3_1, x4_1, rfl, rfl, HA, HK1, HB⟩ := hrel
      cases gk with
      | zero => exact absurd HA.out (by simp [batonlaw21_long.l0])
      | succ k1 =>
        have H := HA.out
        clear HA
        simp only [batonlaw21_long.l0] at H
        have HC3 := Aside0.mk H
        clear H
        go_upto_region 5 with (fail)
        repeat (go_quiet (fail); go_upto_region 5 with (fail))
        go_cut [18] (fun v18 wc => ∃ (kq : Nat) (x18_2 : Bool), v18 = .bool x18_2 ∧ Aside0 (batonlaw21_long.j1 kq l0 x3_1 x4_1 x18_2 = some r) ∧ Aside0 (kq ≤ k1) ∧ Aside0 (Below w.heap.size w wc))
        case first =>
          have H := HC3.out
          clear HC3
          by_cases c4 : x4_1 < (l0.length : Int)
          · rw [if_pos c4] at H
            have c4b0 : decide (x4_1 < (l0.length : Int)) = true := decide_eq_true c4
            clear c4
            (first | rw [c4b0] | (simp only [i64_w, i32_w]; rw [c4b0]) | skip)
            have H' := Aside0.mk H
            clear H
            go_wp2
            repeat (go_quiet (fail); try go_wp2)
            go_meet
            case rel => exact ⟨_, (decide (x3_1 < 20000)), (by first | rfl | (simp; done) | (simp [*]; done) | (simp [wrap64, wrap32]; done)), H', ⟨by have := HK1.out; first | omega | exact Nat.le_refl _⟩, ⟨by repeat (first | (with_reducible first | exact HB.out | apply below_alloc | apply pw_below_drewN | apply below_drew1) | exact HB.out)⟩⟩
          · rw [if_neg c4] at H
            have c4b0 : decide (x4_1 < (l0.length : Int)) = false := decide_eq_false c4
            clear c4
            (first | rw [c4b0] | (simp only [i64_w, i32_w]; rw [c4b0]) | skip)
            have H' := Aside0.mk H
            clear H
            go_wp2
            repeat (go_quiet (fail); try go_wp2)
            go_meet
            case rel => exact ⟨_, (false), (by first | rfl | (simp; done) | (simp [*]; done) | (simp [wrap64, wrap32]; done)), H', ⟨by have := HK1.out; first | omega | exact Nat.le_refl _⟩, ⟨by repeat (first | (with_reducible first | exact HB.out | apply below_alloc | apply pw_below_drewN | apply below_drew1) | exact HB.out)⟩⟩
        case rest =>
          clear HC3
          try clear c2
          try clear c2b0
          try clear c2b1
          try clear p2
          try clear c4
          try clear c4b0
          try clear p2
          obtain ⟨kq, x18_2, rfl, HA, HJ2, HB⟩ := hcut
          cases kq with
          | zero => exact absurd HA.out (by simp [batonlaw21_long.j1])
          | succ kj2 =>
            have H := HA.out
            clear HA
            simp only [batonlaw21_long.j1] at H
            by_cases c5 : x18_2 = true
            · subst c5
              have H1 : (if 0 ≤ x4_1 then (if x4_1 < (l0.length : Int) then (if (wrap64 ((wrap64 ((((rd_T33 l0 x4_1).f3).length : Int) + (((rd_T33 l0 x4_1).f4).length : Int))) + (((rd_T33 l0 x4_1).f5).length : Int))) > 300 then (some true) else (batonlaw21_long.l1 kj2 l0 x3_1 x4_1 0)) else (none)) else (none)) = some r := by rw [if_pos rfl] at H; exact H
              clear H
              have H := H1
              clear H1
              by_cases c6 : 0 ≤ x4_1
              · rw [if_pos c6] at H
                have c6b0 : decide (0 ≤ x4_1) = true := decide_eq_true c6
                clear c6
                by_cases c7 : x4_1 < (l0.length : Int)
                · rw [if_pos c7] at H
                  have c7b0 : decide (x4_1 < (l0.length : Int)) = true := decide_eq_true c7
                  clear c7
                  by_cases c8 : (wrap64 ((wrap64 ((((rd_T33 l0 x4_1).f3).length : Int) + (((rd_T33 l0 x4_1).f4).length : Int))) + (((rd_T33 l0 x4_1).f5).length : Int))) > 300
                  · rw [if_pos c8] at H
                    have c8b0 : decide (300 < (wrap64 ((wrap64 ((((rd_T33 l0 x4_1).f3).length : Int) + (((rd_T33 l0 x4_1).f4).length : Int))) + (((rd_T33 l0 x4_1).f5).length : Int)))) = true := decide_eq_true c8
                    clear c8
                    obtain rfl := Option.some.inj H
                    have p101 : 0 ≤ (x4_1 : Int) := of_decide_eq_true (by first | (with_reducible assumption) | assumption)
                    have q101 : x4_1 < (l0.length : Int) := of_decide_eq_true (by first | (with_reducible assumption) | assumption)
                    obtain ⟨ad101, A101_3, c101_3, A101_4, c101_4, A101_5, c101_5, e101, hx101_0, hx101_1, hx101_2, hx101_3, hx101_4, hx101_5, hl101_3, hi101_3, hl101_4, hi101_4, hl101_5, hi101_5⟩ := at_T33 HR0.out x4_1 p101 q101
                    cases e101
                    replace hx101_0 := (HB.out.cell (World.block_lt_of_cell? w _ hx101_0)).trans hx101_0
                    replace hx101_1 := (HB.out.cell (World.block_lt_of_cell? w _ hx101_1)).trans hx101_1
                    replace hx101_2 := (HB.out.cell (World.block_lt_of_cell? w _ hx101_2)).trans hx101_2
                    replace hx101_3 := (HB.out.cell (World.block_lt_of_cell? w _ hx101_3)).trans hx101_3
                    replace hx101_4 := (HB.out.cell (World.block_lt_of_cell? w _ hx101_4)).trans hx101_4
                    replace hx101_5 := (HB.out.cell (World.block_lt_of_cell? w _ hx101_5)).trans hx101_5
                    have HR101_3 := Aside0.mk hi101_3
                    have HC101_3 := Aside0.mk hl101_3
                    clear hi101_3 hl101_3
                    have HR101_4 := Aside0.mk hi101_4
                    have HC101_4 := Aside0.mk hl101_4
                    clear hi101_4 hl101_4
                    have HR101_5 := Aside0.mk hi101_5
                    have HC101_5 := Aside0.mk hl101_5
                    clear hi101_5 hl101_5
                    replace p101 := eq_true p101
                    replace q101 := eq_true q101
                    have p102 : 0 ≤ (x4_1 : Int) := of_decide_eq_true (by first | (with_reducible assumption) | assumption)
                    have q102 : x4_1 < (l0.length : Int) := of_decide_eq_true (by first | (with_reducible assumption) | assumption)
                    obtain ⟨ad102, A102_3, c102_3, A102_4, c102_4, A102_5, c102_5, e102, hx102_0, hx102_1, hx102_2, hx102_3, hx102_4, hx102_5, hl102_3, hi102_3, hl102_4, hi102_4, hl102_5, hi102_5⟩ := at_T33 HR0.out x4_1 p102 q102
                    obtain rfl : ad101 = ad102 := (by injection e102)
                    replace hx102_0 := (HB.out.cell (World.block_lt_of_cell? w _ hx102_0)).trans hx102_0
                    replace hx102_1 := (HB.out.cell (World.block_lt_of_cell? w _ hx102_1)).trans hx102_1
                    replace hx102_2 := (HB.out.cell (World.block_lt_of_cell? w _ hx102_2)).trans hx102_2
                    replace hx102_3 := (HB.out.cell (World.block_lt_of_cell? w _ hx102_3)).trans hx102_3
                    replace hx102_4 := (HB.out.cell (World.block_lt_of_cell? w _ hx102_4)).trans hx102_4
                    replace hx102_5 := (HB.out.cell (World.block_lt_of_cell? w _ hx102_5)).trans hx102_5
                    have HR102_3 := Aside0.mk hi102_3
                    have HC102_3 := Aside0.mk hl102_3
                    clear hi102_3 hl102_3
                    have HR102_4 := Aside0.mk hi102_4
                    have HC102_4 := Aside0.mk hl102_4
                    clear hi102_4 hl102_4
                    have HR102_5 := Aside0.mk hi102_5
                    have HC102_5 := Aside0.mk hl102_5
                    clear hi102_5 hl102_5
                    replace p102 := eq_true p102
                    replace q102 := eq_true q102
                    have ea_ := Option.some.inj (hx101_3.symm.trans hx102_3)
                    injection ea_ with ea_ en_ ec_
                    subst ea_
                    subst ec_
                    clear en_
                    have ea_ := Option.some.inj (hx101_4.symm.trans hx102_4)
                    injection ea_ with ea_ en_ ec_
                    subst ea_
                    subst ec_
                    clear en_
                    have ea_ := Option.some.inj (hx101_5.symm.trans hx102_5)
                    injection ea_ with ea_ en_ ec_
                    subst ea_
                    subst ec_
                    clear en_
                    have p103 : 0 ≤ (x4_1 : Int) := of_decide_eq_true (by first | (with_reducible assumption) | assumption)
                    have q103 : x4_1 < (l0.length : Int) := of_decide_eq_true (by first | (with_reducible assumption) | assumption)
                    obtain ⟨ad103, A103_3, c103_3, A103_4, c103_4, A103_5, c103_5, e103, hx103_0, hx103_1, hx103_2, hx103_3, hx103_4, hx103_5, hl103_3, hi103_3, hl103_4, hi103_4, hl103_5, hi103_5⟩ := at_T33 HR0.out x4_1 p103 q103
                    obtain rfl : ad101 = ad103 := (by injection e103)
                    replace hx103_0 := (HB.out.cell (World.block_lt_of_cell? w _ hx103_0)).trans hx103_0
                    replace hx103_1 := (HB.out.cell (World.block_lt_of_cell? w _ hx103_1)).trans hx103_1
                    replace hx103_2 := (HB.out.cell (World.block_lt_of_cell? w _ hx103_2)).trans hx103_2
                    replace hx103_3 := (HB.out.cell (World.block_lt_of_cell? w _ hx103_3)).trans hx103_3
                    replace hx103_4 := (HB.out.cell (World.block_lt_of_cell? w _ hx103_4)).trans hx103_4
                    replace hx103_5 := (HB.out.cell (World.block_lt_of_cell? w _ hx103_5)).trans hx103_5
                    have HR103_3 := Aside0.mk hi103_3
                    have HC103_3 := Aside0.mk hl103_3
                    clear hi103_3 hl103_3
                    have HR103_4 := Aside0.mk hi103_4
                    have HC103_4 := Aside0.mk hl103_4
                    clear hi103_4 hl103_4
                    have HR103_5 := Aside0.mk hi103_5
                    have HC103_5 := Aside0.mk hl103_5
                    clear hi103_5 hl103_5
                    replace p103 := eq_true p103
                    replace q103 := eq_true q103
                    have ea_ := Option.some.inj (hx101_3.symm.trans hx103_3)
                    injection ea_ with ea_ en_ ec_
                    subst ea_
                    subst ec_
                    clear en_
                    have ea_ := Option.some.inj (hx101_4.symm.trans hx103_4)
                    injection ea_ with ea_ en_ ec_
                    subst ea_
                    subst ec_
                    clear en_
                    have ea_ := Option.some.inj (hx101_5.symm.trans hx103_5)
                    injection ea_ with ea_ en_ ec_
                    subst ea_
                    subst ec_
                    clear en_
                    go_wp2
                    repeat (go_quiet (fail); try go_wp2)
                    go_ret
                    exact ⟨by first | rfl | (simp [errW_none, errW_some] <;> rfl) | (simp [*, errW_none, errW_some] <;> rfl), by repeat (first | (with_reducible first | exact HB.out | apply below_alloc | apply pw_below_drewN | apply below_drew1) | exact HB.out)⟩
                  · rw [if_neg c8] at H
                    have c8b0 : decide (300 < (wrap64 ((wrap64 ((((rd_T33 l0 x4_1).f3).length : Int) + (((rd_T33 l0 x4_1).f4).length : Int))) + (((rd_T33 l0 x4_1).f5).length : Int)))) = false := decide_eq_false c8
                    clear c8
                    have H' := Aside0.mk H
                    clear H
                    have p101 : 0 ≤ (x4_1 : Int) := of_decide_eq_true (by first | (with_reducible assumption) | assumption)
                    have q101 : x4_1 < (l0.length : Int) := of_decide_eq_true (by first | (with_reducible assumption) | assumption)
                    obtain ⟨ad101, A101_3, c101_3, A101_4, c101_4, A101_5, c101_5, e101, hx101_0, hx101_1, hx101_2, hx101_3, hx101_4, hx101_5, hl101_3, hi101_3, hl101_4, hi101_4, hl101_5, hi101_5⟩ := at_T33 HR0.out x4_1 p101 q101
                    cases e101
                    replace hx101_0 := (HB.out.cell (World.block_lt_of_cell? w _ hx101_0)).trans hx101_0
                    replace hx101_1 := (HB.out.cell (World.block_lt_of_cell? w _ hx101_1)).trans hx101_1
                    replace hx101_2 := (HB.out.cell (World.block_lt_of_cell? w _ hx101_2)).trans hx101_2
                    replace hx101_3 := (HB.out.cell (World.block_lt_of_cell? w _ hx101_3)).trans hx101_3
                    replace hx101_4 := (HB.out.cell (World.block_lt_of_cell? w _ hx101_4)).trans hx101_4
                    replace hx101_5 := (HB.out.cell (World.block_lt_of_cell? w _ hx101_5)).trans hx101_5
                    have HR101_3 := Aside0.mk hi101_3
                    have HC101_3 := Aside0.mk hl101_3
                    clear hi101_3 hl101_3
                    have HR101_4 := Aside0.mk hi101_4
                    have HC101_4 := Aside0.mk hl101_4
                    clear hi101_4 hl101_4
                    have HR101_5 := Aside0.mk hi101_5
                    have HC101_5 := Aside0.mk hl101_5
                    clear hi101_5 hl101_5
                    replace p101 := eq_true p101
                    replace q101 := eq_true q101
                    have p102 : 0 ≤ (x4_1 : Int) := of_decide_eq_true (by first | (with_reducible assumption) | assumption)
                    have q102 : x4_1 < (l0.length : Int) := of_decide_eq_true (by first | (with_reducible assumption) | assumption)
                    obtain ⟨ad102, A102_3, c102_3, A102_4, c102_4, A102_5, c102_5, e102, hx102_0, hx102_1, hx102_2, hx102_3, hx102_4, hx102_5, hl102_3, hi102_3, hl102_4, hi102_4, hl102_5, hi102_5⟩ := at_T33 HR0.out x4_1 p102 q102
                    obtain rfl : ad101 = ad102 := (by injection e102)
                    replace hx102_0 := (HB.out.cell (World.block_lt_of_cell? w _ hx102_0)).trans hx102_0
                    replace hx102_1 := (HB.out.cell (World.block_lt_of_cell? w _ hx102_1)).trans hx102_1
                    replace hx102_2 := (HB.out.cell (World.block_lt_of_cell? w _ hx102_2)).trans hx102_2
                    replace hx102_3 := (HB.out.cell (World.block_lt_of_cell? w _ hx102_3)).trans hx102_3
                    replace hx102_4 := (HB.out.cell (World.block_lt_of_cell? w _ hx102_4)).trans hx102_4
                    replace hx102_5 := (HB.out.cell (World.block_lt_of_cell? w _ hx102_5)).trans hx102_5
                    have HR102_3 := Aside0.mk hi102_3
                    have HC102_3 := Aside0.mk hl102_3
                    clear hi102_3 hl102_3
                    have HR102_4 := Aside0.mk hi102_4
                    have HC102_4 := Aside0.mk hl102_4
                    clear hi102_4 hl102_4
                    have HR102_5 := Aside0.mk hi102_5
                    have HC102_5 := Aside0.mk hl102_5
                    clear hi102_5 hl102_5
                    replace p102 := eq_true p102
                    replace q102 := eq_true q102
                    have ea_ := Option.some.inj (hx101_3.symm.trans hx102_3)
                    injection ea_ with ea_ en_ ec_
                    subst ea_
                    subst ec_
                    clear en_
                    have ea_ := Option.some.inj (hx101_4.symm.trans hx102_4)
                    injection ea_ with ea_ en_ ec_
                    subst ea_
                    subst ec_
                    clear en_
                    have ea_ := Option.some.inj (hx101_5.symm.trans hx102_5)
                    injection ea_ with ea_ en_ ec_
                    subst ea_
                    subst ec_
                    clear en_
                    have p103 : 0 ≤ (x4_1 : Int) := of_decide_eq_true (by first | (with_reducible assumption) | assumption)
                    have q103 : x4_1 < (l0.length : Int) := of_decide_eq_true (by first | (with_reducible assumption) | assumption)
                    obtain ⟨ad103, A103_3, c103_3, A103_4, c103_4, A103_5, c103_5, e103, hx103_0, hx103_1, hx103_2, hx103_3, hx103_4, hx103_5, hl103_3, hi103_3, hl103_4, hi103_4, hl103_5, hi103_5⟩ := at_T33 HR0.out x4_1 p103 q103
                    obtain rfl : ad101 = ad103 := (by injection e103)
                    replace hx103_0 := (HB.out.cell (World.block_lt_of_cell? w _ hx103_0)).trans hx103_0
                    replace hx103_1 := (HB.out.cell (World.block_lt_of_cell? w _ hx103_1)).trans hx103_1
                    replace hx103_2 := (HB.out.cell (World.block_lt_of_cell? w _ hx103_2)).trans hx103_2
                    replace hx103_3 := (HB.out.cell (World.block_lt_of_cell? w _ hx103_3)).trans hx103_3
                    replace hx103_4 := (HB.out.cell (World.block_lt_of_cell? w _ hx103_4)).trans hx103_4
                    replace hx103_5 := (HB.out.cell (World.block_lt_of_cell? w _ hx103_5)).trans hx103_5
                    have HR103_3 := Aside0.mk hi103_3
                    have HC103_3 := Aside0.mk hl103_3
                    clear hi103_3 hl103_3
                    have HR103_4 := Aside0.mk hi103_4
                    have HC103_4 := Aside0.mk hl103_4
                    clear hi103_4 hl103_4
                    have HR103_5 := Aside0.mk hi103_5
                    have HC103_5 := Aside0.mk hl103_5
                    clear hi103_5 hl103_5
                    replace p103 := eq_true p103
                    replace q103 := eq_true q103
                    have ea_ := Option.some.inj (hx101_3.symm.trans hx103_3)
                    injection ea_ with ea_ en_ ec_
                    subst ea_
                    subst ec_
                    clear en_
                    have ea_ := Option.some.inj (hx101_4.symm.trans hx103_4)
                    injection ea_ with ea_ en_ ec_
                    subst ea_
                    subst ec_
                    clear en_
                    have ea_ := Option.some.inj (hx101_5.symm.trans hx103_5)
                    injection ea_ with ea_ en_ ec_
                    subst ea_
                    subst ec_
                    clear en_
                    go_wp2
                    repeat (go_quiet (fail); try go_wp2)
                    go_loopg [3, 5] kj2 (fun kq v3 v5 w' => ∃ (x3_3 : Int) (x5_3 : Int), v3 = .int .i64 x3_3 ∧ v5 = .int .i64 x5_3 ∧ Aside0 (batonlaw21_long.l1 kq l0 x3_3 x4_1 x5_3 = some r) ∧ Aside0 (kq ≤ kj2) ∧ Aside0 (Below w.heap.size w w'))
                    case atStart => exact ⟨(x3_1), (0), (by first | rfl | (simp; done) | (simp [*]; done) | (simp [wrap64, wrap32]; done)), (by first | rfl | (simp; done) | (simp [*]; done) | (simp [wrap64, wrap32]; done)), H', ⟨Nat.le_refl _⟩, ⟨by repeat (first | (with_reducible first | exact HB.out | apply below_alloc | apply pw_below_drewN | apply below_drew1) | exact HB.out)⟩⟩
                    case round =>
                      clear H'
                      try clear c1
                      try clear p1
                      try clear q1
                      try clear hx1
                      try clear c2
                      try clear c2b0
                      try clear c2b1
                      try clear p2
                      try clear c4
                      try clear c4b0
                      try clear c5
                      try clear c6
                      try clear c6b0
                      try clear p6
                      try clear c7
                      try clear c7b0
                      try clear c8
                      try clear c8b0
                      try clear hx101_0
                      try clear hx101_1
                      try clear hx101_2
                      try clear hx101_3
                      try clear hx101_4
                      try clear hx101_5
                      try clear hx102_0
                      try clear hx102_1
                      try clear hx102_2
                      try clear hx102_3
                      try clear hx102_4
                      try clear hx102_5
                      try clear hx103_0
                      try clear hx103_1
                      try clear hx103_2
                      try clear hx103_3
                      try clear hx103_4
                      try clear hx103_5
                      try clear p101
                      try clear p102
                      try clear p103
                      try clear p2
                      try clear q101
                      try clear q102
                      try clear q103
                      obtain ⟨x3_3, x5_3, rfl, rfl, HA, HK3, HB⟩ := hrel
                      cases gk with
                      | zero => exact absurd HA.out (by simp [batonlaw21_long.l1])
                      | succ k3 =>
                        have H := HA.out
                        clear HA
                        simp only [batonlaw21_long.l1] at H
                        by_cases c9 : 0 ≤ x4_1
                        · rw [if_pos c9] at H
                          have c9b0 : decide (0 ≤ x4_1) = true := decide_eq_true c9
                          clear c9
                          by_cases c10 : x4_1 < (l0.length : Int)
                          · rw [if_pos c10] at H
                            have c10b0 : decide (x4_1 < (l0.length : Int)) = true := decide_eq_true c10
                            clear c10
                            by_cases c11 : x5_3 < (((rd_T33 l0 x4_1).f3).length : Int)
                            · rw [if_pos c11] at H
                              have c11b0 : decide (x5_3 < (((rd_T33 l0 x4_1).f3).length : Int)) = true := decide_eq_true c11
                              clear c11
                              by_cases c12 : 0 ≤ x5_3
                              · rw [if_pos c12] at H
                                have c12b0 : decide (0 ≤ x5_3) = true := decide_eq_true c12
                                clear c12
                                obtain ⟨ji13, hji13⟩ : ∃ j_ : Int, (mn ((rdOf ByteArray.empty ((rd_T33 l0 x4_1).f3) x5_3).size : Int) 20000) = j_ := ⟨_, rfl⟩
                                replace H : (batonlaw21_long.l1 k3 l0 (wrap64 ((wrap64 (x3_3 + 5)) + (ji13))) x4_1 (wrap64 (x5_3 + 1))) = some r := by first | (rw [hji13] at H; exact H) | (simp only [hji13] at H ⊢; exact H)
                                have hji13_ : (if 20000 < ((rdOf ByteArray.empty ((rd_T33 l0 x4_1).f3) x5_3).size : Int) then 20000 else ((rdOf ByteArray.empty ((rd_T33 l0 x4_1).f3) x5_3).size : Int)) = ji13 := hji13
                                have H' := Aside0.mk H
                                clear H
                                have p104 : 0 ≤ (x4_1 : Int) := of_decide_eq_true (by first | (with_reducible assumption) | assumption)
                                have q104 : x4_1 < (l0.length : Int) := of_decide_eq_true (by first | (with_reducible assumption) | assumption)
                                obtain ⟨ad104, A104_3, c104_3, A104_4, c104_4, A104_5, c104_5, e104, hx104_0, hx104_1, hx104_2, hx104_3, hx104_4, hx104_5, hl104_3, hi104_3, hl104_4, hi104_4, hl104_5, hi104_5⟩ := at_T33 HR0.out x4_1 p104 q104
                                obtain rfl : ad101 = ad104 := (by injection e104)
                                replace hx104_0 := (HB.out.cell (World.block_lt_of_cell? w _ hx104_0)).trans hx104_0
                                replace hx104_1 := (HB.out.cell (World.block_lt_of_cell? w _ hx104_1)).trans hx104_1
                                replace hx104_2 := (HB.out.cell (World.block_lt_of_cell? w _ hx104_2)).trans hx104_2
                                replace hx104_3 := (HB.out.cell (World.block_lt_of_cell? w _ hx104_3)).trans hx104_3
                                replace hx104_4 := (HB.out.cell (World.block_lt_of_cell? w _ hx104_4)).trans hx104_4
                                replace hx104_5 := (HB.out.cell (World.block_lt_of_cell? w _ hx104_5)).trans hx104_5
                                have HR104_3 := Aside0.mk hi104_3
                                have HC104_3 := Aside0.mk hl104_3
                                clear hi104_3 hl104_3
                                have HR104_4 := Aside0.mk hi104_4
                                have HC104_4 := Aside0.mk hl104_4
                                clear hi104_4 hl104_4
                                have HR104_5 := Aside0.mk hi104_5
                                have HC104_5 := Aside0.mk hl104_5
                                clear hi104_5 hl104_5
                                replace p104 := eq_true p104
                                replace q104 := eq_true q104
                                have p105 : 0 ≤ (x4_1 : Int) := of_decide_eq_true (by first | (with_reducible assumption) | assumption)
                                have q105 : x4_1 < (l0.length : Int) := of_decide_eq_true (by first | (with_reducible assumption) | assumption)
                                obtain ⟨ad105, A105_3, c105_3, A105_4, c105_4, A105_5, c105_5, e105, hx105_0, hx105_1, hx105_2, hx105_3, hx105_4, hx105_5, hl105_3, hi105_3, hl105_4, hi105_4, hl105_5, hi105_5⟩ := at_T33 HR0.out x4_1 p105 q105
                                obtain rfl : ad101 = ad105 := (by injection e105)
                                replace hx105_0 := (HB.out.cell (World.block_lt_of_cell? w _ hx105_0)).trans hx105_0
                                replace hx105_1 := (HB.out.cell (World.block_lt_of_cell? w _ hx105_1)).trans hx105_1
                                replace hx105_2 := (HB.out.cell (World.block_lt_of_cell? w _ hx105_2)).trans hx105_2
                                replace hx105_3 := (HB.out.cell (World.block_lt_of_cell? w _ hx105_3)).trans hx105_3
                                replace hx105_4 := (HB.out.cell (World.block_lt_of_cell? w _ hx105_4)).trans hx105_4
                                replace hx105_5 := (HB.out.cell (World.block_lt_of_cell? w _ hx105_5)).trans hx105_5
                                have HR105_3 := Aside0.mk hi105_3
                                have HC105_3 := Aside0.mk hl105_3
                                clear hi105_3 hl105_3
                                have HR105_4 := Aside0.mk hi105_4
                                have HC105_4 := Aside0.mk hl105_4
                                clear hi105_4 hl105_4
                                have HR105_5 := Aside0.mk hi105_5
                                have HC105_5 := Aside0.mk hl105_5
                                clear hi105_5 hl105_5
                                replace p105 := eq_true p105
                                replace q105 := eq_true q105
                                have ea_ := Option.some.inj (hx104_3.symm.trans hx105_3)
                                injection ea_ with ea_ en_ ec_
                                subst ea_
                                subst ec_
                                clear en_
                                have ea_ := Option.some.inj (hx104_4.symm.trans hx105_4)
                                injection ea_ with ea_ en_ ec_
                                subst ea_
                                subst ec_
                                clear en_
                                have ea_ := Option.some.inj (hx104_5.symm.trans hx105_5)
                                injection ea_ with ea_ en_ ec_
                                subst ea_
                                subst ec_
                                clear en_
                                have p106 : 0 ≤ (x5_3 : Int) := of_decide_eq_true (by first | (with_reducible assumption) | assumption)
                                have q106 : x5_3 < (((rd_T33 l0 x4_1).f3).length : Int) := of_decide_eq_true (by first | (with_reducible assumption) | assumption)
                                obtain ⟨ad106, e106, hx106_0⟩ := Kd.at_string HR105_3.out x5_3 p106 q106
                                cases e106
                                replace hx106_0 := (HB.out.cell (World.block_lt_of_cell? w _ hx106_0)).trans hx106_0
                                replace p106 := eq_true p106
                                replace q106 := eq_true q106
                                go_wp2
                                repeat (go_quiet (fail); try go_wp2)
                                go_roundg k3
                                case measure => have := HK1.out; have := HJ2.out; have := HK3.out; omega
                                case rel => exact ⟨(wrap64 ((wrap64 (x3_3 + 5)) + (ji13))), (wrap64 (x5_3 + 1)), (by first | rfl | (simp; done) | (simp only [← hji13] <;> (first | rfl | simp)) | (simp [*]; done)), (by first | rfl | (simp; done) | (simp [*]; done) | (simp [wrap64, wrap32]; done)), H', ⟨by have := HK1.out; have := HJ2.out; have := HK3.out; omega⟩, ⟨by repeat (first | (with_reducible first | exact HB.out | apply below_alloc | apply pw_below_drewN | apply below_drew1) | exact HB.out)⟩⟩
                              · rw [if_neg c12] at H
                                exact absurd H (by simp)
                            · rw [if_neg c11] at H
                              have c11b0 : decide (x5_3 < (((rd_T33 l0 x4_1).f3).length : Int)) = false := decide_eq_false c11
                              clear c11
                              have H' := Aside0.mk H
                              clear H
                              have p104 : 0 ≤ (x4_1 : Int) := of_decide_eq_true (by first | (with_reducible assumption) | assumption)
                              have q104 : x4_1 < (l0.length : Int) := of_decide_eq_true (by first | (with_reducible assumption) | assumption)
                              obtain ⟨ad104, A104_3, c104_3, A104_4, c104_4, A104_5, c104_5, e104, hx104_0, hx104_1, hx104_2, hx104_3, hx104_4, hx104_5, hl104_3, hi104_3, hl104_4, hi104_4, hl104_5, hi104_5⟩ := at_T33 HR0.out x4_1 p104 q104
                              obtain rfl : ad101 = ad104 := (by injection e104)
                              replace hx104_0 := (HB.out.cell (World.block_lt_of_cell? w _ hx104_0)).trans hx104_0
                              replace hx104_1 := (HB.out.cell (World.block_lt_of_cell? w _ hx104_1)).trans hx104_1
                              replace hx104_2 := (HB.out.cell (World.block_lt_of_cell? w _ hx104_2)).trans hx104_2
                              replace hx104_3 := (HB.out.cell (World.block_lt_of_cell? w _ hx104_3)).trans hx104_3
                              replace hx104_4 := (HB.out.cell (World.block_lt_of_cell? w _ hx104_4)).trans hx104_4
                              replace hx104_5 := (HB.out.cell (World.block_lt_of_cell? w _ hx104_5)).trans hx104_5
                              have HR104_3 := Aside0.mk hi104_3
                              have HC104_3 := Aside0.mk hl104_3
                              clear hi104_3 hl104_3
                              have HR104_4 := Aside0.mk hi104_4
                              have HC104_4 := Aside0.mk hl104_4
                              clear hi104_4 hl104_4
                              have HR104_5 := Aside0.mk hi104_5
                              have HC104_5 := Aside0.mk hl104_5
                              clear hi104_5 hl104_5
                              replace p104 := eq_true p104
                              replace q104 := eq_true q104
                              go_wp2
                              repeat (go_quiet (fail); try go_wp2)
                              go_loopg [3, 6] k3 (fun kq v3 v6 w' => ∃ (x3_4 : Int) (x6_4 : Int), v3 = .int .i64 x3_4 ∧ v6 = .int .i64 x6_4 ∧ Aside0 (batonlaw21_long.l2 kq l0 x3_4 x4_1 x6_4 = some r) ∧ Aside0 (kq ≤ k3) ∧ Aside0 (Below w.heap.size w w'))
                              case atStart => exact ⟨(x3_3), (0), (by first | rfl | (simp; done) | (simp [*]; done) | (simp [wrap64, wrap32]; done)), (by first | rfl | (simp; done) | (simp [*]; done) | (simp [wrap64, wrap32]; done)), H', ⟨Nat.le_refl _⟩, ⟨by repeat (first | (with_reducible first | exact HB.out | apply below_alloc | apply pw_below_drewN | apply below_drew1) | exact HB.out)⟩⟩
                              case round =>
                                clear H'
                                try clear c1
                                try clear p1
                                try clear q1
                                try clear hx1
                                try clear c2
                                try clear c2b0
                                try clear c2b1
                                try clear p2
                                try clear c4
                                try clear c4b0
                                try clear c5
                                try clear c6
                                try clear c6b0
                                try clear p6
                                try clear c7
                                try clear c7b0
                                try clear c8
                                try clear c8b0
                                try clear c9
                                try clear c9b0
                                try clear c10
                                try clear c10b0
                                try clear p10
                                try clear q10
                                try clear hx10
                                try clear c11
                                try clear c11b0
                                try clear c12
                                try clear c12b0
                                try clear hx101_0
                                try clear hx101_1
                                try clear hx101_2
                                try clear hx101_3
                                try clear hx101_4
                                try clear hx101_5
                                try clear hx102_0
                                try clear hx102_1
                                try clear hx102_2
                                try clear hx102_3
                                try clear hx102_4
                                try clear hx102_5
                                try clear hx103_0
                                try clear hx103_1
                                try clear hx103_2
                                try clear hx103_3
                                try clear hx103_4
                                try clear hx103_5
                                try clear hx104_0
                                try clear hx104_1
                                try clear hx104_2
                                try clear hx104_3
                                try clear hx104_4
                                try clear hx104_5
                                try clear hx105_0
                                try clear hx105_1
                                try clear hx105_2
                                try clear hx105_3
                                try clear hx105_4
                                try clear hx105_5
                                try clear hx106_0
                                try clear p1
                                try clear p101
                                try clear p102
                                try clear p103
                                try clear p104
                                try clear p105
                                try clear p106
                                try clear p2
                                try clear p6
                                try clear q1
                                try clear q101
                                try clear q102
                                try clear q103
                                try clear q104
                                try clear q105
                                try clear q106
                                obtain ⟨x3_4, x6_4, rfl, rfl, HA, HK4, HB⟩ := hrel
                                cases gk with
                                | zero => exact absurd HA.out (by simp [batonlaw21_long.l2])
                                | succ k4 =>
                                  have H := HA.out
                                  clear HA
                                  simp only [batonlaw21_long.l2] at H
                                  by_cases c14 : 0 ≤ x4_1
                                  · rw [if_pos c14] at H
                                    have c14b0 : decide (0 ≤ x4_1) = true := decide_eq_true c14
                                    clear c14
                                    by_cases c15 : x4_1 < (l0.length : Int)
                                    · rw [if_pos c15] at H
                                      have c15b0 : decide (x4_1 < (l0.length : Int)) = true := decide_eq_true c15
                                      clear c15
                                      by_cases c16 : x6_4 < (((rd_T33 l0 x4_1).f4).length : Int)
                                      · rw [if_pos c16] at H
                                        have c16b0 : decide (x6_4 < (((rd_T33 l0 x4_1).f4).length : Int)) = true := decide_eq_true c16
                                        clear c16
                                        by_cases c17 : 0 ≤ x6_4
                                        · rw [if_pos c17] at H
                                          have c17b0 : decide (0 ≤ x6_4) = true := decide_eq_true c17
                                          clear c17
                                          obtain ⟨ji18, hji18⟩ : ∃ j_ : Int, (mn (((rd_T46 ((rd_T33 l0 x4_1).f4) x6_4).f0).size : Int) 20000) = j_ := ⟨_, rfl⟩
                                          replace H : (batonlaw21_long.l2 k4 l0 (wrap64 ((wrap64 ((wrap64 (x3_4 + 20)) + (ji18))) + (mn (((rd_T46 ((rd_T33 l0 x4_1).f4) x6_4).f1).size : Int) 20000))) x4_1 (wrap64 (x6_4 + 1))) = some r := by first | (rw [hji18] at H; exact H) | (simp only [hji18] at H ⊢; exact H)
                                          have hji18_ : (if 20000 < (((rd_T46 ((rd_T33 l0 x4_1).f4) x6_4).f0).size : Int) then 20000 else (((rd_T46 ((rd_T33 l0 x4_1).f4) x6_4).f0).size : Int)) = ji18 := hji18
                                          obtain ⟨ji19, hji19⟩ : ∃ j_ : Int, (mn (((rd_T46 ((rd_T33 l0 x4_1).f4) x6_4).f1).size : Int) 20000) = j_ := ⟨_, rfl⟩
                                          replace H : (batonlaw21_long.l2 k4 l0 (wrap64 ((wrap64 ((wrap64 (x3_4 + 20)) + (ji18))) + (ji19))) x4_1 (wrap64 (x6_4 + 1))) = some r := by first | (rw [hji19] at H; exact H) | (simp only [hji19] at H ⊢; exact H)
                                          have hji19_ : (if 20000 < (((rd_T46 ((rd_T33 l0 x4_1).f4) x6_4).f1).size : Int) then 20000 else (((rd_T46 ((rd_T33 l0 x4_1).f4) x6_4).f1).size : Int)) = ji19 := hji19
                                          have H' := Aside0.mk H
                                          clear H
                                          have p107 : 0 ≤ (x4_1 : Int) := of_decide_eq_true (by first | (with_reducible assumption) | assumption)
                                          have q107 : x4_1 < (l0.length : Int) := of_decide_eq_true (by first | (with_reducible assumption) | assumption)
                                          obtain ⟨ad107, A107_3, c107_3, A107_4, c107_4, A107_5, c107_5, e107, hx107_0, hx107_1, hx107_2, hx107_3, hx107_4, hx107_5, hl107_3, hi107_3, hl107_4, hi107_4, hl107_5, hi107_5⟩ := at_T33 HR0.out x4_1 p107 q107
                                          obtain rfl : ad101 = ad107 := (by injection e107)
                                          replace hx107_0 := (HB.out.cell (World.block_lt_of_cell? w _ hx107_0)).trans hx107_0
                                          replace hx107_1 := (HB.out.cell (World.block_lt_of_cell? w _ hx107_1)).trans hx107_1
                                          replace hx107_2 := (HB.out.cell (World.block_lt_of_cell? w _ hx107_2)).trans hx107_2
                                          replace hx107_3 := (HB.out.cell (World.block_lt_of_cell? w _ hx107_3)).trans hx107_3
                                          replace hx107_4 := (HB.out.cell (World.block_lt_of_cell? w _ hx107_4)).trans hx107_4
                                          replace hx107_5 := (HB.out.cell (World.block_lt_of_cell? w _ hx107_5)).trans hx107_5
                                          have HR107_3 := Aside0.mk hi107_3
                                          have HC107_3 := Aside0.mk hl107_3
                                          clear hi107_3 hl107_3
                                          have HR107_4 := Aside0.mk hi107_4
                                          have HC107_4 := Aside0.mk hl107_4
                                          clear hi107_4 hl107_4
                                          have HR107_5 := Aside0.mk hi107_5
                                          have HC107_5 := Aside0.mk hl107_5
                                          clear hi107_5 hl107_5
                                          replace p107 := eq_true p107
                                          replace q107 := eq_true q107
                                          have p108 : 0 ≤ (x4_1 : Int) := of_decide_eq_true (by first | (with_reducible assumption) | assumption)
                                          have q108 : x4_1 < (l0.length : Int) := of_decide_eq_true (by first | (with_reducible assumption) | assumption)
                                          obtain ⟨ad108, A108_3, c108_3, A108_4, c108_4, A108_5, c108_5, e108, hx108_0, hx108_1, hx108_2, hx108_3, hx108_4, hx108_5, hl108_3, hi108_3, hl108_4, hi108_4, hl108_5, hi108_5⟩ := at_T33 HR0.out x4_1 p108 q108
                                          obtain rfl : ad101 = ad108 := (by injection e108)
                                          replace hx108_0 := (HB.out.cell (World.block_lt_of_cell? w _ hx108_0)).trans hx108_0
                                          replace hx108_1 := (HB.out.cell (World.block_lt_of_cell? w _ hx108_1)).trans hx108_1
                                          replace hx108_2 := (HB.out.cell (World.block_lt_of_cell? w _ hx108_2)).trans hx108_2
                                          replace hx108_3 := (HB.out.cell (World.block_lt_of_cell? w _ hx108_3)).trans hx108_3
                                          replace hx108_4 := (HB.out.cell (World.block_lt_of_cell? w _ hx108_4)).trans hx108_4
                                          replace hx108_5 := (HB.out.cell (World.block_lt_of_cell? w _ hx108_5)).trans hx108_5
                                          have HR108_3 := Aside0.mk hi108_3
                                          have HC108_3 := Aside0.mk hl108_3
                                          clear hi108_3 hl108_3
                                          have HR108_4 := Aside0.mk hi108_4
                                          have HC108_4 := Aside0.mk hl108_4
                                          clear hi108_4 hl108_4
                                          have HR108_5 := Aside0.mk hi108_5
                                          have HC108_5 := Aside0.mk hl108_5
                                          clear hi108_5 hl108_5
                                          replace p108 := eq_true p108
                                          replace q108 := eq_true q108
                                          have ea_ := Option.some.inj (hx107_3.symm.trans hx108_3)
                                          injection ea_ with ea_ en_ ec_
                                          subst ea_
                                          subst ec_
                                          clear en_
                                          have ea_ := Option.some.inj (hx107_4.symm.trans hx108_4)
                                          injection ea_ with ea_ en_ ec_
                                          subst ea_
                                          subst ec_
                                          clear en_
                                          have ea_ := Option.some.inj (hx107_5.symm.trans hx108_5)
                                          injection ea_ with ea_ en_ ec_
                                          subst ea_
                                          subst ec_
                                          clear en_
                                          have p109 : 0 ≤ (x6_4 : Int) := of_decide_eq_true (by first | (with_reducible assumption) | assumption)
                                          have q109 : x6_4 < (((rd_T33 l0 x4_1).f4).length : Int) := of_decide_eq_true (by first | (with_reducible assumption) | assumption)
                                          obtain ⟨ad109, e109, hx109_0, hx109_1, hx109_2, hx109_3⟩ := at_T46 HR108_4.out x6_4 p109 q109
                                          cases e109
                                          replace hx109_0 := (HB.out.cell (World.block_lt_of_cell? w _ hx109_0)).trans hx109_0
                                          replace hx109_1 := (HB.out.cell (World.block_lt_of_cell? w _ hx109_1)).trans hx109_1
                                          replace hx109_2 := (HB.out.cell (World.block_lt_of_cell? w _ hx109_2)).trans hx109_2
                                          replace hx109_3 := (HB.out.cell (World.block_lt_of_cell? w _ hx109_3)).trans hx109_3
                                          replace p109 := eq_true p109
                                          replace q109 := eq_true q109
                                          have p110 : 0 ≤ (x4_1 : Int) := of_decide_eq_true (by first | (with_reducible assumption) | assumption)
                                          have q110 : x4_1 < (l0.length : Int) := of_decide_eq_true (by first | (with_reducible assumption) | assumption)
                                          obtain ⟨ad110, A110_3, c110_3, A110_4, c110_4, A110_5, c110_5, e110, hx110_0, hx110_1, hx110_2, hx110_3, hx110_4, hx110_5, hl110_3, hi110_3, hl110_4, hi110_4, hl110_5, hi110_5⟩ := at_T33 HR0.out x4_1 p110 q110
                                          obtain rfl : ad101 = ad110 := (by injection e110)
                                          replace hx110_0 := (HB.out.cell (World.block_lt_of_cell? w _ hx110_0)).trans hx110_0
                                          replace hx110_1 := (HB.out.cell (World.block_lt_of_cell? w _ hx110_1)).trans hx110_1
                                          replace hx110_2 := (HB.out.cell (World.block_lt_of_cell? w _ hx110_2)).trans hx110_2
                                          replace hx110_3 := (HB.out.cell (World.block_lt_of_cell? w _ hx110_3)).trans hx110_3
                                          replace hx110_4 := (HB.out.cell (World.block_lt_of_cell? w _ hx110_4)).trans hx110_4
                                          replace hx110_5 := (HB.out.cell (World.block_lt_of_cell? w _ hx110_5)).trans hx110_5
                                          have HR110_3 := Aside0.mk hi110_3
                                          have HC110_3 := Aside0.mk hl110_3
                                          clear hi110_3 hl110_3
                                          have HR110_4 := Aside0.mk hi110_4
                                          have HC110_4 := Aside0.mk hl110_4
                                          clear hi110_4 hl110_4
                                          have HR110_5 := Aside0.mk hi110_5
                                          have HC110_5 := Aside0.mk hl110_5
                                          clear hi110_5 hl110_5
                                          replace p110 := eq_true p110
                                          replace q110 := eq_true q110
                                          have ea_ := Option.some.inj (hx107_3.symm.trans hx110_3)
                                          injection ea_ with ea_ en_ ec_
                                          subst ea_
                                          subst ec_
                                          clear en_
                                          have ea_ := Option.some.inj (hx107_4.symm.trans hx110_4)
                                          injection ea_ with ea_ en_ ec_
                                          subst ea_
                                          subst ec_
                                          clear en_
                                          have ea_ := Option.some.inj (hx107_5.symm.trans hx110_5)
                                          injection ea_ with ea_ en_ ec_
                                          subst ea_
                                          subst ec_
                                          clear en_
                                          have p111 : 0 ≤ (x6_4 : Int) := of_decide_eq_true (by first | (with_reducible assumption) | assumption)
                                          have q111 : x6_4 < (((rd_T33 l0 x4_1).f4).length : Int) := of_decide_eq_true (by first | (with_reducible assumption) | assumption)
                                          obtain ⟨ad111, e111, hx111_0, hx111_1, hx111_2, hx111_3⟩ := at_T46 HR110_4.out x6_4 p111 q111
                                          cases e111
                                          replace hx111_0 := (HB.out.cell (World.block_lt_of_cell? w _ hx111_0)).trans hx111_0
                                          replace hx111_1 := (HB.out.cell (World.block_lt_of_cell? w _ hx111_1)).trans hx111_1
                                          replace hx111_2 := (HB.out.cell (World.block_lt_of_cell? w _ hx111_2)).trans hx111_2
                                          replace hx111_3 := (HB.out.cell (World.block_lt_of_cell? w _ hx111_3)).trans hx111_3
                                          replace p111 := eq_true p111
                                          replace q111 := eq_true q111
                                          go_wp2
                                          repeat (go_quiet (fail); try go_wp2)
                                          go_roundg k4
                                          case measure => have := HK1.out; have := HJ2.out; have := HK3.out; have := HK4.out; omega
                                          case rel => exact ⟨(wrap64 ((wrap64 ((wrap64 (x3_4 + 20)) + (ji18))) + (ji19))), (wrap64 (x6_4 + 1)), (by first | rfl | (simp; done) | (simp only [← hji18, ← hji19] <;> (first | rfl | simp)) | (simp [*]; done)), (by first | rfl | (simp; done) | (simp [*]; done) | (simp [wrap64, wrap32]; done)), H', ⟨by have := HK1.out; have := HJ2.out; have := HK3.out; have := HK4.out; omega⟩, ⟨by repeat (first | (with_reducible first | exact HB.out | apply below_alloc | apply pw_below_drewN | apply below_drew1) | exact HB.out)⟩⟩
                                        · rw [if_neg c17] at H
                                          exact absurd H (by simp)
                                      · rw [if_neg c16] at H
                                        have c16b0 : decide (x6_4 < (((rd_T33 l0 x4_1).f4).length : Int)) = false := decide_eq_false c16
                                        clear c16
                                        have H' := Aside0.mk H
                                        clear H
                                        have p107 : 0 ≤ (x4_1 : Int) := of_decide_eq_true (by first | (with_reducible assumption) | assumption)
                                        have q107 : x4_1 < (l0.length : Int) := of_decide_eq_true (by first | (with_reducible assumption) | assumption)
                                        obtain ⟨ad107, A107_3, c107_3, A107_4, c107_4, A107_5, c107_5, e107, hx107_0, hx107_1, hx107_2, hx107_3, hx107_4, hx107_5, hl107_3, hi107_3, hl107_4, hi107_4, hl107_5, hi107_5⟩ := at_T33 HR0.out x4_1 p107 q107
                                        obtain rfl : ad101 = ad107 := (by injection e107)
                                        replace hx107_0 := (HB.out.cell (World.block_lt_of_cell? w _ hx107_0)).trans hx107_0
                                        replace hx107_1 := (HB.out.cell (World.block_lt_of_cell? w _ hx107_1)).trans hx107_1
                                        replace hx107_2 := (HB.out.cell (World.block_lt_of_cell? w _ hx107_2)).trans hx107_2
                                        replace hx107_3 := (HB.out.cell (World.block_lt_of_cell? w _ hx107_3)).trans hx107_3
                                        replace hx107_4 := (HB.out.cell (World.block_lt_of_cell? w _ hx107_4)).trans hx107_4
                                        replace hx107_5 := (HB.out.cell (World.block_lt_of_cell? w _ hx107_5)).trans hx107_5
                                        have HR107_3 := Aside0.mk hi107_3
                                        have HC107_3 := Aside0.mk hl107_3
                                        clear hi107_3 hl107_3
                                        have HR107_4 := Aside0.mk hi107_4
                                        have HC107_4 := Aside0.mk hl107_4
                                        clear hi107_4 hl107_4
                                        have HR107_5 := Aside0.mk hi107_5
                                        have HC107_5 := Aside0.mk hl107_5
                                        clear hi107_5 hl107_5
                                        replace p107 := eq_true p107
                                        replace q107 := eq_true q107
                                        go_wp2
                                        repeat (go_quiet (fail); try go_wp2)
                                        go_loopg [3, 7] k4 (fun kq v3 v7 w' => ∃ (x3_5 : Int) (x7_5 : Int), v3 = .int .i64 x3_5 ∧ v7 = .int .i64 x7_5 ∧ Aside0 (batonlaw21_long.l3 kq l0 x3_5 x4_1 x7_5 = some r) ∧ Aside0 (kq ≤ k4) ∧ Aside0 (Below w.heap.size w w'))
                                        case atStart => exact ⟨(x3_4), (0), (by first | rfl | (simp; done) | (simp [*]; done) | (simp [wrap64, wrap32]; done)), (by first | rfl | (simp; done) | (simp [*]; done) | (simp [wrap64, wrap32]; done)), H', ⟨Nat.le_refl _⟩, ⟨by repeat (first | (with_reducible first | exact HB.out | apply below_alloc | apply pw_below_drewN | apply below_drew1) | exact HB.out)⟩⟩
                                        case round =>
                                          clear H'
                                          try clear c1
                                          try clear p1
                                          try clear q1
                                          try clear hx1
                                          try clear c2
                                          try clear c2b0
                                          try clear c2b1
                                          try clear p2
                                          try clear c4
                                          try clear c4b0
                                          try clear c5
                                          try clear c6
                                          try clear c6b0
                                          try clear p6
                                          try clear c7
                                          try clear c7b0
                                          try clear c8
                                          try clear c8b0
                                          try clear c9
                                          try clear c9b0
                                          try clear c10
                                          try clear c10b0
                                          try clear p10
                                          try clear q10
                                          try clear hx10
                                          try clear c11
                                          try clear c11b0
                                          try clear p11
                                          try clear q11
                                          try clear hx11
                                          try clear c12
                                          try clear c12b0
                                          try clear c14
                                          try clear c14b0
                                          try clear c15
                                          try clear c15b0
                                          try clear c16
                                          try clear c16b0
                                          try clear c17
                                          try clear c17b0
                                          try clear hx101_0
                                          try clear hx101_1
                                          try clear hx101_2
                                          try clear hx101_3
                                          try clear hx101_4
                                          try clear hx101_5
                                          try clear hx102_0
                                          try clear hx102_1
                                          try clear hx102_2
                                          try clear hx102_3
                                          try clear hx102_4
                                          try clear hx102_5
                                          try clear hx103_0
                                          try clear hx103_1
                                          try clear hx103_2
                                          try clear hx103_3
                                          try clear hx103_4
                                          try clear hx103_5
                                          try clear hx104_0
                                          try clear hx104_1
                                          try clear hx104_2
                                          try clear hx104_3
                                          try clear hx104_4
                                          try clear hx104_5
                                          try clear hx105_0
                                          try clear hx105_1
                                          try clear hx105_2
                                          try clear hx105_3
                                          try clear hx105_4
                                          try clear hx105_5
                                          try clear hx106_0
                                          try clear hx107_0
                                          try clear hx107_1
                                          try clear hx107_2
                                          try clear hx107_3
                                          try clear hx107_4
                                          try clear hx107_5
                                          try clear hx108_0
                                          try clear hx108_1
                                          try clear hx108_2
                                          try clear hx108_3
                                          try clear hx108_4
                                          try clear hx108_5
                                          try clear hx109_0
                                          try clear hx109_1
                                          try clear hx109_2
                                          try clear hx109_3
                                          try clear hx110_0
                                          try clear hx110_1
                                          try clear hx110_2
                                          try clear hx110_3
                                          try clear hx110_4
                                          try clear hx110_5
                                          try clear hx111_0
                                          try clear hx111_1
                                          try clear hx111_2
                                          try clear hx111_3
                                          try clear p1
                                          try clear p10
                                          try clear p101
                                          try clear p102
                                          try clear p103
                                          try clear p104
                                          try clear p105
                                          try clear p106
                                          try clear p107
                                          try clear p108
                                          try clear p109
                                          try clear p110
                                          try clear p111
                                          try clear p2
                                          try clear p6
                                          try clear q1
                                          try clear q10
                                          try clear q101
                                          try clear q102
                                          try clear q103
                                          try clear q104
                                          try clear q105
                                          try clear q106
                                          try clear q107
                                          try clear q108
                                          try clear q109
                                          try clear q110
                                          try clear q111
                                          obtain ⟨x3_5, x7_5, rfl, rfl, HA, HK5, HB⟩ := hrel
                                          cases gk with
                                          | zero => exact absurd HA.out (by simp [batonlaw21_long.l3])
                                          | succ k5 =>
                                            have H := HA.out
                                            clear HA
                                            simp only [batonlaw21_long.l3] at H
                                            by_cases c20 : 0 ≤ x4_1
                                            · rw [if_pos c20] at H
                                              have c20b0 : decide (0 ≤ x4_1) = true := decide_eq_true c20
                                              clear c20
                                              by_cases c21 : x4_1 < (l0.length : Int)
                                              · rw [if_pos c21] at H
                                                have c21b0 : decide (x4_1 < (l0.length : Int)) = true := decide_eq_true c21
                                                clear c21
                                                by_cases c22 : x7_5 < (((rd_T33 l0 x4_1).f5).length : Int)
                                                · rw [if_pos c22] at H
                                                  have c22b0 : decide (x7_5 < (((rd_T33 l0 x4_1).f5).length : Int)) = true := decide_eq_true c22
                                                  clear c22
                                                  by_cases c23 : 0 ≤ x7_5
                                                  · rw [if_pos c23] at H
                                                    have c23b0 : decide (0 ≤ x7_5) = true := decide_eq_true c23
                                                    clear c23
                                                    obtain ⟨ji24, hji24⟩ : ∃ j_ : Int, (mn (((rd_T75 ((rd_T33 l0 x4_1).f5) x7_5).f2).size : Int) 20000) = j_ := ⟨_, rfl⟩
                                                    replace H : (batonlaw21_long.l3 k5 l0 (wrap64 ((wrap64 ((wrap64 (x3_5 + 20)) + (ji24))) + (mn (((rd_T75 ((rd_T33 l0 x4_1).f5) x7_5).f3).size : Int) 20000))) x4_1 (wrap64 (x7_5 + 1))) = some r := by first | (rw [hji24] at H; exact H) | (simp only [hji24] at H ⊢; exact H)
                                                    have hji24_ : (if 20000 < (((rd_T75 ((rd_T33 l0 x4_1).f5) x7_5).f2).size : Int) then 20000 else (((rd_T75 ((rd_T33 l0 x4_1).f5) x7_5).f2).size : Int)) = ji24 := hji24
                                                    obtain ⟨ji25, hji25⟩ : ∃ j_ : Int, (mn (((rd_T75 ((rd_T33 l0 x4_1).f5) x7_5).f3).size : Int) 20000) = j_ := ⟨_, rfl⟩
                                                    replace H : (batonlaw21_long.l3 k5 l0 (wrap64 ((wrap64 ((wrap64 (x3_5 + 20)) + (ji24))) + (ji25))) x4_1 (wrap64 (x7_5 + 1))) = some r := by first | (rw [hji25] at H; exact H) | (simp only [hji25] at H ⊢; exact H)
                                                    have hji25_ : (if 20000 < (((rd_T75 ((rd_T33 l0 x4_1).f5) x7_5).f3).size : Int) then 20000 else (((rd_T75 ((rd_T33 l0 x4_1).f5) x7_5).f3).size : Int)) = ji25 := hji25
                                                    have H' := Aside0.mk H
                                                    clear H
                                                    have p112 : 0 ≤ (x4_1 : Int) := of_decide_eq_true (by first | (with_reducible assumption) | assumption)
                                                    have q112 : x4_1 < (l0.length : Int) := of_decide_eq_true (by first | (with_reducible assumption) | assumption)
                                                    obtain ⟨ad112, A112_3, c112_3, A112_4, c112_4, A112_5, c112_5, e112, hx112_0, hx112_1, hx112_2, hx112_3, hx112_4, hx112_5, hl112_3, hi112_3, hl112_4, hi112_4, hl112_5, hi112_5⟩ := at_T33 HR0.out x4_1 p112 q112
                                                    obtain rfl : ad101 = ad112 := (by injection e112)
                                                    replace hx112_0 := (HB.out.cell (World.block_lt_of_cell? w _ hx112_0)).trans hx112_0
                                                    replace hx112_1 := (HB.out.cell (World.block_lt_of_cell? w _ hx112_1)).trans hx112_1
                                                    replace hx112_2 := (HB.out.cell (World.block_lt_of_cell? w _ hx112_2)).trans hx112_2
                                                    replace hx112_3 := (HB.out.cell (World.block_lt_of_cell? w _ hx112_3)).trans hx112_3
                                                    replace hx112_4 := (HB.out.cell (World.block_lt_of_cell? w _ hx112_4)).trans hx112_4
                                                    replace hx112_5 := (HB.out.cell (World.block_lt_of_cell? w _ hx112_5)).trans hx112_5
                                                    have HR112_3 := Aside0.mk hi112_3
                                                    have HC112_3 := Aside0.mk hl112_3
                                                    clear hi112_3 hl112_3
                                                    have HR112_4 := Aside0.mk hi112_4
                                                    have HC112_4 := Aside0.mk hl112_4
                                                    clear hi112_4 hl112_4
                                                    have HR112_5 := Aside0.mk hi112_5
                                                    have HC112_5 := Aside0.mk hl112_5
                                                    clear hi112_5 hl112_5
                                                    replace p112 := eq_true p112
                                                    replace q112 := eq_true q112
                                                    have p113 : 0 ≤ (x4_1 : Int) := of_decide_eq_true (by first | (with_reducible assumption) | assumption)
                                                    have q113 : x4_1 < (l0.length : Int) := of_decide_eq_true (by first | (with_reducible assumption) | assumption)
                                                    obtain ⟨ad113, A113_3, c113_3, A113_4, c113_4, A113_5, c113_5, e113, hx113_0, hx113_1, hx113_2, hx113_3, hx113_4, hx113_5, hl113_3, hi113_3, hl113_4, hi113_4, hl113_5, hi113_5⟩ := at_T33 HR0.out x4_1 p113 q113
                                                    obtain rfl : ad101 = ad113 := (by injection e113)
                                                    replace hx113_0 := (HB.out.cell (World.block_lt_of_cell? w _ hx113_0)).trans hx113_0
                                                    replace hx113_1 := (HB.out.cell (World.block_lt_of_cell? w _ hx113_1)).trans hx113_1
                                                    replace hx113_2 := (HB.out.cell (World.block_lt_of_cell? w _ hx113_2)).trans hx113_2
                                                    replace hx113_3 := (HB.out.cell (World.block_lt_of_cell? w _ hx113_3)).trans hx113_3
                                                    replace hx113_4 := (HB.out.cell (World.block_lt_of_cell? w _ hx113_4)).trans hx113_4
                                                    replace hx113_5 := (HB.out.cell (World.block_lt_of_cell? w _ hx113_5)).trans hx113_5
                                                    have HR113_3 := Aside0.mk hi113_3
                                                    have HC113_3 := Aside0.mk hl113_3
                                                    clear hi113_3 hl113_3
                                                    have HR113_4 := Aside0.mk hi113_4
                                                    have HC113_4 := Aside0.mk hl113_4
                                                    clear hi113_4 hl113_4
                                                    have HR113_5 := Aside0.mk hi113_5
                                                    have HC113_5 := Aside0.mk hl113_5
                                                    clear hi113_5 hl113_5
                                                    replace p113 := eq_true p113
                                                    replace q113 := eq_true q113
                                                    have ea_ := Option.some.inj (hx112_3.symm.trans hx113_3)
                                                    injection ea_ with ea_ en_ ec_
                                                    subst ea_
                                                    subst ec_
                                                    clear en_
                                                    have ea_ := Option.some.inj (hx112_4.symm.trans hx113_4)
                                                    injection ea_ with ea_ en_ ec_
                                                    subst ea_
                                                    subst ec_
                                                    clear en_
                                                    have ea_ := Option.some.inj (hx112_5.symm.trans hx113_5)
                                                    injection ea_ with ea_ en_ ec_
                                                    subst ea_
                                                    subst ec_
                                                    clear en_
                                                    have p114 : 0 ≤ (x7_5 : Int) := of_decide_eq_true (by first | (with_reducible assumption) | assumption)
                                                    have q114 : x7_5 < (((rd_T33 l0 x4_1).f5).length : Int) := of_decide_eq_true (by first | (with_reducible assumption) | assumption)
                                                    obtain ⟨ad114, e114, hx114_0, hx114_1, hx114_2, hx114_3⟩ := at_T75 HR113_5.out x7_5 p114 q114
                                                    cases e114
                                                    replace hx114_0 := (HB.out.cell (World.block_lt_of_cell? w _ hx114_0)).trans hx114_0
                                                    replace hx114_1 := (HB.out.cell (World.block_lt_of_cell? w _ hx114_1)).trans hx114_1
                                                    replace hx114_2 := (HB.out.cell (World.block_lt_of_cell? w _ hx114_2)).trans hx114_2
                                                    replace hx114_3 := (HB.out.cell (World.block_lt_of_cell? w _ hx114_3)).trans hx114_3
                                                    replace p114 := eq_true p114
                                                    replace q114 := eq_true q114
                                                    have p115 : 0 ≤ (x4_1 : Int) := of_decide_eq_true (by first | (with_reducible assumption) | assumption)
                                                    have q115 : x4_1 < (l0.length : Int) := of_decide_eq_true (by first | (with_reducible assumption) | assumption)
                                                    obtain ⟨ad115, A115_3, c115_3, A115_4, c115_4, A115_5, c115_5, e115, hx115_0, hx115_1, hx115_2, hx115_3, hx115_4, hx115_5, hl115_3, hi115_3, hl115_4, hi115_4, hl115_5, hi115_5⟩ := at_T33 HR0.out x4_1 p115 q115
                                                    obtain rfl : ad101 = ad115 := (by injection e115)
                                                    replace hx115_0 := (HB.out.cell (World.block_lt_of_cell? w _ hx115_0)).trans hx115_0
                                                    replace hx115_1 := (HB.out.cell (World.block_lt_of_cell? w _ hx115_1)).trans hx115_1
                                                    replace hx115_2 := (HB.out.cell (World.block_lt_of_cell? w _ hx115_2)).trans hx115_2
                                                    replace hx115_3 := (HB.out.cell (World.block_lt_of_cell? w _ hx115_3)).trans hx115_3
                                                    replace hx115_4 := (HB.out.cell (World.block_lt_of_cell? w _ hx115_4)).trans hx115_4
                                                    replace hx115_5 := (HB.out.cell (World.block_lt_of_cell? w _ hx115_5)).trans hx115_5
                                                    have HR115_3 := Aside0.mk hi115_3
                                                    have HC115_3 := Aside0.mk hl115_3
                                                    clear hi115_3 hl115_3
                                                    have HR115_4 := Aside0.mk hi115_4
                                                    have HC115_4 := Aside0.mk hl115_4
                                                    clear hi115_4 hl115_4
                                                    have HR115_5 := Aside0.mk hi115_5
                                                    have HC115_5 := Aside0.mk hl115_5
                                                    clear hi115_5 hl115_5
                                                    replace p115 := eq_true p115
                                                    replace q115 := eq_true q115
                                                    have ea_ := Option.some.inj (hx112_3.symm.trans hx115_3)
                                                    injection ea_ with ea_ en_ ec_
                                                    subst ea_
                                                    subst ec_
                                                    clear en_
                                                    have ea_ := Option.some.inj (hx112_4.symm.trans hx115_4)
                                                    injection ea_ with ea_ en_ ec_
                                                    subst ea_
                                                    subst ec_
                                                    clear en_
                                                    have ea_ := Option.some.inj (hx112_5.symm.trans hx115_5)
                                                    injection ea_ with ea_ en_ ec_
                                                    subst ea_
                                                    subst ec_
                                                    clear en_
                                                    have p116 : 0 ≤ (x7_5 : Int) := of_decide_eq_true (by first | (with_reducible assumption) | assumption)
                                                    have q116 : x7_5 < (((rd_T33 l0 x4_1).f5).length : Int) := of_decide_eq_true (by first | (with_reducible assumption) | assumption)
                                                    obtain ⟨ad116, e116, hx116_0, hx116_1, hx116_2, hx116_3⟩ := at_T75 HR115_5.out x7_5 p116 q116
                                                    cases e116
                                                    replace hx116_0 := (HB.out.cell (World.block_lt_of_cell? w _ hx116_0)).trans hx116_0
                                                    replace hx116_1 := (HB.out.cell (World.block_lt_of_cell? w _ hx116_1)).trans hx116_1
                                                    replace hx116_2 := (HB.out.cell (World.block_lt_of_cell? w _ hx116_2)).trans hx116_2
                                                    replace hx116_3 := (HB.out.cell (World.block_lt_of_cell? w _ hx116_3)).trans hx116_3
                                                    replace p116 := eq_true p116
                                                    replace q116 := eq_true q116
                                                    go_wp2
                                                    repeat (go_quiet (fail); try go_wp2)
                                                    go_roundg k5
                                                    case measure => have := HK1.out; have := HJ2.out; have := HK3.out; have := HK4.out; have := HK5.out; omega
                                                    case rel => exact ⟨(wrap64 ((wrap64 ((wrap64 (x3_5 + 20)) + (ji24))) + (ji25))), (wrap64 (x7_5 + 1)), (by first | rfl | (simp; done) | (simp only [← hji24, ← hji25] <;> (first | rfl | simp)) | (simp [*]; done)), (by first | rfl | (simp; done) | (simp [*]; done) | (simp [wrap64, wrap32]; done)), H', ⟨by have := HK1.out; have := HJ2.out; have := HK3.out; have := HK4.out; have := HK5.out; omega⟩, ⟨by repeat (first | (with_reducible first | exact HB.out | apply below_alloc | apply pw_below_drewN | apply below_drew1) | exact HB.out)⟩⟩
                                                  · rw [if_neg c23] at H
                                                    exact absurd H (by simp)
                                                · rw [if_neg c22] at H
                                                  have c22b0 : decide (x7_5 < (((rd_T33 l0 x4_1).f5).length : Int)) = false := decide_eq_false c22
                                                  clear c22
                                                  have H' := Aside0.mk H
                                                  clear H
                                                  have p112 : 0 ≤ (x4_1 : Int) := of_decide_eq_true (by first | (with_reducible assumption) | assumption)
                                                  have q112 : x4_1 < (l0.length : Int) := of_decide_eq_true (by first | (with_reducible assumption) | assumption)
                                                  obtain ⟨ad112, A112_3, c112_3, A112_4, c112_4, A112_5, c112_5, e112, hx112_0, hx112_1, hx112_2, hx112_3, hx112_4, hx112_5, hl112_3, hi112_3, hl112_4, hi112_4, hl112_5, hi112_5⟩ := at_T33 HR0.out x4_1 p112 q112
                                                  obtain rfl : ad101 = ad112 := (by injection e112)
                                                  replace hx112_0 := (HB.out.cell (World.block_lt_of_cell? w _ hx112_0)).trans hx112_0
                                                  replace hx112_1 := (HB.out.cell (World.block_lt_of_cell? w _ hx112_1)).trans hx112_1
                                                  replace hx112_2 := (HB.out.cell (World.block_lt_of_cell? w _ hx112_2)).trans hx112_2
                                                  replace hx112_3 := (HB.out.cell (World.block_lt_of_cell? w _ hx112_3)).trans hx112_3
                                                  replace hx112_4 := (HB.out.cell (World.block_lt_of_cell? w _ hx112_4)).trans hx112_4
                                                  replace hx112_5 := (HB.out.cell (World.block_lt_of_cell? w _ hx112_5)).trans hx112_5
                                                  have HR112_3 := Aside0.mk hi112_3
                                                  have HC112_3 := Aside0.mk hl112_3
                                                  clear hi112_3 hl112_3
                                                  have HR112_4 := Aside0.mk hi112_4
                                                  have HC112_4 := Aside0.mk hl112_4
                                                  clear hi112_4 hl112_4
                                                  have HR112_5 := Aside0.mk hi112_5
                                                  have HC112_5 := Aside0.mk hl112_5
                                                  clear hi112_5 hl112_5
                                                  replace p112 := eq_true p112
                                                  replace q112 := eq_true q112
                                                  go_wp2
                                                  repeat (go_quiet (fail); try go_wp2)
                                                  go_roundg k5
                                                  case measure => have := HK1.out; have := HJ2.out; have := HK3.out; have := HK4.out; have := HK5.out; omega
                                                  case rel => exact ⟨(x3_5), (wrap64 (x4_1 + 1)), (by first | rfl | (simp; done) | (simp [*]; done) | (simp [wrap64, wrap32]; done)), (by first | rfl | (simp; done) | (simp [*]; done) | (simp [wrap64, wrap32]; done)), H', ⟨by have := HK1.out; have := HJ2.out; have := HK3.out; have := HK4.out; have := HK5.out; omega⟩, ⟨by repeat (first | (with_reducible first | exact HB.out | apply below_alloc | apply pw_below_drewN | apply below_drew1) | exact HB.out)⟩⟩
                                              · rw [if_neg c21] at H
                                                exact absurd H (by simp)
                                            · rw [if_neg c20] at H
                                              exact absurd H (by simp)
                                    · rw [if_neg c15] at H
                                      exact absurd H (by simp)
                                  · rw [if_neg c14] at H
                                    exact absurd H (by simp)
                          · rw [if_neg c10] at H
                            exact absurd H (by simp)
                        · rw [if_neg c9] at H
                          exact absurd H (by simp)
                · rw [if_neg c7] at H
                  exact absurd H (by simp)
              · rw [if_neg c6] at H
                exact absurd H (by simp)
            · replace c5 := Bool.eq_false_iff.mpr c5
              subst c5
              have H1 : (some (decide (x3_1 ≥ 20000))) = some r := by rw [if_neg (show ¬ (false = true) by decide)] at H; exact H
              clear H
              have H := H1
              clear H1
              obtain rfl := Option.some.inj H
              go_wp2
              repeat (go_quiet (fail); try go_wp2)
              go_ret
              exact ⟨by first | rfl | (simp [errW_none, errW_some] <;> rfl) | (simp [*, errW_none, errW_some] <;> rfl), by repeat (first | (with_reducible first | exact HB.out | apply below_alloc | apply pw_below_drewN | apply below_drew1) | exact HB.out)⟩

end Go.Proofs.Ytagkobpbhfkmdaa.Q
