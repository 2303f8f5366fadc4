-- Written by this session's own program (wip/myprint.py), in the form of the kit's print; checked by Lean alone.
import Derived.Test.YtijjdgmcjienlaaQx0
import Derived.Test.YtijjdgmcjienlaaQx1
namespace Go.Proofs.Ytijjdgmcjienlaa.Q
open Go.RowKit Go.Proofs.YtijjdgmcjienlaaW.PrintWords Go.Proofs.YtijjdgmcjienlaaW.PrintLast Go.Proofs.YtijjdgmcjienlaaW.PrintMore
attribute [local go_sem] max2_int min2_int max_two min_two max_three min_three max_four min_four   -- for this text's walks alone
set_option linter.unusedVariables false
set_option linter.unusedSimpArgs false

/-! ### labels_MayName: function 36 -/
def labels_MayName.l0 : Nat → ByteArray → Int → Int → Option (Bool)
  | 0, _, _, _ => none
  | k + 1, x0, x5, x6 => if x6 < x5 then (if 0 ≤ x6 then (if x6 < (x0.size : Int) then ((labels_letter.f k (bt x0 x6) (x6 == 0)).bind fun t107 => (if t107 = true then (labels_MayName.l0 k x0 x5 (wrap64 (x6 + 1))) else (some false))) else (none)) else (none)) else (if x0.toList = ([] : List UInt8) then (some false) else (some (decide ((x0.size : Int) ≤ 64))))
def labels_MayName.f (k : Nat) (a0 : ByteArray) : Option (Bool) := labels_MayName.l0 k a0 (a0.size : Int) 0
theorem labels_MayName.mono_l : ∀ k, (∀ y0 y1 y2, LeO (labels_MayName.l0 k y0 y1 y2) (labels_MayName.l0 (k + 1) y0 y1 y2))
  | 0 => fun _ _ _ r h => by simp [labels_MayName.l0] at h
  | k + 1 => by
    have ih0 := labels_MayName.mono_l k
    · intro y0 y1 y2
      unfold labels_MayName.l0
      repeat' first
      | (with_reducible exact ih0 _ _ _)
      | (with_reducible exact labels_letter.mono _ _ _)
      | (with_reducible exact LeO.refl _)
      | (with_reducible exact LeO.none _)
      | (with_reducible refine LeO.ite ?_ ?_)
      | (with_reducible refine LeO.bind ?_ (fun _ => ?_))
      | exact ih0 _ _ _
      | exact labels_letter.mono _ _ _
      | exact LeO.none _
      | refine LeO.ite ?_ ?_
      | refine LeO.bind ?_ (fun _ => ?_)
theorem labels_MayName.mono : ∀ a0 k, LeO (labels_MayName.f k a0) (labels_MayName.f (k + 1) a0) := by
  intro a0 k
  have ih0 := labels_MayName.mono_l k
  unfold labels_MayName.f
  repeat' first
      | (with_reducible exact ih0 _ _ _)
      | (with_reducible exact labels_letter.mono _ _ _)
      | (with_reducible exact LeO.refl _)
      | (with_reducible exact LeO.none _)
      | (with_reducible refine LeO.ite ?_ ?_)
      | (with_reducible refine LeO.bind ?_ (fun _ => ?_))
      | exact ih0 _ _ _
      | exact labels_letter.mono _ _ _
      | exact LeO.none _
      | refine LeO.ite ?_ ?_
      | refine LeO.bind ?_ (fun _ => ?_)
set_option maxHeartbeats 8000000 in
set_option maxRecDepth 100000 in
theorem labels_MayName.calls (k : Nat) (a0 : ByteArray) (r : Bool) (w : World) (h : labels_MayName.f k a0 = some r) :
    Calls Try.prog 36 #[.string a0] w fun e w' => e = .returned (.bool r) ∧ Drawn0 w w' := by
  have H : (labels_MayName.l0 k a0 (a0.size : Int) 0) = some r := h
  clear h
  have H' := Aside0.mk H
  clear H
  go_enter Try.func36, Try.ntmps36
  go_wp2
  go_loopg [6] k (fun kq v6 w' => ∃ (x6_1 : Int), v6 = .int .i64 x6_1 ∧ Aside0 (labels_MayName.l0 kq a0 (a0.size : Int) x6_1 = some r) ∧ Aside0 (kq ≤ k) ∧ Drawn0 w w')
  case atStart => exact ⟨(0), (by first | rfl | (simp; done) | (simp [*]; done) | (simp [wrap64, wrap32]; done)), H', ⟨Nat.le_refl _⟩, by repeat (first | exact Drawn0.refl _ | apply Drawn0.step)⟩
  case round =>
    clear H'
    obtain ⟨x6_1, rfl, HA, HK1, ⟨m1, rfl⟩⟩ := hrel
    cases gk with
    | zero => exact absurd HA.out (by simp [labels_MayName.l0])
    | succ k1 =>
      have H := HA.out
      clear HA
      simp only [labels_MayName.l0] at H
      by_cases c2 : x6_1 < (a0.size : Int)
      · rw [if_pos c2] at H
        have c2b0 : decide (x6_1 < (a0.size : Int)) = true := decide_eq_true c2
        clear c2
        by_cases c3 : 0 ≤ x6_1
        · rw [if_pos c3] at H
          have c3b0 : decide (0 ≤ x6_1) = true := decide_eq_true c3
          clear c3
          by_cases c4 : x6_1 < (a0.size : Int)
          · rw [if_pos c4] at H
            have c4b0 : decide (x6_1 < (a0.size : Int)) = true := decide_eq_true c4
            clear c4
            replace H := Option.bind_eq_some_iff.mp H
            obtain ⟨t107, A60, H⟩ := H
            replace H : (if t107 = true then (labels_MayName.l0 k1 a0 (a0.size : Int) (wrap64 (x6_1 + 1))) else (some false)) = some r := H
            have A6 := Aside0.mk A60
            clear A60
            by_cases c7 : t107 = true
            · subst c7
              have H1 : (labels_MayName.l0 k1 a0 (a0.size : Int) (wrap64 (x6_1 + 1))) = some r := by rw [if_pos rfl] at H; exact H
              clear H
              have H := H1
              clear H1
              have H' := Aside0.mk H
              clear H
              have p5 : 0 ≤ (x6_1 : Int) := of_decide_eq_true (by first | (with_reducible assumption) | assumption)
              have q5 : x6_1 < (a0.size : Int) := of_decide_eq_true (by first | (with_reducible assumption) | assumption)
              have hx5 := bt_at a0 x6_1
              replace p5 := eq_true p5
              replace q5 := eq_true q5
              go_wp2_with (first | ((with_reducible refine gate_callee (f := 44) rfl ?_); refine goesL_ (some 14) rfl rfl Try.func44 (by kernel_rfl) rfl #[.int .u8 (bt a0 x6_1), .bool (x6_1 == 0)] rfl (by (try simp only [List.map_toArray, List.map_cons, List.map_nil]); first | done | rfl | (simp only [List.length_drop, List.length_take]; rfl)) ?_; (with_reducible refine (labels_letter.calls k1 (bt a0 x6_1) (x6_1 == 0) true _ A6.out).mono ?_); rintro e w' ⟨rfl, ⟨nd, rfl⟩⟩; refine ⟨_, rfl, ?_⟩))
              go_roundg k1
              case measure => have := HK1.out; omega
              case rel => exact ⟨(wrap64 (x6_1 + 1)), (by first | rfl | (simp; done) | (simp [*]; done) | (simp [wrap64, wrap32]; done)), H', ⟨by have := HK1.out; omega⟩, by repeat (first | exact Drawn0.refl _ | apply Drawn0.step)⟩
            · replace c7 := Bool.eq_false_iff.mpr c7
              subst c7
              have H1 : (some false) = some r := by rw [if_neg (show ¬ (false = true) by decide)] at H; exact H
              clear H
              have H := H1
              clear H1
              obtain rfl := Option.some.inj H
              have p5 : 0 ≤ (x6_1 : Int) := of_decide_eq_true (by first | (with_reducible assumption) | assumption)
              have q5 : x6_1 < (a0.size : Int) := of_decide_eq_true (by first | (with_reducible assumption) | assumption)
              have hx5 := bt_at a0 x6_1
              replace p5 := eq_true p5
              replace q5 := eq_true q5
              go_wp2_with (first | ((with_reducible refine gate_callee (f := 44) rfl ?_); refine goesL_ (some 14) rfl rfl Try.func44 (by kernel_rfl) rfl #[.int .u8 (bt a0 x6_1), .bool (x6_1 == 0)] rfl (by (try simp only [List.map_toArray, List.map_cons, List.map_nil]); first | done | rfl | (simp only [List.length_drop, List.length_take]; rfl)) ?_; (with_reducible refine (labels_letter.calls k1 (bt a0 x6_1) (x6_1 == 0) false _ A6.out).mono ?_); rintro e w' ⟨rfl, ⟨nd, rfl⟩⟩; refine ⟨_, rfl, ?_⟩))
              go_ret
              exact ⟨by first | rfl | (simp; done) | (simp [*]; done) | (simp [wrap64, wrap32]; done), by repeat (first | exact Drawn0.refl _ | apply Drawn0.step)⟩
          · rw [if_neg c4] at H
            exact absurd H (by simp)
        · rw [if_neg c3] at H
          exact absurd H (by simp)
      · rw [if_neg c2] at H
        have c2b0 : decide (x6_1 < (a0.size : Int)) = false := decide_eq_false c2
        clear c2
        by_cases c8 : a0.toList = ([] : List UInt8)
        · rw [if_pos c8] at H
          have c8b0 : (a0.toList == ([] : List UInt8)) = true := beq_iff_eq.mpr c8
          have c8b1 : (a0.toList != ([] : List UInt8)) = false := bne_eq_false_iff_eq.mpr c8
          clear c8
          obtain rfl := Option.some.inj H
          go_wp2
          go_ret
          exact ⟨by first | rfl | (simp; done) | (simp [*]; done) | (simp [wrap64, wrap32]; done), by repeat (first | exact Drawn0.refl _ | apply Drawn0.step)⟩
        · rw [if_neg c8] at H
          have c8b0 : (a0.toList == ([] : List UInt8)) = false := beq_eq_false_iff_ne.mpr c8
          have c8b1 : (a0.toList != ([] : List UInt8)) = true := bne_iff_ne.mpr c8
          obtain rfl := Option.some.inj H
          go_wp2
          go_ret
          exact ⟨by first | rfl | (simp; done) | (simp [*]; done) | (simp [wrap64, wrap32]; done), by repeat (first | exact Drawn0.refl _ | apply Drawn0.step)⟩

/-! ### lease_MayConfig: function 19 -/
-- RAW
def lease_nin (x : Int × Int × Int) : Bool := !(decide (x.1 ≥ x.2.1) && decide (x.1 ≤ x.2.2))
theorem lease_bound_some (n l m : Int) : lease_bound_in.f n l m = some (!lease_nin (n, l, m)) := by
  unfold lease_bound_in.f lease_nin
  by_cases h : n ≥ l
  · rw [if_pos h, decide_eq_true h]
    simp
  · rw [if_neg h, decide_eq_false h]
    simp
set_option maxHeartbeats 1000000 in
theorem lease_bound_fn (n l m : Int) (w : World) :
    Calls Try.prog 35 #[.agg #[.int .i64 n, .int .i64 l, .int .i64 m]] w fun e w' => e = .returned (.bool (lease_nin (n, l, m))) ∧ Below w.heap.size w w' := by
  have hs := lease_bound_some n l m
  generalize lease_nin (n, l, m) = q at *
  have Hs := Aside0.mk hs
  clear hs
  have hu_b := Try.underlying45
  go_enter Try.func35, Try.ntmps35
  go_wp2_with fail
  refine (lease_bound_in.calls n l m _ _ Hs.out).mono ?_
  rintro e w' ⟨rfl, hb⟩
  go_wp2
  go_ret
  exact ⟨by simp, ((Below.refl _ _).alloc (Nat.le_refl _) _).trans (hb.mono (by simp))⟩
/-- A row of triples in memory. -/
def lease_Row3 (w : World) (b : Nat) (xs : List (Int × Int × Int)) : Prop :=
  ∀ i, i < xs.length → w.cell? ⟨b, i * 3, none⟩ = some (.int .i64 (xs.getD i (0, 0, 0)).1) ∧ w.cell? ⟨b, i * 3 + 1, none⟩ = some (.int .i64 (xs.getD i (0, 0, 0)).2.1) ∧ w.cell? ⟨b, i * 3 + 2, none⟩ = some (.int .i64 (xs.getD i (0, 0, 0)).2.2)
def lease_IdxPost (xs : List (Int × Int × Int)) (w : World) (e : Ending) (w' : World) : Prop := ∃ n : Int, e = .returned (.int .i64 n) ∧ decide (0 ≤ n) = xs.any lease_nin ∧ -1 ≤ n ∧ Below w.heap.size w w'
set_option maxHeartbeats 1000000 in
theorem lease_idx_any (xs : List (Int × Int × Int)) (b cap : Nat) (w : World) (hn : xs.length ≤ 1000) (hb : b < w.heap.size) (hc : lease_Row3 w b xs) :
    Calls Try.prog 43 #[.slice (some ⟨b, 0, none⟩) xs.length cap, .func (.func 35) #[] #[]] w (lease_IdxPost xs w) := by
  have hu_b := Try.underlying45
  go_enter Try.func43, Try.ntmps43
  go_wp2
  go_loopw [8] (fun v8 wr => ∃ k : Nat, k ≤ xs.length ∧ v8 = .int .i64 k ∧ Aside0 ((xs.take k).any lease_nin = false) ∧ Below w.heap.size w wr) (fun v8 _ => xs.length - (intOf v8).toNat)
  case atStart => exact ⟨0, by omega, rfl, ⟨rfl⟩, Below.refl _ _⟩
  case round =>
    obtain ⟨k, hk, rfl, ht, hbel⟩ := hrel
    by_cases hlt : k < xs.length
    · obtain ⟨h0, h1, h2⟩ := hc k hlt
      have g0 := (hbel.cell (p := ⟨b, k * 3, none⟩) hb).trans h0
      have g1 := (hbel.cell (p := ⟨b, k * 3 + 1, none⟩) hb).trans h1
      have g2 := (hbel.cell (p := ⟨b, k * 3 + 2, none⟩) hb).trans h2
      clear h0 h1 h2
      have hx : Aside0 (xs.take (k + 1) = xs.take k ++ [xs.getD k (0, 0, 0)]) := ⟨by rw [List.take_succ_eq_append_getElem hlt]; simp [hlt]⟩
      have hy : Aside0 (xs.drop k = xs.getD k (0, 0, 0) :: xs.drop (k + 1)) := ⟨by rw [List.drop_eq_getElem_cons hlt]; simp [hlt]⟩
      generalize xs.getD k (0, 0, 0) = x at *
      go_wp2_with fail
      refine (lease_bound_fn _ _ _ _).mono ?_
      rintro e w' ⟨rfl, hb'⟩
      cases hq : lease_nin (x.1, x.2.1, x.2.2) with
      | true =>
        have Hq := Aside0.mk hq
        clear hq
        go_wp2_with fail
        go_ret
        refine ⟨k, rfl, ?_, by omega, hbel.trans (hb'.mono hbel.size)⟩
        have : xs.any lease_nin = true := by
          rw [← List.take_append_drop k xs, List.any_append, hy.out, List.any_cons, Hq.out]
          simp
        rw [this]
        simp
      | false =>
        have Hq := Aside0.mk hq
        clear hq
        go_wp2_with fail
        go_roundw
        case rel => exact ⟨k + 1, by omega, by go_num, ⟨by rw [hx.out, List.any_append, ht.out, List.any_cons, Hq.out]; rfl⟩, hbel.trans (hb'.mono hbel.size)⟩
        case measure => simp [intOf]; omega
    · go_wp2_with fail
      go_ret
      obtain rfl : k = xs.length := by omega
      refine ⟨-1, rfl, ?_, by omega, hbel⟩
      rw [List.take_length] at ht
      rw [ht.out]
      simp
set_option maxHeartbeats 1000000 in
theorem lease_contains_any (xs : List (Int × Int × Int)) (b cap : Nat) (w : World) (hn : xs.length ≤ 1000) (hb : b < w.heap.size) (hc : lease_Row3 w b xs) :
    Calls Try.prog 34 #[.slice (some ⟨b, 0, none⟩) xs.length cap, .func (.func 35) #[] #[]] w fun e w' => e = .returned (.bool (xs.any lease_nin)) ∧ Below w.heap.size w w' := by
  go_enter Try.func34, Try.ntmps34
  go_wp2_with fail
  refine (lease_idx_any xs b cap w hn hb hc).mono ?_
  rintro e w' ⟨n, rfl, hn1, hn2, hb'⟩
  have Hn := Aside0.mk hn1
  clear hn1
  go_wp2_with fail
  go_ret
  exact ⟨by rw [← Hn.out]; rfl, hb'⟩
def lease_nums (a0_0 a0_1 a0_2 a0_3 a0_4 a0_5 a0_6 a0_7 a0_8 a0_9 a0_10 a0_11 a0_12 a0_13 a0_14 a0_15 a0_16 a0_17 : Int) : List (Int × Int × Int) := [(a0_0, 1, 3), (a0_1, 1, 1073741824), (a0_2, 1, 1073741824), (a0_3, 1, 1073741824), (a0_4, 0, 1073741824), (a0_5, 0, 1073741824), (a0_6, 1, 1073741824), (a0_7, 1, 1073741824), (a0_8, 1, 1073741824), (a0_9, 1, 16), (a0_10, 1, 65536), (a0_11, 1, 1048576), (a0_12, 1, 1048576), (a0_13, 1, 1048576), (a0_14, 1, 1048576), (a0_15, 64, 1048576), (a0_16, 1, 1048576)]
theorem lease_own_alloc2 (w : World) (A B : Array Value) (s t : TypeId) (C : Array Value) : Below w.heap.size w (((w.alloc (.cells A s)).alloc (.cells B t)).setRow (w.heap.size + 1) C) :=
  below_setRow (((Below.refl _ _).alloc (Nat.le_refl _) _).alloc (by simp) _) (by simp) C
set_option maxHeartbeats 4000000 in
set_option maxRecDepth 100000 in
theorem lease_numbers_is (a0_0 a0_1 a0_2 a0_3 a0_4 a0_5 a0_6 a0_7 a0_8 a0_9 a0_10 a0_11 a0_12 a0_13 a0_14 a0_15 a0_16 a0_17 : Int) (a0_18 a0_19 : ByteArray) (w : World) :
    Calls Try.prog 33 #[.agg #[.int .i64 a0_0, .int .i64 a0_1, .int .i64 a0_2, .int .i64 a0_3, .int .i64 a0_4, .int .i64 a0_5, .int .i64 a0_6, .int .i64 a0_7, .int .i64 a0_8, .int .i64 a0_9, .int .i64 a0_10, .int .i64 a0_11, .int .i64 a0_12, .int .i64 a0_13, .int .i64 a0_14, .int .i64 a0_15, .int .i64 a0_16, .int .i64 a0_17, .string a0_18, .string a0_19]] w fun e w' => e = .returned (.agg #[.int .i64 a0_0, .int .i64 1, .int .i64 3, .int .i64 a0_1, .int .i64 1, .int .i64 1073741824, .int .i64 a0_2, .int .i64 1, .int .i64 1073741824, .int .i64 a0_3, .int .i64 1, .int .i64 1073741824, .int .i64 a0_4, .int .i64 0, .int .i64 1073741824, .int .i64 a0_5, .int .i64 0, .int .i64 1073741824, .int .i64 a0_6, .int .i64 1, .int .i64 1073741824, .int .i64 a0_7, .int .i64 1, .int .i64 1073741824, .int .i64 a0_8, .int .i64 1, .int .i64 1073741824, .int .i64 a0_9, .int .i64 1, .int .i64 16, .int .i64 a0_10, .int .i64 1, .int .i64 65536, .int .i64 a0_11, .int .i64 1, .int .i64 1048576, .int .i64 a0_12, .int .i64 1, .int .i64 1048576, .int .i64 a0_13, .int .i64 1, .int .i64 1048576, .int .i64 a0_14, .int .i64 1, .int .i64 1048576, .int .i64 a0_15, .int .i64 64, .int .i64 1048576, .int .i64 a0_16, .int .i64 1, .int .i64 1048576]) ∧ Below w.heap.size w w' := by
  have hu_c := Try.underlying25
  have hu_b := Try.underlying45
  have hu_l := Try.underlying48
  go_enter Try.func33, Try.ntmps33
  go_wp2_with (refine wpList_store_row rfl 48 (.tmp 2) (.tmp 54) rfl (w.heap.size + 1) #[.int .i64 a0_0, .int .i64 1, .int .i64 3, .int .i64 a0_1, .int .i64 1, .int .i64 1073741824, .int .i64 a0_2, .int .i64 1, .int .i64 1073741824, .int .i64 a0_3, .int .i64 1, .int .i64 1073741824, .int .i64 a0_4, .int .i64 0, .int .i64 1073741824, .int .i64 a0_5, .int .i64 0, .int .i64 1073741824, .int .i64 a0_6, .int .i64 1, .int .i64 1073741824, .int .i64 a0_7, .int .i64 1, .int .i64 1073741824, .int .i64 a0_8, .int .i64 1, .int .i64 1073741824, .int .i64 a0_9, .int .i64 1, .int .i64 16, .int .i64 a0_10, .int .i64 1, .int .i64 65536, .int .i64 a0_11, .int .i64 1, .int .i64 1048576, .int .i64 a0_12, .int .i64 1, .int .i64 1048576, .int .i64 a0_13, .int .i64 1, .int .i64 1048576, .int .i64 a0_14, .int .i64 1, .int .i64 1048576, .int .i64 a0_15, .int .i64 64, .int .i64 1048576, .int .i64 a0_16, .int .i64 1, .int .i64 1048576] rfl rfl 48 _ (heap_alloc2_new w _ _) (by kernel_rfl) (by rfl) (by simp [Value.oneCell']) ?_)
  refine bodyPost_ret (results_cell_row rfl _ _ (w.heap.size + 1) 48 #[.int .i64 a0_0, .int .i64 1, .int .i64 3, .int .i64 a0_1, .int .i64 1, .int .i64 1073741824, .int .i64 a0_2, .int .i64 1, .int .i64 1073741824, .int .i64 a0_3, .int .i64 1, .int .i64 1073741824, .int .i64 a0_4, .int .i64 0, .int .i64 1073741824, .int .i64 a0_5, .int .i64 0, .int .i64 1073741824, .int .i64 a0_6, .int .i64 1, .int .i64 1073741824, .int .i64 a0_7, .int .i64 1, .int .i64 1073741824, .int .i64 a0_8, .int .i64 1, .int .i64 1073741824, .int .i64 a0_9, .int .i64 1, .int .i64 16, .int .i64 a0_10, .int .i64 1, .int .i64 65536, .int .i64 a0_11, .int .i64 1, .int .i64 1048576, .int .i64 a0_12, .int .i64 1, .int .i64 1048576, .int .i64 a0_13, .int .i64 1, .int .i64 1048576, .int .i64 a0_14, .int .i64 1, .int .i64 1048576, .int .i64 a0_15, .int .i64 64, .int .i64 1048576, .int .i64 a0_16, .int .i64 1, .int .i64 1048576] (0, 0) _ rfl (setRow_heap _ _ _ _ _ _ (heap_alloc2_new w _ _)) Try.underlying48 rfl (by kernel_rfl)) rfl ?_
  exact ⟨rfl, lease_own_alloc2 _ _ _ _ _ _⟩

theorem lease_nums_row (a0_0 a0_1 a0_2 a0_3 a0_4 a0_5 a0_6 a0_7 a0_8 a0_9 a0_10 a0_11 a0_12 a0_13 a0_14 a0_15 a0_16 a0_17 : Int) (w : World) (b : Nat) (h : w.heap[b]? = some (.cells #[.int .i64 a0_0, .int .i64 1, .int .i64 3, .int .i64 a0_1, .int .i64 1, .int .i64 1073741824, .int .i64 a0_2, .int .i64 1, .int .i64 1073741824, .int .i64 a0_3, .int .i64 1, .int .i64 1073741824, .int .i64 a0_4, .int .i64 0, .int .i64 1073741824, .int .i64 a0_5, .int .i64 0, .int .i64 1073741824, .int .i64 a0_6, .int .i64 1, .int .i64 1073741824, .int .i64 a0_7, .int .i64 1, .int .i64 1073741824, .int .i64 a0_8, .int .i64 1, .int .i64 1073741824, .int .i64 a0_9, .int .i64 1, .int .i64 16, .int .i64 a0_10, .int .i64 1, .int .i64 65536, .int .i64 a0_11, .int .i64 1, .int .i64 1048576, .int .i64 a0_12, .int .i64 1, .int .i64 1048576, .int .i64 a0_13, .int .i64 1, .int .i64 1048576, .int .i64 a0_14, .int .i64 1, .int .i64 1048576, .int .i64 a0_15, .int .i64 64, .int .i64 1048576, .int .i64 a0_16, .int .i64 1, .int .i64 1048576] 48 (0, 0))) : lease_Row3 w b (lease_nums a0_0 a0_1 a0_2 a0_3 a0_4 a0_5 a0_6 a0_7 a0_8 a0_9 a0_10 a0_11 a0_12 a0_13 a0_14 a0_15 a0_16 a0_17) := by
  have hq : ∀ j, w.cell? ⟨b, j, none⟩ = (#[.int .i64 a0_0, .int .i64 1, .int .i64 3, .int .i64 a0_1, .int .i64 1, .int .i64 1073741824, .int .i64 a0_2, .int .i64 1, .int .i64 1073741824, .int .i64 a0_3, .int .i64 1, .int .i64 1073741824, .int .i64 a0_4, .int .i64 0, .int .i64 1073741824, .int .i64 a0_5, .int .i64 0, .int .i64 1073741824, .int .i64 a0_6, .int .i64 1, .int .i64 1073741824, .int .i64 a0_7, .int .i64 1, .int .i64 1073741824, .int .i64 a0_8, .int .i64 1, .int .i64 1073741824, .int .i64 a0_9, .int .i64 1, .int .i64 16, .int .i64 a0_10, .int .i64 1, .int .i64 65536, .int .i64 a0_11, .int .i64 1, .int .i64 1048576, .int .i64 a0_12, .int .i64 1, .int .i64 1048576, .int .i64 a0_13, .int .i64 1, .int .i64 1048576, .int .i64 a0_14, .int .i64 1, .int .i64 1048576, .int .i64 a0_15, .int .i64 64, .int .i64 1048576, .int .i64 a0_16, .int .i64 1, .int .i64 1048576] : Array Value)[j]? := fun j => blk_cell h j
  intro i hi
  have hi' : i < 17 := hi
  rw [hq, hq, hq]
  match i, hi' with
  | 0, _ => exact ⟨rfl, rfl, rfl⟩
  | 1, _ => exact ⟨rfl, rfl, rfl⟩
  | 2, _ => exact ⟨rfl, rfl, rfl⟩
  | 3, _ => exact ⟨rfl, rfl, rfl⟩
  | 4, _ => exact ⟨rfl, rfl, rfl⟩
  | 5, _ => exact ⟨rfl, rfl, rfl⟩
  | 6, _ => exact ⟨rfl, rfl, rfl⟩
  | 7, _ => exact ⟨rfl, rfl, rfl⟩
  | 8, _ => exact ⟨rfl, rfl, rfl⟩
  | 9, _ => exact ⟨rfl, rfl, rfl⟩
  | 10, _ => exact ⟨rfl, rfl, rfl⟩
  | 11, _ => exact ⟨rfl, rfl, rfl⟩
  | 12, _ => exact ⟨rfl, rfl, rfl⟩
  | 13, _ => exact ⟨rfl, rfl, rfl⟩
  | 14, _ => exact ⟨rfl, rfl, rfl⟩
  | 15, _ => exact ⟨rfl, rfl, rfl⟩
  | 16, _ => exact ⟨rfl, rfl, rfl⟩
  | n + 17, h17 => exact absurd h17 (by omega)

theorem lease_contains_nums (a0_0 a0_1 a0_2 a0_3 a0_4 a0_5 a0_6 a0_7 a0_8 a0_9 a0_10 a0_11 a0_12 a0_13 a0_14 a0_15 a0_16 a0_17 : Int) (b : Nat) (w : World) (hb : b < w.heap.size) (h : w.heap[b]? = some (.cells #[.int .i64 a0_0, .int .i64 1, .int .i64 3, .int .i64 a0_1, .int .i64 1, .int .i64 1073741824, .int .i64 a0_2, .int .i64 1, .int .i64 1073741824, .int .i64 a0_3, .int .i64 1, .int .i64 1073741824, .int .i64 a0_4, .int .i64 0, .int .i64 1073741824, .int .i64 a0_5, .int .i64 0, .int .i64 1073741824, .int .i64 a0_6, .int .i64 1, .int .i64 1073741824, .int .i64 a0_7, .int .i64 1, .int .i64 1073741824, .int .i64 a0_8, .int .i64 1, .int .i64 1073741824, .int .i64 a0_9, .int .i64 1, .int .i64 16, .int .i64 a0_10, .int .i64 1, .int .i64 65536, .int .i64 a0_11, .int .i64 1, .int .i64 1048576, .int .i64 a0_12, .int .i64 1, .int .i64 1048576, .int .i64 a0_13, .int .i64 1, .int .i64 1048576, .int .i64 a0_14, .int .i64 1, .int .i64 1048576, .int .i64 a0_15, .int .i64 64, .int .i64 1048576, .int .i64 a0_16, .int .i64 1, .int .i64 1048576] 48 (0, 0))) (q : Bool) (hq : (lease_nums a0_0 a0_1 a0_2 a0_3 a0_4 a0_5 a0_6 a0_7 a0_8 a0_9 a0_10 a0_11 a0_12 a0_13 a0_14 a0_15 a0_16 a0_17).any lease_nin = q) :
    Calls Try.prog 34 #[.slice (some ⟨b, 0, none⟩) 17 17, .func (.func 35) #[] #[]] w fun e w' => e = .returned (.bool q) ∧ Below w.heap.size w w' := by
  subst hq
  exact lease_contains_any (lease_nums a0_0 a0_1 a0_2 a0_3 a0_4 a0_5 a0_6 a0_7 a0_8 a0_9 a0_10 a0_11 a0_12 a0_13 a0_14 a0_15 a0_16 a0_17) b 17 w (by show 17 ≤ 1000; omega) hb (lease_nums_row a0_0 a0_1 a0_2 a0_3 a0_4 a0_5 a0_6 a0_7 a0_8 a0_9 a0_10 a0_11 a0_12 a0_13 a0_14 a0_15 a0_16 a0_17 w b h)

theorem lease_below_drawn {B : Nat} {w w1 : World} {n : Nat} (h : Below B w w1) : Below B w (w1.drewN n) := h.trans ⟨rfl, rfl, rfl, Nat.le_refl _, fun _ _ => rfl⟩
/-- What a configuration's cells are; what its numbers' cells are. -/
def lease_IsCfg (C : Array Value) (a0_0 a0_1 a0_2 a0_3 a0_4 a0_5 a0_6 a0_7 a0_8 a0_9 a0_10 a0_11 a0_12 a0_13 a0_14 a0_15 a0_16 a0_17 : Int) (a0_18 a0_19 : ByteArray) : Prop := C = #[.int .i64 a0_0, .int .i64 a0_1, .int .i64 a0_2, .int .i64 a0_3, .int .i64 a0_4, .int .i64 a0_5, .int .i64 a0_6, .int .i64 a0_7, .int .i64 a0_8, .int .i64 a0_9, .int .i64 a0_10, .int .i64 a0_11, .int .i64 a0_12, .int .i64 a0_13, .int .i64 a0_14, .int .i64 a0_15, .int .i64 a0_16, .int .i64 a0_17, .string a0_18, .string a0_19]
def lease_IsNums (V : Array Value) (a0_0 a0_1 a0_2 a0_3 a0_4 a0_5 a0_6 a0_7 a0_8 a0_9 a0_10 a0_11 a0_12 a0_13 a0_14 a0_15 a0_16 a0_17 : Int) : Prop := V = #[.int .i64 a0_0, .int .i64 1, .int .i64 3, .int .i64 a0_1, .int .i64 1, .int .i64 1073741824, .int .i64 a0_2, .int .i64 1, .int .i64 1073741824, .int .i64 a0_3, .int .i64 1, .int .i64 1073741824, .int .i64 a0_4, .int .i64 0, .int .i64 1073741824, .int .i64 a0_5, .int .i64 0, .int .i64 1073741824, .int .i64 a0_6, .int .i64 1, .int .i64 1073741824, .int .i64 a0_7, .int .i64 1, .int .i64 1073741824, .int .i64 a0_8, .int .i64 1, .int .i64 1073741824, .int .i64 a0_9, .int .i64 1, .int .i64 16, .int .i64 a0_10, .int .i64 1, .int .i64 65536, .int .i64 a0_11, .int .i64 1, .int .i64 1048576, .int .i64 a0_12, .int .i64 1, .int .i64 1048576, .int .i64 a0_13, .int .i64 1, .int .i64 1048576, .int .i64 a0_14, .int .i64 1, .int .i64 1048576, .int .i64 a0_15, .int .i64 64, .int .i64 1048576, .int .i64 a0_16, .int .i64 1, .int .i64 1048576]
theorem lease_IsNums.size {V : Array Value} {a0_0 a0_1 a0_2 a0_3 a0_4 a0_5 a0_6 a0_7 a0_8 a0_9 a0_10 a0_11 a0_12 a0_13 a0_14 a0_15 a0_16 a0_17 : Int} (h : lease_IsNums V a0_0 a0_1 a0_2 a0_3 a0_4 a0_5 a0_6 a0_7 a0_8 a0_9 a0_10 a0_11 a0_12 a0_13 a0_14 a0_15 a0_16 a0_17) : V.size = 51 := by rw [h]; rfl
theorem lease_IsNums.one {V : Array Value} {a0_0 a0_1 a0_2 a0_3 a0_4 a0_5 a0_6 a0_7 a0_8 a0_9 a0_10 a0_11 a0_12 a0_13 a0_14 a0_15 a0_16 a0_17 : Int} (h : lease_IsNums V a0_0 a0_1 a0_2 a0_3 a0_4 a0_5 a0_6 a0_7 a0_8 a0_9 a0_10 a0_11 a0_12 a0_13 a0_14 a0_15 a0_16 a0_17) : V.all (·.oneCell') = true := by rw [h]; simp [Value.oneCell']
theorem lease_numbers_of (C : Array Value) (a0_0 a0_1 a0_2 a0_3 a0_4 a0_5 a0_6 a0_7 a0_8 a0_9 a0_10 a0_11 a0_12 a0_13 a0_14 a0_15 a0_16 a0_17 : Int) (a0_18 a0_19 : ByteArray) (w : World) (hC : lease_IsCfg C a0_0 a0_1 a0_2 a0_3 a0_4 a0_5 a0_6 a0_7 a0_8 a0_9 a0_10 a0_11 a0_12 a0_13 a0_14 a0_15 a0_16 a0_17 a0_18 a0_19) :
    Calls Try.prog 33 #[.agg C] w fun e w' => ∃ V, e = .returned (.agg V) ∧ lease_IsNums V a0_0 a0_1 a0_2 a0_3 a0_4 a0_5 a0_6 a0_7 a0_8 a0_9 a0_10 a0_11 a0_12 a0_13 a0_14 a0_15 a0_16 a0_17 ∧ Below w.heap.size w w' := by
  subst hC
  refine (lease_numbers_is a0_0 a0_1 a0_2 a0_3 a0_4 a0_5 a0_6 a0_7 a0_8 a0_9 a0_10 a0_11 a0_12 a0_13 a0_14 a0_15 a0_16 a0_17 a0_18 a0_19 w).mono ?_
  rintro e w' ⟨rfl, hb⟩
  exact ⟨_, rfl, rfl, hb⟩
theorem lease_contains_of (a0_0 a0_1 a0_2 a0_3 a0_4 a0_5 a0_6 a0_7 a0_8 a0_9 a0_10 a0_11 a0_12 a0_13 a0_14 a0_15 a0_16 a0_17 : Int) (V : Array Value) (b : Nat) (w : World) (hV : lease_IsNums V a0_0 a0_1 a0_2 a0_3 a0_4 a0_5 a0_6 a0_7 a0_8 a0_9 a0_10 a0_11 a0_12 a0_13 a0_14 a0_15 a0_16 a0_17) (hb : b < w.heap.size) (h : w.heap[b]? = some (.cells V 48 (0, 0))) (q : Bool) (hq : (lease_nums a0_0 a0_1 a0_2 a0_3 a0_4 a0_5 a0_6 a0_7 a0_8 a0_9 a0_10 a0_11 a0_12 a0_13 a0_14 a0_15 a0_16 a0_17).any lease_nin = q) :
    Calls Try.prog 34 #[.slice (some ⟨b, 0, none⟩) 17 17, .func (.func 35) #[] #[]] w fun e w' => e = .returned (.bool q) ∧ Below w.heap.size w w' := by
  subst hV
  exact lease_contains_nums a0_0 a0_1 a0_2 a0_3 a0_4 a0_5 a0_6 a0_7 a0_8 a0_9 a0_10 a0_11 a0_12 a0_13 a0_14 a0_15 a0_16 a0_17 b w hb h q hq
def lease_numsOk (a0_0 a0_1 a0_2 a0_3 a0_4 a0_5 a0_6 a0_7 a0_8 a0_9 a0_10 a0_11 a0_12 a0_13 a0_14 a0_15 a0_16 a0_17 : Int) : Bool := !((lease_nums a0_0 a0_1 a0_2 a0_3 a0_4 a0_5 a0_6 a0_7 a0_8 a0_9 a0_10 a0_11 a0_12 a0_13 a0_14 a0_15 a0_16 a0_17).any lease_nin) && !(lease_nin (a0_17, 0, 1048576))
def lease_spans (a0_0 a0_1 a0_2 a0_3 a0_4 a0_5 a0_6 a0_7 a0_8 a0_9 a0_10 a0_11 a0_12 a0_13 a0_14 a0_15 a0_16 a0_17 : Int) : Bool := decide (wrap64 (a0_3 + a0_4) < a0_1) && (decide (wrap64 (a0_1 + wrap64 (2 * a0_5)) ≤ a0_2) && decide (a0_2 ≤ a0_6))
def lease_MayConfig.f (k : Nat) (a0_0 a0_1 a0_2 a0_3 a0_4 a0_5 a0_6 a0_7 a0_8 a0_9 a0_10 a0_11 a0_12 a0_13 a0_14 a0_15 a0_16 a0_17 : Int) (a0_18 a0_19 : ByteArray) : Option Bool :=
  if lease_numsOk a0_0 a0_1 a0_2 a0_3 a0_4 a0_5 a0_6 a0_7 a0_8 a0_9 a0_10 a0_11 a0_12 a0_13 a0_14 a0_15 a0_16 a0_17 = true then (if lease_spans a0_0 a0_1 a0_2 a0_3 a0_4 a0_5 a0_6 a0_7 a0_8 a0_9 a0_10 a0_11 a0_12 a0_13 a0_14 a0_15 a0_16 a0_17 = true then ((labels_MayName.f k a0_18).bind fun t1 => (if t1 = true then ((labels_MayName.f k a0_19).bind fun t2 => (if t2 = true then (some (!(a0_18.toList == a0_19.toList))) else (some false))) else (some false))) else (some false)) else (some false)
theorem lease_nums_no (a0_0 a0_1 a0_2 a0_3 a0_4 a0_5 a0_6 a0_7 a0_8 a0_9 a0_10 a0_11 a0_12 a0_13 a0_14 a0_15 a0_16 a0_17 : Int) (k : Nat) (a0_18 a0_19 : ByteArray) {r : Bool} (h : lease_MayConfig.f k a0_0 a0_1 a0_2 a0_3 a0_4 a0_5 a0_6 a0_7 a0_8 a0_9 a0_10 a0_11 a0_12 a0_13 a0_14 a0_15 a0_16 a0_17 a0_18 a0_19 = some r) (h0 : lease_numsOk a0_0 a0_1 a0_2 a0_3 a0_4 a0_5 a0_6 a0_7 a0_8 a0_9 a0_10 a0_11 a0_12 a0_13 a0_14 a0_15 a0_16 a0_17 = false) : r = false := by
  unfold lease_MayConfig.f at h
  rw [h0] at h
  simpa using h.symm
theorem lease_spans_no (a0_0 a0_1 a0_2 a0_3 a0_4 a0_5 a0_6 a0_7 a0_8 a0_9 a0_10 a0_11 a0_12 a0_13 a0_14 a0_15 a0_16 a0_17 : Int) (k : Nat) (a0_18 a0_19 : ByteArray) {r : Bool} (h : lease_MayConfig.f k a0_0 a0_1 a0_2 a0_3 a0_4 a0_5 a0_6 a0_7 a0_8 a0_9 a0_10 a0_11 a0_12 a0_13 a0_14 a0_15 a0_16 a0_17 a0_18 a0_19 = some r) (h1 : lease_spans a0_0 a0_1 a0_2 a0_3 a0_4 a0_5 a0_6 a0_7 a0_8 a0_9 a0_10 a0_11 a0_12 a0_13 a0_14 a0_15 a0_16 a0_17 = false) : r = false := by
  unfold lease_MayConfig.f at h
  rw [h1] at h
  split at h <;> simpa using h.symm
theorem lease_names_left (a0_0 a0_1 a0_2 a0_3 a0_4 a0_5 a0_6 a0_7 a0_8 a0_9 a0_10 a0_11 a0_12 a0_13 a0_14 a0_15 a0_16 a0_17 : Int) (k : Nat) (a0_18 a0_19 : ByteArray) {r : Bool} (h : lease_MayConfig.f k a0_0 a0_1 a0_2 a0_3 a0_4 a0_5 a0_6 a0_7 a0_8 a0_9 a0_10 a0_11 a0_12 a0_13 a0_14 a0_15 a0_16 a0_17 a0_18 a0_19 = some r) (h0 : lease_numsOk a0_0 a0_1 a0_2 a0_3 a0_4 a0_5 a0_6 a0_7 a0_8 a0_9 a0_10 a0_11 a0_12 a0_13 a0_14 a0_15 a0_16 a0_17 = true) (h1 : lease_spans a0_0 a0_1 a0_2 a0_3 a0_4 a0_5 a0_6 a0_7 a0_8 a0_9 a0_10 a0_11 a0_12 a0_13 a0_14 a0_15 a0_16 a0_17 = true) :
    ∃ t1, labels_MayName.f k a0_18 = some t1 ∧ ((t1 = false ∧ r = false) ∨ (t1 = true ∧ ∃ t2, labels_MayName.f k a0_19 = some t2 ∧ ((t2 = false ∧ r = false) ∨ (t2 = true ∧ r = !(a0_18.toList == a0_19.toList))))) := by
  unfold lease_MayConfig.f at h
  rw [h0, h1, if_pos rfl, if_pos rfl] at h
  obtain ⟨t1, e1, h⟩ := Option.bind_eq_some_iff.mp h
  refine ⟨t1, e1, ?_⟩
  cases t1 with
  | false => exact .inl ⟨rfl, by simpa using h.symm⟩
  | true =>
    rw [if_pos rfl] at h
    obtain ⟨t2, e2, h⟩ := Option.bind_eq_some_iff.mp h
    refine .inr ⟨rfl, t2, e2, ?_⟩
    cases t2 with
    | false => exact .inl ⟨rfl, by simpa using h.symm⟩
    | true => exact .inr ⟨rfl, by simpa using h.symm⟩
set_option maxHeartbeats 4000000 in
set_option maxRecDepth 100000 in
theorem lease_cfg_walk (k : Nat) (C : Array Value) (a0_0 a0_1 a0_2 a0_3 a0_4 a0_5 a0_6 a0_7 a0_8 a0_9 a0_10 a0_11 a0_12 a0_13 a0_14 a0_15 a0_16 a0_17 : Int) (a0_18 a0_19 : ByteArray) (r : Bool) (w : World) (hC : lease_IsCfg C a0_0 a0_1 a0_2 a0_3 a0_4 a0_5 a0_6 a0_7 a0_8 a0_9 a0_10 a0_11 a0_12 a0_13 a0_14 a0_15 a0_16 a0_17 a0_18 a0_19) (hf : lease_MayConfig.f k a0_0 a0_1 a0_2 a0_3 a0_4 a0_5 a0_6 a0_7 a0_8 a0_9 a0_10 a0_11 a0_12 a0_13 a0_14 a0_15 a0_16 a0_17 a0_18 a0_19 = some r) :
    Calls Try.prog 19 #[.agg C] w fun e w' => e = .returned (.bool r) ∧ Below w.heap.size w w' := by
  have hu_c := Try.underlying25
  have hu_b := Try.underlying45
  have hu_l := Try.underlying48
  have HC := Aside0.mk hC
  have HF := Aside0.mk hf
  clear hf
  clear hC
  go_enter Try.func19, Try.ntmps19
  go_wp2_with (refine wpList_load_row rfl 25 (.tmp 1) rfl w.heap.size rfl 25 C (0, 0) _ (heap_alloc_new w _) hu_c rfl (by rw [HC.out]; kernel_rfl) ?_)
  refine (lease_numbers_of C a0_0 a0_1 a0_2 a0_3 a0_4 a0_5 a0_6 a0_7 a0_8 a0_9 a0_10 a0_11 a0_12 a0_13 a0_14 a0_15 a0_16 a0_17 a0_18 a0_19 _ HC.out).mono ?_
  rintro e w1 ⟨V, rfl, hV, hb1⟩
  have hVs := Aside0.mk hV.size
  have hVo := Aside0.mk hV.one
  have HV := Aside0.mk hV
  clear hV
  have HB1 := Aside0.mk ((((Below.refl w.heap.size w).alloc (Nat.le_refl _) _).trans (hb1.mono (by simp))))
  have HK1 : Aside0 (w1.heap[w.heap.size]? = some (.cells C 25 (0, 0))) := ⟨(hb1.block _ (by simp)).trans (heap_alloc_new w _)⟩
  clear hb1
  go_wp2_with (refine wpList_store_row rfl 48 (.tmp 3) (.tmp 6) rfl w1.heap.size V rfl rfl 48 _ (heap_alloc_new w1 _) (by rw [hVs.out]; kernel_rfl) (by rw [hVs.out]; rfl) hVo.out ?_)
  have hr2 : ∀ o : Obj, (∃ cs, o = .cells cs 48 (0, 0)) → ((w1.alloc o).setRow w1.heap.size V).heap[w1.heap.size]? = some (.cells V 48 (0, 0)) := by
    rintro o ⟨cs, rfl⟩
    exact setRow_heap _ _ _ _ _ _ (heap_alloc_new w1 _)
  generalize hq : (lease_nums a0_0 a0_1 a0_2 a0_3 a0_4 a0_5 a0_6 a0_7 a0_8 a0_9 a0_10 a0_11 a0_12 a0_13 a0_14 a0_15 a0_16 a0_17).any lease_nin = q
  have hb2 : ∀ o : Obj, Below w1.heap.size w1 ((w1.alloc o).setRow w1.heap.size V) := fun o => below_setRow ((Below.refl _ _).alloc (Nat.le_refl _) _) (Nat.le_refl _) V
  refine (lease_contains_of a0_0 a0_1 a0_2 a0_3 a0_4 a0_5 a0_6 a0_7 a0_8 a0_9 a0_10 a0_11 a0_12 a0_13 a0_14 a0_15 a0_16 a0_17 V w1.heap.size _ HV.out (by rw [setRow_size]; simp) (hr2 _ ⟨_, rfl⟩) q hq).mono ?_
  rintro e w3 ⟨rfl, hb3⟩
  have HB3 : Aside0 (Below w1.heap.size w1 w3) := ⟨(hb2 _).trans (hb3.mono (by rw [setRow_size]; simp))⟩
  clear hb3 hb2 hr2
  have HK3 : Aside0 (w3.heap[w.heap.size]? = some (.cells C 25 (0, 0))) := ⟨(HB3.out.block _ (blk_lt HK1.out)).trans HK1.out⟩
  have HB : Aside0 (Below w.heap.size w w3) := ⟨HB1.out.trans (HB3.out.mono HB1.out.size)⟩
  have hlt := blk_lt HK1.out
  clear HB1 HB3 HK1
  have c1 : w3.cell? ⟨w.heap.size, 1, none⟩ = some (.int .i64 a0_1) := (blk_cell HK3.out 1).trans (by rw [HC.out]; rfl)
  have c2 : w3.cell? ⟨w.heap.size, 2, none⟩ = some (.int .i64 a0_2) := (blk_cell HK3.out 2).trans (by rw [HC.out]; rfl)
  have c3 : w3.cell? ⟨w.heap.size, 3, none⟩ = some (.int .i64 a0_3) := (blk_cell HK3.out 3).trans (by rw [HC.out]; rfl)
  have c4 : w3.cell? ⟨w.heap.size, 4, none⟩ = some (.int .i64 a0_4) := (blk_cell HK3.out 4).trans (by rw [HC.out]; rfl)
  have c5 : w3.cell? ⟨w.heap.size, 5, none⟩ = some (.int .i64 a0_5) := (blk_cell HK3.out 5).trans (by rw [HC.out]; rfl)
  have c6 : w3.cell? ⟨w.heap.size, 6, none⟩ = some (.int .i64 a0_6) := (blk_cell HK3.out 6).trans (by rw [HC.out]; rfl)
  have c17 : w3.cell? ⟨w.heap.size, 17, none⟩ = some (.int .i64 a0_17) := (blk_cell HK3.out 17).trans (by rw [HC.out]; rfl)
  have c18 : w3.cell? ⟨w.heap.size, 18, none⟩ = some (.string a0_18) := (blk_cell HK3.out 18).trans (by rw [HC.out]; rfl)
  have c19 : w3.cell? ⟨w.heap.size, 19, none⟩ = some (.string a0_19) := (blk_cell HK3.out 19).trans (by rw [HC.out]; rfl)
  have Hq := Aside0.mk hq
  clear hq
  generalize hs : lease_nin (a0_17, 0, 1048576) = s
  have Hs := Aside0.mk hs
  have Hb := Aside0.mk ((lease_bound_some a0_17 0 1048576).trans (by rw [hs]))
  clear hs
  cases q with
  | true =>
    go_wp2_with fail
    go_ret
    obtain rfl := lease_nums_no a0_0 a0_1 a0_2 a0_3 a0_4 a0_5 a0_6 a0_7 a0_8 a0_9 a0_10 a0_11 a0_12 a0_13 a0_14 a0_15 a0_16 a0_17 k a0_18 a0_19 HF.out (by unfold lease_numsOk; rw [Hq.out]; rfl)
    exact ⟨rfl, HB.out⟩
  | false =>
    go_wp2_with fail
    refine (lease_bound_in.calls a0_17 0 1048576 _ _ Hb.out).mono ?_
    rintro e w4 ⟨rfl, hb4⟩
    have HK4 : Aside0 (w4.heap[w.heap.size]? = some (.cells C 25 (0, 0))) := ⟨blk_below HK3.out hb4⟩
    have HB4 : Aside0 (Below w.heap.size w w4) := ⟨HB.out.trans (hb4.mono HB.out.size)⟩
    clear c1 c2 c3 c4 c5 c6 c17 c18 c19 hb4 HK3 HB
    have c1 : w4.cell? ⟨w.heap.size, 1, none⟩ = some (.int .i64 a0_1) := (blk_cell HK4.out 1).trans (by rw [HC.out]; rfl)
    have c2 : w4.cell? ⟨w.heap.size, 2, none⟩ = some (.int .i64 a0_2) := (blk_cell HK4.out 2).trans (by rw [HC.out]; rfl)
    have c3 : w4.cell? ⟨w.heap.size, 3, none⟩ = some (.int .i64 a0_3) := (blk_cell HK4.out 3).trans (by rw [HC.out]; rfl)
    have c4 : w4.cell? ⟨w.heap.size, 4, none⟩ = some (.int .i64 a0_4) := (blk_cell HK4.out 4).trans (by rw [HC.out]; rfl)
    have c5 : w4.cell? ⟨w.heap.size, 5, none⟩ = some (.int .i64 a0_5) := (blk_cell HK4.out 5).trans (by rw [HC.out]; rfl)
    have c6 : w4.cell? ⟨w.heap.size, 6, none⟩ = some (.int .i64 a0_6) := (blk_cell HK4.out 6).trans (by rw [HC.out]; rfl)
    have c18 : w4.cell? ⟨w.heap.size, 18, none⟩ = some (.string a0_18) := (blk_cell HK4.out 18).trans (by rw [HC.out]; rfl)
    have c19 : w4.cell? ⟨w.heap.size, 19, none⟩ = some (.string a0_19) := (blk_cell HK4.out 19).trans (by rw [HC.out]; rfl)
    cases s with
    | true =>
      go_wp2_with fail
      go_ret
      obtain rfl := lease_nums_no a0_0 a0_1 a0_2 a0_3 a0_4 a0_5 a0_6 a0_7 a0_8 a0_9 a0_10 a0_11 a0_12 a0_13 a0_14 a0_15 a0_16 a0_17 k a0_18 a0_19 HF.out (by unfold lease_numsOk; rw [Hq.out, Hs.out]; rfl)
      exact ⟨rfl, HB4.out⟩
    | false =>
      have hn : Aside0 (lease_numsOk a0_0 a0_1 a0_2 a0_3 a0_4 a0_5 a0_6 a0_7 a0_8 a0_9 a0_10 a0_11 a0_12 a0_13 a0_14 a0_15 a0_16 a0_17 = true) := ⟨by unfold lease_numsOk; rw [Hq.out, Hs.out]; rfl⟩
      cases p1 : decide (wrap64 (a0_3 + a0_4) < a0_1) with
      | false =>
        go_wp2_with fail
        go_ret
        obtain rfl := lease_spans_no a0_0 a0_1 a0_2 a0_3 a0_4 a0_5 a0_6 a0_7 a0_8 a0_9 a0_10 a0_11 a0_12 a0_13 a0_14 a0_15 a0_16 a0_17 k a0_18 a0_19 HF.out (by unfold lease_spans; rw [p1]; rfl)
        exact ⟨rfl, HB4.out⟩
      | true =>
      cases p2 : decide (wrap64 (a0_1 + wrap64 (2 * a0_5)) ≤ a0_2) with
      | false =>
        go_wp2_with fail
        go_ret
        obtain rfl := lease_spans_no a0_0 a0_1 a0_2 a0_3 a0_4 a0_5 a0_6 a0_7 a0_8 a0_9 a0_10 a0_11 a0_12 a0_13 a0_14 a0_15 a0_16 a0_17 k a0_18 a0_19 HF.out (by unfold lease_spans; rw [p1, p2]; rfl)
        exact ⟨rfl, HB4.out⟩
      | true =>
      cases p3 : decide (a0_2 ≤ a0_6) with
      | false =>
        go_wp2_with fail
        go_ret
        obtain rfl := lease_spans_no a0_0 a0_1 a0_2 a0_3 a0_4 a0_5 a0_6 a0_7 a0_8 a0_9 a0_10 a0_11 a0_12 a0_13 a0_14 a0_15 a0_16 a0_17 k a0_18 a0_19 HF.out (by unfold lease_spans; rw [p1, p2, p3]; rfl)
        exact ⟨rfl, HB4.out⟩
      | true =>
        obtain ⟨t1, e1, hr⟩ := lease_names_left a0_0 a0_1 a0_2 a0_3 a0_4 a0_5 a0_6 a0_7 a0_8 a0_9 a0_10 a0_11 a0_12 a0_13 a0_14 a0_15 a0_16 a0_17 k a0_18 a0_19 HF.out hn.out (by unfold lease_spans; rw [p1, p2, p3]; rfl)
        have E1 := Aside0.mk e1
        clear e1
        rcases hr with ⟨rfl, rfl⟩ | ⟨rfl, t2, e2, hr⟩
        · go_wp2_with fail
          refine (labels_MayName.calls k a0_18 _ _ E1.out).mono ?_
          rintro e w' ⟨rfl, ⟨nd, rfl⟩⟩
          go_wp2_with fail
          go_ret
          exact ⟨rfl, lease_below_drawn HB4.out⟩
        · have E2 := Aside0.mk e2
          clear e2
          rcases hr with ⟨rfl, rfl⟩ | ⟨rfl, rfl⟩
          · go_wp2_with fail
            refine (labels_MayName.calls k a0_18 _ _ E1.out).mono ?_
            rintro e w' ⟨rfl, ⟨nd, rfl⟩⟩
            go_wp2_with fail
            refine (labels_MayName.calls k a0_19 _ _ E2.out).mono ?_
            rintro e w' ⟨rfl, ⟨nd2, rfl⟩⟩
            go_wp2_with fail
            go_ret
            exact ⟨rfl, by first | exact lease_below_drawn HB4.out | exact lease_below_drawn (lease_below_drawn HB4.out)⟩
          · go_wp2_with fail
            refine (labels_MayName.calls k a0_18 _ _ E1.out).mono ?_
            rintro e w' ⟨rfl, ⟨nd, rfl⟩⟩
            go_wp2_with fail
            refine (labels_MayName.calls k a0_19 _ _ E2.out).mono ?_
            rintro e w' ⟨rfl, ⟨nd2, rfl⟩⟩
            go_wp2_with fail
            go_ret
            exact ⟨rfl, by first | exact lease_below_drawn HB4.out | exact lease_below_drawn (lease_below_drawn HB4.out)⟩
theorem lease_MayConfig.mono : ∀ a0_0 a0_1 a0_2 a0_3 a0_4 a0_5 a0_6 a0_7 a0_8 a0_9 a0_10 a0_11 a0_12 a0_13 a0_14 a0_15 a0_16 a0_17 a0_18 a0_19 k, LeO (lease_MayConfig.f k a0_0 a0_1 a0_2 a0_3 a0_4 a0_5 a0_6 a0_7 a0_8 a0_9 a0_10 a0_11 a0_12 a0_13 a0_14 a0_15 a0_16 a0_17 a0_18 a0_19) (lease_MayConfig.f (k + 1) a0_0 a0_1 a0_2 a0_3 a0_4 a0_5 a0_6 a0_7 a0_8 a0_9 a0_10 a0_11 a0_12 a0_13 a0_14 a0_15 a0_16 a0_17 a0_18 a0_19) := by
  intro a0_0 a0_1 a0_2 a0_3 a0_4 a0_5 a0_6 a0_7 a0_8 a0_9 a0_10 a0_11 a0_12 a0_13 a0_14 a0_15 a0_16 a0_17 a0_18 a0_19 k
  unfold lease_MayConfig.f
  repeat' first
      | (with_reducible exact labels_MayName.mono _ _)
      | (with_reducible exact LeO.refl _)
      | (with_reducible refine LeO.ite ?_ ?_)
      | (with_reducible refine LeO.bind ?_ (fun _ => ?_))
-- /RAW
theorem lease_MayConfig.calls (k : Nat) (a0_0 : Int) (a0_1 : Int) (a0_2 : Int) (a0_3 : Int) (a0_4 : Int) (a0_5 : Int) (a0_6 : Int) (a0_7 : Int) (a0_8 : Int) (a0_9 : Int) (a0_10 : Int) (a0_11 : Int) (a0_12 : Int) (a0_13 : Int) (a0_14 : Int) (a0_15 : Int) (a0_16 : Int) (a0_17 : Int) (a0_18 : ByteArray) (a0_19 : ByteArray) (r : Bool) (w : World) (h : lease_MayConfig.f k a0_0 a0_1 a0_2 a0_3 a0_4 a0_5 a0_6 a0_7 a0_8 a0_9 a0_10 a0_11 a0_12 a0_13 a0_14 a0_15 a0_16 a0_17 a0_18 a0_19 = some r) :
    Calls Try.prog 19 #[.agg (cells24 a0_0 a0_1 a0_2 a0_3 a0_4 a0_5 a0_6 a0_7 a0_8 a0_9 a0_10 a0_11 a0_12 a0_13 a0_14 a0_15 a0_16 a0_17 a0_18 a0_19)] w fun e w' => e = .returned (.bool r) ∧ Below w.heap.size w w' :=
  lease_cfg_walk k _ a0_0 a0_1 a0_2 a0_3 a0_4 a0_5 a0_6 a0_7 a0_8 a0_9 a0_10 a0_11 a0_12 a0_13 a0_14 a0_15 a0_16 a0_17 a0_18 a0_19 r w rfl h


/-! ### record_May: function 41 -/
def record_May.f (k : Nat) (a0_0 : ByteArray) (a0_1 : Int) (a0_2 : Int) (a0_3 : Bool) : Option (Bool) := (keys_Name.f k a0_0).bind fun t109 => (if t109 = true then (if a0_1 ≥ 1 then (if a0_1 ≤ 1099511627776 then (if a0_2 ≥ 0 then (some (decide (a0_2 ≤ 1125899906842624))) else (some false)) else (some false)) else (some false)) else (some false))
theorem record_May.mono : ∀ a0 a1 a2 a3 k, LeO (record_May.f k a0 a1 a2 a3) (record_May.f (k + 1) a0 a1 a2 a3) := by
  intro a0 a1 a2 a3 k
  unfold record_May.f
  repeat' first
      | (with_reducible exact keys_Name.mono _ _)
      | (with_reducible exact LeO.refl _)
      | (with_reducible exact LeO.none _)
      | (with_reducible refine LeO.ite ?_ ?_)
      | (with_reducible refine LeO.bind ?_ (fun _ => ?_))
      | exact keys_Name.mono _ _
      | exact LeO.none _
      | refine LeO.ite ?_ ?_
      | refine LeO.bind ?_ (fun _ => ?_)
set_option maxHeartbeats 8000000 in
set_option maxRecDepth 100000 in
theorem record_May.calls (k : Nat) (a0_0 : ByteArray) (a0_1 : Int) (a0_2 : Int) (a0_3 : Bool) (r : Bool) (w : World) (h : record_May.f k a0_0 a0_1 a0_2 a0_3 = some r) :
    Calls Try.prog 41 #[.agg #[.string a0_0, .int .i64 a0_1, .int .i64 a0_2, .bool a0_3]] w fun e w' => e = .returned (.bool r) ∧ Below w.heap.size w w' := by
  have hu23 := Try.underlying23
  have HB := Aside0.mk (Below.refl w.heap.size w)
  have H : ((keys_Name.f k a0_0).bind fun t109 => (if t109 = true then (if a0_1 ≥ 1 then (if a0_1 ≤ 1099511627776 then (if a0_2 ≥ 0 then (some (decide (a0_2 ≤ 1125899906842624))) else (some false)) else (some false)) else (some false)) else (some false))) = some r := h
  clear h
  replace H := Option.bind_eq_some_iff.mp H
  obtain ⟨t109, A20, H⟩ := H
  replace H : (if t109 = true then (if a0_1 ≥ 1 then (if a0_1 ≤ 1099511627776 then (if a0_2 ≥ 0 then (some (decide (a0_2 ≤ 1125899906842624))) else (some false)) else (some false)) else (some false)) else (some false)) = some r := H
  have A2 := Aside0.mk A20
  clear A20
  by_cases c3 : t109 = true
  · subst c3
    have H1 : (if a0_1 ≥ 1 then (if a0_1 ≤ 1099511627776 then (if a0_2 ≥ 0 then (some (decide (a0_2 ≤ 1125899906842624))) else (some false)) else (some false)) else (some false)) = some r := by rw [if_pos rfl] at H; exact H
    clear H
    have H := H1
    clear H1
    by_cases c4 : a0_1 ≥ 1
    · rw [if_pos c4] at H
      have c4b0 : decide (1 ≤ a0_1) = true := decide_eq_true c4
      clear c4
      by_cases c5 : a0_1 ≤ 1099511627776
      · rw [if_pos c5] at H
        have c5b0 : decide (a0_1 ≤ 1099511627776) = true := decide_eq_true c5
        clear c5
        by_cases c6 : a0_2 ≥ 0
        · rw [if_pos c6] at H
          have c6b0 : decide (0 ≤ a0_2) = true := decide_eq_true c6
          clear c6
          obtain rfl := Option.some.inj H
          go_enter Try.func41, Try.ntmps41
          go_wp2_with (first | ((with_reducible refine gate_dst (N := 1) rfl ?_); refine box_event ?hg (N := 1) ?hd (cs := #[.string a0_0, .int .i64 a0_1, .int .i64 a0_2, .bool a0_3]) (t := 23) ?hr ?_; (case hd => rfl); (case hg => rfl); (case hr => first | (go_simp; done) | (go_simp; rfl)); intro gb108 hg w7 hbox hb; have n0_ := Aside0.mk (below_step (by repeat (first | (with_reducible first | exact HB.out | apply below_alloc | apply pw_below_drewN | apply below_drew1) | exact HB.out)) hb); have n1_ := Aside0.mk (hbox); have n2_ := Aside0.mk ((by rw [hg]; exact (below_size (by repeat (first | (with_reducible first | exact HB.out | apply below_alloc | apply pw_below_drewN | apply below_drew1) | exact HB.out))) : w.heap.size ≤ gb108)); have n3_ := Aside0.mk ((by rw [hg]; exact (below_size (by repeat (first | (with_reducible first | exact HB.out | apply below_alloc | apply pw_below_drewN | apply below_drew1) | exact HB.out))) : w.heap.size ≤ gb108)); clear HB; have HB := n0_; have BK108 := n1_; have GW108 := n2_; have GE108 := n3_; clear n0_ n1_ n2_ n3_; clear hb hbox hg; have hcz8_0 : w7.cell? ⟨gb108, 0, none⟩ = some (.string a0_0) := (blk_cell BK108.out 0).trans rfl; have hcz8_1 : w7.cell? ⟨gb108, 1, none⟩ = some (.int .i64 a0_1) := (blk_cell BK108.out 1).trans rfl; have hcz8_2 : w7.cell? ⟨gb108, 2, none⟩ = some (.int .i64 a0_2) := (blk_cell BK108.out 2).trans rfl; have hcz8_3 : w7.cell? ⟨gb108, 3, none⟩ = some (.bool a0_3) := (blk_cell BK108.out 3).trans rfl; have hfz8_0 := blk_frozen BK108.out 0; have hfz8_1 := blk_frozen BK108.out 1; have hfz8_2 := blk_frozen BK108.out 2; have hfz8_3 := blk_frozen BK108.out 3) | ((with_reducible refine gate_callee (f := 27) rfl ?_); refine goesL_ (some 5) rfl rfl Try.func27 (by kernel_rfl) rfl #[.string a0_0] rfl (by (try simp only [List.map_toArray, List.map_cons, List.map_nil]); first | done | rfl | (simp only [List.length_drop, List.length_take]; rfl)) ?_; (with_reducible refine (keys_Name.calls k a0_0 true _ A2.out).mono ?_); rintro e w' ⟨rfl, ⟨nd, rfl⟩⟩; refine ⟨_, rfl, ?_⟩))
          go_ret
          exact ⟨by first | rfl | (simp [errW_none, errW_some] <;> rfl) | (simp [*, errW_none, errW_some] <;> rfl), by repeat (first | (with_reducible first | exact HB.out | apply below_alloc | apply pw_below_drewN | apply below_drew1 | refine below_set ?_ GE108.out) | exact HB.out)⟩
        · rw [if_neg c6] at H
          have c6b0 : decide (0 ≤ a0_2) = false := decide_eq_false c6
          clear c6
          obtain rfl := Option.some.inj H
          go_enter Try.func41, Try.ntmps41
          go_wp2_with (first | ((with_reducible refine gate_dst (N := 1) rfl ?_); refine box_event ?hg (N := 1) ?hd (cs := #[.string a0_0, .int .i64 a0_1, .int .i64 a0_2, .bool a0_3]) (t := 23) ?hr ?_; (case hd => rfl); (case hg => rfl); (case hr => first | (go_simp; done) | (go_simp; rfl)); intro gb108 hg w9 hbox hb; have n0_ := Aside0.mk (below_step (by repeat (first | (with_reducible first | exact HB.out | apply below_alloc | apply pw_below_drewN | apply below_drew1) | exact HB.out)) hb); have n1_ := Aside0.mk (hbox); have n2_ := Aside0.mk ((by rw [hg]; exact (below_size (by repeat (first | (with_reducible first | exact HB.out | apply below_alloc | apply pw_below_drewN | apply below_drew1) | exact HB.out))) : w.heap.size ≤ gb108)); have n3_ := Aside0.mk ((by rw [hg]; exact (below_size (by repeat (first | (with_reducible first | exact HB.out | apply below_alloc | apply pw_below_drewN | apply below_drew1) | exact HB.out))) : w.heap.size ≤ gb108)); clear HB; have HB := n0_; have BK108 := n1_; have GW108 := n2_; have GE108 := n3_; clear n0_ n1_ n2_ n3_; clear hb hbox hg; have hcz10_0 : w9.cell? ⟨gb108, 0, none⟩ = some (.string a0_0) := (blk_cell BK108.out 0).trans rfl; have hcz10_1 : w9.cell? ⟨gb108, 1, none⟩ = some (.int .i64 a0_1) := (blk_cell BK108.out 1).trans rfl; have hcz10_2 : w9.cell? ⟨gb108, 2, none⟩ = some (.int .i64 a0_2) := (blk_cell BK108.out 2).trans rfl; have hcz10_3 : w9.cell? ⟨gb108, 3, none⟩ = some (.bool a0_3) := (blk_cell BK108.out 3).trans rfl; have hfz10_0 := blk_frozen BK108.out 0; have hfz10_1 := blk_frozen BK108.out 1; have hfz10_2 := blk_frozen BK108.out 2; have hfz10_3 := blk_frozen BK108.out 3) | ((with_reducible refine gate_callee (f := 27) rfl ?_); refine goesL_ (some 5) rfl rfl Try.func27 (by kernel_rfl) rfl #[.string a0_0] rfl (by (try simp only [List.map_toArray, List.map_cons, List.map_nil]); first | done | rfl | (simp only [List.length_drop, List.length_take]; rfl)) ?_; (with_reducible refine (keys_Name.calls k a0_0 true _ A2.out).mono ?_); rintro e w' ⟨rfl, ⟨nd, rfl⟩⟩; refine ⟨_, rfl, ?_⟩))
          go_ret
          exact ⟨by first | rfl | (simp [errW_none, errW_some] <;> rfl) | (simp [*, errW_none, errW_some] <;> rfl), by repeat (first | (with_reducible first | exact HB.out | apply below_alloc | apply pw_below_drewN | apply below_drew1 | refine below_set ?_ GE108.out) | exact HB.out)⟩
      · rw [if_neg c5] at H
        have c5b0 : decide (a0_1 ≤ 1099511627776) = false := decide_eq_false c5
        clear c5
        obtain rfl := Option.some.inj H
        go_enter Try.func41, Try.ntmps41
        go_wp2_with (first | ((with_reducible refine gate_dst (N := 1) rfl ?_); refine box_event ?hg (N := 1) ?hd (cs := #[.string a0_0, .int .i64 a0_1, .int .i64 a0_2, .bool a0_3]) (t := 23) ?hr ?_; (case hd => rfl); (case hg => rfl); (case hr => first | (go_simp; done) | (go_simp; rfl)); intro gb108 hg w11 hbox hb; have n0_ := Aside0.mk (below_step (by repeat (first | (with_reducible first | exact HB.out | apply below_alloc | apply pw_below_drewN | apply below_drew1) | exact HB.out)) hb); have n1_ := Aside0.mk (hbox); have n2_ := Aside0.mk ((by rw [hg]; exact (below_size (by repeat (first | (with_reducible first | exact HB.out | apply below_alloc | apply pw_below_drewN | apply below_drew1) | exact HB.out))) : w.heap.size ≤ gb108)); have n3_ := Aside0.mk ((by rw [hg]; exact (below_size (by repeat (first | (with_reducible first | exact HB.out | apply below_alloc | apply pw_below_drewN | apply below_drew1) | exact HB.out))) : w.heap.size ≤ gb108)); clear HB; have HB := n0_; have BK108 := n1_; have GW108 := n2_; have GE108 := n3_; clear n0_ n1_ n2_ n3_; clear hb hbox hg; have hcz12_0 : w11.cell? ⟨gb108, 0, none⟩ = some (.string a0_0) := (blk_cell BK108.out 0).trans rfl; have hcz12_1 : w11.cell? ⟨gb108, 1, none⟩ = some (.int .i64 a0_1) := (blk_cell BK108.out 1).trans rfl; have hcz12_2 : w11.cell? ⟨gb108, 2, none⟩ = some (.int .i64 a0_2) := (blk_cell BK108.out 2).trans rfl; have hcz12_3 : w11.cell? ⟨gb108, 3, none⟩ = some (.bool a0_3) := (blk_cell BK108.out 3).trans rfl; have hfz12_0 := blk_frozen BK108.out 0; have hfz12_1 := blk_frozen BK108.out 1; have hfz12_2 := blk_frozen BK108.out 2; have hfz12_3 := blk_frozen BK108.out 3) | ((with_reducible refine gate_callee (f := 27) rfl ?_); refine goesL_ (some 5) rfl rfl Try.func27 (by kernel_rfl) rfl #[.string a0_0] rfl (by (try simp only [List.map_toArray, List.map_cons, List.map_nil]); first | done | rfl | (simp only [List.length_drop, List.length_take]; rfl)) ?_; (with_reducible refine (keys_Name.calls k a0_0 true _ A2.out).mono ?_); rintro e w' ⟨rfl, ⟨nd, rfl⟩⟩; refine ⟨_, rfl, ?_⟩))
        go_ret
        exact ⟨by first | rfl | (simp [errW_none, errW_some] <;> rfl) | (simp [*, errW_none, errW_some] <;> rfl), by repeat (first | (with_reducible first | exact HB.out | apply below_alloc | apply pw_below_drewN | apply below_drew1 | refine below_set ?_ GE108.out) | exact HB.out)⟩
    · rw [if_neg c4] at H
      have c4b0 : decide (1 ≤ a0_1) = false := decide_eq_false c4
      clear c4
      obtain rfl := Option.some.inj H
      go_enter Try.func41, Try.ntmps41
      go_wp2_with (first | ((with_reducible refine gate_dst (N := 1) rfl ?_); refine box_event ?hg (N := 1) ?hd (cs := #[.string a0_0, .int .i64 a0_1, .int .i64 a0_2, .bool a0_3]) (t := 23) ?hr ?_; (case hd => rfl); (case hg => rfl); (case hr => first | (go_simp; done) | (go_simp; rfl)); intro gb108 hg w13 hbox hb; have n0_ := Aside0.mk (below_step (by repeat (first | (with_reducible first | exact HB.out | apply below_alloc | apply pw_below_drewN | apply below_drew1) | exact HB.out)) hb); have n1_ := Aside0.mk (hbox); have n2_ := Aside0.mk ((by rw [hg]; exact (below_size (by repeat (first | (with_reducible first | exact HB.out | apply below_alloc | apply pw_below_drewN | apply below_drew1) | exact HB.out))) : w.heap.size ≤ gb108)); have n3_ := Aside0.mk ((by rw [hg]; exact (below_size (by repeat (first | (with_reducible first | exact HB.out | apply below_alloc | apply pw_below_drewN | apply below_drew1) | exact HB.out))) : w.heap.size ≤ gb108)); clear HB; have HB := n0_; have BK108 := n1_; have GW108 := n2_; have GE108 := n3_; clear n0_ n1_ n2_ n3_; clear hb hbox hg; have hcz14_0 : w13.cell? ⟨gb108, 0, none⟩ = some (.string a0_0) := (blk_cell BK108.out 0).trans rfl; have hcz14_1 : w13.cell? ⟨gb108, 1, none⟩ = some (.int .i64 a0_1) := (blk_cell BK108.out 1).trans rfl; have hcz14_2 : w13.cell? ⟨gb108, 2, none⟩ = some (.int .i64 a0_2) := (blk_cell BK108.out 2).trans rfl; have hcz14_3 : w13.cell? ⟨gb108, 3, none⟩ = some (.bool a0_3) := (blk_cell BK108.out 3).trans rfl; have hfz14_0 := blk_frozen BK108.out 0; have hfz14_1 := blk_frozen BK108.out 1; have hfz14_2 := blk_frozen BK108.out 2; have hfz14_3 := blk_frozen BK108.out 3) | ((with_reducible refine gate_callee (f := 27) rfl ?_); refine goesL_ (some 5) rfl rfl Try.func27 (by kernel_rfl) rfl #[.string a0_0] rfl (by (try simp only [List.map_toArray, List.map_cons, List.map_nil]); first | done | rfl | (simp only [List.length_drop, List.length_take]; rfl)) ?_; (with_reducible refine (keys_Name.calls k a0_0 true _ A2.out).mono ?_); rintro e w' ⟨rfl, ⟨nd, rfl⟩⟩; refine ⟨_, rfl, ?_⟩))
      go_ret
      exact ⟨by first | rfl | (simp [errW_none, errW_some] <;> rfl) | (simp [*, errW_none, errW_some] <;> rfl), by repeat (first | (with_reducible first | exact HB.out | apply below_alloc | apply pw_below_drewN | apply below_drew1 | refine below_set ?_ GE108.out) | exact HB.out)⟩
  · replace c3 := Bool.eq_false_iff.mpr c3
    subst c3
    have H1 : (some false) = some r := by rw [if_neg (show ¬ (false = true) by decide)] at H; exact H
    clear H
    have H := H1
    clear H1
    obtain rfl := Option.some.inj H
    go_enter Try.func41, Try.ntmps41
    go_wp2_with (first | ((with_reducible refine gate_dst (N := 1) rfl ?_); refine box_event ?hg (N := 1) ?hd (cs := #[.string a0_0, .int .i64 a0_1, .int .i64 a0_2, .bool a0_3]) (t := 23) ?hr ?_; (case hd => rfl); (case hg => rfl); (case hr => first | (go_simp; done) | (go_simp; rfl)); intro gb108 hg w15 hbox hb; have n0_ := Aside0.mk (below_step (by repeat (first | (with_reducible first | exact HB.out | apply below_alloc | apply pw_below_drewN | apply below_drew1) | exact HB.out)) hb); have n1_ := Aside0.mk (hbox); have n2_ := Aside0.mk ((by rw [hg]; exact (below_size (by repeat (first | (with_reducible first | exact HB.out | apply below_alloc | apply pw_below_drewN | apply below_drew1) | exact HB.out))) : w.heap.size ≤ gb108)); have n3_ := Aside0.mk ((by rw [hg]; exact (below_size (by repeat (first | (with_reducible first | exact HB.out | apply below_alloc | apply pw_below_drewN | apply below_drew1) | exact HB.out))) : w.heap.size ≤ gb108)); clear HB; have HB := n0_; have BK108 := n1_; have GW108 := n2_; have GE108 := n3_; clear n0_ n1_ n2_ n3_; clear hb hbox hg; have hcz16_0 : w15.cell? ⟨gb108, 0, none⟩ = some (.string a0_0) := (blk_cell BK108.out 0).trans rfl; have hcz16_1 : w15.cell? ⟨gb108, 1, none⟩ = some (.int .i64 a0_1) := (blk_cell BK108.out 1).trans rfl; have hcz16_2 : w15.cell? ⟨gb108, 2, none⟩ = some (.int .i64 a0_2) := (blk_cell BK108.out 2).trans rfl; have hcz16_3 : w15.cell? ⟨gb108, 3, none⟩ = some (.bool a0_3) := (blk_cell BK108.out 3).trans rfl; have hfz16_0 := blk_frozen BK108.out 0; have hfz16_1 := blk_frozen BK108.out 1; have hfz16_2 := blk_frozen BK108.out 2; have hfz16_3 := blk_frozen BK108.out 3) | ((with_reducible refine gate_callee (f := 27) rfl ?_); refine goesL_ (some 5) rfl rfl Try.func27 (by kernel_rfl) rfl #[.string a0_0] rfl (by (try simp only [List.map_toArray, List.map_cons, List.map_nil]); first | done | rfl | (simp only [List.length_drop, List.length_take]; rfl)) ?_; (with_reducible refine (keys_Name.calls k a0_0 false _ A2.out).mono ?_); rintro e w' ⟨rfl, ⟨nd, rfl⟩⟩; refine ⟨_, rfl, ?_⟩))
    go_ret
    exact ⟨by first | rfl | (simp [errW_none, errW_some] <;> rfl) | (simp [*, errW_none, errW_some] <;> rfl), by repeat (first | (with_reducible first | exact HB.out | apply below_alloc | apply pw_below_drewN | apply below_drew1 | refine below_set ?_ GE108.out) | exact HB.out)⟩

/-! ### lease_may: function 28 -/
def lease_may.f (k : Nat) (a0_0 : ByteArray) (a0_1 : Int) (a0_2 : Int) (a0_3 : Bool) (a1 : Int) (a2_0 : Int) (a2_1 : Int) (a2_2 : Int) (a2_3 : Int) (a2_4 : Int) (a2_5 : Int) (a2_6 : Int) (a2_7 : Int) (a2_8 : Int) (a2_9 : Int) (a2_10 : Int) (a2_11 : Int) (a2_12 : Int) (a2_13 : Int) (a2_14 : Int) (a2_15 : Int) (a2_16 : Int) (a2_17 : Int) (a2_18 : ByteArray) (a2_19 : ByteArray) : Option (Bool) := (lease_bound_in.f a1 0 1125899906842624).bind fun t112 => (if t112 = true then ((record_May.f k a0_0 a0_1 a0_2 a0_3).bind fun t113 => (if t113 = true then ((lease_MayConfig.f k a2_0 a2_1 a2_2 a2_3 a2_4 a2_5 a2_6 a2_7 a2_8 a2_9 a2_10 a2_11 a2_12 a2_13 a2_14 a2_15 a2_16 a2_17 a2_18 a2_19).bind fun t114 => (some t114)) else (some false))) else (some false))
theorem lease_may.mono : ∀ a0 a1 a2 a3 a4 a5 a6 a7 a8 a9 a10 a11 a12 a13 a14 a15 a16 a17 a18 a19 a20 a21 a22 a23 a24 k, LeO (lease_may.f k a0 a1 a2 a3 a4 a5 a6 a7 a8 a9 a10 a11 a12 a13 a14 a15 a16 a17 a18 a19 a20 a21 a22 a23 a24) (lease_may.f (k + 1) a0 a1 a2 a3 a4 a5 a6 a7 a8 a9 a10 a11 a12 a13 a14 a15 a16 a17 a18 a19 a20 a21 a22 a23 a24) := by
  intro a0 a1 a2 a3 a4 a5 a6 a7 a8 a9 a10 a11 a12 a13 a14 a15 a16 a17 a18 a19 a20 a21 a22 a23 a24 k
  unfold lease_may.f
  repeat' first
      | (with_reducible exact lease_MayConfig.mono _ _ _ _ _ _ _ _ _ _ _ _ _ _ _ _ _ _ _ _ _)
      | (with_reducible exact record_May.mono _ _ _ _ _)
      | (with_reducible exact LeO.refl _)
      | (with_reducible exact LeO.none _)
      | (with_reducible refine LeO.ite ?_ ?_)
      | (with_reducible refine LeO.bind ?_ (fun _ => ?_))
      | exact lease_MayConfig.mono _ _ _ _ _ _ _ _ _ _ _ _ _ _ _ _ _ _ _ _ _
      | exact record_May.mono _ _ _ _ _
      | exact LeO.none _
      | refine LeO.ite ?_ ?_
      | refine LeO.bind ?_ (fun _ => ?_)
set_option maxHeartbeats 8000000 in
set_option maxRecDepth 100000 in
theorem lease_may.calls (k : Nat) (a0_0 : ByteArray) (a0_1 : Int) (a0_2 : Int) (a0_3 : Bool) (a1 : Int) (a2_0 : Int) (a2_1 : Int) (a2_2 : Int) (a2_3 : Int) (a2_4 : Int) (a2_5 : Int) (a2_6 : Int) (a2_7 : Int) (a2_8 : Int) (a2_9 : Int) (a2_10 : Int) (a2_11 : Int) (a2_12 : Int) (a2_13 : Int) (a2_14 : Int) (a2_15 : Int) (a2_16 : Int) (a2_17 : Int) (a2_18 : ByteArray) (a2_19 : ByteArray) (r : Bool) (w : World) (h : lease_may.f k a0_0 a0_1 a0_2 a0_3 a1 a2_0 a2_1 a2_2 a2_3 a2_4 a2_5 a2_6 a2_7 a2_8 a2_9 a2_10 a2_11 a2_12 a2_13 a2_14 a2_15 a2_16 a2_17 a2_18 a2_19 = some r) :
    Calls Try.prog 28 #[.agg #[.string a0_0, .int .i64 a0_1, .int .i64 a0_2, .bool a0_3], .int .i64 a1, .agg (cells24 a2_0 a2_1 a2_2 a2_3 a2_4 a2_5 a2_6 a2_7 a2_8 a2_9 a2_10 a2_11 a2_12 a2_13 a2_14 a2_15 a2_16 a2_17 a2_18 a2_19)] w fun e w' => e = .returned (.bool r) ∧ Below w.heap.size w w' := by
  have hu23 := Try.underlying23
  have hu25 := Try.underlying25
  have hu45 := Try.underlying45
  have HB := Aside0.mk (Below.refl w.heap.size w)
  have H : ((lease_bound_in.f a1 0 1125899906842624).bind fun t112 => (if t112 = true then ((record_May.f k a0_0 a0_1 a0_2 a0_3).bind fun t113 => (if t113 = true then ((lease_MayConfig.f k a2_0 a2_1 a2_2 a2_3 a2_4 a2_5 a2_6 a2_7 a2_8 a2_9 a2_10 a2_11 a2_12 a2_13 a2_14 a2_15 a2_16 a2_17 a2_18 a2_19).bind fun t114 => (some t114)) else (some false))) else (some false))) = some r := h
  clear h
  replace H := Option.bind_eq_some_iff.mp H
  obtain ⟨t112, A40, H⟩ := H
  replace H : (if t112 = true then ((record_May.f k a0_0 a0_1 a0_2 a0_3).bind fun t113 => (if t113 = true then ((lease_MayConfig.f k a2_0 a2_1 a2_2 a2_3 a2_4 a2_5 a2_6 a2_7 a2_8 a2_9 a2_10 a2_11 a2_12 a2_13 a2_14 a2_15 a2_16 a2_17 a2_18 a2_19).bind fun t114 => (some t114)) else (some false))) else (some false)) = some r := H
  have A4 := Aside0.mk A40
  clear A40
  by_cases c5 : t112 = true
  · subst c5
    have H1 : ((record_May.f k a0_0 a0_1 a0_2 a0_3).bind fun t113 => (if t113 = true then ((lease_MayConfig.f k a2_0 a2_1 a2_2 a2_3 a2_4 a2_5 a2_6 a2_7 a2_8 a2_9 a2_10 a2_11 a2_12 a2_13 a2_14 a2_15 a2_16 a2_17 a2_18 a2_19).bind fun t114 => (some t114)) else (some false))) = some r := by rw [if_pos rfl] at H; exact H
    clear H
    have H := H1
    clear H1
    replace H := Option.bind_eq_some_iff.mp H
    obtain ⟨t113, A60, H⟩ := H
    replace H : (if t113 = true then ((lease_MayConfig.f k a2_0 a2_1 a2_2 a2_3 a2_4 a2_5 a2_6 a2_7 a2_8 a2_9 a2_10 a2_11 a2_12 a2_13 a2_14 a2_15 a2_16 a2_17 a2_18 a2_19).bind fun t114 => (some t114)) else (some false)) = some r := H
    have A6 := Aside0.mk A60
    clear A60
    by_cases c7 : t113 = true
    · subst c7
      have H1 : ((lease_MayConfig.f k a2_0 a2_1 a2_2 a2_3 a2_4 a2_5 a2_6 a2_7 a2_8 a2_9 a2_10 a2_11 a2_12 a2_13 a2_14 a2_15 a2_16 a2_17 a2_18 a2_19).bind fun t114 => (some t114)) = some r := by rw [if_pos rfl] at H; exact H
      clear H
      have H := H1
      clear H1
      replace H := Option.bind_eq_some_iff.mp H
      obtain ⟨t114, A80, H⟩ := H
      replace H : (some t114) = some r := H
      have A8 := Aside0.mk A80
      clear A80
      obtain rfl := Option.some.inj H
      go_enter Try.func28, Try.ntmps28
      go_wp2_with (first | ((with_reducible refine gate_store (T := 25) rfl ?_); (try (refine gate_guard (by rfl) ?_; dsimp only)); refine wpList_store_row rfl 25 _ _ rfl gb111 _ rfl rfl 25 _ (by (with_reducible repeat (first | refine blk_drewN ?_ _ | refine blk_drew ?_ | refine blk_alloc ?_ _)); exact BK111.out) (by kernel_rfl) (by rfl) (by first | exact cells24_one .. | (simp [Value.oneCell']; done)) ?_) | ((with_reducible refine gate_load (T := 25) rfl ?_); (try (refine gate_guard (by rfl) ?_; dsimp only)); refine wpList_load_row rfl 25 _ rfl gb111 rfl 25 _ (0, 0) _ (by (with_reducible repeat (first | refine blk_drewN ?_ _ | refine blk_drew ?_ | refine blk_alloc ?_ _)); exact BK111.out) Try.underlying25 rfl (by kernel_rfl) ?_) | ((with_reducible refine gate_dst (N := 3) rfl ?_); refine box_event ?hg (N := 3) ?hd (cs := #[.string a0_0, .int .i64 a0_1, .int .i64 a0_2, .bool a0_3]) (t := 23) ?hr ?_; (case hd => rfl); (case hg => rfl); (case hr => first | (go_simp; done) | (go_simp; rfl)); intro gb110 hg w9 hbox hb; have n0_ := Aside0.mk (below_step (by repeat (first | (with_reducible first | exact HB.out | apply below_alloc | apply pw_below_drewN | apply below_drew1) | exact HB.out)) hb); have n1_ := Aside0.mk (hbox); have n2_ := Aside0.mk ((by rw [hg]; exact (below_size (by repeat (first | (with_reducible first | exact HB.out | apply below_alloc | apply pw_below_drewN | apply below_drew1) | exact HB.out))) : w.heap.size ≤ gb110)); have n3_ := Aside0.mk ((by rw [hg]; exact (below_size (by repeat (first | (with_reducible first | exact HB.out | apply below_alloc | apply pw_below_drewN | apply below_drew1) | exact HB.out))) : w.heap.size ≤ gb110)); clear HB; have HB := n0_; have BK110 := n1_; have GW110 := n2_; have GE110 := n3_; clear n0_ n1_ n2_ n3_; clear hb hbox hg) | ((with_reducible refine gate_dst (N := 5) rfl ?_); refine box_event ?hg (N := 5) ?hd (cs := (cells24 a2_0 a2_1 a2_2 a2_3 a2_4 a2_5 a2_6 a2_7 a2_8 a2_9 a2_10 a2_11 a2_12 a2_13 a2_14 a2_15 a2_16 a2_17 a2_18 a2_19)) (t := 25) ?hr ?_; (case hd => rfl); (case hg => rfl); (case hr => first | (go_simp; done) | (go_simp; rfl)); intro gb111 hg w10 hbox hb; have n0_ := Aside0.mk (blk_below (g := gb110) (o := .cells #[.string a0_0, .int .i64 a0_1, .int .i64 a0_2, .bool a0_3] 23 (0, 0)) (by (with_reducible repeat (first | refine blk_drewN ?_ _ | refine blk_drew ?_ | refine blk_alloc ?_ _)); exact BK110.out) hb); have n1_ := Aside0.mk (below_step (by repeat (first | (with_reducible first | exact HB.out | apply below_alloc | apply pw_below_drewN | apply below_drew1 | refine below_set ?_ GE110.out | refine below_setRow ?_ GE110.out _) | exact HB.out)) hb); have n2_ := Aside0.mk (hbox); have n3_ := Aside0.mk ((by rw [hg]; exact (below_size (by repeat (first | (with_reducible first | exact HB.out | apply below_alloc | apply pw_below_drewN | apply below_drew1 | refine below_set ?_ GE110.out | refine below_setRow ?_ GE110.out _) | exact HB.out))) : w.heap.size ≤ gb111)); have n4_ := Aside0.mk ((by rw [hg]; exact (below_size (by repeat (first | (with_reducible first | exact HB.out | apply below_alloc | apply pw_below_drewN | apply below_drew1 | refine below_set ?_ GE110.out | refine below_setRow ?_ GE110.out _) | exact HB.out))) : w.heap.size ≤ gb111)); have n5_ := Aside0.mk ((by rw [hg]; exact Nat.ne_of_lt (blk_lt (g := gb110) (o := .cells #[.string a0_0, .int .i64 a0_1, .int .i64 a0_2, .bool a0_3] 23 (0, 0)) (by (with_reducible repeat (first | refine blk_drewN ?_ _ | refine blk_drew ?_ | refine blk_alloc ?_ _)); exact BK110.out)) : gb110 ≠ gb111)); have n6_ := Aside0.mk ((by rw [hg]; exact Nat.ne_of_gt (blk_lt (g := gb110) (o := .cells #[.string a0_0, .int .i64 a0_1, .int .i64 a0_2, .bool a0_3] 23 (0, 0)) (by (with_reducible repeat (first | refine blk_drewN ?_ _ | refine blk_drew ?_ | refine blk_alloc ?_ _)); exact BK110.out)) : gb111 ≠ gb110)); clear BK110; clear HB; have BK110 := n0_; have HB := n1_; have BK111 := n2_; have GW111 := n3_; have GE111 := n4_; have NB110_111 := n5_; have NB111_110 := n6_; clear n0_ n1_ n2_ n3_ n4_ n5_ n6_; clear hb hbox hg) | ((with_reducible refine gate_callee (f := 29) rfl ?_); refine goesL_ (some 9) rfl rfl Try.func29 (by kernel_rfl) rfl #[.agg #[.int .i64 a1, .int .i64 0, .int .i64 1125899906842624]] rfl (by (try simp only [List.map_toArray, List.map_cons, List.map_nil]); first | done | rfl | (simp only [List.length_drop, List.length_take]; rfl)) ?_; (with_reducible refine (lease_bound_in.calls a1 0 1125899906842624 true _ A4.out).mono ?_); rintro e w11 ⟨rfl, hb⟩; refine ⟨_, rfl, ?_⟩; have n0_ := Aside0.mk (blk_below (g := gb110) (o := .cells #[.string a0_0, .int .i64 a0_1, .int .i64 a0_2, .bool a0_3] 23 (0, 0)) (by (with_reducible repeat (first | refine blk_drewN ?_ _ | refine blk_drew ?_ | refine blk_alloc ?_ _)); exact BK110.out) hb); have n1_ := Aside0.mk (blk_below (g := gb111) (o := .cells (cells24 a2_0 a2_1 a2_2 a2_3 a2_4 a2_5 a2_6 a2_7 a2_8 a2_9 a2_10 a2_11 a2_12 a2_13 a2_14 a2_15 a2_16 a2_17 a2_18 a2_19) 25 (0, 0)) (by (with_reducible repeat (first | refine blk_drewN ?_ _ | refine blk_drew ?_ | refine blk_alloc ?_ _)); exact BK111.out) hb); have n2_ := Aside0.mk (below_step (by repeat (first | (with_reducible first | exact HB.out | apply below_alloc | apply pw_below_drewN | apply below_drew1 | refine below_set ?_ GE110.out | refine below_setRow ?_ GE110.out _ | refine below_set ?_ GE111.out | refine below_setRow ?_ GE111.out _) | exact HB.out)) hb); clear BK110; clear BK111; clear HB; have BK110 := n0_; have BK111 := n1_; have HB := n2_; clear n0_ n1_ n2_; (try clear hb); (try clear hb2); (try clear hk); (try clear hi); have hnb12 := NB110_111.out; have hnc12 := NB111_110.out; have hcz13_0 : w11.cell? ⟨gb110, 0, none⟩ = some (.string a0_0) := (blk_cell BK110.out 0).trans rfl; have hcz13_1 : w11.cell? ⟨gb110, 1, none⟩ = some (.int .i64 a0_1) := (blk_cell BK110.out 1).trans rfl; have hcz13_2 : w11.cell? ⟨gb110, 2, none⟩ = some (.int .i64 a0_2) := (blk_cell BK110.out 2).trans rfl; have hcz13_3 : w11.cell? ⟨gb110, 3, none⟩ = some (.bool a0_3) := (blk_cell BK110.out 3).trans rfl; have hfz13_0 := blk_frozen BK110.out 0; have hfz13_1 := blk_frozen BK110.out 1; have hfz13_2 := blk_frozen BK110.out 2; have hfz13_3 := blk_frozen BK110.out 3) | (go_at_call 41; (with_reducible refine (record_May.calls k a0_0 a0_1 a0_2 a0_3 true _ A6.out).mono ?_); rintro e w14 ⟨rfl, hb⟩; have n0_ := Aside0.mk (blk_below (g := gb110) (o := .cells #[.string a0_0, .int .i64 a0_1, .int .i64 a0_2, .bool a0_3] 23 (0, 0)) (by (with_reducible repeat (first | refine blk_drewN ?_ _ | refine blk_drew ?_ | refine blk_alloc ?_ _)); exact BK110.out) hb); have n1_ := Aside0.mk (blk_below (g := gb111) (o := .cells (cells24 a2_0 a2_1 a2_2 a2_3 a2_4 a2_5 a2_6 a2_7 a2_8 a2_9 a2_10 a2_11 a2_12 a2_13 a2_14 a2_15 a2_16 a2_17 a2_18 a2_19) 25 (0, 0)) (by (with_reducible repeat (first | refine blk_drewN ?_ _ | refine blk_drew ?_ | refine blk_alloc ?_ _)); exact BK111.out) hb); have n2_ := Aside0.mk (below_step (by repeat (first | (with_reducible first | exact HB.out | apply below_alloc | apply pw_below_drewN | apply below_drew1 | refine below_set ?_ GE110.out | refine below_setRow ?_ GE110.out _ | refine below_set ?_ GE111.out | refine below_setRow ?_ GE111.out _) | exact HB.out)) hb); clear BK110; clear BK111; clear HB; have BK110 := n0_; have BK111 := n1_; have HB := n2_; clear n0_ n1_ n2_; (try clear hb); (try clear hb2); (try clear hk); (try clear hi); have hcz15_0 : w14.cell? ⟨gb111, 0, none⟩ = some (.int .i64 a2_0) := (blk_cell BK111.out 0).trans rfl; have hcz15_1 : w14.cell? ⟨gb111, 1, none⟩ = some (.int .i64 a2_1) := (blk_cell BK111.out 1).trans rfl; have hcz15_2 : w14.cell? ⟨gb111, 2, none⟩ = some (.int .i64 a2_2) := (blk_cell BK111.out 2).trans rfl; have hcz15_3 : w14.cell? ⟨gb111, 3, none⟩ = some (.int .i64 a2_3) := (blk_cell BK111.out 3).trans rfl; have hcz15_4 : w14.cell? ⟨gb111, 4, none⟩ = some (.int .i64 a2_4) := (blk_cell BK111.out 4).trans rfl; have hcz15_5 : w14.cell? ⟨gb111, 5, none⟩ = some (.int .i64 a2_5) := (blk_cell BK111.out 5).trans rfl; have hcz15_6 : w14.cell? ⟨gb111, 6, none⟩ = some (.int .i64 a2_6) := (blk_cell BK111.out 6).trans rfl; have hcz15_7 : w14.cell? ⟨gb111, 7, none⟩ = some (.int .i64 a2_7) := (blk_cell BK111.out 7).trans rfl; have hcz15_8 : w14.cell? ⟨gb111, 8, none⟩ = some (.int .i64 a2_8) := (blk_cell BK111.out 8).trans rfl; have hcz15_9 : w14.cell? ⟨gb111, 9, none⟩ = some (.int .i64 a2_9) := (blk_cell BK111.out 9).trans rfl; have hcz15_10 : w14.cell? ⟨gb111, 10, none⟩ = some (.int .i64 a2_10) := (blk_cell BK111.out 10).trans rfl; have hcz15_11 : w14.cell? ⟨gb111, 11, none⟩ = some (.int .i64 a2_11) := (blk_cell BK111.out 11).trans rfl; have hcz15_12 : w14.cell? ⟨gb111, 12, none⟩ = some (.int .i64 a2_12) := (blk_cell BK111.out 12).trans rfl; have hcz15_13 : w14.cell? ⟨gb111, 13, none⟩ = some (.int .i64 a2_13) := (blk_cell BK111.out 13).trans rfl; have hcz15_14 : w14.cell? ⟨gb111, 14, none⟩ = some (.int .i64 a2_14) := (blk_cell BK111.out 14).trans rfl; have hcz15_15 : w14.cell? ⟨gb111, 15, none⟩ = some (.int .i64 a2_15) := (blk_cell BK111.out 15).trans rfl; have hcz15_16 : w14.cell? ⟨gb111, 16, none⟩ = some (.int .i64 a2_16) := (blk_cell BK111.out 16).trans rfl; have hcz15_17 : w14.cell? ⟨gb111, 17, none⟩ = some (.int .i64 a2_17) := (blk_cell BK111.out 17).trans rfl; have hcz15_18 : w14.cell? ⟨gb111, 18, none⟩ = some (.string a2_18) := (blk_cell BK111.out 18).trans rfl; have hcz15_19 : w14.cell? ⟨gb111, 19, none⟩ = some (.string a2_19) := (blk_cell BK111.out 19).trans rfl; have hfz15_0 := blk_frozen BK111.out 0; have hfz15_1 := blk_frozen BK111.out 1; have hfz15_2 := blk_frozen BK111.out 2; have hfz15_3 := blk_frozen BK111.out 3; have hfz15_4 := blk_frozen BK111.out 4; have hfz15_5 := blk_frozen BK111.out 5; have hfz15_6 := blk_frozen BK111.out 6; have hfz15_7 := blk_frozen BK111.out 7; have hfz15_8 := blk_frozen BK111.out 8; have hfz15_9 := blk_frozen BK111.out 9; have hfz15_10 := blk_frozen BK111.out 10; have hfz15_11 := blk_frozen BK111.out 11; have hfz15_12 := blk_frozen BK111.out 12; have hfz15_13 := blk_frozen BK111.out 13; have hfz15_14 := blk_frozen BK111.out 14; have hfz15_15 := blk_frozen BK111.out 15; have hfz15_16 := blk_frozen BK111.out 16; have hfz15_17 := blk_frozen BK111.out 17; have hfz15_18 := blk_frozen BK111.out 18; have hfz15_19 := blk_frozen BK111.out 19) | (go_at_call 19; (with_reducible refine (lease_MayConfig.calls k a2_0 a2_1 a2_2 a2_3 a2_4 a2_5 a2_6 a2_7 a2_8 a2_9 a2_10 a2_11 a2_12 a2_13 a2_14 a2_15 a2_16 a2_17 a2_18 a2_19 t114 _ A8.out).mono ?_); rintro e w16 ⟨rfl, hb⟩; have n0_ := Aside0.mk (blk_below (g := gb110) (o := .cells #[.string a0_0, .int .i64 a0_1, .int .i64 a0_2, .bool a0_3] 23 (0, 0)) (by (with_reducible repeat (first | refine blk_drewN ?_ _ | refine blk_drew ?_ | refine blk_alloc ?_ _)); exact BK110.out) hb); have n1_ := Aside0.mk (blk_below (g := gb111) (o := .cells (cells24 a2_0 a2_1 a2_2 a2_3 a2_4 a2_5 a2_6 a2_7 a2_8 a2_9 a2_10 a2_11 a2_12 a2_13 a2_14 a2_15 a2_16 a2_17 a2_18 a2_19) 25 (0, 0)) (by (with_reducible repeat (first | refine blk_drewN ?_ _ | refine blk_drew ?_ | refine blk_alloc ?_ _)); exact BK111.out) hb); have n2_ := Aside0.mk (below_step (by repeat (first | (with_reducible first | exact HB.out | apply below_alloc | apply pw_below_drewN | apply below_drew1 | refine below_set ?_ GE110.out | refine below_setRow ?_ GE110.out _ | refine below_set ?_ GE111.out | refine below_setRow ?_ GE111.out _) | exact HB.out)) hb); clear BK110; clear BK111; clear HB; have BK110 := n0_; have BK111 := n1_; have HB := n2_; clear n0_ n1_ n2_; (try clear hb); (try clear hb2); (try clear hk); (try clear hi)))
      go_ret
      exact ⟨by first | rfl | (simp [errW_none, errW_some] <;> rfl) | (simp [*, errW_none, errW_some] <;> rfl), by repeat (first | (with_reducible first | exact HB.out | apply below_alloc | apply pw_below_drewN | apply below_drew1 | refine below_set ?_ GE110.out | refine below_setRow ?_ GE110.out _ | refine below_set ?_ GE111.out | refine below_setRow ?_ GE111.out _) | exact HB.out)⟩
    · replace c7 := Bool.eq_false_iff.mpr c7
      subst c7
      have H1 : (some false) = some r := by rw [if_neg (show ¬ (false = true) by decide)] at H; exact H
      clear H
      have H := H1
      clear H1
      obtain rfl := Option.some.inj H
      go_enter Try.func28, Try.ntmps28
      go_wp2_with (first | ((with_reducible refine gate_store (T := 25) rfl ?_); (try (refine gate_guard (by rfl) ?_; dsimp only)); refine wpList_store_row rfl 25 _ _ rfl gb111 _ rfl rfl 25 _ (by (with_reducible repeat (first | refine blk_drewN ?_ _ | refine blk_drew ?_ | refine blk_alloc ?_ _)); exact BK111.out) (by kernel_rfl) (by rfl) (by first | exact cells24_one .. | (simp [Value.oneCell']; done)) ?_) | ((with_reducible refine gate_load (T := 25) rfl ?_); (try (refine gate_guard (by rfl) ?_; dsimp only)); refine wpList_load_row rfl 25 _ rfl gb111 rfl 25 _ (0, 0) _ (by (with_reducible repeat (first | refine blk_drewN ?_ _ | refine blk_drew ?_ | refine blk_alloc ?_ _)); exact BK111.out) Try.underlying25 rfl (by kernel_rfl) ?_) | ((with_reducible refine gate_dst (N := 3) rfl ?_); refine box_event ?hg (N := 3) ?hd (cs := #[.string a0_0, .int .i64 a0_1, .int .i64 a0_2, .bool a0_3]) (t := 23) ?hr ?_; (case hd => rfl); (case hg => rfl); (case hr => first | (go_simp; done) | (go_simp; rfl)); intro gb110 hg w17 hbox hb; have n0_ := Aside0.mk (below_step (by repeat (first | (with_reducible first | exact HB.out | apply below_alloc | apply pw_below_drewN | apply below_drew1) | exact HB.out)) hb); have n1_ := Aside0.mk (hbox); have n2_ := Aside0.mk ((by rw [hg]; exact (below_size (by repeat (first | (with_reducible first | exact HB.out | apply below_alloc | apply pw_below_drewN | apply below_drew1) | exact HB.out))) : w.heap.size ≤ gb110)); have n3_ := Aside0.mk ((by rw [hg]; exact (below_size (by repeat (first | (with_reducible first | exact HB.out | apply below_alloc | apply pw_below_drewN | apply below_drew1) | exact HB.out))) : w.heap.size ≤ gb110)); clear HB; have HB := n0_; have BK110 := n1_; have GW110 := n2_; have GE110 := n3_; clear n0_ n1_ n2_ n3_; clear hb hbox hg) | ((with_reducible refine gate_dst (N := 5) rfl ?_); refine box_event ?hg (N := 5) ?hd (cs := (cells24 a2_0 a2_1 a2_2 a2_3 a2_4 a2_5 a2_6 a2_7 a2_8 a2_9 a2_10 a2_11 a2_12 a2_13 a2_14 a2_15 a2_16 a2_17 a2_18 a2_19)) (t := 25) ?hr ?_; (case hd => rfl); (case hg => rfl); (case hr => first | (go_simp; done) | (go_simp; rfl)); intro gb111 hg w18 hbox hb; have n0_ := Aside0.mk (blk_below (g := gb110) (o := .cells #[.string a0_0, .int .i64 a0_1, .int .i64 a0_2, .bool a0_3] 23 (0, 0)) (by (with_reducible repeat (first | refine blk_drewN ?_ _ | refine blk_drew ?_ | refine blk_alloc ?_ _)); exact BK110.out) hb); have n1_ := Aside0.mk (below_step (by repeat (first | (with_reducible first | exact HB.out | apply below_alloc | apply pw_below_drewN | apply below_drew1 | refine below_set ?_ GE110.out | refine below_setRow ?_ GE110.out _) | exact HB.out)) hb); have n2_ := Aside0.mk (hbox); have n3_ := Aside0.mk ((by rw [hg]; exact (below_size (by repeat (first | (with_reducible first | exact HB.out | apply below_alloc | apply pw_below_drewN | apply below_drew1 | refine below_set ?_ GE110.out | refine below_setRow ?_ GE110.out _) | exact HB.out))) : w.heap.size ≤ gb111)); have n4_ := Aside0.mk ((by rw [hg]; exact (below_size (by repeat (first | (with_reducible first | exact HB.out | apply below_alloc | apply pw_below_drewN | apply below_drew1 | refine below_set ?_ GE110.out | refine below_setRow ?_ GE110.out _) | exact HB.out))) : w.heap.size ≤ gb111)); have n5_ := Aside0.mk ((by rw [hg]; exact Nat.ne_of_lt (blk_lt (g := gb110) (o := .cells #[.string a0_0, .int .i64 a0_1, .int .i64 a0_2, .bool a0_3] 23 (0, 0)) (by (with_reducible repeat (first | refine blk_drewN ?_ _ | refine blk_drew ?_ | refine blk_alloc ?_ _)); exact BK110.out)) : gb110 ≠ gb111)); have n6_ := Aside0.mk ((by rw [hg]; exact Nat.ne_of_gt (blk_lt (g := gb110) (o := .cells #[.string a0_0, .int .i64 a0_1, .int .i64 a0_2, .bool a0_3] 23 (0, 0)) (by (with_reducible repeat (first | refine blk_drewN ?_ _ | refine blk_drew ?_ | refine blk_alloc ?_ _)); exact BK110.out)) : gb111 ≠ gb110)); clear BK110; clear HB; have BK110 := n0_; have HB := n1_; have BK111 := n2_; have GW111 := n3_; have GE111 := n4_; have NB110_111 := n5_; have NB111_110 := n6_; clear n0_ n1_ n2_ n3_ n4_ n5_ n6_; clear hb hbox hg) | ((with_reducible refine gate_callee (f := 29) rfl ?_); refine goesL_ (some 9) rfl rfl Try.func29 (by kernel_rfl) rfl #[.agg #[.int .i64 a1, .int .i64 0, .int .i64 1125899906842624]] rfl (by (try simp only [List.map_toArray, List.map_cons, List.map_nil]); first | done | rfl | (simp only [List.length_drop, List.length_take]; rfl)) ?_; (with_reducible refine (lease_bound_in.calls a1 0 1125899906842624 true _ A4.out).mono ?_); rintro e w19 ⟨rfl, hb⟩; refine ⟨_, rfl, ?_⟩; have n0_ := Aside0.mk (blk_below (g := gb110) (o := .cells #[.string a0_0, .int .i64 a0_1, .int .i64 a0_2, .bool a0_3] 23 (0, 0)) (by (with_reducible repeat (first | refine blk_drewN ?_ _ | refine blk_drew ?_ | refine blk_alloc ?_ _)); exact BK110.out) hb); have n1_ := Aside0.mk (blk_below (g := gb111) (o := .cells (cells24 a2_0 a2_1 a2_2 a2_3 a2_4 a2_5 a2_6 a2_7 a2_8 a2_9 a2_10 a2_11 a2_12 a2_13 a2_14 a2_15 a2_16 a2_17 a2_18 a2_19) 25 (0, 0)) (by (with_reducible repeat (first | refine blk_drewN ?_ _ | refine blk_drew ?_ | refine blk_alloc ?_ _)); exact BK111.out) hb); have n2_ := Aside0.mk (below_step (by repeat (first | (with_reducible first | exact HB.out | apply below_alloc | apply pw_below_drewN | apply below_drew1 | refine below_set ?_ GE110.out | refine below_setRow ?_ GE110.out _ | refine below_set ?_ GE111.out | refine below_setRow ?_ GE111.out _) | exact HB.out)) hb); clear BK110; clear BK111; clear HB; have BK110 := n0_; have BK111 := n1_; have HB := n2_; clear n0_ n1_ n2_; (try clear hb); (try clear hb2); (try clear hk); (try clear hi); have hnb20 := NB110_111.out; have hnc20 := NB111_110.out; have hcz21_0 : w19.cell? ⟨gb110, 0, none⟩ = some (.string a0_0) := (blk_cell BK110.out 0).trans rfl; have hcz21_1 : w19.cell? ⟨gb110, 1, none⟩ = some (.int .i64 a0_1) := (blk_cell BK110.out 1).trans rfl; have hcz21_2 : w19.cell? ⟨gb110, 2, none⟩ = some (.int .i64 a0_2) := (blk_cell BK110.out 2).trans rfl; have hcz21_3 : w19.cell? ⟨gb110, 3, none⟩ = some (.bool a0_3) := (blk_cell BK110.out 3).trans rfl; have hfz21_0 := blk_frozen BK110.out 0; have hfz21_1 := blk_frozen BK110.out 1; have hfz21_2 := blk_frozen BK110.out 2; have hfz21_3 := blk_frozen BK110.out 3) | (go_at_call 41; (with_reducible refine (record_May.calls k a0_0 a0_1 a0_2 a0_3 false _ A6.out).mono ?_); rintro e w22 ⟨rfl, hb⟩; have n0_ := Aside0.mk (blk_below (g := gb110) (o := .cells #[.string a0_0, .int .i64 a0_1, .int .i64 a0_2, .bool a0_3] 23 (0, 0)) (by (with_reducible repeat (first | refine blk_drewN ?_ _ | refine blk_drew ?_ | refine blk_alloc ?_ _)); exact BK110.out) hb); have n1_ := Aside0.mk (blk_below (g := gb111) (o := .cells (cells24 a2_0 a2_1 a2_2 a2_3 a2_4 a2_5 a2_6 a2_7 a2_8 a2_9 a2_10 a2_11 a2_12 a2_13 a2_14 a2_15 a2_16 a2_17 a2_18 a2_19) 25 (0, 0)) (by (with_reducible repeat (first | refine blk_drewN ?_ _ | refine blk_drew ?_ | refine blk_alloc ?_ _)); exact BK111.out) hb); have n2_ := Aside0.mk (below_step (by repeat (first | (with_reducible first | exact HB.out | apply below_alloc | apply pw_below_drewN | apply below_drew1 | refine below_set ?_ GE110.out | refine below_setRow ?_ GE110.out _ | refine below_set ?_ GE111.out | refine below_setRow ?_ GE111.out _) | exact HB.out)) hb); clear BK110; clear BK111; clear HB; have BK110 := n0_; have BK111 := n1_; have HB := n2_; clear n0_ n1_ n2_; (try clear hb); (try clear hb2); (try clear hk); (try clear hi)))
      go_ret
      exact ⟨by first | rfl | (simp [errW_none, errW_some] <;> rfl) | (simp [*, errW_none, errW_some] <;> rfl), by repeat (first | (with_reducible first | exact HB.out | apply below_alloc | apply pw_below_drewN | apply below_drew1 | refine below_set ?_ GE110.out | refine below_setRow ?_ GE110.out _ | refine below_set ?_ GE111.out | refine below_setRow ?_ GE111.out _) | exact HB.out)⟩
  · replace c5 := Bool.eq_false_iff.mpr c5
    subst c5
    have H1 : (some false) = some r := by rw [if_neg (show ¬ (false = true) by decide)] at H; exact H
    clear H
    have H := H1
    clear H1
    obtain rfl := Option.some.inj H
    go_enter Try.func28, Try.ntmps28
    go_wp2_with (first | ((with_reducible refine gate_store (T := 25) rfl ?_); (try (refine gate_guard (by rfl) ?_; dsimp only)); refine wpList_store_row rfl 25 _ _ rfl gb111 _ rfl rfl 25 _ (by (with_reducible repeat (first | refine blk_drewN ?_ _ | refine blk_drew ?_ | refine blk_alloc ?_ _)); exact BK111.out) (by kernel_rfl) (by rfl) (by first | exact cells24_one .. | (simp [Value.oneCell']; done)) ?_) | ((with_reducible refine gate_load (T := 25) rfl ?_); (try (refine gate_guard (by rfl) ?_; dsimp only)); refine wpList_load_row rfl 25 _ rfl gb111 rfl 25 _ (0, 0) _ (by (with_reducible repeat (first | refine blk_drewN ?_ _ | refine blk_drew ?_ | refine blk_alloc ?_ _)); exact BK111.out) Try.underlying25 rfl (by kernel_rfl) ?_) | ((with_reducible refine gate_dst (N := 3) rfl ?_); refine box_event ?hg (N := 3) ?hd (cs := #[.string a0_0, .int .i64 a0_1, .int .i64 a0_2, .bool a0_3]) (t := 23) ?hr ?_; (case hd => rfl); (case hg => rfl); (case hr => first | (go_simp; done) | (go_simp; rfl)); intro gb110 hg w23 hbox hb; have n0_ := Aside0.mk (below_step (by repeat (first | (with_reducible first | exact HB.out | apply below_alloc | apply pw_below_drewN | apply below_drew1) | exact HB.out)) hb); have n1_ := Aside0.mk (hbox); have n2_ := Aside0.mk ((by rw [hg]; exact (below_size (by repeat (first | (with_reducible first | exact HB.out | apply below_alloc | apply pw_below_drewN | apply below_drew1) | exact HB.out))) : w.heap.size ≤ gb110)); have n3_ := Aside0.mk ((by rw [hg]; exact (below_size (by repeat (first | (with_reducible first | exact HB.out | apply below_alloc | apply pw_below_drewN | apply below_drew1) | exact HB.out))) : w.heap.size ≤ gb110)); clear HB; have HB := n0_; have BK110 := n1_; have GW110 := n2_; have GE110 := n3_; clear n0_ n1_ n2_ n3_; clear hb hbox hg) | ((with_reducible refine gate_dst (N := 5) rfl ?_); refine box_event ?hg (N := 5) ?hd (cs := (cells24 a2_0 a2_1 a2_2 a2_3 a2_4 a2_5 a2_6 a2_7 a2_8 a2_9 a2_10 a2_11 a2_12 a2_13 a2_14 a2_15 a2_16 a2_17 a2_18 a2_19)) (t := 25) ?hr ?_; (case hd => rfl); (case hg => rfl); (case hr => first | (go_simp; done) | (go_simp; rfl)); intro gb111 hg w24 hbox hb; have n0_ := Aside0.mk (blk_below (g := gb110) (o := .cells #[.string a0_0, .int .i64 a0_1, .int .i64 a0_2, .bool a0_3] 23 (0, 0)) (by (with_reducible repeat (first | refine blk_drewN ?_ _ | refine blk_drew ?_ | refine blk_alloc ?_ _)); exact BK110.out) hb); have n1_ := Aside0.mk (below_step (by repeat (first | (with_reducible first | exact HB.out | apply below_alloc | apply pw_below_drewN | apply below_drew1 | refine below_set ?_ GE110.out | refine below_setRow ?_ GE110.out _) | exact HB.out)) hb); have n2_ := Aside0.mk (hbox); have n3_ := Aside0.mk ((by rw [hg]; exact (below_size (by repeat (first | (with_reducible first | exact HB.out | apply below_alloc | apply pw_below_drewN | apply below_drew1 | refine below_set ?_ GE110.out | refine below_setRow ?_ GE110.out _) | exact HB.out))) : w.heap.size ≤ gb111)); have n4_ := Aside0.mk ((by rw [hg]; exact (below_size (by repeat (first | (with_reducible first | exact HB.out | apply below_alloc | apply pw_below_drewN | apply below_drew1 | refine below_set ?_ GE110.out | refine below_setRow ?_ GE110.out _) | exact HB.out))) : w.heap.size ≤ gb111)); have n5_ := Aside0.mk ((by rw [hg]; exact Nat.ne_of_lt (blk_lt (g := gb110) (o := .cells #[.string a0_0, .int .i64 a0_1, .int .i64 a0_2, .bool a0_3] 23 (0, 0)) (by (with_reducible repeat (first | refine blk_drewN ?_ _ | refine blk_drew ?_ | refine blk_alloc ?_ _)); exact BK110.out)) : gb110 ≠ gb111)); have n6_ := Aside0.mk ((by rw [hg]; exact Nat.ne_of_gt (blk_lt (g := gb110) (o := .cells #[.string a0_0, .int .i64 a0_1, .int .i64 a0_2, .bool a0_3] 23 (0, 0)) (by (with_reducible repeat (first | refine blk_drewN ?_ _ | refine blk_drew ?_ | refine blk_alloc ?_ _)); exact BK110.out)) : gb111 ≠ gb110)); clear BK110; clear HB; have BK110 := n0_; have HB := n1_; have BK111 := n2_; have GW111 := n3_; have GE111 := n4_; have NB110_111 := n5_; have NB111_110 := n6_; clear n0_ n1_ n2_ n3_ n4_ n5_ n6_; clear hb hbox hg) | ((with_reducible refine gate_callee (f := 29) rfl ?_); refine goesL_ (some 9) rfl rfl Try.func29 (by kernel_rfl) rfl #[.agg #[.int .i64 a1, .int .i64 0, .int .i64 1125899906842624]] rfl (by (try simp only [List.map_toArray, List.map_cons, List.map_nil]); first | done | rfl | (simp only [List.length_drop, List.length_take]; rfl)) ?_; (with_reducible refine (lease_bound_in.calls a1 0 1125899906842624 false _ A4.out).mono ?_); rintro e w25 ⟨rfl, hb⟩; refine ⟨_, rfl, ?_⟩; have n0_ := Aside0.mk (blk_below (g := gb110) (o := .cells #[.string a0_0, .int .i64 a0_1, .int .i64 a0_2, .bool a0_3] 23 (0, 0)) (by (with_reducible repeat (first | refine blk_drewN ?_ _ | refine blk_drew ?_ | refine blk_alloc ?_ _)); exact BK110.out) hb); have n1_ := Aside0.mk (blk_below (g := gb111) (o := .cells (cells24 a2_0 a2_1 a2_2 a2_3 a2_4 a2_5 a2_6 a2_7 a2_8 a2_9 a2_10 a2_11 a2_12 a2_13 a2_14 a2_15 a2_16 a2_17 a2_18 a2_19) 25 (0, 0)) (by (with_reducible repeat (first | refine blk_drewN ?_ _ | refine blk_drew ?_ | refine blk_alloc ?_ _)); exact BK111.out) hb); have n2_ := Aside0.mk (below_step (by repeat (first | (with_reducible first | exact HB.out | apply below_alloc | apply pw_below_drewN | apply below_drew1 | refine below_set ?_ GE110.out | refine below_setRow ?_ GE110.out _ | refine below_set ?_ GE111.out | refine below_setRow ?_ GE111.out _) | exact HB.out)) hb); clear BK110; clear BK111; clear HB; have BK110 := n0_; have BK111 := n1_; have HB := n2_; clear n0_ n1_ n2_; (try clear hb); (try clear hb2); (try clear hk); (try clear hi)))
    go_ret
    exact ⟨by first | rfl | (simp [errW_none, errW_some] <;> rfl) | (simp [*, errW_none, errW_some] <;> rfl), by repeat (first | (with_reducible first | exact HB.out | apply below_alloc | apply pw_below_drewN | apply below_drew1 | refine below_set ?_ GE110.out | refine below_setRow ?_ GE110.out _ | refine below_set ?_ GE111.out | refine below_setRow ?_ GE111.out _) | exact HB.out)⟩

end Go.Proofs.Ytijjdgmcjienlaa.Q
