/- The walk of LeaseNames. -/
import Derived.Test.YtijjdgmcjienlaaLW
import Derived.Test.YtijjdgmcjienlaaPD
import Derived.Outline
namespace Go.Proofs.Ytijjdgmcjienlaa.PL
open Go.RowKit Go.Proofs.Ytijjdgmcjienlaa.PD Go.Proofs.Ytijjdgmcjienlaa.Q Go.Proofs.YtijjdgmcjienlaaW.PrintWords Go.Proofs.YtijjdgmcjienlaaW.PrintLast Go.Proofs.YtijjdgmcjienlaaW.PrintMore
set_option linter.unusedVariables false
set_option linter.unusedSimpArgs false
def exC : Cfg := ⟨2, 30, 40, 10, 5, 5, 60, 20, 3, 3, 1000, 10, 100, 3, 8, 500, 10, 100, (⟨#[99, 108, 117, 115, 116, 101, 114]⟩ : ByteArray), (⟨#[95, 95, 114, 101, 112, 108, 105, 99, 97, 95, 95]⟩ : ByteArray)⟩
theorem exC_arr {C : Array Value} (h : aw_IsEx C) : C = exC.arr := h
theorem row_set {w : World} {g j : Nat} {cs : Array Value} {t : TypeId} {fr : Nat × Nat} {v : Value} (h : w.heap[g]? = some (.cells cs t fr)) : (w.setCell ⟨g, j, none⟩ v).heap[g]? = some (.cells (cs.setIfInBounds j v) t fr) := by
  have hlt := lt_of_block h
  have h' : w.heap[g] = .cells cs t fr := by simpa [Array.getElem?_eq_getElem hlt] using h
  show (w.heap.modify g _)[g]? = _
  rw [Array.getElem?_eq_getElem (by simpa using hlt), Array.getElem_modify_self, h']
  rfl
theorem row_other {w : World} {g k : Nat} {cs : Array Value} (h : k ≠ g) : (w.setRow g cs).heap[k]? = w.heap[k]? := by
  simp only [World.setRow, Array.getElem?_modify]
  rw [if_neg (by omega)]
def Bad (A : Array Value) : Prop := ∃ c : Cfg, A = c.arr ∧ Small c ∧ cfgB c = false
def setC (c : Cfg) (j : Nat) (n : Int) : Cfg := match j with
  | 0 => { c with c0 := n } | 1 => { c with c1 := n } | 2 => { c with c2 := n } | 3 => { c with c3 := n } | 4 => { c with c4 := n } | 5 => { c with c5 := n } | 6 => { c with c6 := n } | 7 => { c with c7 := n } | 8 => { c with c8 := n }
  | 9 => { c with c9 := n } | 10 => { c with c10 := n } | 11 => { c with c11 := n } | 12 => { c with c12 := n } | 13 => { c with c13 := n } | 14 => { c with c14 := n } | 15 => { c with c15 := n } | 16 => { c with c16 := n } | _ => { c with c17 := n }
def setS (c : Cfg) (j : Nat) (n : ByteArray) : Cfg := match j with
  | 18 => { c with n0 := n } | _ => { c with n1 := n }
theorem small_exC : Small exC := by unfold Small exC; decide
theorem arr_setC (c : Cfg) (n : Int) : ∀ j, j < 18 → c.arr.setIfInBounds j (.int .i64 n) = (setC c j n).arr := by
  intro j hj
  rcases (by omega : j = 0 ∨ j = 1 ∨ j = 2 ∨ j = 3 ∨ j = 4 ∨ j = 5 ∨ j = 6 ∨ j = 7 ∨ j = 8 ∨ j = 9 ∨ j = 10 ∨ j = 11 ∨ j = 12 ∨ j = 13 ∨ j = 14 ∨ j = 15 ∨ j = 16 ∨ j = 17) with rfl | rfl | rfl | rfl | rfl | rfl | rfl | rfl | rfl | rfl | rfl | rfl | rfl | rfl | rfl | rfl | rfl | rfl <;> rfl
theorem arr_setS (c : Cfg) (n : ByteArray) : ∀ j, 18 ≤ j → j < 20 → c.arr.setIfInBounds j (.string n) = (setS c j n).arr := by
  intro j h1 hj
  rcases (by omega : j = 18 ∨ j = 19) with rfl | rfl <;> rfl
theorem setC_small (c : Cfg) (j : Nat) (n : Int) (h : Small c) : Small (setC c j n) := by
  unfold setC
  split <;> exact h
theorem setS_small (c : Cfg) (j : Nat) (n : ByteArray) (h : Small c) (hn : n.size ≤ 140737488351232) : Small (setS c j n) := by
  unfold setS
  split
  · exact ⟨hn, h.2⟩
  · exact ⟨h.1, hn⟩
theorem bad1 {C : Array Value} (hC : aw_IsEx C) (j : Nat) (n : Int) (hj : j < 18) (h : cfgB (setC exC j n) = false) : Bad (C.setIfInBounds j (.int .i64 n)) :=
  ⟨setC exC j n, by rw [exC_arr hC]; exact arr_setC exC n j hj, setC_small _ _ _ small_exC, h⟩
theorem bad2 {C : Array Value} (hC : aw_IsEx C) (j : Nat) (n : Int) (hj : j < 18) (i : Nat) (m : Int) (hi : i < 18) (h : cfgB (setC (setC exC j n) i m) = false) : Bad ((C.setIfInBounds j (.int .i64 n)).setIfInBounds i (.int .i64 m)) :=
  ⟨setC (setC exC j n) i m, by rw [exC_arr hC, arr_setC exC n j hj]; exact arr_setC _ m i hi, setC_small _ _ _ (setC_small _ _ _ small_exC), h⟩
theorem badS {C : Array Value} (hC : aw_IsEx C) (j : Nat) (n : ByteArray) (h1 : 18 ≤ j) (hj : j < 20) (hn : n.size ≤ 140737488351232) (h : cfgB (setS exC j n) = false) : Bad (C.setIfInBounds j (.string n)) :=
  ⟨setS exC j n, by rw [exC_arr hC]; exact arr_setS exC n j h1 hj, setS_small _ _ _ small_exC hn, h⟩
theorem bad_size {A : Array Value} (h : Bad A) : A.size = 20 := by
  obtain ⟨c, rfl, _⟩ := h
  rfl
theorem bad_may (A : Array Value) (h : Bad A) (W : World) : Calls Try.prog 19 #[.agg A] W fun e w' => e = .returned (.bool false) ∧ Below W.heap.size W w' := by
  obtain ⟨c, rfl, hs, hc⟩ := h
  exact cfg_is c hs W false hc
theorem bad_judge (A : Array Value) (h : Bad A) (W : World) : Calls Try.prog 13 #[.agg #[.string (⟨#[]⟩ : ByteArray), .int .i64 0, .int .i64 0, .bool false], .bool false, .string (⟨#[114]⟩ : ByteArray), .int .i64 0, .int .i64 0, .agg A] W fun e w' => e = .returned (.int .u8 0) ∧ Below W.heap.size W w' := by
  obtain ⟨c, rfl, hs, hc⟩ := h
  refine judge_is ⟨_, 0, 0, false⟩ false _ 0 0 c (by decide) (by decide) hs W 0 ?_
  unfold judgeI
  rw [hc]
  simp
theorem nm_judge (C : Array Value) (hC : Aside0 (aw_IsEx C)) (p : ByteArray) (e a : Int) (g there : Bool) (q : ByteArray) (now draw r : Int) (W : World) (h : (decide (p.size ≤ 140737488351232) && (decide (q.size ≤ 140737488351232) && decide (judgeI ⟨p, e, a, g⟩ there q now draw exC = r))) = true) :
    Calls Try.prog 13 #[.agg #[.string p, .int .i64 e, .int .i64 a, .bool g], .bool there, .string q, .int .i64 now, .int .i64 draw, .agg C] W fun e w' => e = .returned (.int .u8 r) ∧ Below W.heap.size W w' := by
  rw [exC_arr hC.out]
  simp only [Bool.and_eq_true, decide_eq_true_eq] at h
  exact judge_is ⟨p, e, a, g⟩ there q now draw exC h.1 h.2.1 small_exC W r h.2.2
theorem nm_bury (C : Array Value) (hC : Aside0 (aw_IsEx C)) (p : ByteArray) (e a : Int) (g : Bool) (now : Int) (r : Bool) (W : World) (h : (decide (p.size ≤ 140737488351232) && decide (buryB ⟨p, e, a, g⟩ now exC = r)) = true) :
    Calls Try.prog 15 #[.agg #[.string p, .int .i64 e, .int .i64 a, .bool g], .int .i64 now, .agg C] W fun e w' => e = .returned (.bool r) ∧ Below W.heap.size W w' := by
  rw [exC_arr hC.out]
  simp only [Bool.and_eq_true, decide_eq_true_eq] at h
  exact bury_is ⟨p, e, a, g⟩ now exC h.1 small_exC W r h.2
theorem nm_bury0 (p : ByteArray) (e a : Int) (g : Bool) (now : Int) (W : World) (h : (decide (p.size ≤ 140737488351232) && decide (buryB ⟨p, e, a, g⟩ now ⟨0, 0, 0, 0, 0, 0, 0, 0, 0, 0, 0, 0, 0, 0, 0, 0, 0, 0, ⟨#[]⟩, ⟨#[]⟩⟩ = false)) = true) :
    Calls Try.prog 15 #[.agg #[.string p, .int .i64 e, .int .i64 a, .bool g], .int .i64 now, .agg #[.int .i64 0, .int .i64 0, .int .i64 0, .int .i64 0, .int .i64 0, .int .i64 0, .int .i64 0, .int .i64 0, .int .i64 0, .int .i64 0, .int .i64 0, .int .i64 0, .int .i64 0, .int .i64 0, .int .i64 0, .int .i64 0, .int .i64 0, .int .i64 0, .string (⟨#[]⟩ : ByteArray), .string (⟨#[]⟩ : ByteArray)]] W fun e w' => e = .returned (.bool false) ∧ Below W.heap.size W w' := by
  simp only [Bool.and_eq_true, decide_eq_true_eq] at h
  exact bury_is ⟨p, e, a, g⟩ now ⟨0, 0, 0, 0, 0, 0, 0, 0, 0, 0, 0, 0, 0, 0, 0, 0, 0, 0, ⟨#[]⟩, ⟨#[]⟩⟩ h.1 (by unfold Small; decide) W false h.2
theorem nm_sweep (C : Array Value) (hC : Aside0 (aw_IsEx C)) (p : ByteArray) (e a : Int) (g : Bool) (now : Int) (r : Bool) (W : World) (h : (decide (p.size ≤ 140737488351232) && decide (sweepB ⟨p, e, a, g⟩ now exC = r)) = true) :
    Calls Try.prog 17 #[.agg #[.string p, .int .i64 e, .int .i64 a, .bool g], .int .i64 now, .agg C] W fun e w' => e = .returned (.bool r) ∧ Below W.heap.size W w' := by
  rw [exC_arr hC.out]
  simp only [Bool.and_eq_true, decide_eq_true_eq] at h
  exact sweep_is ⟨p, e, a, g⟩ now exC h.1 small_exC W r h.2
theorem ints_C (l : List Int) (hl : l.length ≤ 1000) (w : World) (g : Nat) (T : TypeId) (cs : Array Value) (hb : w.heap[g]? = some (.cells cs T (0, 0))) (hc : cs = (l.map (Value.int .i64)).toArray) : Kd.C (Kd.int .i64) w (some ⟨g, 0, none⟩) l.length l := by
  subst hc
  refine ⟨rfl, by omega, fun _ => ⟨_, rfl, fun j p hj => ⟨[.int .i64 p], rfl, rfl, fun i u hu => ?_⟩⟩⟩
  cases i with
  | succ i => simp at hu
  | zero =>
    simp only [List.getElem?_cons_zero, Option.some.injEq] at hu
    subst hu
    have h := blk_cell hb (0 + (j * 1 + 0))
    have e : (Addr.add ⟨g, 0, none⟩ (j * (Kd.int .i64).sz + 0)) = ⟨g, 0 + (j * 1 + 0), none⟩ := by simp [Addr.add, Kd.int, Kd.scalar]; exact fun h => h.symm
    rw [e, h]
    simp [hj]
theorem nm_draw (l : List Int) (p : ByteArray) (e a : Int) (g : Bool) (gate j r : Int) (W : World) (b : Nat) (T : TypeId) {cs : Array Value} (hb : W.heap[b]? = some (.cells cs T (0, 0))) (h : (decide (l.length ≤ 1000) && (decide (j ≤ 9223372036854775807) && decide (drawI l a gate j = r))) = true) (hc : cs = (l.map (Value.int .i64)).toArray) :
    Calls Try.prog 23 #[.slice (some ⟨b, 0, none⟩) l.length l.length, .agg #[.string p, .int .i64 e, .int .i64 a, .bool g], .int .i64 gate, .int .i64 j] W fun e w' => e = .returned (.int .i64 r) ∧ Below W.heap.size W w' := by
  simp only [Bool.and_eq_true, decide_eq_true_eq] at h
  refine lease_Draw.calls (some ⟨b, 0, none⟩) l.length l p e a g gate j r W (ints_C l h.1 W b T cs hb hc) (Nat.le_refl _) ?_
  rw [draw_is l p e a g gate j (by omega) h.2.1, h.2.2]
theorem nm_draw0 (p : ByteArray) (e a : Int) (g : Bool) (gate j r : Int) (W : World) (h : (decide (j ≤ 9223372036854775807) && decide (drawI [] a gate j = r)) = true) :
    Calls Try.prog 23 #[.slice none 0 0, .agg #[.string p, .int .i64 e, .int .i64 a, .bool g], .int .i64 gate, .int .i64 j] W fun e w' => e = .returned (.int .i64 r) ∧ Below W.heap.size W w' := by
  simp only [Bool.and_eq_true, decide_eq_true_eq] at h
  refine lease_Draw.calls none 0 [] p e a g gate j r W ⟨rfl, by simp, fun h => absurd h (by simp)⟩ (Nat.le_refl _) ?_
  rw [draw_is [] p e a g gate j (by simp) h.1, h.2]
structure NX (w : World) (g : Nat) (C : Array Value) (g3 : Nat) (wr : World) : Prop where
  bad : ∃ A, wr.heap[g3]? = some (.cells A 25 (0, 0)) ∧ Bad A
  blk : wr.heap[g]? = some (.cells C 25 (0, 0))
  bel : Below w.heap.size w wr
theorem nx_of (w : World) (g : Nat) (C : Array Value) (g3 : Nat) {wr : World} (hC : aw_IsEx C) (h3 : wr.heap[g3]? = some (.cells C 25 (0, 0))) (hg : wr.heap[g]? = some (.cells C 25 (0, 0))) (hne : g ≠ g3) (hbel : Below w.heap.size w wr) (hle : w.heap.size ≤ g3) :
    (∀ j n, j < 18 → cfgB (setC exC j n) = false → NX w g C g3 (wr.setCell ⟨g3, j, none⟩ (.int .i64 n))) ∧
    (∀ j n i m, j < 18 → i < 18 → cfgB (setC (setC exC j n) i m) = false → NX w g C g3 ((wr.setCell ⟨g3, j, none⟩ (.int .i64 n)).setCell ⟨g3, i, none⟩ (.int .i64 m))) ∧
    (∀ j n, 18 ≤ j → j < 20 → n.size ≤ 140737488351232 → cfgB (setS exC j n) = false → NX w g C g3 (wr.setCell ⟨g3, j, none⟩ (.string n))) := by
  refine ⟨fun j n hj h => ⟨⟨_, row_set h3, bad1 hC j n hj h⟩, ?_, hbel.setCell hle _⟩, fun j n i m hj hi h => ⟨⟨_, row_set (row_set h3), bad2 hC j n hj i m hi h⟩, ?_, (hbel.setCell hle _).setCell hle _⟩, fun j n h1 hj hn h => ⟨⟨_, row_set h3, badS hC j n h1 hj hn h⟩, ?_, hbel.setCell hle _⟩⟩
  · rw [Below.heap_setCell _ _ _ _ hne]; exact hg
  · rw [Below.heap_setCell _ _ _ _ hne, Below.heap_setCell _ _ _ _ hne]; exact hg
  · rw [Below.heap_setCell _ _ _ _ hne]; exact hg
structure NG (w : World) (g : Nat) (C : Array Value) (wr : World) : Prop where
  blk : wr.heap[g]? = some (.cells C 25 (0, 0))
  bel : Below w.heap.size w wr
set_option maxHeartbeats 16000000 in
set_option maxRecDepth 100000 in
theorem names_walk (w : World) : Calls Try.prog 8 #[] w fun e w' => e = .returned (.bool true) ∧ Below w.heap.size w w' := by
  have hu := Try.underlying23
  go_enter Try.func8, Try.ntmps8
  go_wp2_with fail
  refine (aw_true _).mono ?_
  rintro e w0 ⟨rfl, hb⟩
  have HB0 := Aside0.mk hb
  clear hb
  go_wp2_with fail
  refine (aw_example w0).mono ?_
  rintro e w1 ⟨C, rfl, HC, hb1⟩
  have HS : Aside0 (C.size = 20) := ⟨by rw [HC.out]; rfl⟩
  have HO : Aside0 (C.all (·.oneCell') = true) := ⟨by rw [HC.out]; simp [Value.oneCell']⟩
  have HB1 := Aside0.mk (HB0.out.trans (hb1.mono HB0.out.size))
  clear hb1 HB0
  go_wp2_with (refine wpList_store_row rfl 25 (.tmp 1) (.tmp 9) rfl w1.heap.size C rfl rfl 25 _ (heap_alloc_new w1 _) (by rw [HS.out]; kernel_rfl) (by rw [HS.out]; rfl) HO.out ?_)
  have HG : Aside0 (w.heap.size ≤ w1.heap.size) := ⟨HB1.out.size⟩
  go_loopw [2] (fun i wr => ∃ k : Nat, k ≤ 44 ∧ i = .int .i64 k ∧ NG w w1.heap.size C wr) (fun i _ => 44 - (intOf i).toNat)
  case atStart => exact ⟨0, by omega, rfl, setRow_heap _ _ _ _ _ _ (heap_alloc_new w1 _), below_setRow (HB1.out.alloc HG.out _) HG.out _⟩
  case round =>
    obtain ⟨k, hk, rfl, hng⟩ := hrel
    have K := Aside0.mk hng
    clear hng
    by_cases hlt : k < 44
    · have HLT := Aside0.mk hlt
      go_upto_block 2 with (first | ((with_reducible refine gate_load (T := 25) rfl ?_); refine wpList_load_row rfl 25 _ rfl w1.heap.size rfl 25 C (0, 0) _ K.out.blk Try.underlying25 rfl (by rw [HS.out]; kernel_rfl) ?_) | ((with_reducible refine gate_store (T := 25) rfl ?_); refine wpList_store_row rfl 25 (.tmp 3) (.tmp 14) rfl wr.heap.size C rfl rfl 25 _ (heap_alloc_new wr _) (by rw [HS.out]; kernel_rfl) (by rw [HS.out]; rfl) HO.out ?_))
      go_cut [3] from 15 to 149 (fun x wr' => x = .pointer (some ⟨wr.heap.size, 0, none⟩) ∧ NX w w1.heap.size C wr.heap.size wr')
      case first => as_aux_lemma =>
        have H3 := Aside0.mk (setRow_heap _ _ _ C _ _ (heap_alloc_new wr (.cells #[.int .i64 0, .int .i64 0, .int .i64 0, .int .i64 0, .int .i64 0, .int .i64 0, .int .i64 0, .int .i64 0, .int .i64 0, .int .i64 0, .int .i64 0, .int .i64 0, .int .i64 0, .int .i64 0, .int .i64 0, .int .i64 0, .int .i64 0, .int .i64 0, .string (⟨#[]⟩ : ByteArray), .string (⟨#[]⟩ : ByteArray)] 25 (0, 0))))
        have HNE := Aside0.mk (Nat.ne_of_lt (lt_of_block K.out.blk))
        have HLE := Aside0.mk (K.out.bel.size)
        have NXF := Aside0.mk (nx_of w w1.heap.size C wr.heap.size HC.out H3.out ((row_other HNE.out).trans (blk_alloc K.out.blk _)) HNE.out (below_setRow (K.out.bel.alloc HLE.out _) HLE.out _) HLE.out)
        clear HNE HLE
        revert H3 NXF
        generalize World.setRow _ _ _ = W
        intro H3 NXF
        have e0 : W.cell? ⟨wr.heap.size, 0, none⟩ = some (.int .i64 2) := (blk_cell H3.out 0).trans (by rw [exC_arr HC.out]; rfl)
        have e1 : W.cell? ⟨wr.heap.size, 1, none⟩ = some (.int .i64 30) := (blk_cell H3.out 1).trans (by rw [exC_arr HC.out]; rfl)
        have e2 : W.cell? ⟨wr.heap.size, 2, none⟩ = some (.int .i64 40) := (blk_cell H3.out 2).trans (by rw [exC_arr HC.out]; rfl)
        have e3 : W.cell? ⟨wr.heap.size, 3, none⟩ = some (.int .i64 10) := (blk_cell H3.out 3).trans (by rw [exC_arr HC.out]; rfl)
        have e4 : W.cell? ⟨wr.heap.size, 4, none⟩ = some (.int .i64 5) := (blk_cell H3.out 4).trans (by rw [exC_arr HC.out]; rfl)
        have e5 : W.cell? ⟨wr.heap.size, 5, none⟩ = some (.int .i64 5) := (blk_cell H3.out 5).trans (by rw [exC_arr HC.out]; rfl)
        have e6 : W.cell? ⟨wr.heap.size, 6, none⟩ = some (.int .i64 60) := (blk_cell H3.out 6).trans (by rw [exC_arr HC.out]; rfl)
        have e7 : W.cell? ⟨wr.heap.size, 7, none⟩ = some (.int .i64 20) := (blk_cell H3.out 7).trans (by rw [exC_arr HC.out]; rfl)
        have e8 : W.cell? ⟨wr.heap.size, 8, none⟩ = some (.int .i64 3) := (blk_cell H3.out 8).trans (by rw [exC_arr HC.out]; rfl)
        have e9 : W.cell? ⟨wr.heap.size, 9, none⟩ = some (.int .i64 3) := (blk_cell H3.out 9).trans (by rw [exC_arr HC.out]; rfl)
        have e10 : W.cell? ⟨wr.heap.size, 10, none⟩ = some (.int .i64 1000) := (blk_cell H3.out 10).trans (by rw [exC_arr HC.out]; rfl)
        have e11 : W.cell? ⟨wr.heap.size, 11, none⟩ = some (.int .i64 10) := (blk_cell H3.out 11).trans (by rw [exC_arr HC.out]; rfl)
        have e12 : W.cell? ⟨wr.heap.size, 12, none⟩ = some (.int .i64 100) := (blk_cell H3.out 12).trans (by rw [exC_arr HC.out]; rfl)
        have e13 : W.cell? ⟨wr.heap.size, 13, none⟩ = some (.int .i64 3) := (blk_cell H3.out 13).trans (by rw [exC_arr HC.out]; rfl)
        have e14 : W.cell? ⟨wr.heap.size, 14, none⟩ = some (.int .i64 8) := (blk_cell H3.out 14).trans (by rw [exC_arr HC.out]; rfl)
        have e15 : W.cell? ⟨wr.heap.size, 15, none⟩ = some (.int .i64 500) := (blk_cell H3.out 15).trans (by rw [exC_arr HC.out]; rfl)
        have e16 : W.cell? ⟨wr.heap.size, 16, none⟩ = some (.int .i64 10) := (blk_cell H3.out 16).trans (by rw [exC_arr HC.out]; rfl)
        have e17 : W.cell? ⟨wr.heap.size, 17, none⟩ = some (.int .i64 100) := (blk_cell H3.out 17).trans (by rw [exC_arr HC.out]; rfl)
        have e18 : W.cell? ⟨wr.heap.size, 18, none⟩ = some (.string (⟨#[99, 108, 117, 115, 116, 101, 114]⟩ : ByteArray)) := (blk_cell H3.out 18).trans (by rw [exC_arr HC.out]; rfl)
        have e19 : W.cell? ⟨wr.heap.size, 19, none⟩ = some (.string (⟨#[95, 95, 114, 101, 112, 108, 105, 99, 97, 95, 95]⟩ : ByteArray)) := (blk_cell H3.out 19).trans (by rw [exC_arr HC.out]; rfl)
        have ef : ∀ j, W.frozen? ⟨wr.heap.size, j, none⟩ = false := fun j => by have := H3.out; simp [World.frozen?, this]
        go_wp2_with fail
        all_goals go_meet
        all_goals refine ⟨rfl, ?_⟩
        all_goals first | exact NXF.out.1 _ _ (by decide) (by decide +kernel) | exact NXF.out.2.1 _ _ _ _ (by decide) (by decide) (by decide +kernel) | exact NXF.out.2.2 _ _ (by decide) (by decide) (by decide) (by decide +kernel)
      case rest => as_aux_lemma =>
        obtain ⟨rfl, hnx⟩ := hcut
        obtain ⟨⟨A, hA, hbad⟩, hblk, hbel⟩ := hnx
        have HA := Aside0.mk hA
        have HBD := Aside0.mk hbad
        have HK := Aside0.mk hblk
        have HL := Aside0.mk hbel
        have HSA : Aside0 (A.size = 20) := ⟨bad_size hbad⟩
        clear hA hbad hblk hbel
        go_wp2_with ((with_reducible refine gate_load (T := 25) rfl ?_); refine wpList_load_row rfl 25 _ rfl wr.heap.size rfl 25 A (0, 0) _ HA.out Try.underlying25 rfl (by rw [HSA.out]; kernel_rfl) ?_)
        refine (bad_may A HBD.out _).mono ?_
        rintro e w4 ⟨rfl, hb⟩
        have HA := Aside0.mk (blk_below HA.out hb)
        have HK := Aside0.mk (blk_below HK.out hb)
        have HL := Aside0.mk (HL.out.trans (hb.mono HL.out.size))
        clear hb
        go_wp2_with ((with_reducible refine gate_load (T := 25) rfl ?_); refine gate_guard (by rfl) ?_; dsimp only; refine wpList_load_row rfl 25 _ rfl wr.heap.size rfl 25 A (0, 0) _ HA.out Try.underlying25 rfl (by rw [HSA.out]; kernel_rfl) ?_)
        refine (bad_judge A HBD.out _).mono ?_
        rintro e w5 ⟨rfl, hb⟩
        have HK := Aside0.mk (blk_below HK.out hb)
        have HL := Aside0.mk (HL.out.trans (hb.mono HL.out.size))
        clear hb
        go_wp2_with fail
        go_roundw
        case rel => exact ⟨k + 1, by have := HLT.out; omega, by go_num, HK.out, HL.out⟩
        case measure => have := HLT.out; simp [intOf]; omega
    · as_aux_lemma =>
      obtain rfl : k = 44 := by omega
      clear hk hlt
      have K0 := Aside0.mk K.out.blk
      have HB := Aside0.mk K.out.bel
      clear K
      go_wp2_with (first | ((with_reducible refine gate_load (T := 25) rfl ?_); (try (refine gate_guard (by rfl) ?_; dsimp only)); refine wpList_load_row rfl 25 _ rfl (w1.heap.size) rfl 25 C (0, 0) _ (blk_alloc (blk_alloc (blk_alloc K0.out _) _) _) Try.underlying25 rfl (by rw [HS.out]; kernel_rfl) ?_))
      refine (nm_judge C HC (⟨#[114, 49]⟩ : ByteArray) 1 100 false true (⟨#[]⟩ : ByteArray) 100 0 0 _ (by decide +kernel)).mono ?_
      rintro e w10 ⟨rfl, hb⟩
      have K1 : Aside0 (w10.heap[wr.heap.size]? = some (.cells #[.string (⟨#[114, 49]⟩ : ByteArray), .int .i64 1, .int .i64 100, .bool false] 23 (0, 0))) := ⟨blk_below (blk_alloc (blk_alloc (heap_alloc_new wr _) _) _) hb⟩
      have K2 : Aside0 (w10.heap[wr.heap.size + 1]? = some (.cells #[.string (⟨#[114, 32, 49]⟩ : ByteArray), .int .i64 1, .int .i64 100, .bool false] 23 (0, 0))) := ⟨blk_below (blk_alloc (by simpa using heap_alloc_new (wr.alloc _) (.cells #[.string (⟨#[114, 32, 49]⟩ : ByteArray), .int .i64 1, .int .i64 100, .bool false] 23 (0, 0))) _) hb⟩
      have K3 : Aside0 (w10.heap[wr.heap.size + 1 + 1]? = some (.cells #[.string (⟨#[114, 49]⟩ : ByteArray), .int .i64 1, .int .i64 (-1), .bool false] 23 (0, 0))) := ⟨blk_below (by simpa using heap_alloc_new ((wr.alloc _).alloc _) (.cells #[.string (⟨#[114, 49]⟩ : ByteArray), .int .i64 1, .int .i64 (-1), .bool false] 23 (0, 0))) hb⟩
      have K0 := Aside0.mk (blk_below (blk_alloc (blk_alloc (blk_alloc K0.out _) _) _) hb)
      have HB := Aside0.mk (HB.out.trans ((((((Below.refl _ _).alloc (Nat.le_refl _) _).alloc (by simp) _).alloc (by simp; omega) _).trans (hb.mono (by simp; omega))).mono HB.out.size))
      clear hb
      go_wp2_with (first | ((with_reducible refine gate_load (T := 25) rfl ?_); (try (refine gate_guard (by rfl) ?_; dsimp only)); refine wpList_load_row rfl 25 _ rfl (w1.heap.size) rfl 25 C (0, 0) _ (by first | with_reducible exact K0.out | exact blk_alloc K0.out _) Try.underlying25 rfl (by rw [HS.out]; kernel_rfl) ?_) | ((with_reducible refine gate_load (T := 23) rfl ?_); (try (refine gate_guard (by rfl) ?_; dsimp only)); refine wpList_load_row rfl 23 _ rfl (wr.heap.size) rfl 23 #[.string (⟨#[114, 49]⟩ : ByteArray), .int .i64 1, .int .i64 100, .bool false] (0, 0) _ (by first | with_reducible exact K1.out | exact blk_alloc K1.out _) Try.underlying23 rfl (by kernel_rfl) ?_) | ((with_reducible refine gate_load (T := 23) rfl ?_); (try (refine gate_guard (by rfl) ?_; dsimp only)); refine wpList_load_row rfl 23 _ rfl (wr.heap.size + 1) rfl 23 #[.string (⟨#[114, 32, 49]⟩ : ByteArray), .int .i64 1, .int .i64 100, .bool false] (0, 0) _ (by first | with_reducible exact K2.out | exact blk_alloc K2.out _) Try.underlying23 rfl (by kernel_rfl) ?_) | ((with_reducible refine gate_load (T := 23) rfl ?_); (try (refine gate_guard (by rfl) ?_; dsimp only)); refine wpList_load_row rfl 23 _ rfl (wr.heap.size + 1 + 1) rfl 23 #[.string (⟨#[114, 49]⟩ : ByteArray), .int .i64 1, .int .i64 (-1), .bool false] (0, 0) _ (by first | with_reducible exact K3.out | exact blk_alloc K3.out _) Try.underlying23 rfl (by kernel_rfl) ?_))
      refine (nm_judge C HC (⟨#[114, 49]⟩ : ByteArray) 1 100 false true (⟨#[114, 49]⟩ : ByteArray) (-1) 0 0 _ (by decide +kernel)).mono ?_
      rintro e w11 ⟨rfl, hb⟩
      have K0 := Aside0.mk (blk_below K0.out hb)
      have K1 := Aside0.mk (blk_below K1.out hb)
      have K2 := Aside0.mk (blk_below K2.out hb)
      have K3 := Aside0.mk (blk_below K3.out hb)
      have HB := Aside0.mk (HB.out.trans (hb.mono HB.out.size))
      clear hb
      go_wp2_with (first | ((with_reducible refine gate_load (T := 25) rfl ?_); (try (refine gate_guard (by rfl) ?_; dsimp only)); refine wpList_load_row rfl 25 _ rfl (w1.heap.size) rfl 25 C (0, 0) _ (by first | with_reducible exact K0.out | exact blk_alloc K0.out _) Try.underlying25 rfl (by rw [HS.out]; kernel_rfl) ?_) | ((with_reducible refine gate_load (T := 23) rfl ?_); (try (refine gate_guard (by rfl) ?_; dsimp only)); refine wpList_load_row rfl 23 _ rfl (wr.heap.size) rfl 23 #[.string (⟨#[114, 49]⟩ : ByteArray), .int .i64 1, .int .i64 100, .bool false] (0, 0) _ (by first | with_reducible exact K1.out | exact blk_alloc K1.out _) Try.underlying23 rfl (by kernel_rfl) ?_) | ((with_reducible refine gate_load (T := 23) rfl ?_); (try (refine gate_guard (by rfl) ?_; dsimp only)); refine wpList_load_row rfl 23 _ rfl (wr.heap.size + 1) rfl 23 #[.string (⟨#[114, 32, 49]⟩ : ByteArray), .int .i64 1, .int .i64 100, .bool false] (0, 0) _ (by first | with_reducible exact K2.out | exact blk_alloc K2.out _) Try.underlying23 rfl (by kernel_rfl) ?_) | ((with_reducible refine gate_load (T := 23) rfl ?_); (try (refine gate_guard (by rfl) ?_; dsimp only)); refine wpList_load_row rfl 23 _ rfl (wr.heap.size + 1 + 1) rfl 23 #[.string (⟨#[114, 49]⟩ : ByteArray), .int .i64 1, .int .i64 (-1), .bool false] (0, 0) _ (by first | with_reducible exact K3.out | exact blk_alloc K3.out _) Try.underlying23 rfl (by kernel_rfl) ?_))
      refine (nm_judge C HC (⟨#[114, 49]⟩ : ByteArray) 1 100 false true (⟨#[114, 49]⟩ : ByteArray) 1125899906842625 0 0 _ (by decide +kernel)).mono ?_
      rintro e w12 ⟨rfl, hb⟩
      have K0 := Aside0.mk (blk_below K0.out hb)
      have K1 := Aside0.mk (blk_below K1.out hb)
      have K2 := Aside0.mk (blk_below K2.out hb)
      have K3 := Aside0.mk (blk_below K3.out hb)
      have HB := Aside0.mk (HB.out.trans (hb.mono HB.out.size))
      clear hb
      go_wp2_with (first | ((with_reducible refine gate_load (T := 25) rfl ?_); (try (refine gate_guard (by rfl) ?_; dsimp only)); refine wpList_load_row rfl 25 _ rfl (w1.heap.size) rfl 25 C (0, 0) _ (by first | with_reducible exact K0.out | exact blk_alloc K0.out _) Try.underlying25 rfl (by rw [HS.out]; kernel_rfl) ?_) | ((with_reducible refine gate_load (T := 23) rfl ?_); (try (refine gate_guard (by rfl) ?_; dsimp only)); refine wpList_load_row rfl 23 _ rfl (wr.heap.size) rfl 23 #[.string (⟨#[114, 49]⟩ : ByteArray), .int .i64 1, .int .i64 100, .bool false] (0, 0) _ (by first | with_reducible exact K1.out | exact blk_alloc K1.out _) Try.underlying23 rfl (by kernel_rfl) ?_) | ((with_reducible refine gate_load (T := 23) rfl ?_); (try (refine gate_guard (by rfl) ?_; dsimp only)); refine wpList_load_row rfl 23 _ rfl (wr.heap.size + 1) rfl 23 #[.string (⟨#[114, 32, 49]⟩ : ByteArray), .int .i64 1, .int .i64 100, .bool false] (0, 0) _ (by first | with_reducible exact K2.out | exact blk_alloc K2.out _) Try.underlying23 rfl (by kernel_rfl) ?_) | ((with_reducible refine gate_load (T := 23) rfl ?_); (try (refine gate_guard (by rfl) ?_; dsimp only)); refine wpList_load_row rfl 23 _ rfl (wr.heap.size + 1 + 1) rfl 23 #[.string (⟨#[114, 49]⟩ : ByteArray), .int .i64 1, .int .i64 (-1), .bool false] (0, 0) _ (by first | with_reducible exact K3.out | exact blk_alloc K3.out _) Try.underlying23 rfl (by kernel_rfl) ?_))
      refine (nm_judge C HC (⟨#[114, 49]⟩ : ByteArray) 1 100 false true (⟨#[114, 49]⟩ : ByteArray) 100 (-1) 0 _ (by decide +kernel)).mono ?_
      rintro e w13 ⟨rfl, hb⟩
      have K0 := Aside0.mk (blk_below K0.out hb)
      have K1 := Aside0.mk (blk_below K1.out hb)
      have K2 := Aside0.mk (blk_below K2.out hb)
      have K3 := Aside0.mk (blk_below K3.out hb)
      have HB := Aside0.mk (HB.out.trans (hb.mono HB.out.size))
      clear hb
      go_wp2_with (first | ((with_reducible refine gate_load (T := 25) rfl ?_); (try (refine gate_guard (by rfl) ?_; dsimp only)); refine wpList_load_row rfl 25 _ rfl (w1.heap.size) rfl 25 C (0, 0) _ (by first | with_reducible exact K0.out | exact blk_alloc K0.out _) Try.underlying25 rfl (by rw [HS.out]; kernel_rfl) ?_) | ((with_reducible refine gate_load (T := 23) rfl ?_); (try (refine gate_guard (by rfl) ?_; dsimp only)); refine wpList_load_row rfl 23 _ rfl (wr.heap.size) rfl 23 #[.string (⟨#[114, 49]⟩ : ByteArray), .int .i64 1, .int .i64 100, .bool false] (0, 0) _ (by first | with_reducible exact K1.out | exact blk_alloc K1.out _) Try.underlying23 rfl (by kernel_rfl) ?_) | ((with_reducible refine gate_load (T := 23) rfl ?_); (try (refine gate_guard (by rfl) ?_; dsimp only)); refine wpList_load_row rfl 23 _ rfl (wr.heap.size + 1) rfl 23 #[.string (⟨#[114, 32, 49]⟩ : ByteArray), .int .i64 1, .int .i64 100, .bool false] (0, 0) _ (by first | with_reducible exact K2.out | exact blk_alloc K2.out _) Try.underlying23 rfl (by kernel_rfl) ?_) | ((with_reducible refine gate_load (T := 23) rfl ?_); (try (refine gate_guard (by rfl) ?_; dsimp only)); refine wpList_load_row rfl 23 _ rfl (wr.heap.size + 1 + 1) rfl 23 #[.string (⟨#[114, 49]⟩ : ByteArray), .int .i64 1, .int .i64 (-1), .bool false] (0, 0) _ (by first | with_reducible exact K3.out | exact blk_alloc K3.out _) Try.underlying23 rfl (by kernel_rfl) ?_))
      refine (nm_judge C HC (⟨#[114, 49]⟩ : ByteArray) 1 100 false true (⟨#[114, 49]⟩ : ByteArray) 100 6 0 _ (by decide +kernel)).mono ?_
      rintro e w14 ⟨rfl, hb⟩
      have K0 := Aside0.mk (blk_below K0.out hb)
      have K1 := Aside0.mk (blk_below K1.out hb)
      have K2 := Aside0.mk (blk_below K2.out hb)
      have K3 := Aside0.mk (blk_below K3.out hb)
      have HB := Aside0.mk (HB.out.trans (hb.mono HB.out.size))
      clear hb
      go_wp2_with (first | ((with_reducible refine gate_load (T := 25) rfl ?_); (try (refine gate_guard (by rfl) ?_; dsimp only)); refine wpList_load_row rfl 25 _ rfl (w1.heap.size) rfl 25 C (0, 0) _ (by first | with_reducible exact K0.out | exact blk_alloc K0.out _) Try.underlying25 rfl (by rw [HS.out]; kernel_rfl) ?_) | ((with_reducible refine gate_load (T := 23) rfl ?_); (try (refine gate_guard (by rfl) ?_; dsimp only)); refine wpList_load_row rfl 23 _ rfl (wr.heap.size) rfl 23 #[.string (⟨#[114, 49]⟩ : ByteArray), .int .i64 1, .int .i64 100, .bool false] (0, 0) _ (by first | with_reducible exact K1.out | exact blk_alloc K1.out _) Try.underlying23 rfl (by kernel_rfl) ?_) | ((with_reducible refine gate_load (T := 23) rfl ?_); (try (refine gate_guard (by rfl) ?_; dsimp only)); refine wpList_load_row rfl 23 _ rfl (wr.heap.size + 1) rfl 23 #[.string (⟨#[114, 32, 49]⟩ : ByteArray), .int .i64 1, .int .i64 100, .bool false] (0, 0) _ (by first | with_reducible exact K2.out | exact blk_alloc K2.out _) Try.underlying23 rfl (by kernel_rfl) ?_) | ((with_reducible refine gate_load (T := 23) rfl ?_); (try (refine gate_guard (by rfl) ?_; dsimp only)); refine wpList_load_row rfl 23 _ rfl (wr.heap.size + 1 + 1) rfl 23 #[.string (⟨#[114, 49]⟩ : ByteArray), .int .i64 1, .int .i64 (-1), .bool false] (0, 0) _ (by first | with_reducible exact K3.out | exact blk_alloc K3.out _) Try.underlying23 rfl (by kernel_rfl) ?_))
      refine (nm_judge C HC (⟨#[114, 32, 49]⟩ : ByteArray) 1 100 false true (⟨#[114, 49]⟩ : ByteArray) 100 0 0 _ (by decide +kernel)).mono ?_
      rintro e w15 ⟨rfl, hb⟩
      have K0 := Aside0.mk (blk_below K0.out hb)
      have K1 := Aside0.mk (blk_below K1.out hb)
      have K2 := Aside0.mk (blk_below K2.out hb)
      have K3 := Aside0.mk (blk_below K3.out hb)
      have HB := Aside0.mk (HB.out.trans (hb.mono HB.out.size))
      clear hb
      go_wp2_with (first | ((with_reducible refine gate_load (T := 25) rfl ?_); (try (refine gate_guard (by rfl) ?_; dsimp only)); refine wpList_load_row rfl 25 _ rfl (w1.heap.size) rfl 25 C (0, 0) _ (by first | with_reducible exact K0.out | exact blk_alloc K0.out _) Try.underlying25 rfl (by rw [HS.out]; kernel_rfl) ?_) | ((with_reducible refine gate_load (T := 23) rfl ?_); (try (refine gate_guard (by rfl) ?_; dsimp only)); refine wpList_load_row rfl 23 _ rfl (wr.heap.size) rfl 23 #[.string (⟨#[114, 49]⟩ : ByteArray), .int .i64 1, .int .i64 100, .bool false] (0, 0) _ (by first | with_reducible exact K1.out | exact blk_alloc K1.out _) Try.underlying23 rfl (by kernel_rfl) ?_) | ((with_reducible refine gate_load (T := 23) rfl ?_); (try (refine gate_guard (by rfl) ?_; dsimp only)); refine wpList_load_row rfl 23 _ rfl (wr.heap.size + 1) rfl 23 #[.string (⟨#[114, 32, 49]⟩ : ByteArray), .int .i64 1, .int .i64 100, .bool false] (0, 0) _ (by first | with_reducible exact K2.out | exact blk_alloc K2.out _) Try.underlying23 rfl (by kernel_rfl) ?_) | ((with_reducible refine gate_load (T := 23) rfl ?_); (try (refine gate_guard (by rfl) ?_; dsimp only)); refine wpList_load_row rfl 23 _ rfl (wr.heap.size + 1 + 1) rfl 23 #[.string (⟨#[114, 49]⟩ : ByteArray), .int .i64 1, .int .i64 (-1), .bool false] (0, 0) _ (by first | with_reducible exact K3.out | exact blk_alloc K3.out _) Try.underlying23 rfl (by kernel_rfl) ?_))
      refine (nm_judge C HC (⟨#[114, 49]⟩ : ByteArray) 1 (-1) false true (⟨#[114, 49]⟩ : ByteArray) 100 0 0 _ (by decide +kernel)).mono ?_
      rintro e w16 ⟨rfl, hb⟩
      have K0 := Aside0.mk (blk_below K0.out hb)
      have K1 := Aside0.mk (blk_below K1.out hb)
      have K2 := Aside0.mk (blk_below K2.out hb)
      have K3 := Aside0.mk (blk_below K3.out hb)
      have HB := Aside0.mk (HB.out.trans (hb.mono HB.out.size))
      clear hb
      go_wp2_with (first | ((with_reducible refine gate_load (T := 25) rfl ?_); (try (refine gate_guard (by rfl) ?_; dsimp only)); refine wpList_load_row rfl 25 _ rfl (w1.heap.size) rfl 25 C (0, 0) _ (by first | with_reducible exact K0.out | exact blk_alloc K0.out _) Try.underlying25 rfl (by rw [HS.out]; kernel_rfl) ?_) | ((with_reducible refine gate_load (T := 23) rfl ?_); (try (refine gate_guard (by rfl) ?_; dsimp only)); refine wpList_load_row rfl 23 _ rfl (wr.heap.size) rfl 23 #[.string (⟨#[114, 49]⟩ : ByteArray), .int .i64 1, .int .i64 100, .bool false] (0, 0) _ (by first | with_reducible exact K1.out | exact blk_alloc K1.out _) Try.underlying23 rfl (by kernel_rfl) ?_) | ((with_reducible refine gate_load (T := 23) rfl ?_); (try (refine gate_guard (by rfl) ?_; dsimp only)); refine wpList_load_row rfl 23 _ rfl (wr.heap.size + 1) rfl 23 #[.string (⟨#[114, 32, 49]⟩ : ByteArray), .int .i64 1, .int .i64 100, .bool false] (0, 0) _ (by first | with_reducible exact K2.out | exact blk_alloc K2.out _) Try.underlying23 rfl (by kernel_rfl) ?_) | ((with_reducible refine gate_load (T := 23) rfl ?_); (try (refine gate_guard (by rfl) ?_; dsimp only)); refine wpList_load_row rfl 23 _ rfl (wr.heap.size + 1 + 1) rfl 23 #[.string (⟨#[114, 49]⟩ : ByteArray), .int .i64 1, .int .i64 (-1), .bool false] (0, 0) _ (by first | with_reducible exact K3.out | exact blk_alloc K3.out _) Try.underlying23 rfl (by kernel_rfl) ?_))
      refine (nm_judge C HC (⟨#[114, 32, 49]⟩ : ByteArray) 1 100 false false (⟨#[114, 49]⟩ : ByteArray) 100 0 1 _ (by decide +kernel)).mono ?_
      rintro e w17 ⟨rfl, hb⟩
      have K0 := Aside0.mk (blk_below K0.out hb)
      have K1 := Aside0.mk (blk_below K1.out hb)
      have K2 := Aside0.mk (blk_below K2.out hb)
      have K3 := Aside0.mk (blk_below K3.out hb)
      have HB := Aside0.mk (HB.out.trans (hb.mono HB.out.size))
      clear hb
      go_wp2_with (first | ((with_reducible refine gate_load (T := 25) rfl ?_); (try (refine gate_guard (by rfl) ?_; dsimp only)); refine wpList_load_row rfl 25 _ rfl (w1.heap.size) rfl 25 C (0, 0) _ (by first | with_reducible exact K0.out | exact blk_alloc K0.out _) Try.underlying25 rfl (by rw [HS.out]; kernel_rfl) ?_) | ((with_reducible refine gate_load (T := 23) rfl ?_); (try (refine gate_guard (by rfl) ?_; dsimp only)); refine wpList_load_row rfl 23 _ rfl (wr.heap.size) rfl 23 #[.string (⟨#[114, 49]⟩ : ByteArray), .int .i64 1, .int .i64 100, .bool false] (0, 0) _ (by first | with_reducible exact K1.out | exact blk_alloc K1.out _) Try.underlying23 rfl (by kernel_rfl) ?_) | ((with_reducible refine gate_load (T := 23) rfl ?_); (try (refine gate_guard (by rfl) ?_; dsimp only)); refine wpList_load_row rfl 23 _ rfl (wr.heap.size + 1) rfl 23 #[.string (⟨#[114, 32, 49]⟩ : ByteArray), .int .i64 1, .int .i64 100, .bool false] (0, 0) _ (by first | with_reducible exact K2.out | exact blk_alloc K2.out _) Try.underlying23 rfl (by kernel_rfl) ?_) | ((with_reducible refine gate_load (T := 23) rfl ?_); (try (refine gate_guard (by rfl) ?_; dsimp only)); refine wpList_load_row rfl 23 _ rfl (wr.heap.size + 1 + 1) rfl 23 #[.string (⟨#[114, 49]⟩ : ByteArray), .int .i64 1, .int .i64 (-1), .bool false] (0, 0) _ (by first | with_reducible exact K3.out | exact blk_alloc K3.out _) Try.underlying23 rfl (by kernel_rfl) ?_))
      refine (nm_bury C HC (⟨#[114, 32, 49]⟩ : ByteArray) 1 100 false 1000 false _ (by decide +kernel)).mono ?_
      rintro e w18 ⟨rfl, hb⟩
      have K0 := Aside0.mk (blk_below K0.out hb)
      have K1 := Aside0.mk (blk_below K1.out hb)
      have K2 := Aside0.mk (blk_below K2.out hb)
      have K3 := Aside0.mk (blk_below K3.out hb)
      have HB := Aside0.mk (HB.out.trans (hb.mono HB.out.size))
      clear hb
      go_wp2_with (first | ((with_reducible refine gate_load (T := 25) rfl ?_); (try (refine gate_guard (by rfl) ?_; dsimp only)); refine wpList_load_row rfl 25 _ rfl (w1.heap.size) rfl 25 C (0, 0) _ (by first | with_reducible exact K0.out | exact blk_alloc K0.out _) Try.underlying25 rfl (by rw [HS.out]; kernel_rfl) ?_) | ((with_reducible refine gate_load (T := 23) rfl ?_); (try (refine gate_guard (by rfl) ?_; dsimp only)); refine wpList_load_row rfl 23 _ rfl (wr.heap.size) rfl 23 #[.string (⟨#[114, 49]⟩ : ByteArray), .int .i64 1, .int .i64 100, .bool false] (0, 0) _ (by first | with_reducible exact K1.out | exact blk_alloc K1.out _) Try.underlying23 rfl (by kernel_rfl) ?_) | ((with_reducible refine gate_load (T := 23) rfl ?_); (try (refine gate_guard (by rfl) ?_; dsimp only)); refine wpList_load_row rfl 23 _ rfl (wr.heap.size + 1) rfl 23 #[.string (⟨#[114, 32, 49]⟩ : ByteArray), .int .i64 1, .int .i64 100, .bool false] (0, 0) _ (by first | with_reducible exact K2.out | exact blk_alloc K2.out _) Try.underlying23 rfl (by kernel_rfl) ?_) | ((with_reducible refine gate_load (T := 23) rfl ?_); (try (refine gate_guard (by rfl) ?_; dsimp only)); refine wpList_load_row rfl 23 _ rfl (wr.heap.size + 1 + 1) rfl 23 #[.string (⟨#[114, 49]⟩ : ByteArray), .int .i64 1, .int .i64 (-1), .bool false] (0, 0) _ (by first | with_reducible exact K3.out | exact blk_alloc K3.out _) Try.underlying23 rfl (by kernel_rfl) ?_))
      refine (nm_bury C HC (⟨#[114, 49]⟩ : ByteArray) 1 100 false (-1) false _ (by decide +kernel)).mono ?_
      rintro e w19 ⟨rfl, hb⟩
      have K0 := Aside0.mk (blk_below K0.out hb)
      have K1 := Aside0.mk (blk_below K1.out hb)
      have K2 := Aside0.mk (blk_below K2.out hb)
      have K3 := Aside0.mk (blk_below K3.out hb)
      have HB := Aside0.mk (HB.out.trans (hb.mono HB.out.size))
      clear hb
      go_wp2_with (first | ((with_reducible refine gate_load (T := 25) rfl ?_); (try (refine gate_guard (by rfl) ?_; dsimp only)); refine wpList_load_row rfl 25 _ rfl (w1.heap.size) rfl 25 C (0, 0) _ (by first | with_reducible exact K0.out | exact blk_alloc K0.out _) Try.underlying25 rfl (by rw [HS.out]; kernel_rfl) ?_) | ((with_reducible refine gate_load (T := 23) rfl ?_); (try (refine gate_guard (by rfl) ?_; dsimp only)); refine wpList_load_row rfl 23 _ rfl (wr.heap.size) rfl 23 #[.string (⟨#[114, 49]⟩ : ByteArray), .int .i64 1, .int .i64 100, .bool false] (0, 0) _ (by first | with_reducible exact K1.out | exact blk_alloc K1.out _) Try.underlying23 rfl (by kernel_rfl) ?_) | ((with_reducible refine gate_load (T := 23) rfl ?_); (try (refine gate_guard (by rfl) ?_; dsimp only)); refine wpList_load_row rfl 23 _ rfl (wr.heap.size + 1) rfl 23 #[.string (⟨#[114, 32, 49]⟩ : ByteArray), .int .i64 1, .int .i64 100, .bool false] (0, 0) _ (by first | with_reducible exact K2.out | exact blk_alloc K2.out _) Try.underlying23 rfl (by kernel_rfl) ?_) | ((with_reducible refine gate_load (T := 23) rfl ?_); (try (refine gate_guard (by rfl) ?_; dsimp only)); refine wpList_load_row rfl 23 _ rfl (wr.heap.size + 1 + 1) rfl 23 #[.string (⟨#[114, 49]⟩ : ByteArray), .int .i64 1, .int .i64 (-1), .bool false] (0, 0) _ (by first | with_reducible exact K3.out | exact blk_alloc K3.out _) Try.underlying23 rfl (by kernel_rfl) ?_))
      refine (nm_bury0 (⟨#[114, 49]⟩ : ByteArray) 1 100 false 1000 _ (by decide +kernel)).mono ?_
      rintro e w20 ⟨rfl, hb⟩
      have K0 := Aside0.mk (blk_below K0.out hb)
      have K1 := Aside0.mk (blk_below K1.out hb)
      have K2 := Aside0.mk (blk_below K2.out hb)
      have K3 := Aside0.mk (blk_below K3.out hb)
      have HB := Aside0.mk (HB.out.trans (hb.mono HB.out.size))
      clear hb
      go_wp2_with (first | ((with_reducible refine gate_load (T := 25) rfl ?_); (try (refine gate_guard (by rfl) ?_; dsimp only)); refine wpList_load_row rfl 25 _ rfl (w1.heap.size) rfl 25 C (0, 0) _ (by first | with_reducible exact K0.out | exact blk_alloc K0.out _) Try.underlying25 rfl (by rw [HS.out]; kernel_rfl) ?_) | ((with_reducible refine gate_load (T := 23) rfl ?_); (try (refine gate_guard (by rfl) ?_; dsimp only)); refine wpList_load_row rfl 23 _ rfl (wr.heap.size) rfl 23 #[.string (⟨#[114, 49]⟩ : ByteArray), .int .i64 1, .int .i64 100, .bool false] (0, 0) _ (by first | with_reducible exact K1.out | exact blk_alloc K1.out _) Try.underlying23 rfl (by kernel_rfl) ?_) | ((with_reducible refine gate_load (T := 23) rfl ?_); (try (refine gate_guard (by rfl) ?_; dsimp only)); refine wpList_load_row rfl 23 _ rfl (wr.heap.size + 1) rfl 23 #[.string (⟨#[114, 32, 49]⟩ : ByteArray), .int .i64 1, .int .i64 100, .bool false] (0, 0) _ (by first | with_reducible exact K2.out | exact blk_alloc K2.out _) Try.underlying23 rfl (by kernel_rfl) ?_) | ((with_reducible refine gate_load (T := 23) rfl ?_); (try (refine gate_guard (by rfl) ?_; dsimp only)); refine wpList_load_row rfl 23 _ rfl (wr.heap.size + 1 + 1) rfl 23 #[.string (⟨#[114, 49]⟩ : ByteArray), .int .i64 1, .int .i64 (-1), .bool false] (0, 0) _ (by first | with_reducible exact K3.out | exact blk_alloc K3.out _) Try.underlying23 rfl (by kernel_rfl) ?_))
      refine (nm_sweep C HC (⟨#[114, 49]⟩ : ByteArray) 1 100 false 1000 false _ (by decide +kernel)).mono ?_
      rintro e w21 ⟨rfl, hb⟩
      have K0 := Aside0.mk (blk_below K0.out hb)
      have K1 := Aside0.mk (blk_below K1.out hb)
      have K2 := Aside0.mk (blk_below K2.out hb)
      have K3 := Aside0.mk (blk_below K3.out hb)
      have HB := Aside0.mk (HB.out.trans (hb.mono HB.out.size))
      clear hb
      go_wp2_with (first | ((with_reducible refine gate_load (T := 25) rfl ?_); (try (refine gate_guard (by rfl) ?_; dsimp only)); refine wpList_load_row rfl 25 _ rfl (w1.heap.size) rfl 25 C (0, 0) _ (by first | with_reducible exact K0.out | exact blk_alloc K0.out _) Try.underlying25 rfl (by rw [HS.out]; kernel_rfl) ?_) | ((with_reducible refine gate_load (T := 23) rfl ?_); (try (refine gate_guard (by rfl) ?_; dsimp only)); refine wpList_load_row rfl 23 _ rfl (wr.heap.size) rfl 23 #[.string (⟨#[114, 49]⟩ : ByteArray), .int .i64 1, .int .i64 100, .bool false] (0, 0) _ (by first | with_reducible exact K1.out | exact blk_alloc K1.out _) Try.underlying23 rfl (by kernel_rfl) ?_) | ((with_reducible refine gate_load (T := 23) rfl ?_); (try (refine gate_guard (by rfl) ?_; dsimp only)); refine wpList_load_row rfl 23 _ rfl (wr.heap.size + 1) rfl 23 #[.string (⟨#[114, 32, 49]⟩ : ByteArray), .int .i64 1, .int .i64 100, .bool false] (0, 0) _ (by first | with_reducible exact K2.out | exact blk_alloc K2.out _) Try.underlying23 rfl (by kernel_rfl) ?_) | ((with_reducible refine gate_load (T := 23) rfl ?_); (try (refine gate_guard (by rfl) ?_; dsimp only)); refine wpList_load_row rfl 23 _ rfl (wr.heap.size + 1 + 1) rfl 23 #[.string (⟨#[114, 49]⟩ : ByteArray), .int .i64 1, .int .i64 (-1), .bool false] (0, 0) _ (by first | with_reducible exact K3.out | exact blk_alloc K3.out _) Try.underlying23 rfl (by kernel_rfl) ?_))
      refine (nm_judge C HC (⟨#[114, 49]⟩ : ByteArray) 1 100 false true (⟨#[114, 49]⟩ : ByteArray) 0 0 2 _ (by decide +kernel)).mono ?_
      rintro e w22 ⟨rfl, hb⟩
      have K0 := Aside0.mk (blk_below K0.out hb)
      have K1 := Aside0.mk (blk_below K1.out hb)
      have K2 := Aside0.mk (blk_below K2.out hb)
      have K3 := Aside0.mk (blk_below K3.out hb)
      have HB := Aside0.mk (HB.out.trans (hb.mono HB.out.size))
      clear hb
      go_wp2_with (first | ((with_reducible refine gate_load (T := 25) rfl ?_); (try (refine gate_guard (by rfl) ?_; dsimp only)); refine wpList_load_row rfl 25 _ rfl (w1.heap.size) rfl 25 C (0, 0) _ (by first | with_reducible exact K0.out | exact blk_alloc K0.out _) Try.underlying25 rfl (by rw [HS.out]; kernel_rfl) ?_) | ((with_reducible refine gate_load (T := 23) rfl ?_); (try (refine gate_guard (by rfl) ?_; dsimp only)); refine wpList_load_row rfl 23 _ rfl (wr.heap.size) rfl 23 #[.string (⟨#[114, 49]⟩ : ByteArray), .int .i64 1, .int .i64 100, .bool false] (0, 0) _ (by first | with_reducible exact K1.out | exact blk_alloc K1.out _) Try.underlying23 rfl (by kernel_rfl) ?_) | ((with_reducible refine gate_load (T := 23) rfl ?_); (try (refine gate_guard (by rfl) ?_; dsimp only)); refine wpList_load_row rfl 23 _ rfl (wr.heap.size + 1) rfl 23 #[.string (⟨#[114, 32, 49]⟩ : ByteArray), .int .i64 1, .int .i64 100, .bool false] (0, 0) _ (by first | with_reducible exact K2.out | exact blk_alloc K2.out _) Try.underlying23 rfl (by kernel_rfl) ?_) | ((with_reducible refine gate_load (T := 23) rfl ?_); (try (refine gate_guard (by rfl) ?_; dsimp only)); refine wpList_load_row rfl 23 _ rfl (wr.heap.size + 1 + 1) rfl 23 #[.string (⟨#[114, 49]⟩ : ByteArray), .int .i64 1, .int .i64 (-1), .bool false] (0, 0) _ (by first | with_reducible exact K3.out | exact blk_alloc K3.out _) Try.underlying23 rfl (by kernel_rfl) ?_))
      refine (nm_judge C HC (⟨#[114, 49]⟩ : ByteArray) 1 100 false true (⟨#[114, 50]⟩ : ByteArray) 0 0 5 _ (by decide +kernel)).mono ?_
      rintro e w23 ⟨rfl, hb⟩
      have K0 := Aside0.mk (blk_below K0.out hb)
      have K1 := Aside0.mk (blk_below K1.out hb)
      have K2 := Aside0.mk (blk_below K2.out hb)
      have K3 := Aside0.mk (blk_below K3.out hb)
      have HB := Aside0.mk (HB.out.trans (hb.mono HB.out.size))
      clear hb
      go_wp2_with (first | ((with_reducible refine gate_load (T := 25) rfl ?_); (try (refine gate_guard (by rfl) ?_; dsimp only)); refine wpList_load_row rfl 25 _ rfl (w1.heap.size) rfl 25 C (0, 0) _ (by first | with_reducible exact K0.out | exact blk_alloc K0.out _) Try.underlying25 rfl (by rw [HS.out]; kernel_rfl) ?_) | ((with_reducible refine gate_load (T := 23) rfl ?_); (try (refine gate_guard (by rfl) ?_; dsimp only)); refine wpList_load_row rfl 23 _ rfl (wr.heap.size) rfl 23 #[.string (⟨#[114, 49]⟩ : ByteArray), .int .i64 1, .int .i64 100, .bool false] (0, 0) _ (by first | with_reducible exact K1.out | exact blk_alloc K1.out _) Try.underlying23 rfl (by kernel_rfl) ?_) | ((with_reducible refine gate_load (T := 23) rfl ?_); (try (refine gate_guard (by rfl) ?_; dsimp only)); refine wpList_load_row rfl 23 _ rfl (wr.heap.size + 1) rfl 23 #[.string (⟨#[114, 32, 49]⟩ : ByteArray), .int .i64 1, .int .i64 100, .bool false] (0, 0) _ (by first | with_reducible exact K2.out | exact blk_alloc K2.out _) Try.underlying23 rfl (by kernel_rfl) ?_) | ((with_reducible refine gate_load (T := 23) rfl ?_); (try (refine gate_guard (by rfl) ?_; dsimp only)); refine wpList_load_row rfl 23 _ rfl (wr.heap.size + 1 + 1) rfl 23 #[.string (⟨#[114, 49]⟩ : ByteArray), .int .i64 1, .int .i64 (-1), .bool false] (0, 0) _ (by first | with_reducible exact K3.out | exact blk_alloc K3.out _) Try.underlying23 rfl (by kernel_rfl) ?_))
      refine (nm_draw [7, 8, 9] (⟨#[114, 49]⟩ : ByteArray) 1 100 false 0 5 2 _ _ _ (heap_alloc_new _ _) (by decide +kernel) (by rfl)).mono ?_
      rintro e w24 ⟨rfl, hb⟩
      have K0 := Aside0.mk (blk_below (blk_alloc K0.out _) hb)
      have K1 := Aside0.mk (blk_below (blk_alloc K1.out _) hb)
      have K2 := Aside0.mk (blk_below (blk_alloc K2.out _) hb)
      have K3 := Aside0.mk (blk_below (blk_alloc K3.out _) hb)
      have HB := Aside0.mk (HB.out.trans (((((Below.refl _ _).alloc (Nat.le_refl _) _).trans (hb.mono (by simp)))).mono HB.out.size))
      clear hb
      go_wp2_with (first | ((with_reducible refine gate_load (T := 25) rfl ?_); (try (refine gate_guard (by rfl) ?_; dsimp only)); refine wpList_load_row rfl 25 _ rfl (w1.heap.size) rfl 25 C (0, 0) _ (by first | with_reducible exact K0.out | exact blk_alloc K0.out _) Try.underlying25 rfl (by rw [HS.out]; kernel_rfl) ?_) | ((with_reducible refine gate_load (T := 23) rfl ?_); (try (refine gate_guard (by rfl) ?_; dsimp only)); refine wpList_load_row rfl 23 _ rfl (wr.heap.size) rfl 23 #[.string (⟨#[114, 49]⟩ : ByteArray), .int .i64 1, .int .i64 100, .bool false] (0, 0) _ (by first | with_reducible exact K1.out | exact blk_alloc K1.out _) Try.underlying23 rfl (by kernel_rfl) ?_) | ((with_reducible refine gate_load (T := 23) rfl ?_); (try (refine gate_guard (by rfl) ?_; dsimp only)); refine wpList_load_row rfl 23 _ rfl (wr.heap.size + 1) rfl 23 #[.string (⟨#[114, 32, 49]⟩ : ByteArray), .int .i64 1, .int .i64 100, .bool false] (0, 0) _ (by first | with_reducible exact K2.out | exact blk_alloc K2.out _) Try.underlying23 rfl (by kernel_rfl) ?_) | ((with_reducible refine gate_load (T := 23) rfl ?_); (try (refine gate_guard (by rfl) ?_; dsimp only)); refine wpList_load_row rfl 23 _ rfl (wr.heap.size + 1 + 1) rfl 23 #[.string (⟨#[114, 49]⟩ : ByteArray), .int .i64 1, .int .i64 (-1), .bool false] (0, 0) _ (by first | with_reducible exact K3.out | exact blk_alloc K3.out _) Try.underlying23 rfl (by kernel_rfl) ?_))
      refine (nm_draw [7, 8, 9] (⟨#[114, 49]⟩ : ByteArray) 1 100 false 1 5 3 _ _ _ (heap_alloc_new _ _) (by decide +kernel) (by rfl)).mono ?_
      rintro e w25 ⟨rfl, hb⟩
      have K0 := Aside0.mk (blk_below (blk_alloc K0.out _) hb)
      have K1 := Aside0.mk (blk_below (blk_alloc K1.out _) hb)
      have K2 := Aside0.mk (blk_below (blk_alloc K2.out _) hb)
      have K3 := Aside0.mk (blk_below (blk_alloc K3.out _) hb)
      have HB := Aside0.mk (HB.out.trans (((((Below.refl _ _).alloc (Nat.le_refl _) _).trans (hb.mono (by simp)))).mono HB.out.size))
      clear hb
      go_wp2_with (first | ((with_reducible refine gate_load (T := 25) rfl ?_); (try (refine gate_guard (by rfl) ?_; dsimp only)); refine wpList_load_row rfl 25 _ rfl (w1.heap.size) rfl 25 C (0, 0) _ (by first | with_reducible exact K0.out | exact blk_alloc K0.out _) Try.underlying25 rfl (by rw [HS.out]; kernel_rfl) ?_) | ((with_reducible refine gate_load (T := 23) rfl ?_); (try (refine gate_guard (by rfl) ?_; dsimp only)); refine wpList_load_row rfl 23 _ rfl (wr.heap.size) rfl 23 #[.string (⟨#[114, 49]⟩ : ByteArray), .int .i64 1, .int .i64 100, .bool false] (0, 0) _ (by first | with_reducible exact K1.out | exact blk_alloc K1.out _) Try.underlying23 rfl (by kernel_rfl) ?_) | ((with_reducible refine gate_load (T := 23) rfl ?_); (try (refine gate_guard (by rfl) ?_; dsimp only)); refine wpList_load_row rfl 23 _ rfl (wr.heap.size + 1) rfl 23 #[.string (⟨#[114, 32, 49]⟩ : ByteArray), .int .i64 1, .int .i64 100, .bool false] (0, 0) _ (by first | with_reducible exact K2.out | exact blk_alloc K2.out _) Try.underlying23 rfl (by kernel_rfl) ?_) | ((with_reducible refine gate_load (T := 23) rfl ?_); (try (refine gate_guard (by rfl) ?_; dsimp only)); refine wpList_load_row rfl 23 _ rfl (wr.heap.size + 1 + 1) rfl 23 #[.string (⟨#[114, 49]⟩ : ByteArray), .int .i64 1, .int .i64 (-1), .bool false] (0, 0) _ (by first | with_reducible exact K3.out | exact blk_alloc K3.out _) Try.underlying23 rfl (by kernel_rfl) ?_))
      refine (nm_draw [(-1)] (⟨#[114, 49]⟩ : ByteArray) 1 100 false 0 9 5 _ _ _ (heap_alloc_new _ _) (by decide +kernel) (by rfl)).mono ?_
      rintro e w26 ⟨rfl, hb⟩
      have K0 := Aside0.mk (blk_below (blk_alloc K0.out _) hb)
      have K1 := Aside0.mk (blk_below (blk_alloc K1.out _) hb)
      have K2 := Aside0.mk (blk_below (blk_alloc K2.out _) hb)
      have K3 := Aside0.mk (blk_below (blk_alloc K3.out _) hb)
      have HB := Aside0.mk (HB.out.trans (((((Below.refl _ _).alloc (Nat.le_refl _) _).trans (hb.mono (by simp)))).mono HB.out.size))
      clear hb
      go_wp2_with (first | ((with_reducible refine gate_load (T := 25) rfl ?_); (try (refine gate_guard (by rfl) ?_; dsimp only)); refine wpList_load_row rfl 25 _ rfl (w1.heap.size) rfl 25 C (0, 0) _ (by first | with_reducible exact K0.out | exact blk_alloc K0.out _) Try.underlying25 rfl (by rw [HS.out]; kernel_rfl) ?_) | ((with_reducible refine gate_load (T := 23) rfl ?_); (try (refine gate_guard (by rfl) ?_; dsimp only)); refine wpList_load_row rfl 23 _ rfl (wr.heap.size) rfl 23 #[.string (⟨#[114, 49]⟩ : ByteArray), .int .i64 1, .int .i64 100, .bool false] (0, 0) _ (by first | with_reducible exact K1.out | exact blk_alloc K1.out _) Try.underlying23 rfl (by kernel_rfl) ?_) | ((with_reducible refine gate_load (T := 23) rfl ?_); (try (refine gate_guard (by rfl) ?_; dsimp only)); refine wpList_load_row rfl 23 _ rfl (wr.heap.size + 1) rfl 23 #[.string (⟨#[114, 32, 49]⟩ : ByteArray), .int .i64 1, .int .i64 100, .bool false] (0, 0) _ (by first | with_reducible exact K2.out | exact blk_alloc K2.out _) Try.underlying23 rfl (by kernel_rfl) ?_) | ((with_reducible refine gate_load (T := 23) rfl ?_); (try (refine gate_guard (by rfl) ?_; dsimp only)); refine wpList_load_row rfl 23 _ rfl (wr.heap.size + 1 + 1) rfl 23 #[.string (⟨#[114, 49]⟩ : ByteArray), .int .i64 1, .int .i64 (-1), .bool false] (0, 0) _ (by first | with_reducible exact K3.out | exact blk_alloc K3.out _) Try.underlying23 rfl (by kernel_rfl) ?_))
      refine (nm_draw0 (⟨#[114, 49]⟩ : ByteArray) 1 100 false 0 5 0 _ (by decide +kernel)).mono ?_
      rintro e w27 ⟨rfl, hb⟩
      have K0 := Aside0.mk (blk_below K0.out hb)
      have K1 := Aside0.mk (blk_below K1.out hb)
      have K2 := Aside0.mk (blk_below K2.out hb)
      have K3 := Aside0.mk (blk_below K3.out hb)
      have HB := Aside0.mk (HB.out.trans (hb.mono HB.out.size))
      clear hb
      go_wp2_with (first | ((with_reducible refine gate_load (T := 25) rfl ?_); (try (refine gate_guard (by rfl) ?_; dsimp only)); refine wpList_load_row rfl 25 _ rfl (w1.heap.size) rfl 25 C (0, 0) _ (by first | with_reducible exact K0.out | exact blk_alloc K0.out _) Try.underlying25 rfl (by rw [HS.out]; kernel_rfl) ?_) | ((with_reducible refine gate_load (T := 23) rfl ?_); (try (refine gate_guard (by rfl) ?_; dsimp only)); refine wpList_load_row rfl 23 _ rfl (wr.heap.size) rfl 23 #[.string (⟨#[114, 49]⟩ : ByteArray), .int .i64 1, .int .i64 100, .bool false] (0, 0) _ (by first | with_reducible exact K1.out | exact blk_alloc K1.out _) Try.underlying23 rfl (by kernel_rfl) ?_) | ((with_reducible refine gate_load (T := 23) rfl ?_); (try (refine gate_guard (by rfl) ?_; dsimp only)); refine wpList_load_row rfl 23 _ rfl (wr.heap.size + 1) rfl 23 #[.string (⟨#[114, 32, 49]⟩ : ByteArray), .int .i64 1, .int .i64 100, .bool false] (0, 0) _ (by first | with_reducible exact K2.out | exact blk_alloc K2.out _) Try.underlying23 rfl (by kernel_rfl) ?_) | ((with_reducible refine gate_load (T := 23) rfl ?_); (try (refine gate_guard (by rfl) ?_; dsimp only)); refine wpList_load_row rfl 23 _ rfl (wr.heap.size + 1 + 1) rfl 23 #[.string (⟨#[114, 49]⟩ : ByteArray), .int .i64 1, .int .i64 (-1), .bool false] (0, 0) _ (by first | with_reducible exact K3.out | exact blk_alloc K3.out _) Try.underlying23 rfl (by kernel_rfl) ?_))
      refine (nm_draw [3] (⟨#[114, 49]⟩ : ByteArray) 1 100 false 0 (-1) 0 _ _ _ (heap_alloc_new _ _) (by decide +kernel) (by rfl)).mono ?_
      rintro e w28 ⟨rfl, hb⟩
      have K0 := Aside0.mk (blk_below (blk_alloc K0.out _) hb)
      have K1 := Aside0.mk (blk_below (blk_alloc K1.out _) hb)
      have K2 := Aside0.mk (blk_below (blk_alloc K2.out _) hb)
      have K3 := Aside0.mk (blk_below (blk_alloc K3.out _) hb)
      have HB := Aside0.mk (HB.out.trans (((((Below.refl _ _).alloc (Nat.le_refl _) _).trans (hb.mono (by simp)))).mono HB.out.size))
      clear hb
      go_wp2_with (first | ((with_reducible refine gate_load (T := 25) rfl ?_); (try (refine gate_guard (by rfl) ?_; dsimp only)); refine wpList_load_row rfl 25 _ rfl (w1.heap.size) rfl 25 C (0, 0) _ (by first | with_reducible exact K0.out | exact blk_alloc K0.out _) Try.underlying25 rfl (by rw [HS.out]; kernel_rfl) ?_) | ((with_reducible refine gate_load (T := 23) rfl ?_); (try (refine gate_guard (by rfl) ?_; dsimp only)); refine wpList_load_row rfl 23 _ rfl (wr.heap.size) rfl 23 #[.string (⟨#[114, 49]⟩ : ByteArray), .int .i64 1, .int .i64 100, .bool false] (0, 0) _ (by first | with_reducible exact K1.out | exact blk_alloc K1.out _) Try.underlying23 rfl (by kernel_rfl) ?_) | ((with_reducible refine gate_load (T := 23) rfl ?_); (try (refine gate_guard (by rfl) ?_; dsimp only)); refine wpList_load_row rfl 23 _ rfl (wr.heap.size + 1) rfl 23 #[.string (⟨#[114, 32, 49]⟩ : ByteArray), .int .i64 1, .int .i64 100, .bool false] (0, 0) _ (by first | with_reducible exact K2.out | exact blk_alloc K2.out _) Try.underlying23 rfl (by kernel_rfl) ?_) | ((with_reducible refine gate_load (T := 23) rfl ?_); (try (refine gate_guard (by rfl) ?_; dsimp only)); refine wpList_load_row rfl 23 _ rfl (wr.heap.size + 1 + 1) rfl 23 #[.string (⟨#[114, 49]⟩ : ByteArray), .int .i64 1, .int .i64 (-1), .bool false] (0, 0) _ (by first | with_reducible exact K3.out | exact blk_alloc K3.out _) Try.underlying23 rfl (by kernel_rfl) ?_))
      refine (nm_draw [3] (⟨#[114, 49]⟩ : ByteArray) 1 100 false (-5) 0 0 _ _ _ (heap_alloc_new _ _) (by decide +kernel) (by rfl)).mono ?_
      rintro e w29 ⟨rfl, hb⟩
      have K0 := Aside0.mk (blk_below (blk_alloc K0.out _) hb)
      have K1 := Aside0.mk (blk_below (blk_alloc K1.out _) hb)
      have K2 := Aside0.mk (blk_below (blk_alloc K2.out _) hb)
      have K3 := Aside0.mk (blk_below (blk_alloc K3.out _) hb)
      have HB := Aside0.mk (HB.out.trans (((((Below.refl _ _).alloc (Nat.le_refl _) _).trans (hb.mono (by simp)))).mono HB.out.size))
      clear hb
      go_wp2_with (first | ((with_reducible refine gate_load (T := 25) rfl ?_); (try (refine gate_guard (by rfl) ?_; dsimp only)); refine wpList_load_row rfl 25 _ rfl (w1.heap.size) rfl 25 C (0, 0) _ (by first | with_reducible exact K0.out | exact blk_alloc K0.out _) Try.underlying25 rfl (by rw [HS.out]; kernel_rfl) ?_) | ((with_reducible refine gate_load (T := 23) rfl ?_); (try (refine gate_guard (by rfl) ?_; dsimp only)); refine wpList_load_row rfl 23 _ rfl (wr.heap.size) rfl 23 #[.string (⟨#[114, 49]⟩ : ByteArray), .int .i64 1, .int .i64 100, .bool false] (0, 0) _ (by first | with_reducible exact K1.out | exact blk_alloc K1.out _) Try.underlying23 rfl (by kernel_rfl) ?_) | ((with_reducible refine gate_load (T := 23) rfl ?_); (try (refine gate_guard (by rfl) ?_; dsimp only)); refine wpList_load_row rfl 23 _ rfl (wr.heap.size + 1) rfl 23 #[.string (⟨#[114, 32, 49]⟩ : ByteArray), .int .i64 1, .int .i64 100, .bool false] (0, 0) _ (by first | with_reducible exact K2.out | exact blk_alloc K2.out _) Try.underlying23 rfl (by kernel_rfl) ?_) | ((with_reducible refine gate_load (T := 23) rfl ?_); (try (refine gate_guard (by rfl) ?_; dsimp only)); refine wpList_load_row rfl 23 _ rfl (wr.heap.size + 1 + 1) rfl 23 #[.string (⟨#[114, 49]⟩ : ByteArray), .int .i64 1, .int .i64 (-1), .bool false] (0, 0) _ (by first | with_reducible exact K3.out | exact blk_alloc K3.out _) Try.underlying23 rfl (by kernel_rfl) ?_))
      refine (nm_draw [9223372036854775807] (⟨#[114, 49]⟩ : ByteArray) 1 (-1) false 2 9223372036854775807 9223372036854775807 _ _ _ (heap_alloc_new _ _) (by decide +kernel) (by rfl)).mono ?_
      rintro e w30 ⟨rfl, hb⟩
      have K0 := Aside0.mk (blk_below (blk_alloc K0.out _) hb)
      have K1 := Aside0.mk (blk_below (blk_alloc K1.out _) hb)
      have K2 := Aside0.mk (blk_below (blk_alloc K2.out _) hb)
      have K3 := Aside0.mk (blk_below (blk_alloc K3.out _) hb)
      have HB := Aside0.mk (HB.out.trans (((((Below.refl _ _).alloc (Nat.le_refl _) _).trans (hb.mono (by simp)))).mono HB.out.size))
      clear hb
      go_wp2_with fail
      go_ret
      exact ⟨rfl, HB.out⟩
end Go.Proofs.Ytijjdgmcjienlaa.PL
