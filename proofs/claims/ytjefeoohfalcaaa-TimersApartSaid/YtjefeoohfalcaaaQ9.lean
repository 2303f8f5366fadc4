/- The queue of timers: Push. -/
import Derived.Test.YtjefeoohfalcaaaQ4
import Derived.Test.YtjefeoohfalcaaaAP
import Derived.Test.YtjefeoohfalcaaaWTab
import Derived.StillTailTactics
import Derived.Laws.Build
import Derived.WalkSpells
/-! The queue of timers: Push. -/
namespace Go.Proofs.Ytjefeoohfalcaaa.C
open Go.RowKit Go.Proofs.YtjefeoohfalcaaaW.PrintLast Go.Proofs.YtjefeoohfalcaaaW.PrintWords
set_option linter.unusedVariables false
set_option linter.unusedSimpArgs false
theorem ownsRow_row {w : World} {b c : Nat} {l : List (Int × Int)} (h : Row w b c l) : w.ownsRow 0 57 2 (.slice (some ⟨b, 0, none⟩) l.length c) l.length (tcells l) := by
  obtain ⟨⟨cs, hb, hs, ht⟩, h2, h3⟩ := h
  exact ⟨tcells_len l, .inr ⟨b, c, cs, rfl, Nat.zero_le _, hb, h2, h3, hs, ht⟩⟩
theorem row_ownsRow {w : World} {v : Value} {l : List (Int × Int)} (h : w.ownsRow 0 57 2 v l.length (tcells l)) (hne : l ≠ []) : ∃ b c, v = .slice (some ⟨b, 0, none⟩) l.length c ∧ Row w b c l := by
  rcases h.2 with ⟨_, h0⟩ | ⟨g, cap, cur, hv, _, hg, hn, hm, hs, ht⟩
  · exact absurd (List.eq_nil_of_length_eq_zero h0) hne
  · exact ⟨g, cap, hv, ⟨cur, hg, hs, ht⟩, hn, hm⟩
theorem timer_asserted (a b : Int) (w : World) : (Instr.typeAssert (.iface 57 (.agg #[.int .i64 a, .int .i64 b])) 20 57 true).run Try.prog w = .ok (.tuple #[.agg #[.int .i64 a, .int .i64 b], .bool true]) w := by kernel_rfl
theorem timer_info : (Try.prog.info? 57).map (fun i => (i.zero, i.size, i.bytes)) = some (some (.agg #[.int .i64 0, .int .i64 0]), 2, 16) := by kernel_rfl

def push2T : Bool × List (List Nat × List Nat) := (true, [([], []), ([], []), ([1], [1]), ([2], [2]), ([3], [3]), ([], []), ([5], [5]), ([4, 6], [4, 6]), ([0, 0, 1, 2, 3, 4, 5, 6, 7], [0]), ([8, 0, 1, 2, 3, 4, 5, 6, 7], [8]), ([9, 7, 7, 0, 1, 2, 3, 4, 5, 6, 7], [7, 9])])
def push2B : List Nat := [0, 0, 2, 6, 14, 0, 32, 126, 255, 511, 1023]
theorem push2_tab : rtab .any (opsOf Try.f99 2) = push2T := by kernel_rfl
theorem push2_bits : waitsOk push2T.2 push2B = true := by kernel_rfl

def PHeld (tt : TypeId) (T g n c0 m : Nat) (A : Option Addr) (x : Int × Int) (l : List (Int × Int)) (w w' : World) : Prop := w'.cell? ⟨T, 0, none⟩ = some (.slice A n c0) ∧ w'.cell? ⟨g, 0, none⟩ = some (.int .i64 x.1) ∧ w'.cell? ⟨g, 1, none⟩ = some (.int .i64 x.2) ∧ w'.heap[T]? = some (.cells #[.slice A n c0, .map (some m)] tt (0, 0)) ∧ w'.heap[g]? = some (.cells #[.int .i64 x.1, .int .i64 x.2] 57 (0, 0)) ∧ w'.ownsRow 0 57 2 (.slice A n c0) n (tcells l) ∧ Fr (fun k => k = T ∨ k = m ∨ some k = (Value.slice A n c0).ownBlock) w w'
theorem push_held {tt : TypeId} {T g n c0 m : Nat} {A : Option Addr} {x : Int × Int} {l : List (Int × Int)} {w w' : World} (h : PHeld tt T g n c0 m A x l w w') (o : Obj) : PHeld tt T g n c0 m A x l w (w'.alloc o) := by
  obtain ⟨_, _, _, h4, h5, h6, h7⟩ := h
  exact ⟨cell_at (blk_alloc h4 o) 0, cell_at (blk_alloc h5 o) 0, cell_at (blk_alloc h5 o) 1, blk_alloc h4 o, blk_alloc h5 o, h6.alloc o, h7.alloc o⟩
theorem push_news (w : World) (x : Int × Int) (T : TypeId) : ∀ (j : Nat) (u : Value), ([.int .i64 x.1, .int .i64 x.2] : List Value)[j]? = some u → (w.alloc (.cells #[.int .i64 x.1, .int .i64 x.2] T (0, 0))).cell? ((⟨w.heap.size, 0, none⟩ : Addr).add j) = some u := by
  intro j u h
  have := cell_at (heap_alloc_new w (.cells #[.int .i64 x.1, .int .i64 x.2] T (0, 0))) (0 + j)
  have e : (⟨w.heap.size, 0, none⟩ : Addr).add j = ⟨w.heap.size, 0 + j, none⟩ := by simp [Addr.add]; exact fun h => h.symm
  rw [e, this]
  simpa using h
set_option maxHeartbeats 2000000 in
set_option maxRecDepth 100000 in
theorem push_calls (tt : TypeId) (T m : Nat) (sl : Value) (l : List (Int × Int)) (f : Int → Option Int) (x : Int × Int) (w : World) (hl : l.length ≤ 1000000000) (hT : w.heap[T]? = some (.cells #[sl, .map (some m)] tt (0, 0))) (hR : w.ownsRow 0 57 2 sl l.length (tcells l)) (hne : sl.ownBlock ≠ some T)
    (hM : ∃ es k, w.heap[m]? = some (.map es k) ∧ GMap (Value.int .i64) (Value.int .i64) es k f) :
    Calls Try.prog 99 #[.pointer (some ⟨T, 0, none⟩), .iface 57 (.agg #[.int .i64 x.1, .int .i64 x.2])] w fun e w' => e = .returned (.tuple #[]) ∧ ∃ b c, QRep w' tt T b c m (l ++ [x]) (upd f x.1 (some (l.length : Int))) ∧ Fr (fun k => k = T ∨ k = m ∨ some k = sl.ownBlock) w w' ∧ (some b = sl.ownBlock ∨ w.heap.size ≤ b) := by
  obtain ⟨es, k, hm, hG⟩ := hM
  obtain ⟨A, c0, rfl⟩ : ∃ A c0, sl = .slice A l.length c0 := by
    rcases hR.2 with ⟨h1, h2⟩ | ⟨g, cap, cur, hv, _⟩
    · exact ⟨none, 0, by rw [h1, h2]⟩
    · exact ⟨_, _, hv⟩
  obtain ⟨n, hn⟩ : ∃ n, l.length = n := ⟨_, rfl⟩
  rw [hn] at hT hR hl hne
  simp only [hn]
  have HN := Aside.mk hn
  have HNE := Aside.mk hne
  have hTm : T ≠ m := fun e => by rw [e, hm] at hT; cases hT
  -- behind the first region: the timer's box
  obtain ⟨W1, hW1⟩ : ∃ W1 : World, W1 = w.alloc (.cells #[.int .i64 x.1, .int .i64 x.2] 57 (0, 0)) := ⟨_, rfl⟩
  have T1 : W1.heap[T]? = some (.cells #[.slice A n c0, .map (some m)] tt (0, 0)) := by rw [hW1]; exact blk_alloc hT _
  have G1 : W1.heap[w.heap.size]? = some (.cells #[.int .i64 x.1, .int .i64 x.2] 57 (0, 0)) := by rw [hW1]; exact heap_alloc_new w _
  have M1 : W1.drew.heap[m]? = some (.map es k) := by rw [hW1]; exact blk_alloc hm _
  have O1 : W1.ownsRow 0 57 2 (.slice A n c0) n (tcells l) := by rw [hW1]; exact hR.alloc _
  have F1 : Fr (fun k => k = T ∨ k = m ∨ some k = (Value.slice A n c0).ownBlock) w W1 := by rw [hW1]; exact (Fr.refl _ w).alloc _
  obtain ⟨es2, k2, hU, G2⟩ := hG.update mapKey Try.underlying64 M1 x.1 (n : Int)
  obtain ⟨W2, hW2⟩ : ∃ W2 : World, W2 = ChangeMaps.setBlock W1.drew m (.map es2 k2) := ⟨_, rfl⟩
  rw [← hW2] at hU
  have hgm : w.heap.size ≠ m := fun e => by rw [← e] at hm; have := lt_of_block hm; omega
  have T2 : W2.heap[T]? = some (.cells #[.slice A n c0, .map (some m)] tt (0, 0)) := by rw [hW2, heap_setBlock_ne _ _ (Ne.symm hTm)]; exact T1
  have S2 : W2.heap[w.heap.size]? = some (.cells #[.int .i64 x.1, .int .i64 x.2] 57 (0, 0)) := by rw [hW2, heap_setBlock_ne _ _ (Ne.symm hgm)]; exact G1
  have hsm : (Value.slice A n c0).ownBlock ≠ some m := fun e => by
    rcases hR.2 with ⟨h1, _⟩ | ⟨g, cap, cur, hv, _, hg, _⟩
    · rw [h1] at e; cases e
    · rw [hv] at e; cases e; rw [hm] at hg; cases hg
  have O2 : W2.ownsRow 0 57 2 (.slice A n c0) n (tcells l) := by
    rw [hW2]
    have : W1.drew.grownBy (ChangeMaps.setBlock W1.drew m (.map es2 k2)) (some m) := ⟨rfl, rfl, rfl, by simp [ChangeMaps.setBlock], fun i hi hne => heap_setBlock_ne _ _ (fun e => hne (by rw [e]))⟩
    exact (show W1.drew.ownsRow 0 57 2 (.slice A n c0) n (tcells l) from O1).kept this (.inr hsm)
  have F2 : Fr (fun k => k = T ∨ k = m ∨ some k = (Value.slice A n c0).ownBlock) w W2 := by rw [hW2]; exact (F1.drew).setBlock (.inl (.inr (.inl rfl))) _
  have MG : Aside (W2.heap[m]? = some (.map es2 k2) ∧ GMap (Value.int .i64) (Value.int .i64) es2 k2 (upd f x.1 (some (n : Int)))) := ⟨by rw [hW2]; exact heap_setBlock_eq _ M1, G2⟩
  have HH := Aside.mk (show PHeld tt T w.heap.size n c0 m A x l w W2.drew from ⟨cell_at T2 0, cell_at S2 0, cell_at S2 1, T2, S2, O2, F2.drew⟩)
  have t0 : W1.cell? ⟨T, 0, none⟩ = some (.slice A n c0) := cell_at T1 0
  have t1 : W1.cell? ⟨T, 1, none⟩ = some (.map (some m)) := cell_at T1 1
  have t2 : W1.cell? ⟨w.heap.size, 0, none⟩ = some (.int .i64 x.1) := cell_at G1 0
  have HW1 := Aside.mk hW1
  have HTM := Aside.mk hTm
  have HTL := Aside.mk (lt_of_block hT)
  have HSM := Aside.mk hsm
  obtain ⟨i0, hi0, hz0, hz1, hz2⟩ := info_parts timer_info
  have HI := Aside.mk (And.intro hi0 (And.intro hz0 (And.intro hz1 hz2)))
  clear hi0 hz0 hz1 hz2 hn hne hTm hT hR hm hG G2 hW1 T1 G1 M1 O1 F1 hW2 hgm T2 S2 hsm O2 F2
  have hta := timer_asserted x.1 x.2
  go_enter Try.func99, Try.ntmps99
  go_upto_region 1 with fail
  rw [← HW1.out]
  go_still_tail 11, (by kernel_rfl)
  go_wp2_with fail
  have HHo := HH.out
  refine start_ (n := 11) (S := (fun w' => PHeld tt T w.heap.size n c0 m A x l w w')) (ds := [7, 10]) #[false, false, false, false, false, false, false, false, false, false, false] (by kernel_rfl) rfl rfl HH.out (fun hHeld => ?_); refine with_tabW push2_tab push2_bits (fun HT_ HW_ => ?_)
  refine pure_ (i := 0) (N := (some 22)) (v := ?_) (a' := ?_) #[true, false, false, false, false, false, false, false, false, false, false] rfl rfl (any_of HT_.out (by kernel_rfl)) (fun _ _ _ h => h) (Or.inl ⟨by rfl, ?_⟩) ?_ ?_
  rotate_left
  · intro w'
    go_simp
    with_reducible rfl
  rotate_left
  · simp only [Act.put, List.setIfInBounds_toArray, List.set_cons_zero, List.set_cons_succ, i64_w, i32_w]
    rfl
  refine pure_ (i := 1) (N := (some 23)) (v := ?_) (a' := ?_) #[true, true, false, false, false, false, false, false, false, false, false] rfl rfl (any_of HT_.out (by kernel_rfl)) (fun _ _ _ h => h) (Or.inl ⟨by rfl, ?_⟩) ?_ ?_
  rotate_left
  · intro w'
    go_simp
    with_reducible rfl
  rotate_left
  · simp only [Act.put, List.setIfInBounds_toArray, List.set_cons_zero, List.set_cons_succ, i64_w, i32_w]
    rfl
  refine pure_ (i := 2) (N := (some 24)) (v := ?_) (a' := ?_) #[true, true, true, false, false, false, false, false, false, false, false] rfl rfl (any_of HT_.out (by kernel_rfl)) (fun _ _ _ h => h) (Or.inl ⟨by rfl, ?_⟩) ?_ ?_
  rotate_left
  · intro w'
    go_simp
    with_reducible rfl
  rotate_left
  · simp only [Act.put, List.setIfInBounds_toArray, List.set_cons_zero, List.set_cons_succ, i64_w, i32_w]
    rfl
  refine pure_ (i := 3) (N := (some 25)) (v := ?_) (a' := ?_) #[true, true, true, true, false, false, false, false, false, false, false] rfl rfl (any_of HT_.out (by kernel_rfl)) (fun _ _ _ h => h) (Or.inl ⟨by rfl, ?_⟩) ?_ ?_
  rotate_left
  · intro w'
    go_simp
    with_reducible rfl
  rotate_left
  · simp only [Act.put, List.setIfInBounds_toArray, List.set_cons_zero, List.set_cons_succ, i64_w, i32_w]
    rfl
  refine take_ (i := 4) (N := (some 26)) (v := ?_) (a' := ?_) #[true, true, true, true, true, false, false, false, false, false, false] rfl rfl (take_ofW HT_.out HW_.out (by kernel_rfl)) (fun _ _ _ h => h) (Or.inl ⟨by rfl, ?_⟩) hHeld ?_ ?_
  rotate_left
  · rintro w' ⟨s1, _⟩
    go_simp
    with_reducible rfl
  rotate_left
  · simp only [Act.put, List.setIfInBounds_toArray, List.set_cons_zero, List.set_cons_succ, i64_w, i32_w]
    rfl
  refine take_ (i := 5) (N := (some 27)) (v := ?_) (a' := ?_) #[true, true, true, true, true, true, false, false, false, false, false] rfl rfl (take_ofW HT_.out HW_.out (by kernel_rfl)) (fun _ _ _ h => h) (Or.inl ⟨by rfl, ?_⟩) hHeld ?_ ?_
  rotate_left
  · rintro w' ⟨_, s2, s3, _⟩
    go_simp
    with_reducible rfl
  rotate_left
  · simp only [Act.put, List.setIfInBounds_toArray, List.set_cons_zero, List.set_cons_succ, i64_w, i32_w]
    rfl
  refine one_ (i := 6) (N := (some 28)) #[true, true, true, true, true, true, true, false, false, false, false] rfl rfl (one_of HT_.out (by kernel_rfl)) (by decide) (fun K9 hK => ?_)
  refine value_ (v := .slice (some ⟨W2.drew.heap.size, 0, none⟩) 1 1) (w1 := W2.drew.alloc (.cells #[.int .i64 x.1, .int .i64 x.2] 57 (0, 0))) (by rfl) rfl (by unfold execOp; go_simp) ?_
  refine hK.out _ _ (push_held hHeld _) (fun hHeld => ?_)
  clear hK K9
  refine norm_ (a' := ?_) ?_ ?_
  rotate_left
  · show Act.put _ (some 28) _ = _
    simp only [Act.put, List.setIfInBounds_toArray, List.set_cons_zero, List.set_cons_succ]
    rfl
  refine last_ (i := 7) (N := (some 29)) #[true, true, true, true, true, true, true, true, false, false, false] rfl rfl (one_of HT_.out (by kernel_rfl)) (by decide) (fun K9 hK => ?_)
  obtain ⟨v', W4, hrun, hown, hgrown, hblk⟩ := append_run (P := Try.prog) (W2.drew.alloc (.cells #[.int .i64 x.1, .int .i64 x.2] 57 (0, 0))) 46 46 57 i0 _ 2 16 Try.underlying46 HI.out.1 HI.out.2.1 HI.out.2.2.1 HI.out.2.2.2 rfl (by decide) (.slice A n c0) n (tcells l) hHeld.2.2.2.2.2.1 ⟨W2.drew.heap.size, 0, none⟩ 1 1 [.int .i64 x.1, .int .i64 x.2] rfl (push_news W2.drew x _) (by simp [Value.oneCell']) (by unfold maxLen; omega) (by omega)
  obtain ⟨b, c', rfl, HROW⟩ := row_ownsRow (l := l ++ [x]) (by rw [List.length_append, HN.out, tcells_append]; exact hown) (by simp)
  rw [List.length_append, HN.out] at hrun
  refine value_ (v := .slice (some ⟨b, 0, none⟩) (n + 1) c') (w1 := W4) (by rfl) rfl (exec_append _ _ 46 _ _ rfl rfl rfl hrun) ?_
  refine hK.out _ _ ?_
  clear hK K9
  refine norm_ (a' := ?_) ?_ ?_
  rotate_left
  · show Act.put _ (some 29) _ = _
    simp only [Act.put, List.setIfInBounds_toArray, List.set_cons_zero, List.set_cons_succ]
    rfl
  have HT4 : Aside (W4.heap[T]? = some (.cells #[.slice A n c0, .map (some m)] tt (0, 0))) := ⟨(hgrown.block T (lt_of_block hHeld.2.2.2.1) (fun e => HNE.out (by rw [e]))).trans hHeld.2.2.2.1⟩
  have q1 : W4.cell? ⟨T, 0, none⟩ = some (.slice A n c0) := cell_at HT4.out 0
  have q2 : W4.frozen? ⟨T, 0, none⟩ = false := free_at HT4.out 0
  refine pure_ (i := 8) (N := (some 30)) (v := ?_) (a' := ?_) #[true, true, true, true, true, true, true, true, true, false, false] rfl rfl (any_of HT_.out (by kernel_rfl)) (fun _ _ _ h => h) (Or.inl ⟨by rfl, ?_⟩) ?_ ?_
  rotate_left
  · intro w'
    go_simp
    with_reducible rfl
  rotate_left
  · simp only [Act.put, List.setIfInBounds_toArray, List.set_cons_zero, List.set_cons_succ, i64_w, i32_w]
    rfl
  refine pure_ (i := 9) (N := (some 31)) (v := ?_) (a' := ?_) #[true, true, true, true, true, true, true, true, true, true, false] rfl rfl (any_of HT_.out (by kernel_rfl)) (fun _ _ _ h => h) (Or.inl ⟨by rfl, ?_⟩) ?_ ?_
  rotate_left
  · intro w'
    go_simp
    with_reducible rfl
  rotate_left
  · simp only [Act.put, List.setIfInBounds_toArray, List.set_cons_zero, List.set_cons_succ, i64_w, i32_w]
    rfl
  refine last_ (i := 10) (N := none) #[true, true, true, true, true, true, true, true, true, true, true] rfl rfl (one_of HT_.out (by kernel_rfl)) (by decide) (fun K9 hK => ?_)
  refine skip_ (w1 := W4.setCell ⟨T, 0, none⟩ (.slice (some ⟨b, 0, none⟩) (n + 1) c')) (by rfl) rfl (by unfold execOp; go_simp) ?_
  refine hK.out _ _ ?_
  clear hK K9
  refine done_ (done_of HT_.out (by kernel_rfl)) ?_
  clear HT_ HW_ hHeld
  go_wp2_with fail
  go_end0
  have hs4 : W2.drew.heap.size + 1 ≤ W4.heap.size := by have := hgrown.size; simpa using this
  have hw2 : w.heap.size ≤ W2.drew.heap.size := HH.out.2.2.2.2.2.2.size
  have hTl : T < w.heap.size := HTL.out
  have hb2 : some b = (Value.slice A n c0).ownBlock ∨ w.heap.size ≤ b := by
    rcases hblk with h1 | ⟨g, h1, h2⟩
    · exact .inl h1
    · right
      simp only [Value.ownBlock, Option.some.injEq] at h1
      subst h1
      have : w.heap.size ≤ (W2.drew.alloc (.cells #[.int .i64 x.1, .int .i64 x.2] 57 (0, 0))).heap.size := by simpa using Nat.le_succ_of_le hw2
      exact Nat.le_trans this h2
  have hTb : T ≠ b := fun e => by
    rcases hb2 with h1 | h1
    · exact HNE.out (by rw [e]; exact h1.symm)
    · omega
  have hm4 : W4.heap[m]? = some (.map es2 k2) := (hgrown.block m (Nat.lt_of_lt_of_le (lt_of_block MG.out.1) (by simp)) (fun e => HSM.out e.symm)).trans (blk_alloc MG.out.1 _)
  refine ⟨rfl, b, c', ⟨?_, HROW.keep (Below.heap_setCell _ _ _ _ (Ne.symm hTb)), ⟨es2, k2, ?_, MG.out.2⟩, hTb⟩, ?_, hb2⟩
  · have := heap_setCell_eq (j := 0) (.slice (some ⟨b, 0, none⟩) (n + 1) c') HT4.out
    rw [List.length_append, HN.out]
    exact this
  · rw [Below.heap_setCell _ _ _ _ (Ne.symm HTM.out)]
    exact hm4
  · exact (((HH.out.2.2.2.2.2.2.alloc _).trans (Fr.of_grown hgrown (F := fun k => some k = (Value.slice A n c0).ownBlock) (fun k e => e.symm)) (fun i hi e => .inr (.inr e)))).setCell (.inl (.inl rfl)) _
end Go.Proofs.Ytjefeoohfalcaaa.C
/-! The queue of timers: Pop; the heap's Push. -/
namespace Go.Proofs.Ytjefeoohfalcaaa.C
open Go.RowKit
set_option linter.unusedVariables false
set_option linter.unusedSimpArgs false
theorem blk_alloc' {w : World} {g : Nat} {o : Obj} (h : w.heap[g]? = some o) (o' : Obj) : (w.alloc o').heap[g]? = some o := (Below.heap_alloc w o' g (lt_of_block h)).trans h
theorem Row.short {w : World} {b c : Nat} {l0 l1 : List (Int × Int)} (h : Row w b c (l0 ++ l1)) : Row w b c l0 := by
  obtain ⟨⟨cs, hb, hs, ht⟩, h2, h3⟩ := h
  rw [List.length_append] at ht h2
  refine ⟨⟨cs, hb, hs, ?_⟩, by omega, h3⟩
  have : l0.length * 2 = min (l0.length * 2) ((l0.length + l1.length) * 2) := by omega
  rw [this, ← List.take_take, ht, tcells_append, ← tcells_len l0]
  exact List.take_left
set_option maxHeartbeats 1000000 in
set_option maxRecDepth 100000 in
theorem pop_calls (tt : TypeId) (T b c m : Nat) (l : List (Int × Int)) (x : Int × Int) (f : Int → Option Int) (w : World) (hQ : QRep w tt T b c m (l ++ [x]) f) :
    Calls Try.prog 98 #[.pointer (some ⟨T, 0, none⟩)] w fun e w' => e = .returned (.iface 57 (.agg #[.int .i64 x.1, .int .i64 x.2])) ∧ QRep w' tt T b c m l (upd f x.1 none) ∧ Fr (fun k => k = T ∨ k = m) w w' := by
  obtain ⟨hne1, hne2⟩ := hQ.nes
  obtain ⟨hT, hR, ⟨es, k, hm, hG⟩, hTb⟩ := hQ
  have hmx := hR.max
  have hcp := hR.cap
  unfold maxLen at hmx
  obtain ⟨h1, h2⟩ := hR.cells (i := l.length) (x := x) (by simp)
  obtain ⟨n, hn⟩ : ∃ n, l.length = n := ⟨_, rfl⟩
  rw [List.length_append, hn] at hT
  rw [List.length_append] at hcp
  rw [hn] at h1 h2 hcp
  simp only [List.length_cons, List.length_nil] at hT hcp
  obtain ⟨W1, hW1⟩ : ∃ W1 : World, W1 = (w.setCell ⟨T, 0, none⟩ (.slice (some ⟨b, 0, none⟩) n c)).alloc (.cells #[.int .i64 x.1, .int .i64 x.2] 57 (0, 0)) := ⟨_, rfl⟩
  have hgT : w.heap.size ≠ T := fun e => by have := lt_of_block hT; omega
  have hgm : w.heap.size ≠ m := fun e => by have := lt_of_block hm; omega
  have T1 : W1.heap[T]? = some (.cells #[.slice (some ⟨b, 0, none⟩) n c, .map (some m)] tt (0, 0)) := by
    rw [hW1]; exact blk_alloc' (heap_setCell_eq (j := 0) _ hT) _
  have G1 : W1.heap[w.heap.size]? = some (.cells #[.int .i64 x.1, .int .i64 x.2] 57 (0, 0)) := by
    rw [hW1]
    have := heap_alloc_new (w.setCell ⟨T, 0, none⟩ (.slice (some ⟨b, 0, none⟩) n c)) (.cells #[.int .i64 x.1, .int .i64 x.2] 57 (0, 0))
    simpa [World.setCell] using this
  have M1 : W1.drew.heap[m]? = some (.map es k) := by
    rw [hW1]; exact blk_alloc' ((Below.heap_setCell _ _ _ _ (Ne.symm hne1)).trans hm) _
  have R1 : Row W1 b c l := hR.short.keep (by rw [hW1]; exact (Below.heap_alloc _ _ _ (by simpa [World.setCell] using hR.lt)).trans (Below.heap_setCell _ _ _ _ (Ne.symm hTb)))
  have F1 : Fr (fun k => k = T ∨ k = m) w W1 := by rw [hW1]; exact ((Fr.refl _ w).setCell (.inl (.inl rfl)) _).alloc _
  obtain ⟨es2, hD, G2⟩ := hG.delete mapKey Try.underlying64 M1 x.1 0
  have hD' := fun ty => (hG.delete mapKey Try.underlying64 M1 x.1 ty)
  obtain ⟨W2, hW2⟩ : ∃ W2 : World, W2 = ChangeMaps.setBlock W1.drew m (.map es2 k) := ⟨_, rfl⟩
  rw [← hW2] at hD
  have FIN : QRep W2 tt T b c m l (upd f x.1 none) ∧ Fr (fun k => k = T ∨ k = m) w W2 := by
    have eT : ∀ g, m ≠ g → W2.heap[g]? = W1.heap[g]? := fun g h => by rw [hW2, heap_setBlock_ne _ _ h]; rfl
    refine ⟨⟨?_, R1.keep (eT b (Ne.symm hne2)), ⟨es2, k, ?_, G2⟩, hTb⟩, ?_⟩
    · rw [hn, eT T (Ne.symm hne1)]; exact T1
    · rw [hW2]; exact heap_setBlock_eq _ M1
    · rw [hW2]; exact (F1.drew).setBlock (.inl (.inr rfl)) _
  have G2' : W2.heap[w.heap.size]? = some (.cells #[.int .i64 x.1, .int .i64 x.2] 57 (0, 0)) := by rw [hW2, heap_setBlock_ne _ _ (Ne.symm hgm)]; exact G1
  have HF := Aside.mk FIN
  have t0 : w.cell? ⟨T, 0, none⟩ = some (.slice (some ⟨b, 0, none⟩) (n + 1) c) := cell_at hT 0
  have t0f : w.frozen? ⟨T, 0, none⟩ = false := free_at hT 0
  have t1 : W1.cell? ⟨T, 1, none⟩ = some (.map (some m)) := cell_at T1 1
  have t2 : W1.cell? ⟨w.heap.size, 0, none⟩ = some (.int .i64 x.1) := cell_at G1 0
  have t3 : W2.cell? ⟨w.heap.size, 0, none⟩ = some (.int .i64 x.1) := cell_at G2' 0
  have t4 : W2.cell? ⟨w.heap.size, 1, none⟩ = some (.int .i64 x.2) := cell_at G2' 1
  have HW1 := Aside.mk hW1
  have hTl := lt_of_block hT
  have hTn : ¬ T = w.heap.size := by omega
  clear FIN hW1 hW2 G2' G2 F1 R1 M1 G1 T1 hgm hgT hm hG hR hT hTb hne1 hne2 hD' hn
  go_enter Try.func98, Try.ntmps98
  go_upto_region 4 with fail
  rw [← HW1.out]
  go_still_tail 6, (by kernel_rfl)
  go_wp2_with fail
  go_ret
  exact ⟨rfl, HF.out⟩
end Go.Proofs.Ytjefeoohfalcaaa.C
/-! The heap's Push, Remove, Fix. -/
namespace Go.Proofs.Ytjefeoohfalcaaa.C
open Go.RowKit
set_option linter.unusedVariables false
set_option linter.unusedSimpArgs false
/-! ### plain -/
theorem placed_push {l : List (Int × Int)} {f : Int → Option Int} {x : Int × Int} (hI : Ids (l ++ [x])) (hP : Placed l f) : Placed (l ++ [x]) (upd f x.1 (some (l.length : Int))) := by
  intro id p
  by_cases e : id = x.1
  · subst e
    rw [upd_same]
    constructor
    · intro h
      cases h
      exact ⟨l.length, rfl, by simp⟩
    · rintro ⟨k, rfl, hk⟩
      obtain ⟨z, hz, hz2⟩ := Option.map_eq_some_iff.1 hk
      rw [hI.inj hz (show (l ++ [x])[l.length]? = some x by simp) hz2]
  · rw [upd_other _ _ e, hP id p]
    constructor
    · rintro ⟨k, hk, h2⟩
      obtain ⟨z, hz, hz2⟩ := Option.map_eq_some_iff.1 h2
      refine ⟨k, hk, ?_⟩
      rw [List.getElem?_append_left (List.getElem?_eq_some_iff.1 hz).1]
      exact h2
    · rintro ⟨k, hk, h2⟩
      obtain ⟨z, hz, hz2⟩ := Option.map_eq_some_iff.1 h2
      refine ⟨k, hk, ?_⟩
      have hl := (List.getElem?_eq_some_iff.1 hz).1
      rw [List.length_append, List.length_singleton] at hl
      by_cases e2 : k = l.length
      · subst e2
        simp at hz
        subst hz
        exact absurd hz2.symm e
      · rw [List.getElem?_append_left (by omega)] at h2
        exact h2
theorem placed_pop {l : List (Int × Int)} {f : Int → Option Int} {x : Int × Int} (hI : Ids (l ++ [x])) (hP : Placed (l ++ [x]) f) : Placed l (upd f x.1 none) := by
  have hx : (l ++ [x])[l.length]? = some x := by simp
  intro id p
  by_cases e : id = x.1
  · subst e
    rw [upd_same]
    constructor
    · intro h; cases h
    · rintro ⟨k, rfl, hk⟩
      obtain ⟨z, hz, hz2⟩ := Option.map_eq_some_iff.1 hk
      have hl := (List.getElem?_eq_some_iff.1 hz).1
      have := hI.inj (show (l ++ [x])[k]? = some z by rw [List.getElem?_append_left hl]; exact hz) hx hz2
      omega
  · rw [upd_other _ _ e, hP id p]
    constructor
    · rintro ⟨k, hk, h2⟩
      obtain ⟨z, hz, hz2⟩ := Option.map_eq_some_iff.1 h2
      refine ⟨k, hk, ?_⟩
      have hl := (List.getElem?_eq_some_iff.1 hz).1
      rw [List.length_append, List.length_singleton] at hl
      by_cases e2 : k = l.length
      · subst e2
        rw [hx] at hz
        cases hz
        exact absurd hz2.symm e
      · rw [List.getElem?_append_left (by omega)] at h2
        exact h2
    · rintro ⟨k, hk, h2⟩
      obtain ⟨z, hz, hz2⟩ := Option.map_eq_some_iff.1 h2
      refine ⟨k, hk, ?_⟩
      rw [List.getElem?_append_left (List.getElem?_eq_some_iff.1 hz).1]
      exact h2
theorem Ids.left {l : List (Int × Int)} {x : Int × Int} (h : Ids (l ++ [x])) : Ids l := by
  unfold Ids at h ⊢
  rw [List.map_append] at h
  exact (List.nodup_append.1 h).1
theorem leAt_append {l r : List (Int × Int)} {a b : Nat} (hb : b < l.length) (hab : a < l.length) (h : leAt l a b) : leAt (l ++ r) a b := fun x y hx hy => by
  rw [List.getElem?_append_left hab] at hx
  rw [List.getElem?_append_left hb] at hy
  exact h x y hx hy
theorem leAt_left {l r : List (Int × Int)} {a b : Nat} (h : leAt (l ++ r) a b) : leAt l a b := fun x y hx hy =>
  h x y (by rw [List.getElem?_append_left (List.getElem?_eq_some_iff.1 hx).1]; exact hx) (by rw [List.getElem?_append_left (List.getElem?_eq_some_iff.1 hy).1]; exact hy)
theorem heap_push {l : List (Int × Int)} (x : Int × Int) (h : HeapN l l.length) : UpBut (l ++ [x]) (l.length + 1) l.length :=
  ⟨fun k h1 h2 h3 => leAt_append (by omega) (by omega) (h k h1 (by omega) (fun f => f)), fun k h1 h2 h3 h4 => by omega⟩
theorem HeapN.left {l r : List (Int × Int)} (h : HeapN (l ++ r) l.length) : HeapN l l.length := fun k h1 h2 h3 => leAt_left (h k h1 h2 h3)
/-- Element i, and the last one, have changed their places. -/
theorem heap_swapped {l : List (Int × Int)} {i n : Nat} {x y : Int × Int} (h : HeapN l (n + 1)) (hl : l.length = n + 1) (hi : i < n) (hx : l[i]? = some x) (hy : l[n]? = some y) : BothBut (swapL l i n x y) n i := by
  have g := swap_get x y (l := l) (i := i) (j := n) (by omega) (by omega) (by omega)
  refine ⟨fun k h1 h2 h3 p q hp hq => ?_, fun k h1 h2 h3 h4 p q hp hq => ?_⟩
  · rw [g, if_neg (by omega), if_neg (by omega)] at hp hq
    exact h k h1 (by omega) (fun f => f) p q hp hq
  · rw [g, if_neg (by omega), if_neg (by omega)] at hp hq
    have h5 := h i h4 (by omega) (fun f => f) p x hp hx
    have h6 := h k h1 (by omega) (fun f => f) x q (by rw [h3]; exact hx) hq
    exact le_trans h5 h6
/-- Element i has another time. -/
theorem heap_turned {l : List (Int × Int)} {i : Nat} {x z : Int × Int} (h : HeapN l l.length) (hx : l[i]? = some x) : BothBut (l.set i z) l.length i := by
  refine ⟨fun k h1 h2 h3 p q hp hq => ?_, fun k h1 h2 h3 h4 p q hp hq => ?_⟩
  · rw [List.getElem?_set_ne (by omega)] at hp hq
    exact h k h1 (by omega) (fun f => f) p q hp hq
  · have e1 : i ≠ k := by omega
    have e2 : i ≠ (i - 1) / 2 := by omega
    rw [List.getElem?_set_ne e2] at hp
    rw [List.getElem?_set_ne e1] at hq
    have hi := (List.getElem?_eq_some_iff.1 hx).1
    have h5 := h i h4 hi (fun f => f) p x hp hx
    have h6 := h k h1 h2 (fun f => f) x q (by rw [h3]; exact hx) hq
    exact le_trans h5 h6
/-! ### walks -/
set_option maxHeartbeats 1000000 in
set_option maxRecDepth 100000 in
theorem hpush_calls (tt : TypeId) (T m : Nat) (sl : Value) (l : List (Int × Int)) (f : Int → Option Int) (x : Int × Int) (w : World) (hl : l.length ≤ 1000000000) (hT : w.heap[T]? = some (.cells #[sl, .map (some m)] tt (0, 0))) (hR : w.ownsRow 0 57 2 sl l.length (tcells l)) (hne : sl.ownBlock ≠ some T)
    (hM : ∃ es k, w.heap[m]? = some (.map es k) ∧ GMap (Value.int .i64) (Value.int .i64) es k f) (hI : Ids (l ++ [x])) (hP : Placed l f) (hH : HeapN l l.length) :
    Calls Try.prog 44 #[.iface 86 (.pointer (some ⟨T, 0, none⟩)), .iface 57 (.agg #[.int .i64 x.1, .int .i64 x.2])] w fun e w' => e = .returned (.tuple #[]) ∧ ∃ b c l' f', l'.Perm (l ++ [x]) ∧ HRep w' tt T b c m l' f' ∧ HeapN l' l'.length ∧ Fr (fun k => k = T ∨ k = m ∨ some k = sl.ownBlock) w w' ∧ (some b = sl.ownBlock ∨ w.heap.size ≤ b) := by
  have m1 := meth_push ⟨T, 0, none⟩
  have m2 := meth_len ⟨T, 0, none⟩
  have HP := Aside.mk (push_calls tt T m sl l f x w hl hT hR hne hM)
  have HI := Aside.mk hI
  have HPl := Aside.mk hP
  have HH := Aside.mk hH
  clear hT hR hne hM hI hP hH
  go_enter Try.func44, Try.ntmps44
  go_wp2_with fail
  refine HP.out.mono ?_
  rintro e w1 ⟨rfl, b, c, hQ, hF, hb⟩
  have HR : Aside (HRep w1 tt T b c m (l ++ [x]) (upd f x.1 (some (l.length : Int)))) := ⟨⟨hQ, HI.out, placed_push HI.out HPl.out⟩⟩
  have HF := Aside.mk hF
  have HB := Aside.mk hb
  clear hQ hF hb
  obtain ⟨n1, hn1⟩ : ∃ n1, (l ++ [x]).length = n1 := ⟨_, rfl⟩
  have HN := Aside.mk hn1
  have he : (n1 : Int) - 1 = (l.length : Int) := by rw [← hn1]; simp
  have hn2 : n1 ≤ 1000000001 := by rw [← hn1]; simp; omega
  clear hn1
  go_wp2_with fail
  refine (len_calls T n1 c (some ⟨b, 0, none⟩) w1 (by rw [← HN.out]; exact HR.out.cell)).mono ?_
  rintro e w2 ⟨rfl, rfl⟩
  go_wp2_with fail
  refine (up_calls tt T b c m (l ++ [x]) _ l.length (l.length + 1) (by simp) (by omega) w1 HR.out (heap_push x HH.out)).mono ?_
  rintro e w3 ⟨rfl, l', f', hp, _, hR, hH, hF⟩
  have HX : Aside (l'.Perm (l ++ [x]) ∧ HRep w3 tt T b c m l' f' ∧ HeapN l' l'.length) := ⟨hp, hR, by rw [hp.length_eq, List.length_append]; exact hH⟩
  have HF3 : Aside (Fr (fun k => k = T ∨ k = m ∨ some k = sl.ownBlock) w w3) := ⟨HF.out.then hF (fun i h => by
    rcases h with rfl | rfl
    · rcases HB.out with h | h
      · exact .inl (.inr (.inr h))
      · exact .inr h
    · exact .inl (.inr (.inl rfl)))⟩
  clear hp hR hH hF
  go_wp2_with fail
  go_end0
  exact ⟨rfl, b, c, l', f', HX.out.1, HX.out.2.1, HX.out.2.2, HF3.out, HB.out⟩
end Go.Proofs.Ytjefeoohfalcaaa.C
/-! The heap's Remove, Fix. -/
namespace Go.Proofs.Ytjefeoohfalcaaa.C
open Go.RowKit
set_option linter.unusedVariables false
set_option linter.unusedSimpArgs false
theorem split_last {l : List (Int × Int)} {n : Nat} {x : Int × Int} (hl : l.length = n + 1) (hx : l[n]? = some x) : ∃ l0, l = l0 ++ [x] ∧ l0.length = n := by
  refine ⟨l.take n, ?_, by simp; omega⟩
  have h1 := List.take_append_drop n l
  have h2 : l.drop n = [x] := by
    rw [List.drop_eq_getElem_cons (by omega)]
    have := (List.getElem?_eq_some_iff.1 hx).2
    rw [this, List.drop_eq_nil_of_le (by omega)]
  rw [h2] at h1
  exact h1.symm
theorem hpop_rep {w' : World} {tt : TypeId} {T b c m : Nat} {l : List (Int × Int)} {x : Int × Int} {f : Int → Option Int} {w : World} (h : HRep w tt T b c m (l ++ [x]) f) (hQ : QRep w' tt T b c m l (upd f x.1 none)) : HRep w' tt T b c m l (upd f x.1 none) := ⟨hQ, h.ids.left, placed_pop h.ids h.at'⟩
/-- The last step: the last element goes. -/
theorem pop_is {tt : TypeId} {T b c m n : Nat} {l l2 : List (Int × Int)} {x : Int × Int} {f : Int → Option Int} {w : World} (hl : l2.length = n + 1) (hx : l2[n]? = some x) (hp : l2.Perm l) (h : HRep w tt T b c m l2 f) (hH : HeapN l2 n) :
    Calls Try.prog 98 #[.pointer (some ⟨T, 0, none⟩)] w fun e w' => e = .returned (.iface 57 (.agg #[.int .i64 x.1, .int .i64 x.2])) ∧ ∃ l' f', (l' ++ [x]).Perm l ∧ HRep w' tt T b c m l' f' ∧ HeapN l' l'.length ∧ Fr (fun k => k = T ∨ k = b ∨ k = m) w w' := by
  obtain ⟨l0, rfl, hl0⟩ := split_last hl hx
  refine (pop_calls tt T b c m l0 x f w h.rep).mono fun e w' ⟨h1, h2, h3⟩ => ⟨h1, l0, _, hp, hpop_rep h h2, HeapN.left (by rw [hl0]; exact hH), h3.mono (fun i hi => by rcases hi with h | h <;> simp [h])⟩
set_option maxHeartbeats 2000000 in
set_option maxRecDepth 100000 in
theorem hremove_calls (tt : TypeId) (T b c m i : Nat) (l : List (Int × Int)) (f : Int → Option Int) (x : Int × Int) (w : World) (hl : l.length ≤ 1000000000) (hR : HRep w tt T b c m l f) (hH : HeapN l l.length) (hx : l[i]? = some x) :
    Calls Try.prog 42 #[.iface 86 (.pointer (some ⟨T, 0, none⟩)), .int .i64 i] w fun e w' => e = .returned (.iface 57 (.agg #[.int .i64 x.1, .int .i64 x.2])) ∧ ∃ l' f', (l' ++ [x]).Perm l ∧ HRep w' tt T b c m l' f' ∧ HeapN l' l'.length ∧ Fr (fun k => k = T ∨ k = b ∨ k = m) w w' := by
  have m1 := meth_len ⟨T, 0, none⟩
  have m2 := meth_swap ⟨T, 0, none⟩
  have m3 := meth_pop ⟨T, 0, none⟩
  have hi := (List.getElem?_eq_some_iff.1 hx).1
  obtain ⟨n, hn⟩ : ∃ n, l.length = n + 1 := ⟨l.length - 1, by omega⟩
  obtain ⟨n1, hn1⟩ : ∃ n1, l.length = n1 := ⟨_, rfl⟩
  have he : (n1 : Int) - 1 = (n : Int) := by omega
  obtain ⟨y, hy⟩ : ∃ y, l[n]? = some y := ⟨_, List.getElem?_eq_getElem (by omega)⟩
  have HR := Aside.mk hR
  have HH := Aside.mk (show HeapN l (n + 1) by rw [← hn]; exact hH)
  have HX := Aside.mk hx
  have HY := Aside.mk hy
  have HN := Aside.mk hn
  have HN1 := Aside.mk hn1
  have hin : i ≤ n := by omega
  have hnb : n ≤ 1000000000 := by omega
  have hn1b : n1 ≤ 1000000001 := by omega
  clear hR hH hx hy hn hn1 hi hl
  by_cases hlast : i = n
  · subst hlast
    have HXY : Aside (x = y) := ⟨by have h1 := HX.out; have h2 := HY.out; rw [h1] at h2; cases h2; rfl⟩
    go_enter Try.func42, Try.ntmps42
    go_wp2_with fail
    refine (len_calls T n1 c (some ⟨b, 0, none⟩) w (by rw [← HN1.out]; exact HR.out.cell)).mono ?_
    rintro e w2 ⟨rfl, rfl⟩
    go_wp2_with fail
    refine (pop_is HN.out HX.out (List.Perm.refl l) HR.out (fun k h1 h2 h3 => HH.out k h1 (by omega) h3)).mono ?_
    rintro e w3 ⟨rfl, h3⟩
    have H3 := Aside.mk h3
    clear h3
    go_wp2_with fail
    go_ret
    exact ⟨rfl, H3.out⟩
  · have hlt : i < n := by omega
    have hb : ((n : Int) != (i : Int)) = true := by rw [bne_iff_ne]; omega
    go_enter Try.func42, Try.ntmps42
    go_wp2_with fail
    refine (len_calls T n1 c (some ⟨b, 0, none⟩) w (by rw [← HN1.out]; exact HR.out.cell)).mono ?_
    rintro e w2 ⟨rfl, rfl⟩
    go_wp2_with fail
    refine (swap_is HR.out HX.out HY.out hlast).mono ?_
    rintro e w3 ⟨rfl, hR3, hF3⟩
    have HR3 := Aside.mk hR3
    have HF3 := Aside.mk hF3
    have HB3 : Aside (BothBut (swapL l i n x y) n i) := ⟨heap_swapped HH.out HN.out hlt HX.out HY.out⟩
    have HL3 : Aside ((swapL l i n x y).length = n + 1 ∧ (swapL l i n x y)[n]? = some x ∧ (swapL l i n x y).Perm l) := ⟨by rw [swapL_len]; exact HN.out, by rw [swap_get x y (by have := HN.out; omega) (by have := HN.out; omega) hlast, if_pos rfl], swap_perm HX.out HY.out hlast⟩
    clear hR3 hF3
    revert HR3 HB3 HL3
    generalize swapL l i n x y = l1
    intro HR3 HB3 HL3
    generalize upd (upd f y.1 (some (i : Int))) x.1 (some (n : Int)) = f1 at HR3
    go_wp2_with fail
    refine (down_calls tt T b c m l1 f1 i n (by have := HL3.out.1; omega) hin (by have := HL3.out.1; omega) w3 HR3.out HB3.out).mono ?_
    rintro e w4 ⟨v, rfl, l2, f2, hD, hR4, hF4⟩
    have HD := Aside.mk hD
    have HR4 := Aside.mk hR4
    have HF4 := Aside.mk (HF3.out.then hF4 (fun i f => .inl f))
    clear hD hR4 hF4
    cases v with
    | true =>
      have HH4 : Aside (HeapN l2 n) := ⟨by rcases HD.out.2.2 with ⟨_, h⟩ | ⟨h, _⟩; exact h; cases h⟩
      have HL4 : Aside (l2.length = n + 1 ∧ l2[n]? = some x ∧ l2.Perm l) := ⟨HD.out.1.length_eq.trans HL3.out.1, (HD.out.2.1 n (Nat.le_refl _)).trans HL3.out.2.1, HD.out.1.trans HL3.out.2.2⟩
      go_wp2_with fail
      refine (pop_is HL4.out.1 HL4.out.2.1 HL4.out.2.2 HR4.out HH4.out).mono ?_
      rintro e w5 ⟨rfl, l', f', h1, h2, h3, h4⟩
      have H3 : Aside (∃ l' f', (l' ++ [x]).Perm l ∧ HRep w5 tt T b c m l' f' ∧ HeapN l' l'.length ∧ Fr (fun k => k = T ∨ k = b ∨ k = m) w w5) := ⟨⟨l', f', h1, h2, h3, (HF4.out.mono (fun i hi => .inr hi)).then h4 (fun i f => .inl f)⟩⟩
      clear h1 h2 h3 h4
      go_wp2_with fail
      go_ret
      exact ⟨rfl, H3.out⟩
    | false =>
      have HH4 : Aside (l2 = l1 ∧ UpBut l2 n i) := ⟨by rcases HD.out.2.2 with ⟨h, _⟩ | ⟨_, h1, h2⟩; cases h; exact ⟨h1, by rw [h1]; exact h2⟩⟩
      go_wp2_with fail
      refine (up_calls tt T b c m l2 f2 i n (by rw [HH4.out.1]; have := HL3.out.1; omega) hlt w4 HR4.out HH4.out.2).mono ?_
      rintro e w5 ⟨rfl, l3, f3, hp, hq, hR5, hH5, hF5⟩
      have HL5 : Aside (l3.length = n + 1 ∧ l3[n]? = some x ∧ l3.Perm l) := ⟨by rw [hp.length_eq, HH4.out.1]; exact HL3.out.1, (hq n (Nat.le_refl _)).trans (by rw [HH4.out.1]; exact HL3.out.2.1), by rw [HH4.out.1] at hp; exact hp.trans HL3.out.2.2⟩
      have HR5 := Aside.mk hR5
      have HH5 := Aside.mk hH5
      have HF5 := Aside.mk (HF4.out.then hF5 (fun i f => .inl f))
      clear hp hq hR5 hH5 hF5
      go_wp2_with fail
      refine (pop_is HL5.out.1 HL5.out.2.1 HL5.out.2.2 HR5.out HH5.out).mono ?_
      rintro e w6 ⟨rfl, l', f', h1, h2, h3, h4⟩
      have H3 : Aside (∃ l' f', (l' ++ [x]).Perm l ∧ HRep w6 tt T b c m l' f' ∧ HeapN l' l'.length ∧ Fr (fun k => k = T ∨ k = b ∨ k = m) w w6) := ⟨⟨l', f', h1, h2, h3, (HF5.out.mono (fun i hi => .inr hi)).then h4 (fun i f => .inl f)⟩⟩
      clear h1 h2 h3 h4
      go_wp2_with fail
      go_ret
      exact ⟨rfl, H3.out⟩
set_option maxHeartbeats 2000000 in
set_option maxRecDepth 100000 in
theorem hfix_calls (tt : TypeId) (T b c m i : Nat) (l : List (Int × Int)) (f : Int → Option Int) (w : World) (hl : l.length ≤ 1000000000) (hi : i < l.length) (hR : HRep w tt T b c m l f) (hB : BothBut l l.length i) :
    Calls Try.prog 43 #[.iface 86 (.pointer (some ⟨T, 0, none⟩)), .int .i64 i] w fun e w' => e = .returned (.tuple #[]) ∧ ∃ l' f', l'.Perm l ∧ HRep w' tt T b c m l' f' ∧ HeapN l' l'.length ∧ Fr (fun k => k = b ∨ k = m) w w' := by
  have m1 := meth_len ⟨T, 0, none⟩
  obtain ⟨n, hn⟩ : ∃ n, l.length = n := ⟨_, rfl⟩
  have HN := Aside.mk hn
  have HR := Aside.mk hR
  have HB := Aside.mk (show BothBut l n i by rw [← hn]; exact hB)
  have hin : i < n := by omega
  have hnb : n ≤ 1000000000 := by omega
  clear hn hR hB hi hl
  go_enter Try.func43, Try.ntmps43
  go_wp2_with fail
  refine (len_calls T n c (some ⟨b, 0, none⟩) w (by rw [← HN.out]; exact HR.out.cell)).mono ?_
  rintro e w2 ⟨rfl, rfl⟩
  go_wp2_with fail
  refine (down_calls tt T b c m l f i n (by have := HN.out; omega) (by omega) (by have := HN.out; omega) w HR.out HB.out).mono ?_
  rintro e w4 ⟨v, rfl, l2, f2, hD, hR4, hF4⟩
  have HD := Aside.mk hD
  have HR4 := Aside.mk hR4
  have HF4 := Aside.mk hF4
  clear hD hR4 hF4
  cases v with
  | true =>
    have HH4 : Aside (HeapN l2 l2.length) := ⟨by rw [HD.out.1.length_eq, HN.out]; rcases HD.out.2.2 with ⟨_, h⟩ | ⟨h, _⟩; exact h; cases h⟩
    go_wp2_with fail
    go_end0
    exact ⟨rfl, l2, f2, HD.out.1, HR4.out, HH4.out, HF4.out⟩
  | false =>
    have HH4 : Aside (l2 = l ∧ UpBut l2 n i) := ⟨by rcases HD.out.2.2 with ⟨h, _⟩ | ⟨_, h1, h2⟩; cases h; exact ⟨h1, by rw [h1]; exact h2⟩⟩
    go_wp2_with fail
    refine (up_calls tt T b c m l2 f2 i n (by rw [HH4.out.1]; have := HN.out; omega) hin w4 HR4.out HH4.out.2).mono ?_
    rintro e w5 ⟨rfl, l3, f3, hp, hq, hR5, hH5, hF5⟩
    have H3 : Aside (l3.Perm l ∧ HRep w5 tt T b c m l3 f3 ∧ HeapN l3 l3.length ∧ Fr (fun k => k = b ∨ k = m) w w5) := ⟨by rw [HH4.out.1] at hp; exact hp, hR5, by rw [hp.length_eq, HH4.out.1, HN.out]; exact hH5, HF4.out.then hF5 (fun i f => .inl f)⟩
    clear hp hq hR5 hH5 hF5
    go_wp2_with fail
    go_end0
    exact ⟨rfl, l3, f3, H3.out.1, H3.out.2.1, H3.out.2.2.1, H3.out.2.2.2⟩
end Go.Proofs.Ytjefeoohfalcaaa.C
/-! Timers: Len, Next, Has, Stop, Set. -/
namespace Go.Proofs.Ytjefeoohfalcaaa.C
open Go.RowKit
set_option linter.unusedVariables false
set_option linter.unusedSimpArgs false
/-- Timers: block T, what they hold (in the heap's row), which blocks are theirs. -/
def TM (w : World) (T : Nat) (l : List (Int × Int)) (fp : List Nat) : Prop :=
  (w.heap[T]? = some (.cells #[.slice none 0 0, .map none] 68 (0, 0)) ∧ l = [] ∧ fp = [T]) ∨
  (∃ b c m f, HRep w 68 T b c m l f ∧ HeapN l l.length ∧ fp = [T, b, m])
theorem TM.lt {w : World} {T : Nat} {l : List (Int × Int)} {fp : List Nat} (h : TM w T l fp) : ∀ k ∈ fp, k < w.heap.size := by
  rcases h with ⟨h1, _, rfl⟩ | ⟨b, c, m, f, h1, _, rfl⟩
  · intro k hk
    rw [List.mem_singleton.1 hk]
    exact lt_of_block h1
  · intro k hk
    obtain ⟨es, q, hm, _⟩ := h1.rep.map
    simp only [List.mem_cons, List.not_mem_nil, or_false] at hk
    rcases hk with rfl | rfl | rfl
    · exact lt_of_block h1.rep.box
    · exact h1.rep.row.lt
    · exact lt_of_block hm
theorem TM.mem {w : World} {T : Nat} {l : List (Int × Int)} {fp : List Nat} (h : TM w T l fp) : T ∈ fp := by
  rcases h with ⟨_, _, rfl⟩ | ⟨b, c, m, f, _, _, rfl⟩ <;> simp
theorem TM.keep {w w' : World} {T : Nat} {l : List (Int × Int)} {fp : List Nat} (h : TM w T l fp) (hk : ∀ k ∈ fp, w'.heap[k]? = w.heap[k]?) : TM w' T l fp := by
  rcases h with ⟨h1, h2, rfl⟩ | ⟨b, c, m, f, h1, h2, rfl⟩
  · exact .inl ⟨(hk T (by simp)).trans h1, h2, rfl⟩
  · exact .inr ⟨b, c, m, f, ⟨h1.rep.keep (hk T (by simp)) (hk b (by simp)) (hk m (by simp)), h1.ids, h1.at'⟩, h2, rfl⟩
theorem TM.ids {w : World} {T : Nat} {l : List (Int × Int)} {fp : List Nat} (h : TM w T l fp) : Ids l := by
  rcases h with ⟨_, rfl, _⟩ | ⟨b, c, m, f, h1, _, _⟩
  · exact List.nodup_nil
  · exact h1.ids
/-- The slice in the struct. -/
theorem TM.slice {w : World} {T : Nat} {l : List (Int × Int)} {fp : List Nat} (h : TM w T l fp) : ∃ A c, w.cell? ⟨T, 0, none⟩ = some (.slice A l.length c) ∧ l.length ≤ 9223372036854775807 := by
  rcases h with ⟨h1, rfl, _⟩ | ⟨b, c, m, f, h1, _, _⟩
  · exact ⟨none, 0, cell_at h1 0, by simp⟩
  · exact ⟨_, _, h1.cell, by have := h1.rep.row.max; have := h1.rep.row.cap; unfold maxLen at *; omega⟩
set_option maxHeartbeats 1000000 in
set_option maxRecDepth 100000 in
theorem tlen_calls (T : Nat) (l : List (Int × Int)) (fp : List Nat) (w : World) (h : TM w T l fp) : Calls Try.prog 25 #[.pointer (some ⟨T, 0, none⟩)] w fun e w' => e = .returned (.int .i64 l.length) ∧ w = w' := by
  obtain ⟨A, c, h1, h2⟩ := h.slice
  generalize l.length = n at *
  clear h
  go_enter Try.func25, Try.ntmps25
  go_wp2_with fail
  go_ret
  exact ⟨rfl, rfl⟩
def headOf (l : List (Int × Int)) : Int × Int := l.headD (0, 0)
set_option maxHeartbeats 1000000 in
set_option maxRecDepth 100000 in
theorem tnext_calls (T : Nat) (l : List (Int × Int)) (fp : List Nat) (w : World) (h : TM w T l fp) : Calls Try.prog 33 #[.pointer (some ⟨T, 0, none⟩)] w fun e w' => e = .returned (.tuple #[.agg #[.int .i64 (headOf l).1, .int .i64 (headOf l).2], .bool (!l.isEmpty)]) ∧ Below w.heap.size w w' := by
  rcases h with ⟨h1, rfl, _⟩ | ⟨b, c, m, f, h1, _, _⟩
  · have t0 : w.cell? ⟨T, 0, none⟩ = some (.slice none 0 0) := cell_at h1 0
    have hTl := lt_of_block h1
    have hTn : ¬ T = w.heap.size := by omega
    clear h1
    go_enter Try.func33, Try.ntmps33
    go_wp2_with fail
    exact bodyPost_ret (v := .tuple #[.agg #[.int .i64 0, .int .i64 0], .bool false]) (by simp [results, Try.results33, go_sem]) rfl ⟨rfl, by first | exact ((Below.refl _ _).alloc (Nat.le_refl _) _) | exact (((Below.refl _ _).alloc (Nat.le_refl _) _).setCell (by simp) _).setCell (by simp) _⟩
  · cases l with
    | nil =>
      have t0 : w.cell? ⟨T, 0, none⟩ = some (.slice (some ⟨b, 0, none⟩) 0 c) := h1.cell
      have hTl := lt_of_block h1.rep.box
      have hTn : ¬ T = w.heap.size := by omega
      clear h1
      go_enter Try.func33, Try.ntmps33
      go_wp2_with fail
      exact bodyPost_ret (v := .tuple #[.agg #[.int .i64 0, .int .i64 0], .bool false]) (by simp [results, Try.results33, go_sem]) rfl ⟨rfl, by first | exact ((Below.refl _ _).alloc (Nat.le_refl _) _) | exact (((Below.refl _ _).alloc (Nat.le_refl _) _).setCell (by simp) _).setCell (by simp) _⟩
    | cons x r =>
      have t0 : w.cell? ⟨T, 0, none⟩ = some (.slice (some ⟨b, 0, none⟩) (r.length + 1) c) := h1.cell
      obtain ⟨k1, k2⟩ := h1.rep.row.cells (i := 0) (x := x) rfl
      have hmx := h1.rep.row.max
      have hcp := h1.rep.row.cap
      unfold maxLen at hmx
      simp only [List.length_cons] at hcp
      simp only [Nat.zero_mul, Nat.zero_add] at k1 k2
      generalize r.length = n at *
      have hbl := h1.rep.row.lt
      have hbn : ¬ b = w.heap.size := by omega
      have hTl := lt_of_block h1.rep.box
      have hTn : ¬ T = w.heap.size := by omega
      clear h1
      go_enter Try.func33, Try.ntmps33
      go_wp2_with fail
      exact bodyPost_ret (v := .tuple #[.agg #[.int .i64 x.1, .int .i64 x.2], .bool true]) (by simp [results, Try.results33, go_sem]) rfl ⟨rfl, by first | exact ((Below.refl _ _).alloc (Nat.le_refl _) _) | exact (((Below.refl _ _).alloc (Nat.le_refl _) _).setCell (by simp) _).setCell (by simp) _⟩
end Go.Proofs.Ytjefeoohfalcaaa.C
