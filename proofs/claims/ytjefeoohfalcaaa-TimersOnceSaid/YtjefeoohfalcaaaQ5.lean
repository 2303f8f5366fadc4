/- The queue of timers: Push. -/
import Derived.Test.YtjefeoohfalcaaaQ4
import Derived.Test.YtjefeoohfalcaaaAP
import Derived.Test.YtjefeoohfalcaaaWTab
import Derived.StillTailTactics
import Derived.Laws.Build
namespace Go.Proofs.Ytjefeoohfalcaaa.C
open Go.RowKit Go.Proofs.YtjefeoohfalcaaaW.PrintLast Go.Proofs.YtjefeoohfalcaaaW.PrintWords
set_option linter.unusedVariables false
set_option linter.unusedSimpArgs false
theorem ownsRow_row {w : World} {b c : Nat} {l : List (Int × Int)} (h : Row w b c l) : w.ownsRow 0 57 2 (.slice (some ⟨b, 0, none⟩) l.length c) l.length (tcells l) := by
  obtain ⟨⟨cs, hb, hs, ht⟩, h2, h3⟩ := h
  exact ⟨tcells_len l, .inr ⟨b, c, cs, rfl, Nat.zero_le _, hb, h2, h3, hs, ht⟩⟩
theorem row_ownsRow {w : World} {v : Value} {l : List (Int × Int)} (h : w.ownsRow 0 57 2 v l.length (tcells l)) (hne : l ≠ []) : ∃ b c, v = .slice (some ⟨b, 0, none⟩) l.length c ∧ Row w b c l := by
  rcases h.2 with ⟨_, h0⟩ | ⟨g, cap, cur, hv, _, hg, hn, hm, hs, ht⟩
  · exact absurd (List.eq_nil_of_length_eq_zero h0) hne
  · exact ⟨g, cap, hv, ⟨cur, hg, hs, ht⟩, hn, hm⟩
theorem timer_asserted (a b : Int) (w : World) : (Instr.typeAssert (.iface 57 (.agg #[.int .i64 a, .int .i64 b])) 20 57 true).run Try.prog w = .ok (.tuple #[.agg #[.int .i64 a, .int .i64 b], .bool true]) w := by kernel_rfl
theorem timer_info : (Try.prog.info? 57).map (fun i => (i.zero, i.size, i.bytes)) = some (some (.agg #[.int .i64 0, .int .i64 0]), 2, 16) := by kernel_rfl

def push2T : Bool × List (List Nat × List Nat) := (true, [([], []), ([], []), ([1], [1]), ([2], [2]), ([3], [3]), ([], []), ([5], [5]), ([4, 6], [4, 6]), ([0, 0, 1, 2, 3, 4, 5, 6, 7], [0]), ([8, 0, 1, 2, 3, 4, 5, 6, 7], [8]), ([9, 7, 7, 0, 1, 2, 3, 4, 5, 6, 7], [7, 9])])
def push2B : List Nat := [0, 0, 2, 6, 14, 0, 32, 126, 255, 511, 1023]
theorem push2_tab : rtab .any (opsOf Try.f99 2) = push2T := by kernel_rfl
theorem push2_bits : waitsOk push2T.2 push2B = true := by kernel_rfl

def PHeld (tt : TypeId) (T g n c0 m : Nat) (A : Option Addr) (x : Int × Int) (l : List (Int × Int)) (w w' : World) : Prop := w'.cell? ⟨T, 0, none⟩ = some (.slice A n c0) ∧ w'.cell? ⟨g, 0, none⟩ = some (.int .i64 x.1) ∧ w'.cell? ⟨g, 1, none⟩ = some (.int .i64 x.2) ∧ w'.heap[T]? = some (.cells #[.slice A n c0, .map (some m)] tt (0, 0)) ∧ w'.heap[g]? = some (.cells #[.int .i64 x.1, .int .i64 x.2] 57 (0, 0)) ∧ w'.ownsRow 0 57 2 (.slice A n c0) n (tcells l) ∧ Fr (fun k => k = T ∨ k = m ∨ some k = (Value.slice A n c0).ownBlock) w w'
theorem push_held {tt : TypeId} {T g n c0 m : Nat} {A : Option Addr} {x : Int × Int} {l : List (Int × Int)} {w w' : World} (h : PHeld tt T g n c0 m A x l w w') (o : Obj) : PHeld tt T g n c0 m A x l w (w'.alloc o) := by
  obtain ⟨_, _, _, h4, h5, h6, h7⟩ := h
  exact ⟨cell_at (blk_alloc h4 o) 0, cell_at (blk_alloc h5 o) 0, cell_at (blk_alloc h5 o) 1, blk_alloc h4 o, blk_alloc h5 o, h6.alloc o, h7.alloc o⟩
theorem push_news (w : World) (x : Int × Int) (T : TypeId) : ∀ (j : Nat) (u : Value), ([.int .i64 x.1, .int .i64 x.2] : List Value)[j]? = some u → (w.alloc (.cells #[.int .i64 x.1, .int .i64 x.2] T (0, 0))).cell? ((⟨w.heap.size, 0, none⟩ : Addr).add j) = some u := by
  intro j u h
  have := cell_at (heap_alloc_new w (.cells #[.int .i64 x.1, .int .i64 x.2] T (0, 0))) (0 + j)
  have e : (⟨w.heap.size, 0, none⟩ : Addr).add j = ⟨w.heap.size, 0 + j, none⟩ := by simp [Addr.add]; exact fun h => h.symm
  rw [e, this]
  simpa using h
set_option maxHeartbeats 2000000 in
set_option maxRecDepth 100000 in
theorem push_calls (tt : TypeId) (T m : Nat) (sl : Value) (l : List (Int × Int)) (f : Int → Option Int) (x : Int × Int) (w : World) (hl : l.length ≤ 1000000000) (hT : w.heap[T]? = some (.cells #[sl, .map (some m)] tt (0, 0))) (hR : w.ownsRow 0 57 2 sl l.length (tcells l)) (hne : sl.ownBlock ≠ some T)
    (hM : ∃ es k, w.heap[m]? = some (.map es k) ∧ GMap (Value.int .i64) (Value.int .i64) es k f) :
    Calls Try.prog 99 #[.pointer (some ⟨T, 0, none⟩), .iface 57 (.agg #[.int .i64 x.1, .int .i64 x.2])] w fun e w' => e = .returned (.tuple #[]) ∧ ∃ b c, QRep w' tt T b c m (l ++ [x]) (upd f x.1 (some (l.length : Int))) ∧ Fr (fun k => k = T ∨ k = m ∨ some k = sl.ownBlock) w w' ∧ (some b = sl.ownBlock ∨ w.heap.size ≤ b) := by
  obtain ⟨es, k, hm, hG⟩ := hM
  obtain ⟨A, c0, rfl⟩ : ∃ A c0, sl = .slice A l.length c0 := by
    rcases hR.2 with ⟨h1, h2⟩ | ⟨g, cap, cur, hv, _⟩
    · exact ⟨none, 0, by rw [h1, h2]⟩
    · exact ⟨_, _, hv⟩
  obtain ⟨n, hn⟩ : ∃ n, l.length = n := ⟨_, rfl⟩
  rw [hn] at hT hR hl hne
  simp only [hn]
  have HN := Aside.mk hn
  have HNE := Aside.mk hne
  have hTm : T ≠ m := fun e => by rw [e, hm] at hT; cases hT
  -- behind the first region: the timer's box
  obtain ⟨W1, hW1⟩ : ∃ W1 : World, W1 = w.alloc (.cells #[.int .i64 x.1, .int .i64 x.2] 57 (0, 0)) := ⟨_, rfl⟩
  have T1 : W1.heap[T]? = some (.cells #[.slice A n c0, .map (some m)] tt (0, 0)) := by rw [hW1]; exact blk_alloc hT _
  have G1 : W1.heap[w.heap.size]? = some (.cells #[.int .i64 x.1, .int .i64 x.2] 57 (0, 0)) := by rw [hW1]; exact heap_alloc_new w _
  have M1 : W1.drew.heap[m]? = some (.map es k) := by rw [hW1]; exact blk_alloc hm _
  have O1 : W1.ownsRow 0 57 2 (.slice A n c0) n (tcells l) := by rw [hW1]; exact hR.alloc _
  have F1 : Fr (fun k => k = T ∨ k = m ∨ some k = (Value.slice A n c0).ownBlock) w W1 := by rw [hW1]; exact (Fr.refl _ w).alloc _
  obtain ⟨es2, k2, hU, G2⟩ := hG.update mapKey Try.underlying64 M1 x.1 (n : Int)
  obtain ⟨W2, hW2⟩ : ∃ W2 : World, W2 = ChangeMaps.setBlock W1.drew m (.map es2 k2) := ⟨_, rfl⟩
  rw [← hW2] at hU
  have hgm : w.heap.size ≠ m := fun e => by rw [← e] at hm; have := lt_of_block hm; omega
  have T2 : W2.heap[T]? = some (.cells #[.slice A n c0, .map (some m)] tt (0, 0)) := by rw [hW2, heap_setBlock_ne _ _ (Ne.symm hTm)]; exact T1
  have S2 : W2.heap[w.heap.size]? = some (.cells #[.int .i64 x.1, .int .i64 x.2] 57 (0, 0)) := by rw [hW2, heap_setBlock_ne _ _ (Ne.symm hgm)]; exact G1
  have hsm : (Value.slice A n c0).ownBlock ≠ some m := fun e => by
    rcases hR.2 with ⟨h1, _⟩ | ⟨g, cap, cur, hv, _, hg, _⟩
    · rw [h1] at e; cases e
    · rw [hv] at e; cases e; rw [hm] at hg; cases hg
  have O2 : W2.ownsRow 0 57 2 (.slice A n c0) n (tcells l) := by
    rw [hW2]
    have : W1.drew.grownBy (ChangeMaps.setBlock W1.drew m (.map es2 k2)) (some m) := ⟨rfl, rfl, rfl, by simp [ChangeMaps.setBlock], fun i hi hne => heap_setBlock_ne _ _ (fun e => hne (by rw [e]))⟩
    exact (show W1.drew.ownsRow 0 57 2 (.slice A n c0) n (tcells l) from O1).kept this (.inr hsm)
  have F2 : Fr (fun k => k = T ∨ k = m ∨ some k = (Value.slice A n c0).ownBlock) w W2 := by rw [hW2]; exact (F1.drew).setBlock (.inl (.inr (.inl rfl))) _
  have MG : Aside (W2.heap[m]? = some (.map es2 k2) ∧ GMap (Value.int .i64) (Value.int .i64) es2 k2 (upd f x.1 (some (n : Int)))) := ⟨by rw [hW2]; exact heap_setBlock_eq _ M1, G2⟩
  have HH := Aside.mk (show PHeld tt T w.heap.size n c0 m A x l w W2.drew from ⟨cell_at T2 0, cell_at S2 0, cell_at S2 1, T2, S2, O2, F2.drew⟩)
  have t0 : W1.cell? ⟨T, 0, none⟩ = some (.slice A n c0) := cell_at T1 0
  have t1 : W1.cell? ⟨T, 1, none⟩ = some (.map (some m)) := cell_at T1 1
  have t2 : W1.cell? ⟨w.heap.size, 0, none⟩ = some (.int .i64 x.1) := cell_at G1 0
  have HW1 := Aside.mk hW1
  have HTM := Aside.mk hTm
  have HTL := Aside.mk (lt_of_block hT)
  have HSM := Aside.mk hsm
  obtain ⟨i0, hi0, hz0, hz1, hz2⟩ := info_parts timer_info
  have HI := Aside.mk (And.intro hi0 (And.intro hz0 (And.intro hz1 hz2)))
  clear hi0 hz0 hz1 hz2 hn hne hTm hT hR hm hG G2 hW1 T1 G1 M1 O1 F1 hW2 hgm T2 S2 hsm O2 F2
  have hta := timer_asserted x.1 x.2
  go_enter Try.func99, Try.ntmps99
  go_upto_region 1 with fail
  rw [← HW1.out]
  go_still_tail 11, (by kernel_rfl)
  go_wp2_with fail
  have HHo := HH.out
  refine start_ (n := 11) (S := (fun w' => PHeld tt T w.heap.size n c0 m A x l w w')) (ds := [7, 10]) #[false, false, false, false, false, false, false, false, false, false, false] (by kernel_rfl) rfl rfl HH.out (fun hHeld => ?_); refine with_tabW push2_tab push2_bits (fun HT_ HW_ => ?_)
  refine pure_ (i := 0) (N := (some 22)) (v := ?_) (a' := ?_) #[true, false, false, false, false, false, false, false, false, false, false] rfl rfl (any_of HT_.out (by kernel_rfl)) (fun _ _ _ h => h) (Or.inl ⟨by rfl, ?_⟩) ?_ ?_
  rotate_left
  · intro w'
    go_simp
    with_reducible rfl
  rotate_left
  · simp only [Act.put, List.setIfInBounds_toArray, List.set_cons_zero, List.set_cons_succ, i64_w, i32_w]
    rfl
  refine pure_ (i := 1) (N := (some 23)) (v := ?_) (a' := ?_) #[true, true, false, false, false, false, false, false, false, false, false] rfl rfl (any_of HT_.out (by kernel_rfl)) (fun _ _ _ h => h) (Or.inl ⟨by rfl, ?_⟩) ?_ ?_
  rotate_left
  · intro w'
    go_simp
    with_reducible rfl
  rotate_left
  · simp only [Act.put, List.setIfInBounds_toArray, List.set_cons_zero, List.set_cons_succ, i64_w, i32_w]
    rfl
  refine pure_ (i := 2) (N := (some 24)) (v := ?_) (a' := ?_) #[true, true, true, false, false, false, false, false, false, false, false] rfl rfl (any_of HT_.out (by kernel_rfl)) (fun _ _ _ h => h) (Or.inl ⟨by rfl, ?_⟩) ?_ ?_
  rotate_left
  · intro w'
    go_simp
    with_reducible rfl
  rotate_left
  · simp only [Act.put, List.setIfInBounds_toArray, List.set_cons_zero, List.set_cons_succ, i64_w, i32_w]
    rfl
  refine pure_ (i := 3) (N := (some 25)) (v := ?_) (a' := ?_) #[true, true, true, true, false, false, false, false, false, false, false] rfl rfl (any_of HT_.out (by kernel_rfl)) (fun _ _ _ h => h) (Or.inl ⟨by rfl, ?_⟩) ?_ ?_
  rotate_left
  · intro w'
    go_simp
    with_reducible rfl
  rotate_left
  · simp only [Act.put, List.setIfInBounds_toArray, List.set_cons_zero, List.set_cons_succ, i64_w, i32_w]
    rfl
  refine take_ (i := 4) (N := (some 26)) (v := ?_) (a' := ?_) #[true, true, true, true, true, false, false, false, false, false, false] rfl rfl (take_ofW HT_.out HW_.out (by kernel_rfl)) (fun _ _ _ h => h) (Or.inl ⟨by rfl, ?_⟩) hHeld ?_ ?_
  rotate_left
  · rintro w' ⟨s1, _⟩
    go_simp
    with_reducible rfl
  rotate_left
  · simp only [Act.put, List.setIfInBounds_toArray, List.set_cons_zero, List.set_cons_succ, i64_w, i32_w]
    rfl
  refine take_ (i := 5) (N := (some 27)) (v := ?_) (a' := ?_) #[true, true, true, true, true, true, false, false, false, false, false] rfl rfl (take_ofW HT_.out HW_.out (by kernel_rfl)) (fun _ _ _ h => h) (Or.inl ⟨by rfl, ?_⟩) hHeld ?_ ?_
  rotate_left
  · rintro w' ⟨_, s2, s3, _⟩
    go_simp
    with_reducible rfl
  rotate_left
  · simp only [Act.put, List.setIfInBounds_toArray, List.set_cons_zero, List.set_cons_succ, i64_w, i32_w]
    rfl
  refine one_ (i := 6) (N := (some 28)) #[true, true, true, true, true, true, true, false, false, false, false] rfl rfl (one_of HT_.out (by kernel_rfl)) (by decide) (fun K9 hK => ?_)
  refine value_ (v := .slice (some ⟨W2.drew.heap.size, 0, none⟩) 1 1) (w1 := W2.drew.alloc (.cells #[.int .i64 x.1, .int .i64 x.2] 57 (0, 0))) (by rfl) rfl (by unfold execOp; go_simp) ?_
  refine hK.out _ _ (push_held hHeld _) (fun hHeld => ?_)
  clear hK K9
  refine norm_ (a' := ?_) ?_ ?_
  rotate_left
  · show Act.put _ (some 28) _ = _
    simp only [Act.put, List.setIfInBounds_toArray, List.set_cons_zero, List.set_cons_succ]
    rfl
  refine last_ (i := 7) (N := (some 29)) #[true, true, true, true, true, true, true, true, false, false, false] rfl rfl (one_of HT_.out (by kernel_rfl)) (by decide) (fun K9 hK => ?_)
  obtain ⟨v', W4, hrun, hown, hgrown, hblk⟩ := append_run (P := Try.prog) (W2.drew.alloc (.cells #[.int .i64 x.1, .int .i64 x.2] 57 (0, 0))) 46 46 57 i0 _ 2 16 Try.underlying46 HI.out.1 HI.out.2.1 HI.out.2.2.1 HI.out.2.2.2 rfl (by decide) (.slice A n c0) n (tcells l) hHeld.2.2.2.2.2.1 ⟨W2.drew.heap.size, 0, none⟩ 1 1 [.int .i64 x.1, .int .i64 x.2] rfl (push_news W2.drew x _) (by simp [Value.oneCell']) (by unfold maxLen; omega) (by omega)
  obtain ⟨b, c', rfl, HROW⟩ := row_ownsRow (l := l ++ [x]) (by rw [List.length_append, HN.out, tcells_append]; exact hown) (by simp)
  rw [List.length_append, HN.out] at hrun
  refine value_ (v := .slice (some ⟨b, 0, none⟩) (n + 1) c') (w1 := W4) (by rfl) rfl (exec_append _ _ 46 _ _ rfl rfl rfl hrun) ?_
  refine hK.out _ _ ?_
  clear hK K9
  refine norm_ (a' := ?_) ?_ ?_
  rotate_left
  · show Act.put _ (some 29) _ = _
    simp only [Act.put, List.setIfInBounds_toArray, List.set_cons_zero, List.set_cons_succ]
    rfl
  have HT4 : Aside (W4.heap[T]? = some (.cells #[.slice A n c0, .map (some m)] tt (0, 0))) := ⟨(hgrown.block T (lt_of_block hHeld.2.2.2.1) (fun e => HNE.out (by rw [e]))).trans hHeld.2.2.2.1⟩
  have q1 : W4.cell? ⟨T, 0, none⟩ = some (.slice A n c0) := cell_at HT4.out 0
  have q2 : W4.frozen? ⟨T, 0, none⟩ = false := free_at HT4.out 0
  refine pure_ (i := 8) (N := (some 30)) (v := ?_) (a' := ?_) #[true, true, true, true, true, true, true, true, true, false, false] rfl rfl (any_of HT_.out (by kernel_rfl)) (fun _ _ _ h => h) (Or.inl ⟨by rfl, ?_⟩) ?_ ?_
  rotate_left
  · intro w'
    go_simp
    with_reducible rfl
  rotate_left
  · simp only [Act.put, List.setIfInBounds_toArray, List.set_cons_zero, List.set_cons_succ, i64_w, i32_w]
    rfl
  refine pure_ (i := 9) (N := (some 31)) (v := ?_) (a' := ?_) #[true, true, true, true, true, true, true, true, true, true, false] rfl rfl (any_of HT_.out (by kernel_rfl)) (fun _ _ _ h => h) (Or.inl ⟨by rfl, ?_⟩) ?_ ?_
  rotate_left
  · intro w'
    go_simp
    with_reducible rfl
  rotate_left
  · simp only [Act.put, List.setIfInBounds_toArray, List.set_cons_zero, List.set_cons_succ, i64_w, i32_w]
    rfl
  refine last_ (i := 10) (N := none) #[true, true, true, true, true, true, true, true, true, true, true] rfl rfl (one_of HT_.out (by kernel_rfl)) (by decide) (fun K9 hK => ?_)
  refine skip_ (w1 := W4.setCell ⟨T, 0, none⟩ (.slice (some ⟨b, 0, none⟩) (n + 1) c')) (by rfl) rfl (by unfold execOp; go_simp) ?_
  refine hK.out _ _ ?_
  clear hK K9
  refine done_ (done_of HT_.out (by kernel_rfl)) ?_
  clear HT_ HW_ hHeld
  go_wp2_with fail
  go_end0
  have hs4 : W2.drew.heap.size + 1 ≤ W4.heap.size := by have := hgrown.size; simpa using this
  have hw2 : w.heap.size ≤ W2.drew.heap.size := HH.out.2.2.2.2.2.2.size
  have hTl : T < w.heap.size := HTL.out
  have hb2 : some b = (Value.slice A n c0).ownBlock ∨ w.heap.size ≤ b := by
    rcases hblk with h1 | ⟨g, h1, h2⟩
    · exact .inl h1
    · right
      simp only [Value.ownBlock, Option.some.injEq] at h1
      subst h1
      have : w.heap.size ≤ (W2.drew.alloc (.cells #[.int .i64 x.1, .int .i64 x.2] 57 (0, 0))).heap.size := by simpa using Nat.le_succ_of_le hw2
      exact Nat.le_trans this h2
  have hTb : T ≠ b := fun e => by
    rcases hb2 with h1 | h1
    · exact HNE.out (by rw [e]; exact h1.symm)
    · omega
  have hm4 : W4.heap[m]? = some (.map es2 k2) := (hgrown.block m (Nat.lt_of_lt_of_le (lt_of_block MG.out.1) (by simp)) (fun e => HSM.out e.symm)).trans (blk_alloc MG.out.1 _)
  refine ⟨rfl, b, c', ⟨?_, HROW.keep (Below.heap_setCell _ _ _ _ (Ne.symm hTb)), ⟨es2, k2, ?_, MG.out.2⟩, hTb⟩, ?_, hb2⟩
  · have := heap_setCell_eq (j := 0) (.slice (some ⟨b, 0, none⟩) (n + 1) c') HT4.out
    rw [List.length_append, HN.out]
    exact this
  · rw [Below.heap_setCell _ _ _ _ (Ne.symm HTM.out)]
    exact hm4
  · exact (((HH.out.2.2.2.2.2.2.alloc _).trans (Fr.of_grown hgrown (F := fun k => some k = (Value.slice A n c0).ownBlock) (fun k e => e.symm)) (fun i hi e => .inr (.inr e)))).setCell (.inl (.inl rfl)) _
end Go.Proofs.Ytjefeoohfalcaaa.C
