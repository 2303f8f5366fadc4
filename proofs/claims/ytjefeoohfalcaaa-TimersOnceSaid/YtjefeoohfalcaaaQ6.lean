/- The queue of timers: Pop; the heap's Push. -/
import Derived.Test.YtjefeoohfalcaaaQ5
namespace Go.Proofs.Ytjefeoohfalcaaa.C
open Go.RowKit
set_option linter.unusedVariables false
set_option linter.unusedSimpArgs false
theorem blk_alloc' {w : World} {g : Nat} {o : Obj} (h : w.heap[g]? = some o) (o' : Obj) : (w.alloc o').heap[g]? = some o := (Below.heap_alloc w o' g (lt_of_block h)).trans h
theorem Row.short {w : World} {b c : Nat} {l0 l1 : List (Int × Int)} (h : Row w b c (l0 ++ l1)) : Row w b c l0 := by
  obtain ⟨⟨cs, hb, hs, ht⟩, h2, h3⟩ := h
  rw [List.length_append] at ht h2
  refine ⟨⟨cs, hb, hs, ?_⟩, by omega, h3⟩
  have : l0.length * 2 = min (l0.length * 2) ((l0.length + l1.length) * 2) := by omega
  rw [this, ← List.take_take, ht, tcells_append, ← tcells_len l0]
  exact List.take_left
set_option maxHeartbeats 1000000 in
set_option maxRecDepth 100000 in
theorem pop_calls (tt : TypeId) (T b c m : Nat) (l : List (Int × Int)) (x : Int × Int) (f : Int → Option Int) (w : World) (hQ : QRep w tt T b c m (l ++ [x]) f) :
    Calls Try.prog 98 #[.pointer (some ⟨T, 0, none⟩)] w fun e w' => e = .returned (.iface 57 (.agg #[.int .i64 x.1, .int .i64 x.2])) ∧ QRep w' tt T b c m l (upd f x.1 none) ∧ Fr (fun k => k = T ∨ k = m) w w' := by
  obtain ⟨hne1, hne2⟩ := hQ.nes
  obtain ⟨hT, hR, ⟨es, k, hm, hG⟩, hTb⟩ := hQ
  have hmx := hR.max
  have hcp := hR.cap
  unfold maxLen at hmx
  obtain ⟨h1, h2⟩ := hR.cells (i := l.length) (x := x) (by simp)
  obtain ⟨n, hn⟩ : ∃ n, l.length = n := ⟨_, rfl⟩
  rw [List.length_append, hn] at hT
  rw [List.length_append] at hcp
  rw [hn] at h1 h2 hcp
  simp only [List.length_cons, List.length_nil] at hT hcp
  obtain ⟨W1, hW1⟩ : ∃ W1 : World, W1 = (w.setCell ⟨T, 0, none⟩ (.slice (some ⟨b, 0, none⟩) n c)).alloc (.cells #[.int .i64 x.1, .int .i64 x.2] 57 (0, 0)) := ⟨_, rfl⟩
  have hgT : w.heap.size ≠ T := fun e => by have := lt_of_block hT; omega
  have hgm : w.heap.size ≠ m := fun e => by have := lt_of_block hm; omega
  have T1 : W1.heap[T]? = some (.cells #[.slice (some ⟨b, 0, none⟩) n c, .map (some m)] tt (0, 0)) := by
    rw [hW1]; exact blk_alloc' (heap_setCell_eq (j := 0) _ hT) _
  have G1 : W1.heap[w.heap.size]? = some (.cells #[.int .i64 x.1, .int .i64 x.2] 57 (0, 0)) := by
    rw [hW1]
    have := heap_alloc_new (w.setCell ⟨T, 0, none⟩ (.slice (some ⟨b, 0, none⟩) n c)) (.cells #[.int .i64 x.1, .int .i64 x.2] 57 (0, 0))
    simpa [World.setCell] using this
  have M1 : W1.drew.heap[m]? = some (.map es k) := by
    rw [hW1]; exact blk_alloc' ((Below.heap_setCell _ _ _ _ (Ne.symm hne1)).trans hm) _
  have R1 : Row W1 b c l := hR.short.keep (by rw [hW1]; exact (Below.heap_alloc _ _ _ (by simpa [World.setCell] using hR.lt)).trans (Below.heap_setCell _ _ _ _ (Ne.symm hTb)))
  have F1 : Fr (fun k => k = T ∨ k = m) w W1 := by rw [hW1]; exact ((Fr.refl _ w).setCell (.inl (.inl rfl)) _).alloc _
  obtain ⟨es2, hD, G2⟩ := hG.delete mapKey Try.underlying64 M1 x.1 0
  have hD' := fun ty => (hG.delete mapKey Try.underlying64 M1 x.1 ty)
  obtain ⟨W2, hW2⟩ : ∃ W2 : World, W2 = ChangeMaps.setBlock W1.drew m (.map es2 k) := ⟨_, rfl⟩
  rw [← hW2] at hD
  have FIN : QRep W2 tt T b c m l (upd f x.1 none) ∧ Fr (fun k => k = T ∨ k = m) w W2 := by
    have eT : ∀ g, m ≠ g → W2.heap[g]? = W1.heap[g]? := fun g h => by rw [hW2, heap_setBlock_ne _ _ h]; rfl
    refine ⟨⟨?_, R1.keep (eT b (Ne.symm hne2)), ⟨es2, k, ?_, G2⟩, hTb⟩, ?_⟩
    · rw [hn, eT T (Ne.symm hne1)]; exact T1
    · rw [hW2]; exact heap_setBlock_eq _ M1
    · rw [hW2]; exact (F1.drew).setBlock (.inl (.inr rfl)) _
  have G2' : W2.heap[w.heap.size]? = some (.cells #[.int .i64 x.1, .int .i64 x.2] 57 (0, 0)) := by rw [hW2, heap_setBlock_ne _ _ (Ne.symm hgm)]; exact G1
  have HF := Aside.mk FIN
  have t0 : w.cell? ⟨T, 0, none⟩ = some (.slice (some ⟨b, 0, none⟩) (n + 1) c) := cell_at hT 0
  have t0f : w.frozen? ⟨T, 0, none⟩ = false := free_at hT 0
  have t1 : W1.cell? ⟨T, 1, none⟩ = some (.map (some m)) := cell_at T1 1
  have t2 : W1.cell? ⟨w.heap.size, 0, none⟩ = some (.int .i64 x.1) := cell_at G1 0
  have t3 : W2.cell? ⟨w.heap.size, 0, none⟩ = some (.int .i64 x.1) := cell_at G2' 0
  have t4 : W2.cell? ⟨w.heap.size, 1, none⟩ = some (.int .i64 x.2) := cell_at G2' 1
  have HW1 := Aside.mk hW1
  have hTl := lt_of_block hT
  have hTn : ¬ T = w.heap.size := by omega
  clear FIN hW1 hW2 G2' G2 F1 R1 M1 G1 T1 hgm hgT hm hG hR hT hTb hne1 hne2 hD' hn
  go_enter Try.func98, Try.ntmps98
  go_upto_region 4 with fail
  rw [← HW1.out]
  go_still_tail 6, (by kernel_rfl)
  go_wp2_with fail
  go_ret
  exact ⟨rfl, HF.out⟩
end Go.Proofs.Ytjefeoohfalcaaa.C
