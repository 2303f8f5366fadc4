/- The queue of timers: Swap. -/
import Derived.Test.YtjefeoohfalcaaaQ1
namespace Go.Proofs.Ytjefeoohfalcaaa.C
open Go.RowKit
set_option linter.unusedVariables false
set_option linter.unusedSimpArgs false
theorem mapKey : KeyOK Try.prog 2 (Value.int .i64) := intKey Try.underlying2
theorem zeroInt (u : World) : (zeroValue 3).run Try.prog u = .ok (.int .i64 0) u := by kernel_rfl
/-- A queue: the block T of its struct; the row b, of capacity c; the map m. -/
structure QRep (w : World) (tt : TypeId) (T b c m : Nat) (l : List (Int × Int)) (f : Int → Option Int) : Prop where
  box : w.heap[T]? = some (.cells #[.slice (some ⟨b, 0, none⟩) l.length c, .map (some m)] tt (0, 0))
  row : Row w b c l
  map : ∃ es k, w.heap[m]? = some (.map es k) ∧ GMap (Value.int .i64) (Value.int .i64) es k f
  ne : T ≠ b
theorem QRep.nes {w : World} {tt : TypeId} {T b c m : Nat} {l : List (Int × Int)} {f : Int → Option Int} (h : QRep w tt T b c m l f) : T ≠ m ∧ b ≠ m := by
  obtain ⟨hT, hR, ⟨es, k, hm, _⟩, _⟩ := h
  obtain ⟨cs, hb, _⟩ := hR.cur
  refine ⟨fun e => ?_, fun e => ?_⟩
  · rw [e, hm] at hT; cases hT
  · rw [e, hm] at hb; cases hb
theorem QRep.keep {w w' : World} {tt : TypeId} {T b c m : Nat} {l : List (Int × Int)} {f : Int → Option Int} (h : QRep w tt T b c m l f) (e1 : w'.heap[T]? = w.heap[T]?) (e2 : w'.heap[b]? = w.heap[b]?) (e3 : w'.heap[m]? = w.heap[m]?) : QRep w' tt T b c m l f := by
  obtain ⟨hT, hR, ⟨es, k, hm, g⟩, hn⟩ := h
  exact ⟨e1.trans hT, hR.keep e2, ⟨es, k, e3.trans hm, g⟩, hn⟩
def swapL (l : List (Int × Int)) (i j : Nat) (x y : Int × Int) : List (Int × Int) := (l.set i y).set j x
theorem swapL_len (l : List (Int × Int)) (i j : Nat) (x y : Int × Int) : (swapL l i j x y).length = l.length := by simp [swapL]
set_option maxHeartbeats 2000000 in
set_option maxRecDepth 100000 in
theorem swap_calls (tt : TypeId) (T b c m i j : Nat) (l : List (Int × Int)) (x y : Int × Int) (f : Int → Option Int) (w : World) (hQ : QRep w tt T b c m l f) (hx : l[i]? = some x) (hy : l[j]? = some y) (hij : i ≠ j) (fx : (f x.1).isSome = true) (fy : (f y.1).isSome = true) (hxy : x.1 ≠ y.1) :
    Calls Try.prog 100 #[.pointer (some ⟨T, 0, none⟩), .int .i64 i, .int .i64 j] w fun e w' => e = .returned (.tuple #[]) ∧ QRep w' tt T b c m (swapL l i j x y) (upd (upd f y.1 (some i)) x.1 (some j)) ∧ Fr (fun k => k = b ∨ k = m) w w' := by
  obtain ⟨hne1, hne2⟩ := hQ.nes
  obtain ⟨hT, hR, ⟨es, ck, hm, hG⟩, hne⟩ := hQ
  obtain ⟨vx, fx⟩ := Option.isSome_iff_exists.1 fx
  obtain ⟨vy, fy⟩ := Option.isSome_iff_exists.1 fy
  have hi := (List.getElem?_eq_some_iff.1 hx).1
  have hj := (List.getElem?_eq_some_iff.1 hy).1
  obtain ⟨h1, h2⟩ := hR.cells hx
  obtain ⟨h3, h4⟩ := hR.cells hy
  -- what stands behind the first region
  obtain ⟨W0, hW0⟩ : ∃ W0 : World, W0 = ((((w.setCell ⟨b, i * 2, none⟩ (.int .i64 y.1)).setCell ⟨b, i * 2 + 1, none⟩ (.int .i64 y.2)).setCell ⟨b, j * 2, none⟩ (.int .i64 x.1)).setCell ⟨b, j * 2 + 1, none⟩ (.int .i64 x.2)).drew := ⟨_, rfl⟩
  have R0 : Row W0 b c (swapL l i j x y) := by
    rw [hW0]
    exact ((hR.store i y hi).store j x (by simpa using hj)).keep rfl
  have T0 : W0.heap[T]? = some (.cells #[.slice (some ⟨b, 0, none⟩) l.length c, .map (some m)] tt (0, 0)) := by
    rw [hW0]
    simp only [heap_drew]
    rw [Below.heap_setCell _ _ _ _ hne, Below.heap_setCell _ _ _ _ hne, Below.heap_setCell _ _ _ _ hne, Below.heap_setCell _ _ _ _ hne]
    exact hT
  have M0 : W0.heap[m]? = some (.map es ck) := by
    rw [hW0]
    simp only [heap_drew]
    rw [Below.heap_setCell _ _ _ _ (Ne.symm hne2), Below.heap_setCell _ _ _ _ (Ne.symm hne2), Below.heap_setCell _ _ _ _ (Ne.symm hne2), Below.heap_setCell _ _ _ _ (Ne.symm hne2)]
    exact hm
  have F0 : Fr (fun k => k = b ∨ k = m) w W0 := by
    rw [hW0]
    exact (((((Fr.refl _ w).setCell (Or.inl (Or.inl rfl)) _).setCell (Or.inl (Or.inl rfl)) _).setCell (Or.inl (Or.inl rfl)) _).setCell (Or.inl (Or.inl rfl)) _).drew
  have hx0 : (swapL l i j x y)[i]? = some y := by simp [swapL, List.getElem?_set, hi, Ne.symm hij]
  have hy0 : (swapL l i j x y)[j]? = some x := by simp [swapL, List.getElem?_set, hj]
  obtain ⟨k1, k2⟩ := R0.cells hx0
  obtain ⟨k3, k4⟩ := R0.cells hy0
  -- the second region's map
  have M1 : (W0.drew).heap[m]? = some (.map es ck) := M0
  obtain ⟨st1, es1, E1, S1⟩ := hG.entry mapKey Try.underlying64 M1 fy
  obtain ⟨W1, hW1⟩ : ∃ W1 : World, W1 = ChangeMaps.setBlock W0.drew m (.map es1 ck) := ⟨_, rfl⟩
  rw [← hW1] at E1
  have M2 : W1.heap[m]? = some (.map es1 ck) := by rw [hW1]; exact heap_setBlock_eq _ M1
  obtain ⟨es2, S1, G2⟩ := S1 (i : Int) W1 M2
  obtain ⟨W2, hW2⟩ : ∃ W2 : World, W2 = ChangeMaps.setBlock W1 m (.map es2 ck) := ⟨_, rfl⟩
  rw [← hW2] at S1
  have M3 : W2.heap[m]? = some (.map es2 ck) := by rw [hW2]; exact heap_setBlock_eq _ M2
  obtain ⟨st2, es3, E2, S2⟩ := G2.entry (k := x.1) (v0 := vx) mapKey Try.underlying64 M3 (by rw [upd_other _ _ hxy]; exact fx)
  obtain ⟨W3, hW3⟩ : ∃ W3 : World, W3 = ChangeMaps.setBlock W2 m (.map es3 ck) := ⟨_, rfl⟩
  rw [← hW3] at E2
  have M4 : W3.heap[m]? = some (.map es3 ck) := by rw [hW3]; exact heap_setBlock_eq _ M3
  obtain ⟨es4, S2, G4⟩ := S2 (j : Int) W3 M4
  obtain ⟨W5, hW5⟩ : ∃ W5 : World, W5 = ChangeMaps.setBlock W3 m (.map es4 ck) := ⟨_, rfl⟩
  have FIN : QRep W5 tt T b c m (swapL l i j x y) (upd (upd f y.1 (some i)) x.1 (some j)) ∧ Fr (fun k => k = b ∨ k = m) w W5 := by
    have eT : ∀ g, m ≠ g → W5.heap[g]? = W0.heap[g]? := fun g h => by
      rw [hW5, heap_setBlock_ne _ _ h, hW3, heap_setBlock_ne _ _ h, hW2, heap_setBlock_ne _ _ h, hW1, heap_setBlock_ne _ _ h]
      rfl
    refine ⟨⟨?_, R0.keep (eT b (Ne.symm hne2)), ⟨es4, ck, ?_, G4⟩, hne⟩, ?_⟩
    · rw [swapL_len, eT T (Ne.symm hne1)]
      exact T0
    · rw [hW5]
      exact heap_setBlock_eq _ M4
    · rw [hW5, hW3, hW2, hW1]
      exact ((((F0.drew).setBlock (Or.inl (Or.inr rfl)) _).setBlock (Or.inl (Or.inr rfl)) _).setBlock (Or.inl (Or.inr rfl)) _).setBlock (Or.inl (Or.inr rfl)) _
  have HF := Aside.mk FIN
  rw [← hW5] at S2
  have HW0 := Aside.mk hW0
  have f1 := fun j => hR.free j
  have t1 : w.cell? ⟨T, 0, none⟩ = some (.slice (some ⟨b, 0, none⟩) l.length c) := cell_at hT 0
  have t2 : W0.cell? ⟨T, 0, none⟩ = some (.slice (some ⟨b, 0, none⟩) l.length c) := cell_at T0 0
  have t3 : W0.cell? ⟨T, 1, none⟩ = some (.map (some m)) := cell_at T0 1
  have hmx := hR.max
  have hcp := hR.cap
  unfold maxLen at hmx
  have hij2 : ¬ i * 2 = j * 2 := by omega
  have hji2 : ¬ j * 2 = i * 2 := by omega
  clear FIN hW0 hW5 hW3 hW2 hW1 M1 M2 M3 M4 R0 T0 M0 F0 hx0 hy0 G2 G4 hT hR hm hG hx hy fx fy hne hne1 hne2 hxy
  unfold goInt at E1 S1 E2 S2
  generalize l.length = n at *
  go_enter Try.func100, Try.ntmps100
  go_upto_region 0 with fail
  go_region
  go_upto_region 1 with fail
  rw [← HW0.out]
  go_region
  go_end0
  exact ⟨rfl, HF.out⟩
end Go.Proofs.Ytjefeoohfalcaaa.C
