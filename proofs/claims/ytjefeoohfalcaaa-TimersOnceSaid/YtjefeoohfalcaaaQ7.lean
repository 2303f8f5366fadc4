/- The heap's Push, Remove, Fix. -/
import Derived.Test.YtjefeoohfalcaaaQ6
namespace Go.Proofs.Ytjefeoohfalcaaa.C
open Go.RowKit
set_option linter.unusedVariables false
set_option linter.unusedSimpArgs false
/-! ### plain -/
theorem placed_push {l : List (Int × Int)} {f : Int → Option Int} {x : Int × Int} (hI : Ids (l ++ [x])) (hP : Placed l f) : Placed (l ++ [x]) (upd f x.1 (some (l.length : Int))) := by
  intro id p
  by_cases e : id = x.1
  · subst e
    rw [upd_same]
    constructor
    · intro h
      cases h
      exact ⟨l.length, rfl, by simp⟩
    · rintro ⟨k, rfl, hk⟩
      obtain ⟨z, hz, hz2⟩ := Option.map_eq_some_iff.1 hk
      rw [hI.inj hz (show (l ++ [x])[l.length]? = some x by simp) hz2]
  · rw [upd_other _ _ e, hP id p]
    constructor
    · rintro ⟨k, hk, h2⟩
      obtain ⟨z, hz, hz2⟩ := Option.map_eq_some_iff.1 h2
      refine ⟨k, hk, ?_⟩
      rw [List.getElem?_append_left (List.getElem?_eq_some_iff.1 hz).1]
      exact h2
    · rintro ⟨k, hk, h2⟩
      obtain ⟨z, hz, hz2⟩ := Option.map_eq_some_iff.1 h2
      refine ⟨k, hk, ?_⟩
      have hl := (List.getElem?_eq_some_iff.1 hz).1
      rw [List.length_append, List.length_singleton] at hl
      by_cases e2 : k = l.length
      · subst e2
        simp at hz
        subst hz
        exact absurd hz2.symm e
      · rw [List.getElem?_append_left (by omega)] at h2
        exact h2
theorem placed_pop {l : List (Int × Int)} {f : Int → Option Int} {x : Int × Int} (hI : Ids (l ++ [x])) (hP : Placed (l ++ [x]) f) : Placed l (upd f x.1 none) := by
  have hx : (l ++ [x])[l.length]? = some x := by simp
  intro id p
  by_cases e : id = x.1
  · subst e
    rw [upd_same]
    constructor
    · intro h; cases h
    · rintro ⟨k, rfl, hk⟩
      obtain ⟨z, hz, hz2⟩ := Option.map_eq_some_iff.1 hk
      have hl := (List.getElem?_eq_some_iff.1 hz).1
      have := hI.inj (show (l ++ [x])[k]? = some z by rw [List.getElem?_append_left hl]; exact hz) hx hz2
      omega
  · rw [upd_other _ _ e, hP id p]
    constructor
    · rintro ⟨k, hk, h2⟩
      obtain ⟨z, hz, hz2⟩ := Option.map_eq_some_iff.1 h2
      refine ⟨k, hk, ?_⟩
      have hl := (List.getElem?_eq_some_iff.1 hz).1
      rw [List.length_append, List.length_singleton] at hl
      by_cases e2 : k = l.length
      · subst e2
        rw [hx] at hz
        cases hz
        exact absurd hz2.symm e
      · rw [List.getElem?_append_left (by omega)] at h2
        exact h2
    · rintro ⟨k, hk, h2⟩
      obtain ⟨z, hz, hz2⟩ := Option.map_eq_some_iff.1 h2
      refine ⟨k, hk, ?_⟩
      rw [List.getElem?_append_left (List.getElem?_eq_some_iff.1 hz).1]
      exact h2
theorem Ids.left {l : List (Int × Int)} {x : Int × Int} (h : Ids (l ++ [x])) : Ids l := by
  unfold Ids at h ⊢
  rw [List.map_append] at h
  exact (List.nodup_append.1 h).1
theorem leAt_append {l r : List (Int × Int)} {a b : Nat} (hb : b < l.length) (hab : a < l.length) (h : leAt l a b) : leAt (l ++ r) a b := fun x y hx hy => by
  rw [List.getElem?_append_left hab] at hx
  rw [List.getElem?_append_left hb] at hy
  exact h x y hx hy
theorem leAt_left {l r : List (Int × Int)} {a b : Nat} (h : leAt (l ++ r) a b) : leAt l a b := fun x y hx hy =>
  h x y (by rw [List.getElem?_append_left (List.getElem?_eq_some_iff.1 hx).1]; exact hx) (by rw [List.getElem?_append_left (List.getElem?_eq_some_iff.1 hy).1]; exact hy)
theorem heap_push {l : List (Int × Int)} (x : Int × Int) (h : HeapN l l.length) : UpBut (l ++ [x]) (l.length + 1) l.length :=
  ⟨fun k h1 h2 h3 => leAt_append (by omega) (by omega) (h k h1 (by omega) (fun f => f)), fun k h1 h2 h3 h4 => by omega⟩
theorem HeapN.left {l r : List (Int × Int)} (h : HeapN (l ++ r) l.length) : HeapN l l.length := fun k h1 h2 h3 => leAt_left (h k h1 h2 h3)
/-- Element i, and the last one, have changed their places. -/
theorem heap_swapped {l : List (Int × Int)} {i n : Nat} {x y : Int × Int} (h : HeapN l (n + 1)) (hl : l.length = n + 1) (hi : i < n) (hx : l[i]? = some x) (hy : l[n]? = some y) : BothBut (swapL l i n x y) n i := by
  have g := swap_get x y (l := l) (i := i) (j := n) (by omega) (by omega) (by omega)
  refine ⟨fun k h1 h2 h3 p q hp hq => ?_, fun k h1 h2 h3 h4 p q hp hq => ?_⟩
  · rw [g, if_neg (by omega), if_neg (by omega)] at hp hq
    exact h k h1 (by omega) (fun f => f) p q hp hq
  · rw [g, if_neg (by omega), if_neg (by omega)] at hp hq
    have h5 := h i h4 (by omega) (fun f => f) p x hp hx
    have h6 := h k h1 (by omega) (fun f => f) x q (by rw [h3]; exact hx) hq
    exact le_trans h5 h6
/-- Element i has another time. -/
theorem heap_turned {l : List (Int × Int)} {i : Nat} {x z : Int × Int} (h : HeapN l l.length) (hx : l[i]? = some x) : BothBut (l.set i z) l.length i := by
  refine ⟨fun k h1 h2 h3 p q hp hq => ?_, fun k h1 h2 h3 h4 p q hp hq => ?_⟩
  · rw [List.getElem?_set_ne (by omega)] at hp hq
    exact h k h1 (by omega) (fun f => f) p q hp hq
  · have e1 : i ≠ k := by omega
    have e2 : i ≠ (i - 1) / 2 := by omega
    rw [List.getElem?_set_ne e2] at hp
    rw [List.getElem?_set_ne e1] at hq
    have hi := (List.getElem?_eq_some_iff.1 hx).1
    have h5 := h i h4 hi (fun f => f) p x hp hx
    have h6 := h k h1 h2 (fun f => f) x q (by rw [h3]; exact hx) hq
    exact le_trans h5 h6
/-! ### walks -/
set_option maxHeartbeats 1000000 in
set_option maxRecDepth 100000 in
theorem hpush_calls (tt : TypeId) (T m : Nat) (sl : Value) (l : List (Int × Int)) (f : Int → Option Int) (x : Int × Int) (w : World) (hl : l.length ≤ 1000000000) (hT : w.heap[T]? = some (.cells #[sl, .map (some m)] tt (0, 0))) (hR : w.ownsRow 0 57 2 sl l.length (tcells l)) (hne : sl.ownBlock ≠ some T)
    (hM : ∃ es k, w.heap[m]? = some (.map es k) ∧ GMap (Value.int .i64) (Value.int .i64) es k f) (hI : Ids (l ++ [x])) (hP : Placed l f) (hH : HeapN l l.length) :
    Calls Try.prog 44 #[.iface 86 (.pointer (some ⟨T, 0, none⟩)), .iface 57 (.agg #[.int .i64 x.1, .int .i64 x.2])] w fun e w' => e = .returned (.tuple #[]) ∧ ∃ b c l' f', l'.Perm (l ++ [x]) ∧ HRep w' tt T b c m l' f' ∧ HeapN l' l'.length ∧ Fr (fun k => k = T ∨ k = m ∨ some k = sl.ownBlock) w w' ∧ (some b = sl.ownBlock ∨ w.heap.size ≤ b) := by
  have m1 := meth_push ⟨T, 0, none⟩
  have m2 := meth_len ⟨T, 0, none⟩
  have HP := Aside.mk (push_calls tt T m sl l f x w hl hT hR hne hM)
  have HI := Aside.mk hI
  have HPl := Aside.mk hP
  have HH := Aside.mk hH
  clear hT hR hne hM hI hP hH
  go_enter Try.func44, Try.ntmps44
  go_wp2_with fail
  refine HP.out.mono ?_
  rintro e w1 ⟨rfl, b, c, hQ, hF, hb⟩
  have HR : Aside (HRep w1 tt T b c m (l ++ [x]) (upd f x.1 (some (l.length : Int)))) := ⟨⟨hQ, HI.out, placed_push HI.out HPl.out⟩⟩
  have HF := Aside.mk hF
  have HB := Aside.mk hb
  clear hQ hF hb
  obtain ⟨n1, hn1⟩ : ∃ n1, (l ++ [x]).length = n1 := ⟨_, rfl⟩
  have HN := Aside.mk hn1
  have he : (n1 : Int) - 1 = (l.length : Int) := by rw [← hn1]; simp
  have hn2 : n1 ≤ 1000000001 := by rw [← hn1]; simp; omega
  clear hn1
  go_wp2_with fail
  refine (len_calls T n1 c (some ⟨b, 0, none⟩) w1 (by rw [← HN.out]; exact HR.out.cell)).mono ?_
  rintro e w2 ⟨rfl, rfl⟩
  go_wp2_with fail
  refine (up_calls tt T b c m (l ++ [x]) _ l.length (l.length + 1) (by simp) (by omega) w1 HR.out (heap_push x HH.out)).mono ?_
  rintro e w3 ⟨rfl, l', f', hp, _, hR, hH, hF⟩
  have HX : Aside (l'.Perm (l ++ [x]) ∧ HRep w3 tt T b c m l' f' ∧ HeapN l' l'.length) := ⟨hp, hR, by rw [hp.length_eq, List.length_append]; exact hH⟩
  have HF3 : Aside (Fr (fun k => k = T ∨ k = m ∨ some k = sl.ownBlock) w w3) := ⟨HF.out.then hF (fun i h => by
    rcases h with rfl | rfl
    · rcases HB.out with h | h
      · exact .inl (.inr (.inr h))
      · exact .inr h
    · exact .inl (.inr (.inl rfl)))⟩
  clear hp hR hH hF
  go_wp2_with fail
  go_end0
  exact ⟨rfl, b, c, l', f', HX.out.1, HX.out.2.1, HX.out.2.2, HF3.out, HB.out⟩
end Go.Proofs.Ytjefeoohfalcaaa.C
