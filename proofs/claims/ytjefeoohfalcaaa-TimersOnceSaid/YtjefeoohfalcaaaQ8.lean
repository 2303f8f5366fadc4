/- The heap's Remove, Fix. -/
import Derived.Test.YtjefeoohfalcaaaQ7
namespace Go.Proofs.Ytjefeoohfalcaaa.C
open Go.RowKit
set_option linter.unusedVariables false
set_option linter.unusedSimpArgs false
theorem split_last {l : List (Int × Int)} {n : Nat} {x : Int × Int} (hl : l.length = n + 1) (hx : l[n]? = some x) : ∃ l0, l = l0 ++ [x] ∧ l0.length = n := by
  refine ⟨l.take n, ?_, by simp; omega⟩
  have h1 := List.take_append_drop n l
  have h2 : l.drop n = [x] := by
    rw [List.drop_eq_getElem_cons (by omega)]
    have := (List.getElem?_eq_some_iff.1 hx).2
    rw [this, List.drop_eq_nil_of_le (by omega)]
  rw [h2] at h1
  exact h1.symm
theorem hpop_rep {w' : World} {tt : TypeId} {T b c m : Nat} {l : List (Int × Int)} {x : Int × Int} {f : Int → Option Int} {w : World} (h : HRep w tt T b c m (l ++ [x]) f) (hQ : QRep w' tt T b c m l (upd f x.1 none)) : HRep w' tt T b c m l (upd f x.1 none) := ⟨hQ, h.ids.left, placed_pop h.ids h.at'⟩
/-- The last step: the last element goes. -/
theorem pop_is {tt : TypeId} {T b c m n : Nat} {l l2 : List (Int × Int)} {x : Int × Int} {f : Int → Option Int} {w : World} (hl : l2.length = n + 1) (hx : l2[n]? = some x) (hp : l2.Perm l) (h : HRep w tt T b c m l2 f) (hH : HeapN l2 n) :
    Calls Try.prog 98 #[.pointer (some ⟨T, 0, none⟩)] w fun e w' => e = .returned (.iface 57 (.agg #[.int .i64 x.1, .int .i64 x.2])) ∧ ∃ l' f', (l' ++ [x]).Perm l ∧ HRep w' tt T b c m l' f' ∧ HeapN l' l'.length ∧ Fr (fun k => k = T ∨ k = b ∨ k = m) w w' := by
  obtain ⟨l0, rfl, hl0⟩ := split_last hl hx
  refine (pop_calls tt T b c m l0 x f w h.rep).mono fun e w' ⟨h1, h2, h3⟩ => ⟨h1, l0, _, hp, hpop_rep h h2, HeapN.left (by rw [hl0]; exact hH), h3.mono (fun i hi => by rcases hi with h | h <;> simp [h])⟩
set_option maxHeartbeats 2000000 in
set_option maxRecDepth 100000 in
theorem hremove_calls (tt : TypeId) (T b c m i : Nat) (l : List (Int × Int)) (f : Int → Option Int) (x : Int × Int) (w : World) (hl : l.length ≤ 1000000000) (hR : HRep w tt T b c m l f) (hH : HeapN l l.length) (hx : l[i]? = some x) :
    Calls Try.prog 42 #[.iface 86 (.pointer (some ⟨T, 0, none⟩)), .int .i64 i] w fun e w' => e = .returned (.iface 57 (.agg #[.int .i64 x.1, .int .i64 x.2])) ∧ ∃ l' f', (l' ++ [x]).Perm l ∧ HRep w' tt T b c m l' f' ∧ HeapN l' l'.length ∧ Fr (fun k => k = T ∨ k = b ∨ k = m) w w' := by
  have m1 := meth_len ⟨T, 0, none⟩
  have m2 := meth_swap ⟨T, 0, none⟩
  have m3 := meth_pop ⟨T, 0, none⟩
  have hi := (List.getElem?_eq_some_iff.1 hx).1
  obtain ⟨n, hn⟩ : ∃ n, l.length = n + 1 := ⟨l.length - 1, by omega⟩
  obtain ⟨n1, hn1⟩ : ∃ n1, l.length = n1 := ⟨_, rfl⟩
  have he : (n1 : Int) - 1 = (n : Int) := by omega
  obtain ⟨y, hy⟩ : ∃ y, l[n]? = some y := ⟨_, List.getElem?_eq_getElem (by omega)⟩
  have HR := Aside.mk hR
  have HH := Aside.mk (show HeapN l (n + 1) by rw [← hn]; exact hH)
  have HX := Aside.mk hx
  have HY := Aside.mk hy
  have HN := Aside.mk hn
  have HN1 := Aside.mk hn1
  have hin : i ≤ n := by omega
  have hnb : n ≤ 1000000000 := by omega
  have hn1b : n1 ≤ 1000000001 := by omega
  clear hR hH hx hy hn hn1 hi hl
  by_cases hlast : i = n
  · subst hlast
    have HXY : Aside (x = y) := ⟨by have h1 := HX.out; have h2 := HY.out; rw [h1] at h2; cases h2; rfl⟩
    go_enter Try.func42, Try.ntmps42
    go_wp2_with fail
    refine (len_calls T n1 c (some ⟨b, 0, none⟩) w (by rw [← HN1.out]; exact HR.out.cell)).mono ?_
    rintro e w2 ⟨rfl, rfl⟩
    go_wp2_with fail
    refine (pop_is HN.out HX.out (List.Perm.refl l) HR.out (fun k h1 h2 h3 => HH.out k h1 (by omega) h3)).mono ?_
    rintro e w3 ⟨rfl, h3⟩
    have H3 := Aside.mk h3
    clear h3
    go_wp2_with fail
    go_ret
    exact ⟨rfl, H3.out⟩
  · have hlt : i < n := by omega
    have hb : ((n : Int) != (i : Int)) = true := by rw [bne_iff_ne]; omega
    go_enter Try.func42, Try.ntmps42
    go_wp2_with fail
    refine (len_calls T n1 c (some ⟨b, 0, none⟩) w (by rw [← HN1.out]; exact HR.out.cell)).mono ?_
    rintro e w2 ⟨rfl, rfl⟩
    go_wp2_with fail
    refine (swap_is HR.out HX.out HY.out hlast).mono ?_
    rintro e w3 ⟨rfl, hR3, hF3⟩
    have HR3 := Aside.mk hR3
    have HF3 := Aside.mk hF3
    have HB3 : Aside (BothBut (swapL l i n x y) n i) := ⟨heap_swapped HH.out HN.out hlt HX.out HY.out⟩
    have HL3 : Aside ((swapL l i n x y).length = n + 1 ∧ (swapL l i n x y)[n]? = some x ∧ (swapL l i n x y).Perm l) := ⟨by rw [swapL_len]; exact HN.out, by rw [swap_get x y (by have := HN.out; omega) (by have := HN.out; omega) hlast, if_pos rfl], swap_perm HX.out HY.out hlast⟩
    clear hR3 hF3
    revert HR3 HB3 HL3
    generalize swapL l i n x y = l1
    intro HR3 HB3 HL3
    generalize upd (upd f y.1 (some (i : Int))) x.1 (some (n : Int)) = f1 at HR3
    go_wp2_with fail
    refine (down_calls tt T b c m l1 f1 i n (by have := HL3.out.1; omega) hin (by have := HL3.out.1; omega) w3 HR3.out HB3.out).mono ?_
    rintro e w4 ⟨v, rfl, l2, f2, hD, hR4, hF4⟩
    have HD := Aside.mk hD
    have HR4 := Aside.mk hR4
    have HF4 := Aside.mk (HF3.out.then hF4 (fun i f => .inl f))
    clear hD hR4 hF4
    cases v with
    | true =>
      have HH4 : Aside (HeapN l2 n) := ⟨by rcases HD.out.2.2 with ⟨_, h⟩ | ⟨h, _⟩; exact h; cases h⟩
      have HL4 : Aside (l2.length = n + 1 ∧ l2[n]? = some x ∧ l2.Perm l) := ⟨HD.out.1.length_eq.trans HL3.out.1, (HD.out.2.1 n (Nat.le_refl _)).trans HL3.out.2.1, HD.out.1.trans HL3.out.2.2⟩
      go_wp2_with fail
      refine (pop_is HL4.out.1 HL4.out.2.1 HL4.out.2.2 HR4.out HH4.out).mono ?_
      rintro e w5 ⟨rfl, l', f', h1, h2, h3, h4⟩
      have H3 : Aside (∃ l' f', (l' ++ [x]).Perm l ∧ HRep w5 tt T b c m l' f' ∧ HeapN l' l'.length ∧ Fr (fun k => k = T ∨ k = b ∨ k = m) w w5) := ⟨⟨l', f', h1, h2, h3, (HF4.out.mono (fun i hi => .inr hi)).then h4 (fun i f => .inl f)⟩⟩
      clear h1 h2 h3 h4
      go_wp2_with fail
      go_ret
      exact ⟨rfl, H3.out⟩
    | false =>
      have HH4 : Aside (l2 = l1 ∧ UpBut l2 n i) := ⟨by rcases HD.out.2.2 with ⟨h, _⟩ | ⟨_, h1, h2⟩; cases h; exact ⟨h1, by rw [h1]; exact h2⟩⟩
      go_wp2_with fail
      refine (up_calls tt T b c m l2 f2 i n (by rw [HH4.out.1]; have := HL3.out.1; omega) hlt w4 HR4.out HH4.out.2).mono ?_
      rintro e w5 ⟨rfl, l3, f3, hp, hq, hR5, hH5, hF5⟩
      have HL5 : Aside (l3.length = n + 1 ∧ l3[n]? = some x ∧ l3.Perm l) := ⟨by rw [hp.length_eq, HH4.out.1]; exact HL3.out.1, (hq n (Nat.le_refl _)).trans (by rw [HH4.out.1]; exact HL3.out.2.1), by rw [HH4.out.1] at hp; exact hp.trans HL3.out.2.2⟩
      have HR5 := Aside.mk hR5
      have HH5 := Aside.mk hH5
      have HF5 := Aside.mk (HF4.out.then hF5 (fun i f => .inl f))
      clear hp hq hR5 hH5 hF5
      go_wp2_with fail
      refine (pop_is HL5.out.1 HL5.out.2.1 HL5.out.2.2 HR5.out HH5.out).mono ?_
      rintro e w6 ⟨rfl, l', f', h1, h2, h3, h4⟩
      have H3 : Aside (∃ l' f', (l' ++ [x]).Perm l ∧ HRep w6 tt T b c m l' f' ∧ HeapN l' l'.length ∧ Fr (fun k => k = T ∨ k = b ∨ k = m) w w6) := ⟨⟨l', f', h1, h2, h3, (HF5.out.mono (fun i hi => .inr hi)).then h4 (fun i f => .inl f)⟩⟩
      clear h1 h2 h3 h4
      go_wp2_with fail
      go_ret
      exact ⟨rfl, H3.out⟩
set_option maxHeartbeats 2000000 in
set_option maxRecDepth 100000 in
theorem hfix_calls (tt : TypeId) (T b c m i : Nat) (l : List (Int × Int)) (f : Int → Option Int) (w : World) (hl : l.length ≤ 1000000000) (hi : i < l.length) (hR : HRep w tt T b c m l f) (hB : BothBut l l.length i) :
    Calls Try.prog 43 #[.iface 86 (.pointer (some ⟨T, 0, none⟩)), .int .i64 i] w fun e w' => e = .returned (.tuple #[]) ∧ ∃ l' f', l'.Perm l ∧ HRep w' tt T b c m l' f' ∧ HeapN l' l'.length ∧ Fr (fun k => k = b ∨ k = m) w w' := by
  have m1 := meth_len ⟨T, 0, none⟩
  obtain ⟨n, hn⟩ : ∃ n, l.length = n := ⟨_, rfl⟩
  have HN := Aside.mk hn
  have HR := Aside.mk hR
  have HB := Aside.mk (show BothBut l n i by rw [← hn]; exact hB)
  have hin : i < n := by omega
  have hnb : n ≤ 1000000000 := by omega
  clear hn hR hB hi hl
  go_enter Try.func43, Try.ntmps43
  go_wp2_with fail
  refine (len_calls T n c (some ⟨b, 0, none⟩) w (by rw [← HN.out]; exact HR.out.cell)).mono ?_
  rintro e w2 ⟨rfl, rfl⟩
  go_wp2_with fail
  refine (down_calls tt T b c m l f i n (by have := HN.out; omega) (by omega) (by have := HN.out; omega) w HR.out HB.out).mono ?_
  rintro e w4 ⟨v, rfl, l2, f2, hD, hR4, hF4⟩
  have HD := Aside.mk hD
  have HR4 := Aside.mk hR4
  have HF4 := Aside.mk hF4
  clear hD hR4 hF4
  cases v with
  | true =>
    have HH4 : Aside (HeapN l2 l2.length) := ⟨by rw [HD.out.1.length_eq, HN.out]; rcases HD.out.2.2 with ⟨_, h⟩ | ⟨h, _⟩; exact h; cases h⟩
    go_wp2_with fail
    go_end0
    exact ⟨rfl, l2, f2, HD.out.1, HR4.out, HH4.out, HF4.out⟩
  | false =>
    have HH4 : Aside (l2 = l ∧ UpBut l2 n i) := ⟨by rcases HD.out.2.2 with ⟨h, _⟩ | ⟨_, h1, h2⟩; cases h; exact ⟨h1, by rw [h1]; exact h2⟩⟩
    go_wp2_with fail
    refine (up_calls tt T b c m l2 f2 i n (by rw [HH4.out.1]; have := HN.out; omega) hin w4 HR4.out HH4.out.2).mono ?_
    rintro e w5 ⟨rfl, l3, f3, hp, hq, hR5, hH5, hF5⟩
    have H3 : Aside (l3.Perm l ∧ HRep w5 tt T b c m l3 f3 ∧ HeapN l3 l3.length ∧ Fr (fun k => k = b ∨ k = m) w w5) := ⟨by rw [HH4.out.1] at hp; exact hp, hR5, by rw [hp.length_eq, HH4.out.1, HN.out]; exact hH5, HF4.out.then hF5 (fun i f => .inl f)⟩
    clear hp hq hR5 hH5 hF5
    go_wp2_with fail
    go_end0
    exact ⟨rfl, l3, f3, H3.out.1, H3.out.2.1, H3.out.2.2.1, H3.out.2.2.2⟩
end Go.Proofs.Ytjefeoohfalcaaa.C
