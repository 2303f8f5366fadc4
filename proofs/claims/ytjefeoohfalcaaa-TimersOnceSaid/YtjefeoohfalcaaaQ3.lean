/- The way up in the heap. -/
import Derived.Test.YtjefeoohfalcaaaPH
namespace Go.Proofs.Ytjefeoohfalcaaa.C
open Go.RowKit
set_option linter.unusedVariables false
set_option linter.unusedSimpArgs false
/-- A queue with its places: a heap but for what H says. -/
structure HRep (w : World) (tt : TypeId) (T b c m : Nat) (l : List (Int × Int)) (f : Int → Option Int) : Prop where
  rep : QRep w tt T b c m l f
  ids : Ids l
  at' : Placed l f
theorem QRep.below {w w' : World} {tt : TypeId} {T b c m : Nat} {l : List (Int × Int)} {f : Int → Option Int} (h : QRep w tt T b c m l f) (hb : Below w.heap.size w w') : QRep w' tt T b c m l f := by
  have h2 := h.row.lt
  obtain ⟨es, k, h3, _⟩ := h.map
  exact h.keep (hb.block T (lt_of_block h.box)) (hb.block b h2) (hb.block m (lt_of_block h3))
theorem HRep.below {w w' : World} {tt : TypeId} {T b c m : Nat} {l : List (Int × Int)} {f : Int → Option Int} (h : HRep w tt T b c m l f) (hb : Below w.heap.size w w') : HRep w' tt T b c m l f := ⟨h.rep.below hb, h.ids, h.at'⟩
theorem HRep.cell {w : World} {tt : TypeId} {T b c m : Nat} {l : List (Int × Int)} {f : Int → Option Int} (h : HRep w tt T b c m l f) : w.cell? ⟨T, 0, none⟩ = some (.slice (some ⟨b, 0, none⟩) l.length c) := cell_at h.rep.box 0
theorem HRep.swap {w w' : World} {tt : TypeId} {T b c m : Nat} {l : List (Int × Int)} {f : Int → Option Int} {i j : Nat} {x y : Int × Int} (h : HRep w tt T b c m l f) (hx : l[i]? = some x) (hy : l[j]? = some y) (hij : i ≠ j) (hQ : QRep w' tt T b c m (swapL l i j x y) (upd (upd f y.1 (some i)) x.1 (some j))) :
    HRep w' tt T b c m (swapL l i j x y) (upd (upd f y.1 (some i)) x.1 (some j)) := ⟨hQ, h.ids.perm (swap_perm hx hy hij), swap_placed h.ids h.at' hx hy hij⟩
theorem meth_len (a : Addr) (w : World) : (method 250 86 (.pointer (some a)) "Len").run Try.prog w = .ok (96, .pointer (some a)) w := by kernel_rfl
theorem meth_less (a : Addr) (w : World) : (method 250 86 (.pointer (some a)) "Less").run Try.prog w = .ok (97, .pointer (some a)) w := by kernel_rfl
theorem meth_swap (a : Addr) (w : World) : (method 250 86 (.pointer (some a)) "Swap").run Try.prog w = .ok (100, .pointer (some a)) w := by kernel_rfl
theorem meth_push (a : Addr) (w : World) : (method 250 86 (.pointer (some a)) "Push").run Try.prog w = .ok (99, .pointer (some a)) w := by kernel_rfl
theorem meth_pop (a : Addr) (w : World) : (method 250 86 (.pointer (some a)) "Pop").run Try.prog w = .ok (98, .pointer (some a)) w := by kernel_rfl
theorem less_is {tt : TypeId} {T b c m i j : Nat} {l : List (Int × Int)} {f : Int → Option Int} {x y : Int × Int} {w : World} (h : HRep w tt T b c m l f) (hx : l[i]? = some x) (hy : l[j]? = some y) (v : Bool) (hv : aheadB x y = v) :
    Calls Try.prog 97 #[.pointer (some ⟨T, 0, none⟩), .int .i64 i, .int .i64 j] w fun e w' => e = .returned (.bool v) ∧ Below w.heap.size w w' := by
  subst hv
  exact less_calls T b c i j l x y w h.cell h.rep.row hx hy
theorem swap_is {tt : TypeId} {T b c m i j : Nat} {l : List (Int × Int)} {f : Int → Option Int} {x y : Int × Int} {w : World} (h : HRep w tt T b c m l f) (hx : l[i]? = some x) (hy : l[j]? = some y) (hij : i ≠ j) :
    Calls Try.prog 100 #[.pointer (some ⟨T, 0, none⟩), .int .i64 i, .int .i64 j] w fun e w' => e = .returned (.tuple #[]) ∧ HRep w' tt T b c m (swapL l i j x y) (upd (upd f y.1 (some i)) x.1 (some j)) ∧ Fr (fun k => k = b ∨ k = m) w w' :=
  (swap_calls tt T b c m i j l x y f w h.rep hx hy hij (h.at'.isSome hx) (h.at'.isSome hy) (fun e => hij (h.ids.inj hx hy e))).mono fun e w' ⟨h1, h2, h3⟩ => ⟨h1, h.swap hx hy hij h2, h3⟩
set_option maxHeartbeats 1000000 in
set_option maxRecDepth 100000 in
theorem up_calls (tt : TypeId) (T b c m : Nat) (l : List (Int × Int)) (f : Int → Option Int) (j n : Nat) (hn : n ≤ l.length) (hj : j < n) (w : World) (hQ : HRep w tt T b c m l f) (hU : UpBut l n j) :
    Calls Try.prog 52 #[.iface 86 (.pointer (some ⟨T, 0, none⟩)), .int .i64 j] w fun e w' => e = .returned (.tuple #[]) ∧ ∃ l' f', l'.Perm l ∧ (∀ k, n ≤ k → l'[k]? = l[k]?) ∧ HRep w' tt T b c m l' f' ∧ HeapN l' n ∧ Fr (fun k => k = b ∨ k = m) w w' := by
  have hm := hQ.rep.row.max
  have hc := hQ.rep.row.cap
  unfold maxLen at hm
  go_enter Try.func52, Try.ntmps52
  go_wp2_with fail
  go_loopw [1] (fun v wr => ∃ (k : Nat) (l' : List (Int × Int)) (f' : Int → Option Int), v = .int .i64 k ∧ k < n ∧ (l'.Perm l ∧ ∀ k, n ≤ k → l'[k]? = l[k]?) ∧ HRep wr tt T b c m l' f' ∧ UpBut l' n k ∧ Fr (fun k => k = b ∨ k = m) w wr) (fun v _ => (intOf v).toNat)
  case atStart => exact ⟨j, l, f, rfl, hj, ⟨List.Perm.refl _, fun _ _ => rfl⟩, hQ, hU, Fr.refl _ _⟩
  case round =>
    obtain ⟨k, l', f', rfl, hk, hp, hR, hB, hF⟩ := hrel
    have hlen := hp.1.length_eq
    have HP := Aside.mk hp
    have HR := Aside.mk hR
    have HB := Aside.mk hB
    have HF := Aside.mk hF
    clear hp hR hB hF
    by_cases h0 : k = 0
    · subst h0
      go_wp2_with fail
      go_end0
      exact ⟨rfl, l', f', HP.out.1, HP.out.2, HR.out, up_stop0 HB.out, HF.out⟩
    · obtain ⟨p, hp⟩ : ∃ p : Nat, (k - 1) / 2 = p := ⟨_, rfl⟩
      have hpk : p < k := by omega
      obtain ⟨x, hx⟩ : ∃ x, l'[p]? = some x := ⟨_, List.getElem?_eq_getElem (by omega)⟩
      obtain ⟨y, hy⟩ : ∃ y, l'[k]? = some y := ⟨_, List.getElem?_eq_getElem (by omega)⟩
      have HP2 := Aside.mk hp
      have HX := Aside.mk hx
      have HY := Aside.mk hy
      have he : ((k : Int) - 1) / 2 = (p : Int) := by omega
      have hb : ((p : Int) == (k : Int)) = false := by rw [beq_eq_false_iff_ne]; omega
      have m1 := meth_less ⟨T, 0, none⟩
      have m2 := meth_swap ⟨T, 0, none⟩
      clear hp hx hy
      cases ha : aheadB y x with
      | false =>
        have HA := Aside.mk ha
        clear ha
        go_wp2_with fail
        refine (less_is HR.out HY.out HX.out false HA.out).mono ?_
        rintro e w1 ⟨rfl, hb1⟩
        have HR1 := Aside.mk (HR.out.below hb1)
        have HF1 := Aside.mk (HF.out.then (Fr.of_new (F := fun _ => False) hb1) (fun i f => f.elim))
        clear hb1
        go_wp2_with fail
        go_end0
        exact ⟨rfl, l', f', HP.out.1, HP.out.2, HR1.out, up_stop HB.out (by rw [HP2.out]; exact HX.out) HY.out HA.out, HF1.out⟩
      | true =>
        have HA := Aside.mk ha
        clear ha
        go_wp2_with fail
        refine (less_is HR.out HY.out HX.out true HA.out).mono ?_
        rintro e w1 ⟨rfl, hb1⟩
        have HR1 := Aside.mk (HR.out.below hb1)
        have HF1 := Aside.mk (HF.out.then (Fr.of_new (F := fun _ => False) hb1) (fun i f => f.elim))
        clear hb1
        go_wp2_with fail
        refine (swap_is HR1.out HX.out HY.out (Nat.ne_of_lt hpk)).mono ?_
        rintro e w2 ⟨rfl, hR2, hF2⟩
        have HR2 := Aside.mk hR2
        have HF2 := Aside.mk (HF1.out.then hF2 (fun i f => Or.inl f))
        clear hR2 hF2
        go_wp2_with fail
        go_roundw
        case rel => exact ⟨p, _, _, rfl, by omega, ⟨(swap_perm HX.out HY.out (Nat.ne_of_lt hpk)).trans HP.out.1, fun q hq => by rw [swap_get x y (by omega) (by omega) (Nat.ne_of_lt hpk), if_neg (by omega), if_neg (by omega)]; exact HP.out.2 q hq⟩, HR2.out, by have := up_step HB.out (by omega) hk (by omega) (by rw [HP2.out]; exact HX.out) HY.out HA.out; rw [HP2.out] at this; exact this, HF2.out⟩
        case measure => simp [intOf]; omega
end Go.Proofs.Ytjefeoohfalcaaa.C
