/- The way up in the heap. -/
import Derived.Test.YtjefeoohfalcaaaPH
/-! The way up in the heap. -/
namespace Go.Proofs.Ytjefeoohfalcaaa.C
open Go.RowKit
set_option linter.unusedVariables false
set_option linter.unusedSimpArgs false
/-- A queue with its places: a heap but for what H says. -/
structure HRep (w : World) (tt : TypeId) (T b c m : Nat) (l : List (Int × Int)) (f : Int → Option Int) : Prop where
  rep : QRep w tt T b c m l f
  ids : Ids l
  at' : Placed l f
theorem QRep.below {w w' : World} {tt : TypeId} {T b c m : Nat} {l : List (Int × Int)} {f : Int → Option Int} (h : QRep w tt T b c m l f) (hb : Below w.heap.size w w') : QRep w' tt T b c m l f := by
  have h2 := h.row.lt
  obtain ⟨es, k, h3, _⟩ := h.map
  exact h.keep (hb.block T (lt_of_block h.box)) (hb.block b h2) (hb.block m (lt_of_block h3))
theorem HRep.below {w w' : World} {tt : TypeId} {T b c m : Nat} {l : List (Int × Int)} {f : Int → Option Int} (h : HRep w tt T b c m l f) (hb : Below w.heap.size w w') : HRep w' tt T b c m l f := ⟨h.rep.below hb, h.ids, h.at'⟩
theorem HRep.cell {w : World} {tt : TypeId} {T b c m : Nat} {l : List (Int × Int)} {f : Int → Option Int} (h : HRep w tt T b c m l f) : w.cell? ⟨T, 0, none⟩ = some (.slice (some ⟨b, 0, none⟩) l.length c) := cell_at h.rep.box 0
theorem HRep.swap {w w' : World} {tt : TypeId} {T b c m : Nat} {l : List (Int × Int)} {f : Int → Option Int} {i j : Nat} {x y : Int × Int} (h : HRep w tt T b c m l f) (hx : l[i]? = some x) (hy : l[j]? = some y) (hij : i ≠ j) (hQ : QRep w' tt T b c m (swapL l i j x y) (upd (upd f y.1 (some i)) x.1 (some j))) :
    HRep w' tt T b c m (swapL l i j x y) (upd (upd f y.1 (some i)) x.1 (some j)) := ⟨hQ, h.ids.perm (swap_perm hx hy hij), swap_placed h.ids h.at' hx hy hij⟩
theorem meth_len (a : Addr) (w : World) : (method 250 86 (.pointer (some a)) "Len").run Try.prog w = .ok (96, .pointer (some a)) w := by kernel_rfl
theorem meth_less (a : Addr) (w : World) : (method 250 86 (.pointer (some a)) "Less").run Try.prog w = .ok (97, .pointer (some a)) w := by kernel_rfl
theorem meth_swap (a : Addr) (w : World) : (method 250 86 (.pointer (some a)) "Swap").run Try.prog w = .ok (100, .pointer (some a)) w := by kernel_rfl
theorem meth_push (a : Addr) (w : World) : (method 250 86 (.pointer (some a)) "Push").run Try.prog w = .ok (99, .pointer (some a)) w := by kernel_rfl
theorem meth_pop (a : Addr) (w : World) : (method 250 86 (.pointer (some a)) "Pop").run Try.prog w = .ok (98, .pointer (some a)) w := by kernel_rfl
theorem less_is {tt : TypeId} {T b c m i j : Nat} {l : List (Int × Int)} {f : Int → Option Int} {x y : Int × Int} {w : World} (h : HRep w tt T b c m l f) (hx : l[i]? = some x) (hy : l[j]? = some y) (v : Bool) (hv : aheadB x y = v) :
    Calls Try.prog 97 #[.pointer (some ⟨T, 0, none⟩), .int .i64 i, .int .i64 j] w fun e w' => e = .returned (.bool v) ∧ Below w.heap.size w w' := by
  subst hv
  exact less_calls T b c i j l x y w h.cell h.rep.row hx hy
theorem swap_is {tt : TypeId} {T b c m i j : Nat} {l : List (Int × Int)} {f : Int → Option Int} {x y : Int × Int} {w : World} (h : HRep w tt T b c m l f) (hx : l[i]? = some x) (hy : l[j]? = some y) (hij : i ≠ j) :
    Calls Try.prog 100 #[.pointer (some ⟨T, 0, none⟩), .int .i64 i, .int .i64 j] w fun e w' => e = .returned (.tuple #[]) ∧ HRep w' tt T b c m (swapL l i j x y) (upd (upd f y.1 (some i)) x.1 (some j)) ∧ Fr (fun k => k = b ∨ k = m) w w' :=
  (swap_calls tt T b c m i j l x y f w h.rep hx hy hij (h.at'.isSome hx) (h.at'.isSome hy) (fun e => hij (h.ids.inj hx hy e))).mono fun e w' ⟨h1, h2, h3⟩ => ⟨h1, h.swap hx hy hij h2, h3⟩
set_option maxHeartbeats 1000000 in
set_option maxRecDepth 100000 in
theorem up_calls (tt : TypeId) (T b c m : Nat) (l : List (Int × Int)) (f : Int → Option Int) (j n : Nat) (hn : n ≤ l.length) (hj : j < n) (w : World) (hQ : HRep w tt T b c m l f) (hU : UpBut l n j) :
    Calls Try.prog 52 #[.iface 86 (.pointer (some ⟨T, 0, none⟩)), .int .i64 j] w fun e w' => e = .returned (.tuple #[]) ∧ ∃ l' f', l'.Perm l ∧ (∀ k, n ≤ k → l'[k]? = l[k]?) ∧ HRep w' tt T b c m l' f' ∧ HeapN l' n ∧ Fr (fun k => k = b ∨ k = m) w w' := by
  have hm := hQ.rep.row.max
  have hc := hQ.rep.row.cap
  unfold maxLen at hm
  go_enter Try.func52, Try.ntmps52
  go_wp2_with fail
  go_loopw [1] (fun v wr => ∃ (k : Nat) (l' : List (Int × Int)) (f' : Int → Option Int), v = .int .i64 k ∧ k < n ∧ (l'.Perm l ∧ ∀ k, n ≤ k → l'[k]? = l[k]?) ∧ HRep wr tt T b c m l' f' ∧ UpBut l' n k ∧ Fr (fun k => k = b ∨ k = m) w wr) (fun v _ => (intOf v).toNat)
  case atStart => exact ⟨j, l, f, rfl, hj, ⟨List.Perm.refl _, fun _ _ => rfl⟩, hQ, hU, Fr.refl _ _⟩
  case round =>
    obtain ⟨k, l', f', rfl, hk, hp, hR, hB, hF⟩ := hrel
    have hlen := hp.1.length_eq
    have HP := Aside.mk hp
    have HR := Aside.mk hR
    have HB := Aside.mk hB
    have HF := Aside.mk hF
    clear hp hR hB hF
    by_cases h0 : k = 0
    · subst h0
      go_wp2_with fail
      go_end0
      exact ⟨rfl, l', f', HP.out.1, HP.out.2, HR.out, up_stop0 HB.out, HF.out⟩
    · obtain ⟨p, hp⟩ : ∃ p : Nat, (k - 1) / 2 = p := ⟨_, rfl⟩
      have hpk : p < k := by omega
      obtain ⟨x, hx⟩ : ∃ x, l'[p]? = some x := ⟨_, List.getElem?_eq_getElem (by omega)⟩
      obtain ⟨y, hy⟩ : ∃ y, l'[k]? = some y := ⟨_, List.getElem?_eq_getElem (by omega)⟩
      have HP2 := Aside.mk hp
      have HX := Aside.mk hx
      have HY := Aside.mk hy
      have he : ((k : Int) - 1) / 2 = (p : Int) := by omega
      have hb : ((p : Int) == (k : Int)) = false := by rw [beq_eq_false_iff_ne]; omega
      have m1 := meth_less ⟨T, 0, none⟩
      have m2 := meth_swap ⟨T, 0, none⟩
      clear hp hx hy
      cases ha : aheadB y x with
      | false =>
        have HA := Aside.mk ha
        clear ha
        go_wp2_with fail
        refine (less_is HR.out HY.out HX.out false HA.out).mono ?_
        rintro e w1 ⟨rfl, hb1⟩
        have HR1 := Aside.mk (HR.out.below hb1)
        have HF1 := Aside.mk (HF.out.then (Fr.of_new (F := fun _ => False) hb1) (fun i f => f.elim))
        clear hb1
        go_wp2_with fail
        go_end0
        exact ⟨rfl, l', f', HP.out.1, HP.out.2, HR1.out, up_stop HB.out (by rw [HP2.out]; exact HX.out) HY.out HA.out, HF1.out⟩
      | true =>
        have HA := Aside.mk ha
        clear ha
        go_wp2_with fail
        refine (less_is HR.out HY.out HX.out true HA.out).mono ?_
        rintro e w1 ⟨rfl, hb1⟩
        have HR1 := Aside.mk (HR.out.below hb1)
        have HF1 := Aside.mk (HF.out.then (Fr.of_new (F := fun _ => False) hb1) (fun i f => f.elim))
        clear hb1
        go_wp2_with fail
        refine (swap_is HR1.out HX.out HY.out (Nat.ne_of_lt hpk)).mono ?_
        rintro e w2 ⟨rfl, hR2, hF2⟩
        have HR2 := Aside.mk hR2
        have HF2 := Aside.mk (HF1.out.then hF2 (fun i f => Or.inl f))
        clear hR2 hF2
        go_wp2_with fail
        go_roundw
        case rel => exact ⟨p, _, _, rfl, by omega, ⟨(swap_perm HX.out HY.out (Nat.ne_of_lt hpk)).trans HP.out.1, fun q hq => by rw [swap_get x y (by omega) (by omega) (Nat.ne_of_lt hpk), if_neg (by omega), if_neg (by omega)]; exact HP.out.2 q hq⟩, HR2.out, by have := up_step HB.out (by omega) hk (by omega) (by rw [HP2.out]; exact HX.out) HY.out HA.out; rw [HP2.out] at this; exact this, HF2.out⟩
        case measure => simp [intOf]; omega
end Go.Proofs.Ytjefeoohfalcaaa.C
/-! The way down in the heap. -/
namespace Go.Proofs.Ytjefeoohfalcaaa.C
open Go.RowKit
set_option linter.unusedVariables false
set_option linter.unusedSimpArgs false
/-- What a way down leaves: it has moved, and all is a heap; or it has not, and what was amiss above stays. -/
def Downed (l l' : List (Int × Int)) (n i : Nat) (v : Bool) : Prop := l'.Perm l ∧ (∀ k, n ≤ k → l'[k]? = l[k]?) ∧ ((v = true ∧ HeapN l' n) ∨ (v = false ∧ l' = l ∧ UpBut l n i))
def DInv (l l' : List (Int × Int)) (n i k : Nat) : Prop := l'.Perm l ∧ (∀ q, n ≤ q → l'[q]? = l[q]?) ∧ ((k = i ∧ l' = l ∧ BothBut l n i) ∨ (i < k ∧ DownBut l' n k))
theorem DInv.both {l l' : List (Int × Int)} {n i k : Nat} (h : DInv l l' n i k) : BothBut l' n k := by
  rcases h.2.2 with ⟨rfl, rfl, h⟩ | ⟨_, h⟩
  · exact h
  · exact h.both
theorem DInv.step {l l' : List (Int × Int)} {n i k j : Nat} {x y : Int × Int} (h : DInv l l' n i k) (hj : j < n) (hl : n ≤ l'.length) (hc : (j - 1) / 2 = k) (h0 : 0 < j) (hx : l'[k]? = some x) (hy : l'[j]? = some y) (ha : aheadB y x = true)
    (hleast : ∀ q, 0 < q → q < n → (q - 1) / 2 = k → leAt l' j q) : DInv l (swapL l' k j x y) n i j := by
  have hkj : k ≠ j := by omega
  refine ⟨(swap_perm hx hy hkj).trans h.1, fun q hq => ?_, .inr ⟨?_, down_step h.both hj hl hc h0 hx hy ha hleast⟩⟩
  · rw [swap_get x y (by omega) (by omega) hkj, if_neg (by omega), if_neg (by omega)]
    exact h.2.1 q hq
  · rcases h.2.2 with ⟨rfl, _⟩ | ⟨h1, _⟩ <;> omega
theorem DInv.stop {l l' : List (Int × Int)} {n i k : Nat} (h : DInv l l' n i k) (hk : ∀ q, 0 < q → q < n → (q - 1) / 2 = k → leAt l' k q) : Downed l l' n i (decide ((k : Int) > (i : Int))) := by
  refine ⟨h.1, h.2.1, ?_⟩
  rcases h.2.2 with ⟨rfl, rfl, h1⟩ | ⟨h1, h2⟩
  · exact .inr ⟨by simp, rfl, both_stop h1 hk⟩
  · exact .inl ⟨by simp; omega, down_stop h2 hk⟩
/-- The children of k: one. -/
theorem least_one {l : List (Int × Int)} {n k : Nat} {y : Int × Int} (hn : n ≤ 2 * k + 1 + 1) (hy : l[2 * k + 1]? = some y) : ∀ q, 0 < q → q < n → (q - 1) / 2 = k → leAt l (2 * k + 1) q := fun q h1 h2 h3 => by
  obtain rfl : q = 2 * k + 1 := by omega
  exact leAt_of hy hy (le_refl y)
theorem least_left {l : List (Int × Int)} {n k : Nat} {y z : Int × Int} (hy : l[2 * k + 1]? = some y) (hz : l[2 * k + 1 + 1]? = some z) (h : aheadB z y = false) : ∀ q, 0 < q → q < n → (q - 1) / 2 = k → leAt l (2 * k + 1) q := fun q h1 h2 h3 => by
  rcases (by omega : q = 2 * k + 1 ∨ q = 2 * k + 1 + 1) with rfl | rfl
  · exact leAt_of hy hy (le_refl y)
  · exact leAt_of hy hz h
theorem least_right {l : List (Int × Int)} {n k : Nat} {y z : Int × Int} (hy : l[2 * k + 1]? = some y) (hz : l[2 * k + 1 + 1]? = some z) (h : aheadB z y = true) : ∀ q, 0 < q → q < n → (q - 1) / 2 = k → leAt l (2 * k + 1 + 1) q := fun q h1 h2 h3 => by
  rcases (by omega : q = 2 * k + 1 ∨ q = 2 * k + 1 + 1) with rfl | rfl
  · exact leAt_of hz hy (le_of_ahead h)
  · exact leAt_of hz hz (le_refl z)
theorem stop_least {l : List (Int × Int)} {n k j : Nat} {x y : Int × Int} (hx : l[k]? = some x) (hy : l[j]? = some y) (ha : aheadB y x = false) (hl : ∀ q, 0 < q → q < n → (q - 1) / 2 = k → leAt l j q) : ∀ q, 0 < q → q < n → (q - 1) / 2 = k → leAt l k q := fun q h1 h2 h3 p r hp hr => by
  rw [hx] at hp
  cases hp
  exact le_trans ha (hl q h1 h2 h3 y r hy hr)
theorem swapL_len' (l : List (Int × Int)) (i j : Nat) (x y : Int × Int) {n : Nat} (h : n ≤ l.length) : n ≤ (swapL l i j x y).length := by rw [swapL_len]; exact h
set_option maxHeartbeats 2000000 in
set_option maxRecDepth 100000 in
theorem down_calls (tt : TypeId) (T b c m : Nat) (l : List (Int × Int)) (f : Int → Option Int) (i n : Nat) (hn : n ≤ l.length) (hin : i ≤ n) (hl1 : l.length ≤ 1000000000000) (w : World) (hQ : HRep w tt T b c m l f) (hU : BothBut l n i) :
    Calls Try.prog 51 #[.iface 86 (.pointer (some ⟨T, 0, none⟩)), .int .i64 i, .int .i64 n] w fun e w' => ∃ v, e = .returned (.bool v) ∧ ∃ l' f', Downed l l' n i v ∧ HRep w' tt T b c m l' f' ∧ Fr (fun k => k = b ∨ k = m) w w' := by
  have hm := hQ.rep.row.max
  have hc := hQ.rep.row.cap
  unfold maxLen at hm
  go_enter Try.func51, Try.ntmps51
  go_wp2_with fail
  go_loopw [7] (fun v wr => ∃ (k : Nat) (l' : List (Int × Int)) (f' : Int → Option Int), v = .int .i64 k ∧ k ≤ n ∧ n ≤ l'.length ∧ l'.length = l.length ∧ Aside (DInv l l' n i k) ∧ Aside (HRep wr tt T b c m l' f') ∧ Aside (Fr (fun k => k = b ∨ k = m) w wr)) (fun v _ => n - (intOf v).toNat)
  case atStart => exact ⟨i, l, f, rfl, hin, hn, rfl, ⟨List.Perm.refl _, fun _ _ => rfl, .inl ⟨rfl, rfl, hU⟩⟩, ⟨hQ⟩, ⟨Fr.refl _ _⟩⟩
  case round =>
    obtain ⟨k, l', f', rfl, hk, hnl, hll, HD, HR, HF⟩ := hrel
    clear hQ hU
    obtain ⟨j1, hj1⟩ : ∃ j1, 2 * k + 1 = j1 := ⟨_, rfl⟩
    obtain ⟨j2, hj2⟩ : ∃ j2, j1 + 1 = j2 := ⟨_, rfl⟩
    have e1 : 2 * (k : Int) + 1 = (j1 : Int) := by omega
    have e2 : (j1 : Int) + 1 = (j2 : Int) := by omega
    have J1 := Aside.mk hj1
    have J2 := Aside.mk hj2
    clear hj1 hj2
    have t2 : decide ((j1 : Int) < 0) = false := by simp
    by_cases h1 : j1 < n
    · obtain ⟨x, hx⟩ : ∃ x, l'[k]? = some x := ⟨_, List.getElem?_eq_getElem (by have := J1.out; omega)⟩
      obtain ⟨y, hy⟩ : ∃ y, l'[j1]? = some y := ⟨_, List.getElem?_eq_getElem (by omega)⟩
      have HX := Aside.mk hx
      have HY := Aside.mk hy
      clear hx hy
      have t1 : decide (n ≤ j1) = false := by simp; omega
      have m1 := meth_less ⟨T, 0, none⟩
      have m2 := meth_swap ⟨T, 0, none⟩
      -- what stands behind the choice of a child
      have TAIL : True := trivial
      by_cases h2 : j2 < n
      · obtain ⟨z, hz⟩ : ∃ z, l'[j2]? = some z := ⟨_, List.getElem?_eq_getElem (by omega)⟩
        have HZ := Aside.mk hz
        clear hz
        have t3 : decide (j2 < n) = true := by simp; omega
        cases hzy : aheadB z y with
        | true =>
          have HZY := Aside.mk hzy
          clear hzy
          have HL : Aside (∀ q, 0 < q → q < n → (q - 1) / 2 = k → leAt l' j2 q) := ⟨by rw [← J2.out, ← J1.out]; exact least_right (by rw [J1.out]; exact HY.out) (by rw [J1.out, J2.out]; exact HZ.out) HZY.out⟩
          go_wp2_with fail
          refine (less_is HR.out HZ.out HY.out true HZY.out).mono ?_
          rintro e w1 ⟨rfl, hb1⟩
          have HR1 := Aside.mk (HR.out.below hb1)
          have HF1 := Aside.mk (HF.out.then (Fr.of_new (F := fun _ => False) hb1) (fun i f => f.elim))
          clear hb1
          cases hzx : aheadB z x with
          | true =>
            have HA := Aside.mk hzx
            clear hzx
            go_wp2_with fail
            refine (less_is HR1.out HZ.out HX.out true HA.out).mono ?_
            rintro e w2 ⟨rfl, hb1⟩
            have HR2 := Aside.mk (HR1.out.below hb1)
            have HF2 := Aside.mk (HF1.out.then (Fr.of_new (F := fun _ => False) hb1) (fun i f => f.elim))
            clear hb1
            go_wp2_with fail
            refine (swap_is HR2.out HX.out HZ.out (by have := J1.out; have := J2.out; omega)).mono ?_
            rintro e w3 ⟨rfl, hR3, hF3⟩
            have HR3 := Aside.mk hR3
            have HF3 := Aside.mk (HF2.out.then hF3 (fun i f => Or.inl f))
            clear hR3 hF3
            go_wp2_with fail
            go_roundw
            case rel => exact ⟨j2, _, _, rfl, by have := J1.out; have := J2.out; omega, swapL_len' _ _ _ _ _ hnl, by rw [swapL_len]; exact hll, ⟨HD.out.step (by have := J1.out; have := J2.out; omega) hnl (by have := J1.out; have := J2.out; omega) (by have := J1.out; have := J2.out; omega) HX.out HZ.out HA.out HL.out⟩, HR3, HF3⟩
            case measure => have := J1.out; have := J2.out; simp [intOf]; omega
          | false =>
            have HA := Aside.mk hzx
            clear hzx
            have HS : Aside (Downed l l' n i (decide ((k : Int) > (i : Int)))) := ⟨HD.out.stop (stop_least HX.out HZ.out HA.out HL.out)⟩
            go_wp2_with fail
            refine (less_is HR1.out HZ.out HX.out false HA.out).mono ?_
            rintro e w2 ⟨rfl, hb1⟩
            have HR2 := Aside.mk (HR1.out.below hb1)
            have HF2 := Aside.mk (HF1.out.then (Fr.of_new (F := fun _ => False) hb1) (fun i f => f.elim))
            clear hb1
            go_wp2_with fail
            go_ret
            exact ⟨_, rfl, l', f', by simpa using HS.out, HR2.out, HF2.out⟩
        | false =>
          have HZY := Aside.mk hzy
          clear hzy
          have HL : Aside (∀ q, 0 < q → q < n → (q - 1) / 2 = k → leAt l' j1 q) := ⟨by rw [← J1.out]; exact least_left (by rw [J1.out]; exact HY.out) (by rw [J1.out, J2.out]; exact HZ.out) HZY.out⟩
          go_wp2_with fail
          refine (less_is HR.out HZ.out HY.out false HZY.out).mono ?_
          rintro e w1 ⟨rfl, hb1⟩
          have HR1 := Aside.mk (HR.out.below hb1)
          have HF1 := Aside.mk (HF.out.then (Fr.of_new (F := fun _ => False) hb1) (fun i f => f.elim))
          clear hb1
          cases hzx : aheadB y x with
          | true =>
            have HA := Aside.mk hzx
            clear hzx
            go_wp2_with fail
            refine (less_is HR1.out HY.out HX.out true HA.out).mono ?_
            rintro e w2 ⟨rfl, hb1⟩
            have HR2 := Aside.mk (HR1.out.below hb1)
            have HF2 := Aside.mk (HF1.out.then (Fr.of_new (F := fun _ => False) hb1) (fun i f => f.elim))
            clear hb1
            go_wp2_with fail
            refine (swap_is HR2.out HX.out HY.out (by have := J1.out; have := J2.out; omega)).mono ?_
            rintro e w3 ⟨rfl, hR3, hF3⟩
            have HR3 := Aside.mk hR3
            have HF3 := Aside.mk (HF2.out.then hF3 (fun i f => Or.inl f))
            clear hR3 hF3
            go_wp2_with fail
            go_roundw
            case rel => exact ⟨j1, _, _, rfl, by have := J1.out; have := J2.out; omega, swapL_len' _ _ _ _ _ hnl, by rw [swapL_len]; exact hll, ⟨HD.out.step (by have := J1.out; have := J2.out; omega) hnl (by have := J1.out; have := J2.out; omega) (by have := J1.out; have := J2.out; omega) HX.out HY.out HA.out HL.out⟩, HR3, HF3⟩
            case measure => have := J1.out; have := J2.out; simp [intOf]; omega
          | false =>
            have HA := Aside.mk hzx
            clear hzx
            have HS : Aside (Downed l l' n i (decide ((k : Int) > (i : Int)))) := ⟨HD.out.stop (stop_least HX.out HY.out HA.out HL.out)⟩
            go_wp2_with fail
            refine (less_is HR1.out HY.out HX.out false HA.out).mono ?_
            rintro e w2 ⟨rfl, hb1⟩
            have HR2 := Aside.mk (HR1.out.below hb1)
            have HF2 := Aside.mk (HF1.out.then (Fr.of_new (F := fun _ => False) hb1) (fun i f => f.elim))
            clear hb1
            go_wp2_with fail
            go_ret
            exact ⟨_, rfl, l', f', by simpa using HS.out, HR2.out, HF2.out⟩
      · have t3 : decide (j2 < n) = false := by simp; omega
        have HL : Aside (∀ q, 0 < q → q < n → (q - 1) / 2 = k → leAt l' j1 q) := ⟨by rw [← J1.out]; exact least_one (by have := J1.out; have := J2.out; omega) (by rw [J1.out]; exact HY.out)⟩
        have HR1 := HR
        have HF1 := HF
        cases hzx : aheadB y x with
        | true =>
          have HA := Aside.mk hzx
          clear hzx
          go_wp2_with fail
          refine (less_is HR1.out HY.out HX.out true HA.out).mono ?_
          rintro e w2 ⟨rfl, hb1⟩
          have HR2 := Aside.mk (HR1.out.below hb1)
          have HF2 := Aside.mk (HF1.out.then (Fr.of_new (F := fun _ => False) hb1) (fun i f => f.elim))
          clear hb1
          go_wp2_with fail
          refine (swap_is HR2.out HX.out HY.out (by have := J1.out; have := J2.out; omega)).mono ?_
          rintro e w3 ⟨rfl, hR3, hF3⟩
          have HR3 := Aside.mk hR3
          have HF3 := Aside.mk (HF2.out.then hF3 (fun i f => Or.inl f))
          clear hR3 hF3
          go_wp2_with fail
          go_roundw
          case rel => exact ⟨j1, _, _, rfl, by have := J1.out; have := J2.out; omega, swapL_len' _ _ _ _ _ hnl, by rw [swapL_len]; exact hll, ⟨HD.out.step (by have := J1.out; have := J2.out; omega) hnl (by have := J1.out; have := J2.out; omega) (by have := J1.out; have := J2.out; omega) HX.out HY.out HA.out HL.out⟩, HR3, HF3⟩
          case measure => have := J1.out; have := J2.out; simp [intOf]; omega
        | false =>
          have HA := Aside.mk hzx
          clear hzx
          have HS : Aside (Downed l l' n i (decide ((k : Int) > (i : Int)))) := ⟨HD.out.stop (stop_least HX.out HY.out HA.out HL.out)⟩
          go_wp2_with fail
          refine (less_is HR1.out HY.out HX.out false HA.out).mono ?_
          rintro e w2 ⟨rfl, hb1⟩
          have HR2 := Aside.mk (HR1.out.below hb1)
          have HF2 := Aside.mk (HF1.out.then (Fr.of_new (F := fun _ => False) hb1) (fun i f => f.elim))
          clear hb1
          go_wp2_with fail
          go_ret
          exact ⟨_, rfl, l', f', by simpa using HS.out, HR2.out, HF2.out⟩
    · have t1 : decide (n ≤ j1) = true := by simp; omega
      have HS : Aside (Downed l l' n i (decide ((k : Int) > (i : Int)))) := ⟨HD.out.stop (fun q q1 q2 q3 => absurd q2 (by have := J1.out; omega))⟩
      go_wp2_with fail
      go_ret
      exact ⟨_, rfl, l', f', by simpa using HS.out, HR.out, HF.out⟩
end Go.Proofs.Ytjefeoohfalcaaa.C
