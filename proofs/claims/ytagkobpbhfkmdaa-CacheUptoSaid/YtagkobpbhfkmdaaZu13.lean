/- Zu: texts of this claim, laid together. -/
import Derived.Test.YtagkobpbhfkmdaaZu4
import Derived.Test.YtagkobpbhfkmdaaZu10
import Derived.Test.YtagkobpbhfkmdaaZu12
/-! from EE -/
namespace Go.Proofs.Ytagkobpbhfkmdaa.C
open Go.Shelf Go.RowKit Go.ChangeMaps Go.Maps Go.Sort Go.Proofs.Ytagkobpbhfkmdaa.Q Go.Proofs.YtagkobpbhfkmdaaW.PrintLast Go.Proofs.YtagkobpbhfkmdaaW.PrintWords
set_option linter.unusedVariables false
set_option linter.unusedSimpArgs false
attribute [local go_sem] Oper.semAt_some
def beginsB (k p : ByteArray) : Bool := (keys_Begins.f k p).getD false
theorem begins_is (k p : ByteArray) : keys_Begins.f k p = some (beginsB k p) := by
  unfold beginsB
  have h : ∃ r, keys_Begins.f k p = some r := by
    unfold keys_Begins.f strings_HasPrefix.f stringslite_HasPrefix.f
    by_cases h : (p.size : Int) ≤ (k.size : Int) <;> simp [h]
  obtain ⟨r, hr⟩ := h
  rw [hr]
  rfl
theorem begins_calls (k p : ByteArray) (w : World) : Calls Try.prog 50 #[.string k, .string p] w fun e w' => e = .returned (.bool (beginsB k p)) ∧ ∃ q, w' = w.drewN q :=
  (keys_Begins.calls k p _ w (begins_is k p)).mono fun e w' h => ⟨h.1, drawn_fr h.2⟩
def enOf (x : Ent) : En := ⟨x.key, x.val, x.made, x.mod⟩
def pickB (f : Fcts) (pre k : ByteArray) : Bool := ((f k).getD fctZ).there && beginsB k pre
def entsM (f : Fcts) (pre : ByteArray) (ks : List ByteArray) : List En := (ks.filter (pickB f pre)).map fun k => enOf ((f k).getD fctZ).x
theorem entsM_take {f : Fcts} {pre : ByteArray} {ks : List ByteArray} {k : Nat} (h : k < ks.length) : entsM f pre (ks.take (k + 1)) = if pickB f pre ks[k] = true then entsM f pre (ks.take k) ++ [enOf ((f ks[k]).getD fctZ).x] else entsM f pre (ks.take k) := by
  unfold entsM
  rw [List.take_succ_eq_append_getElem h, List.filter_append, List.map_append]
  by_cases hp : pickB f pre ks[k] = true
  · simp [hp]
  · simp [hp]
theorem entsM_len (f : Fcts) (pre : ByteArray) (ks : List ByteArray) : (entsM f pre ks).length ≤ ks.length := by
  unfold entsM
  rw [List.length_map]
  exact List.length_filter_le _ _
def ecells (l : List En) : List Value := l.flatMap fun x => [.string x.f0, .string x.f1, .int .i64 x.f2, .int .i64 x.f3]
/-- What a round may turn: the caller's box, its rows. -/
def FT (B0 : Nat) (w : World) (k : Nat) : Prop := B0 ≤ k ∧ ∀ cs t, w.heap[k]? = some (.cells cs t (0, 0)) → t = 30 ∨ t = 46
def KT (B0 : Nat) (w w' : World) : Prop := Fr (FT B0 w) w w'
theorem KT.trans {B0 : Nat} {a b c : World} (h : KT B0 a b) (k : KT B0 b c) : KT B0 a c :=
  Fr.trans h k (fun i hi hG => ⟨hG.1, fun cs t ht => Classical.byContradiction fun hn => by
    have hs := h.block i hi (fun hF => hn (hF.2 cs t ht))
    exact hn (hG.2 cs t (hs.trans ht))⟩)
theorem KT.new {B0 : Nat} {a b : World} (h : Below a.heap.size a b) : KT B0 a b := Fr.of_new h
theorem KT.put {B0 : Nat} {w : World} (hn : B0 ≤ w.heap.size) (W : World) (l : Nat) (o o' : Obj) (hl : w.heap.size ≤ l) (h : W.heap[l]? = some o) (hc : o.isCells = false) (_ : o.isWalk = false) : KT B0 W (W.putObj l o') :=
  Fr.of_grown (grownBy_putObj' W l o') (fun k e => by
    cases e
    refine ⟨by omega, fun cs t ht => ?_⟩
    rw [h] at ht
    cases ht
    cases hc)
theorem CA.kt {B0 : Nat} {w w' : World} {C M : Nat} {f : Fcts} {u : Int} (h : CA w C M f u) (hk : KT B0 w w') (hC : C < B0) (hM : M < B0) : CA w' C M f u :=
  h.fr hk (fun hF => by have := hF.1; omega) (fun hF => by have := hF.1; omega)
theorem grown_below {a b : World} (h : Below a.heap.size a b) : a.grownBy b none := ⟨h.os, h.tape, h.output, h.size, fun k hk _ => h.block k hk⟩
theorem KRow.kt {B0 : Nat} {w w' : World} {v : Value} {ks : List ByteArray} (h : KRow w v ks) (hk : KT B0 w w') : KRow w' v ks := by
  rcases h with h | ⟨g, c, cur, h1, h2, h3, h4, h5⟩
  · exact .inl h
  · exact .inr ⟨g, c, cur, h1, Fr.heap hk h2 (fun hF => by rcases hF.2 _ _ h2 with e | e <;> revert e <;> decide), h3, h4, h5⟩
theorem KRow.slice {w : World} {v : Value} {ks : List ByteArray} (h : KRow w v ks) : ∃ A c, v = .slice A ks.length c := by
  rcases h with ⟨h1, h2⟩ | ⟨g, c, cur, h1, _⟩
  · subst h2; exact ⟨none, 0, h1⟩
  · exact ⟨_, c, h1⟩
theorem KRow.get {w : World} {A : Option Addr} {c n : Nat} {ks : List ByteArray} (h : KRow w (.slice A n c) ks) {k : Nat} (hk : k < ks.length) : ∃ g, A = some ⟨g, 0, none⟩ ∧ w.cell? ⟨g, k, none⟩ = some (.string ks[k]) ∧ ks.length ≤ c ∧ c ≤ maxLen := by
  rcases h with ⟨h1, h2⟩ | ⟨g, c', cur, h1, h2, h3, h4, h5⟩
  · subst h2; simp at hk
  · cases h1
    exact ⟨g, rfl, (cell_at h2 k).trans (h5 k hk), h3, h4⟩
theorem KT.block {B0 : Nat} {w w' : World} (hk : KT B0 w w') {b : Nat} {cs : Array Value} {t : TypeId} (h : w.heap[b]? = some (.cells cs t (0, 0))) (ht : t ≠ 30 ∧ t ≠ 46) : w'.heap[b]? = some (.cells cs t (0, 0)) :=
  Fr.heap hk h (fun hF => by rcases hF.2 _ _ h with e | e; exact ht.1 e; exact ht.2 e)
set_option maxRecDepth 100000 in
set_option maxHeartbeats 2000000 in
theorem there1_in (n : Nat) (hn : 7 ≤ n) (l Bc Bp B0 C M N : Nat) (f : Fcts) (u : Int) (pre : ByteArray) (J Jx : List En → World → Prop)
    (hf : FBnd f N) (hN : N ≤ 1000000)
    (hY : ∀ p x W, J p W → p.length < N → YieldAt Fence.wide (n - 1) Try.prog l #[.agg #[.string x.f0, .string x.f1, .int .i64 x.f2, .int .i64 x.f3]] W fun e W' =>
      (e = .returned (.bool true) ∧ J (p ++ [x]) W' ∧ KT B0 W W') ∨ (e = .returned (.bool false) ∧ Jx (p ++ [x]) W'))
    (W : World) (hJ : AbidesFrom W.heap.size J) (hBc : W.heap[Bc]? = some (.cells #[.pointer (some ⟨C, 0, none⟩)] 25 (0, 0))) (hBp : W.heap[Bp]? = some (.cells #[.string pre] 9 (0, 0)))
    (hca : CA W C M f u) (hC : C < B0) (hM : M < B0) (hB0 : B0 ≤ W.heap.size) (h0 : J [] W) :
    CallsIn Fence.wide n Try.prog 71 #[.func (.yield l) #[] #[], .pointer (some ⟨Bc, 0, none⟩), .pointer (some ⟨Bp, 0, none⟩)] W fun e W' => (∃ v, e = .returned v) ∧
      ((∃ ys, (∃ ks, SKeys f ks ∧ ys = entsM f pre ks) ∧ J ys W') ∨ (∃ p, True ∧ Jx p W')) := by
  have hfK : Fence.wide.fn 73 := trivial
  have hfS : Fence.wide.fn 72 := trivial
  have hfB : Fence.wide.fn 50 := trivial
  have h1 : 1 ≤ n := by omega
  have b0 : W.cell? ⟨Bc, 0, none⟩ = some (.pointer (some ⟨C, 0, none⟩)) := cell_at hBc 0
  have c0 : W.cell? ⟨C, 0, none⟩ = some (.map (some M)) := cell_at hca.box 0
  have hJA := Aside.mk hJ
  have hYA := Aside.mk hY
  have hCA := Aside.mk hca
  have hBcA := Aside.mk hBc
  have hBpA := Aside.mk hBp
  clear hJ hY hca hBc hBp
  refine callsIn_of_wp Try.func71 rfl trivial ?_ rfl
  simp only [Try.ntmps71, List.size_toArray, List.length_cons, List.length_nil, Nat.reduceAdd, Nat.reduceSub, Array.replicate_succ, Array.replicate_zero, List.push_toArray, List.append_toArray, List.nil_append, List.cons_append]
  gi_wp2_with (first
    | (gi_at_call 73; refine (keysM_in _ _ _).mono ?_; rintro e w' ⟨rfl, rfl⟩)
    | (gi_at_call 72; refine (sortedK_in _ (by omega) M N f W hCA.out.map hf hN).mono ?_; rintro e w2 ⟨v, ks, rfl, hks, hrow, hlen, hbel⟩; obtain ⟨A, c, rfl⟩ := hrow.slice))
  have hB2 : Below W.heap.size W w2 := ((Below.refl _ W).alloc (Nat.le_refl _) _).trans (hbel.mono (by simp))
  have hJ2 : J [] w2 := hJA.out [] W w2 none h0 (grown_below hB2) (fun r e => by cases e)
  have hc2 := (hB2.block Bc (lt_of_block hBcA.out)).trans hBcA.out
  have hp2 := (hB2.block Bp (lt_of_block hBpA.out)).trans hBpA.out
  have hca2 := hCA.out.below hB2
  have hsz2 : W.heap.size ≤ w2.heap.size := hB2.size
  have H2 := Aside.mk (And.intro hc2 (And.intro hp2 (And.intro hca2 (And.intro hrow hsz2))))
  have HKS := Aside.mk hks
  clear hBcA hBpA hCA hbel hB2 hc2 hp2 hca2 hrow hsz2 b0 c0 hks
  gi_loopw [14] (fun i wr => ∃ k : Nat, k ≤ ks.length ∧ i = .int .i64 k ∧ Aside (J (entsM f pre (ks.take k)) wr ∧ KT B0 w2 wr)) (fun i _ => ks.length - (intOf i).toNat)
  case atStart => exact ⟨0, Nat.zero_le _, rfl, ⟨hJ2, Fr.refl _ _⟩⟩
  case round =>
    obtain ⟨k, hk, rfl, HJ⟩ := hrel
    by_cases hlt : k < ks.length
    · obtain ⟨hbc, hbp, hca, hrow, hsz⟩ := H2.out
      have hkt := HJ.out.2
      have b0 : wr.cell? ⟨Bc, 0, none⟩ = some (.pointer (some ⟨C, 0, none⟩)) := cell_at (hkt.block hbc (by decide)) 0
      have p0 : wr.cell? ⟨Bp, 0, none⟩ = some (.string pre) := cell_at (hkt.block hbp (by decide)) 0
      have hcw := hca.kt hkt hC hM
      have c0 : wr.cell? ⟨C, 0, none⟩ = some (.map (some M)) := cell_at hcw.box 0
      obtain ⟨g, hA, r0, hc1, hc2⟩ := (hrow.kt hkt).get hlt
      subst hA
      obtain ⟨x, hx⟩ : ∃ x, ks[k] = x := ⟨_, rfl⟩
      rw [hx] at r0
      have hl := look_fact hcw x false
      rw [if_neg (by decide)] at hl
      have htk := entsM_take (f := f) (pre := pre) hlt
      rw [hx] at htk
      unfold pickB at htk
      obtain ⟨v, hv⟩ : ∃ v, (f x).getD fctZ = v := ⟨_, rfl⟩
      rw [hv] at hl htk
      obtain ⟨a, th, e⟩ := v
      dsimp only at htk
      replace hl : (Instr.lookup 77 (.map (some M)) (.string x) false).run Try.prog wr = .ok (.agg #[.int .i64 a, .bool th, .string e.key, .string e.val, .int .i64 e.made, .int .i64 e.mod]) wr := hl
      have HK := Aside.mk htk
      have hwr : W.heap.size ≤ wr.heap.size := Nat.le_trans hsz hkt.size
      unfold maxLen at hc2
      have hbw : Bp ≠ wr.heap.size := by have := lt_of_block (hkt.block hbp (by decide)); omega
      have hbl : Bp < wr.heap.size := lt_of_block (hkt.block hbp (by decide))
      clear hbc hbp hca hrow hcw hkt hx hv htk
      cases th with
      | false =>
        gi_wp2_with fail
        refine ⟨fun _ h => (by cases h), ?_⟩
        gi_wp2_with fail
        go_roundw
        case rel => exact ⟨k + 1, by omega, by go_num, ⟨by rw [HK.out]; exact hJA.out _ _ _ none HJ.out.1 (World.grownBy_alloc wr _ none) (fun r e => by cases e), HJ.out.2.trans (KT.new ((Below.refl _ wr).alloc (Nat.le_refl _) _))⟩⟩
        case measure => simp [intOf]; omega
      | true =>
        have HQ : ∀ q, Below wr.heap.size wr ((wr.alloc (Obj.cells #[Value.int IntKind.i64 a, Value.bool true, Value.string e.key, Value.string e.val, Value.int IntKind.i64 e.made, Value.int IntKind.i64 e.mod] 87 (0, 0))).drewN q) := fun q => pw_below_drewN ((Below.refl _ wr).alloc (Nat.le_refl _) _) q
        have HJq : ∀ q, J (entsM f pre (ks.take k)) ((wr.alloc (Obj.cells #[Value.int IntKind.i64 a, Value.bool true, Value.string e.key, Value.string e.val, Value.int IntKind.i64 e.made, Value.int IntKind.i64 e.mod] 87 (0, 0))).drewN q) := fun q => hJA.out _ _ _ none HJ.out.1 (grown_below (HQ q)) (fun r e => by cases e)
        have HKq : ∀ q, KT B0 w2 ((wr.alloc (Obj.cells #[Value.int IntKind.i64 a, Value.bool true, Value.string e.key, Value.string e.val, Value.int IntKind.i64 e.made, Value.int IntKind.i64 e.mod] 87 (0, 0))).drewN q) := fun q => HJ.out.2.trans (KT.new (HQ q))
        have HQ' := Aside.mk HQ
        have HJq' := Aside.mk HJq
        have HKq' := Aside.mk HKq
        clear HQ HJq HKq
        have hbg := fun v => begins_calls x pre v
        have htk := HK.out
        have hlt2 : (entsM f pre (ks.take k)).length < N := by
          have := entsM_len f pre (ks.take k)
          rw [List.length_take] at this
          omega
        cases hb : beginsB x pre with
        | false =>
          rw [hb] at htk hbg
          have HK2 := Aside.mk htk
          clear htk hb hlt2
          gi_wp2_with (gi_at_call 50; refine (callsIn_wide.2 (hbg _)).mono ?_; rintro e w' ⟨rfl, q, rfl⟩)
          refine ⟨fun _ h => (by cases h), ?_⟩
          gi_wp2_with fail
          go_roundw
          case rel => exact ⟨k + 1, by omega, by go_num, ⟨by rw [HK2.out]; exact HJq'.out q, HKq'.out q⟩⟩
          case measure => simp [intOf]; omega
        | true =>
          rw [hb] at htk hbg
          have HK2 := Aside.mk htk
          clear htk hb
          gi_wp2_with (gi_at_call 50; refine (callsIn_wide.2 (hbg _)).mono ?_; rintro e' w' ⟨rfl, q, rfl⟩; obtain ⟨fn, tmps, assign, body, hy, hR⟩ := hYA.out _ (enOf e) _ (HJq'.out q) hlt2; dsimp only [enOf] at hy)
          refine hR.mono ?_
          rintro e2 W3 (⟨rfl, hJ3, hk3⟩ | ⟨rfl, hJx3⟩)
          · gi_wp2_with fail
            go_roundw
            case rel => exact ⟨k + 1, by omega, by go_num, ⟨by rw [HK2.out]; exact hJ3, (HKq'.out q).trans hk3⟩⟩
            case measure => simp [intOf]; omega
          · gi_wp2_with fail
            refine bodyPost_ret (results_none rfl _ _ _) rfl ?_
            exact ⟨⟨_, rfl⟩, .inr ⟨_, trivial, hJx3⟩⟩
    · obtain rfl : k = ks.length := by omega
      gi_wp2_with fail
      go_end0
      exact ⟨⟨_, rfl⟩, .inl ⟨_, ⟨ks, HKS.out, rfl⟩, by simpa using HJ.out.1⟩⟩
theorem there_stops (n : Nat) (hn : 7 ≤ n) (Bc Bp B0 C M N : Nat) (f : Fcts) (u : Int) (pre : ByteArray) (w : World) (hf : FBnd f N) (hN : N ≤ 1000000)
    (hBc : w.heap[Bc]? = some (.cells #[.pointer (some ⟨C, 0, none⟩)] 25 (0, 0))) (hBp : w.heap[Bp]? = some (.cells #[.string pre] 9 (0, 0))) (hca : CA w C M f u) (hC : C < B0) (hM : M < B0) (hB0 : B0 ≤ w.heap.size) :
    SeqStopsK Fence.wide n Try.prog 71 #[.pointer (some ⟨Bc, 0, none⟩), .pointer (some ⟨Bp, 0, none⟩)] (fun x : En => #[Value.agg #[.string x.f0, .string x.f1, .int .i64 x.f2, .int .i64 x.f3]]) (KT B0) (fun ys => ∃ ks, SKeys f ks ∧ ys = entsM f pre ks) (fun _ => True) N w := fun l J Jx W hW hJ hJx hY h0 =>
  there1_in n hn l Bc Bp B0 C M N f u pre J Jx hf hN hY W hJ ((hW.block Bc (lt_of_block hBc)).trans hBc) ((hW.block Bp (lt_of_block hBp)).trans hBp) (hca.below hW) hC hM (Nat.le_trans hB0 hW.size) h0
theorem there_in (n : Nat) (p : Addr) (pre : ByteArray) (w : World) : CallsIn Fence.wide n Try.prog 43 #[.pointer (some p), .string pre] w fun e w' =>
    e = .returned (.func (.func 71) #[] #[.pointer (some ⟨w.heap.size, 0, none⟩), .pointer (some ⟨w.heap.size + 1, 0, none⟩)]) ∧ w' = (w.alloc (.cells #[.pointer (some p)] 25)).alloc (.cells #[.string pre] 9) := by
  refine callsIn_of_wp Try.func43 rfl trivial ?_ rfl
  simp only [Try.ntmps43, List.size_toArray, List.length_cons, List.length_nil, Nat.reduceAdd, Nat.reduceSub, Array.replicate_succ, Array.replicate_zero, List.push_toArray, List.append_toArray, List.nil_append, List.cons_append]
  gi_wp2_with fail
  go_ret
  exact ⟨by simp, rfl⟩
end Go.Proofs.Ytagkobpbhfkmdaa.C
namespace Go.Proofs.Ytagkobpbhfkmdaa.C
open Go.Shelf Go.RowKit Go.ChangeMaps Go.Maps Go.Sort Go.Proofs.Ytagkobpbhfkmdaa.Q Go.Proofs.YtagkobpbhfkmdaaW.PrintLast Go.Proofs.YtagkobpbhfkmdaaW.PrintWords
set_option linter.unusedVariables false
set_option linter.unusedSimpArgs false
attribute [local go_sem] Oper.semAt_some
theorem cell_four_new (W : World) (x y z u : Value) (t : TypeId) : ∀ j v, [x, y, z, u][j]? = some v → (W.alloc (.cells #[x, y, z, u] t)).cell? ((⟨W.heap.size, 0, none⟩ : Addr).add j) = some v := by
  intro j v h
  have hb := World.alloc_heap_new W (.cells #[x, y, z, u] t)
  rcases j with _ | _ | _ | _ | j
  · exact (cell_at hb 0).trans h
  · exact (cell_at hb 1).trans h
  · exact (cell_at hb 2).trans h
  · exact (cell_at hb 3).trans h
  · simp at h
theorem ecells_snoc (l : List En) (x : En) : ecells (l ++ [x]) = ecells l ++ [.string x.f0, .string x.f1, .int .i64 x.f2, .int .i64 x.f3] := by
  unfold ecells
  rw [List.flatMap_append]
  simp
set_option maxRecDepth 100000 in
set_option maxHeartbeats 4000000 in
theorem entries_in (n : Nat) (hn : 10 ≤ n) (C M N : Nat) (f : Fcts) (u : Int) (pre : ByteArray) (w : World) (hca : CA w C M f u) (hf : FBnd f N) (hN : N ≤ 1000000) :
    CallsIn Fence.wide n Try.prog 19 #[.pointer (some ⟨C, 0, none⟩), .string pre] w fun e W' => ∃ v ks, e = .returned v ∧ SKeys f ks ∧ W'.ownsRow w.heap.size 46 4 v (entsM f pre ks).length (ecells (entsM f pre ks)) ∧ Below w.heap.size w W' := by
  have hfT : Fence.wide.fn 43 := trivial
  have h1 : 1 ≤ n := by omega
  have hCl := hca.ltC
  have hMl := hca.ltM
  obtain ⟨i0, hi, hz0, hz1, hz2⟩ := info_parts ent_info
  refine callsIn_of_wp_marks Try.func19 rfl trivial ?_ rfl
  simp only [Try.ntmps19, List.size_toArray, List.length_cons, List.length_nil, Nat.reduceAdd, Nat.reduceSub, Array.replicate_succ, Array.replicate_zero, List.push_toArray, List.append_toArray, List.nil_append, List.cons_append]
  gi_wp2_with (gi_at_call 43; refine (there_in _ _ _ _).mono ?_; rintro e w' ⟨rfl, rfl⟩)
  obtain ⟨w1, hw1⟩ : ∃ w1, ((w.alloc (.cells #[.slice none 0 0] 30)).alloc (.cells #[.pointer (some ⟨C, 0, none⟩)] 25)).alloc (.cells #[.string pre] 9) = w1 := ⟨_, rfl⟩
  have hs1 : w1.heap.size = w.heap.size + 3 := by rw [← hw1]; simp
  have hB1 : Below w.heap.size w w1 := by rw [← hw1]; exact (((Below.refl _ w).alloc (Nat.le_refl _) _).alloc (by simp) _).alloc (by simp; omega) _
  have bO : Boxed w1 w.heap.size 30 (.slice none 0 0) := by rw [← hw1]; exact (((Boxed.new w 30 (.slice none 0 0)).alloc _).alloc _)
  have bc : w1.heap[w.heap.size + 1]? = some (.cells #[.pointer (some ⟨C, 0, none⟩)] 25 (0, 0)) := by
    have := World.alloc_heap_new (w.alloc (.cells #[.slice none 0 0] 30)) (.cells #[.pointer (some ⟨C, 0, none⟩)] 25)
    rw [World.size_alloc] at this
    rw [← hw1]
    exact blk_al this _
  have bp : w1.heap[w.heap.size + 2]? = some (.cells #[.string pre] 9 (0, 0)) := by
    have := World.alloc_heap_new ((w.alloc (.cells #[.slice none 0 0] 30)).alloc (.cells #[.pointer (some ⟨C, 0, none⟩)] 25)) (.cells #[.string pre] 9)
    rw [World.size_alloc, World.size_alloc] at this
    rw [← hw1]
    exact this
  try rw [World.size_alloc]
  rw [hw1]
  refine wpIn_rangeFunc_ownH rfl h1 (gf := 71) (lb := #[.pointer (some ⟨w.heap.size + 1, 0, none⟩), .pointer (some ⟨w.heap.size + 2, 0, none⟩)]) rfl trivial (enters_of Try.func71 (by kernel_rfl) rfl)
    (there_stops (n - 1) (by omega) (w.heap.size + 1) (w.heap.size + 2) w.heap.size C M N f u pre w1 hf hN bc bp (hca.below hB1) hCl hMl hB1.size) KT.trans (KT.put hB1.size) (Below.refl _ _) (fun _ => rfl)
    (fun p W => (∃ v, Boxed W w.heap.size 30 v ∧ W.ownsRow w.heap.size 46 4 v p.length (ecells p) ∧ True) ∧ Below w.heap.size w W)
    (fun _ _ _ => False)
    (OwnFrom.and (Own.from (holdsRow_own w.heap.size w.heap.size 30 46 4 (fun p => p.length) (fun p => ecells p) (fun _ _ => True)) _) (ownFrom_below (Nat.le_refl _) hB1.size))
    (fun _ _ _ _ _ hs _ _ => hs)
    ⟨⟨_, bO, World.ownsRow_nil _ _ _ _, trivial⟩, hB1⟩
    (fun x a' W => ∃ g, w.heap.size < g ∧ W.heap[g]? = some (.cells #[.string x.f0, .string x.f1, .int .i64 x.f2, .int .i64 x.f3] 46 (0, 0)) ∧ a' = { tmps := #[.pointer (some ⟨C, 0, none⟩), .string pre, undef, undef, .slice none 0 0, .pointer (some ⟨w.heap.size, 0, none⟩), .pointer (some ⟨g, 0, none⟩), .pointer (some ⟨C, 0, none⟩), .bool false, .pointer (some ⟨C, 0, none⟩), .string pre, .func (.func 71) #[] #[.pointer (some ⟨w.heap.size + 1, 0, none⟩), .pointer (some ⟨w.heap.size + 2, 0, none⟩)], .agg #[.string x.f0, .string x.f1, .int .i64 x.f2, .int .i64 x.f3], undef, undef, undef, undef, undef], defers := [] }) ?hAx ?assign ?body ?done ?stop
  case hAx =>
    rintro x a' u A B row ⟨g, g1, g2, g3⟩ hg hr
    refine ⟨g, g1, (hg.block g (Array.getElem?_eq_some_iff.1 g2).1 (fun e => ?_)).trans g2, g3⟩
    obtain ⟨_, o, ho, hc⟩ := hr g e.symm
    rw [g2] at ho; cases ho; cases hc
  case assign =>
    rintro l p x W K ⟨⟨v, hv, hrow, _⟩, hB⟩ hK
    gi_wp2
    exact hK _ _ ((KeepsOthers.alloc _ _).from _) (KT.new ((Below.refl _ W).alloc (Nat.le_refl _) _)) ⟨⟨v, hv.alloc _, hrow.alloc _, trivial⟩, hB.alloc hB.size _⟩ ⟨W.heap.size, hv.lt, World.alloc_heap_new W _, rfl⟩
  case body =>
    rintro l p x a' W hl ⟨r, hr⟩ ⟨⟨v, hv, hrow, _⟩, hB⟩ ⟨g, hg, hbl, rfl⟩ hlt
    have hc := hv.cell
    have t0 : W.cell? ⟨g, 0, none⟩ = some (.string x.f0) := cell_at hbl 0
    have t1 : W.cell? ⟨g, 1, none⟩ = some (.string x.f1) := cell_at hbl 1
    have t2 : W.cell? ⟨g, 2, none⟩ = some (.int .i64 x.f2) := cell_at hbl 2
    have t3 : W.cell? ⟨g, 3, none⟩ = some (.int .i64 x.f3) := cell_at hbl 3
    have hown := own_typed hrow
    gi_wp2_with (gi_at_builtin; refine wpListIn_append_own _ rfl _ _ 30 rfl w.heap.size 46 i0 (.agg #[.string (ByteArray.mk #[]), .string (ByteArray.mk #[]), .int .i64 0, .int .i64 0]) 4 48 Try.underlying30 hi hz0 hz1 hz2 rfl (by decide) _ _ _ rfl (hrow.alloc _) ⟨W.heap.size, 0, none⟩ 1 1 [.string x.f0, .string x.f1, .int .i64 x.f2, .int .i64 x.f3] rfl rfl (cell_four_new _ _ _ _ _ _) (by simp [Value.oneCell']) (by unfold maxLen; omega) (by omega) (by have := hB.size; simp; omega) ?_; intro v' w1 hown' hgrow _; obtain ⟨g', cap', rfl⟩ := ownsRow_succ hown'; obtain ⟨hv1, hv2, hr2, hk2, hb2⟩ := hv.appended (by decide) hrow hB.size (Nat.le_refl _) hown' hgrow; have hc1 := hv1.cell; have hf1 := hv1.frozen)
    refine ⟨hk2.from _, ?_, ⟨_, hv2, by simpa [ecells_snoc] using hr2, trivial⟩, hB.trans hb2⟩
    refine ((KT.new ((Below.refl _ W).alloc (Nat.le_refl _) _)).trans (Fr.of_grown hgrow (fun k ek => ?_))).trans ((Fr.refl _ _).setCell (.inl ⟨Nat.le_refl _, fun cs t ht => ?_⟩) _)
    · refine ⟨own_base hrow k ek, fun cs t ht => ?_⟩
      obtain ⟨cells, hcc⟩ := own_typed (World.ownsRow.alloc hrow _) k ek
      rw [hcc] at ht
      cases ht
      exact .inr rfl
    · have hb := hv1
      unfold Boxed at hb
      rw [hb] at ht
      cases ht
      exact .inl rfl
  case done =>
    rintro D ys W hD ⟨ks, hks, rfl⟩ ⟨⟨v, hv, hrow, _⟩, hB⟩ hK
    have hc := hv.cell
    gi_wp2
    refine ⟨by simp, .inl ⟨_, _, rfl, run_takeDeferred hK, ?_⟩⟩
    exact ⟨_, results_tmp rfl _ _ _, v, ks, rfl, hks, ownsRow_putObj hrow _ hK rfl, hB.trans (belowK_b (w := w) (Nat.le_refl _) W D _ _ (by rw [hs1] at hD; omega) hK rfl rfl)⟩
  case stop =>
    rintro D c p W _ _ h _
    exact h.elim
theorem ecells_reps (B : Nat) (W : World) (ok : Nat → Prop) : ∀ l : List En, Reps (k46.M W B ok) 4 l (ecells l)
  | [] => Reps.none _ _
  | x :: l => Reps.c4 (k46_mkM W B ok x) (ecells_reps B W ok l)
theorem entries_calls (C M N : Nat) (f : Fcts) (u : Int) (pre : ByteArray) (w : World) (hca : CA w C M f u) (hf : FBnd f N) (hN : N ≤ 1000000) :
    Calls Try.prog 19 #[.pointer (some ⟨C, 0, none⟩), .string pre] w fun e w' => ∃ A c ks, e = .returned (.slice A (entsM f pre ks).length c) ∧ SKeys f ks ∧ (entsM f pre ks).length ≤ c ∧ (entsM f pre ks).length ≤ N ∧ k46.C w' A (entsM f pre ks).length (entsM f pre ks) ∧ Below w.heap.size w w' := by
  refine ((callsIn_wide (n := 10)).1 (entries_in 10 (by omega) C M N f u pre w hca hf hN)).mono ?_
  rintro e w' ⟨v, ks, rfl, hks, hrow, hb⟩
  have hR : k46.R 46 w' w.heap.size (fun _ => True) v (entsM f pre ks) := ⟨fun _ _ => trivial, ecells (entsM f pre ks), hrow, ecells_reps _ _ _ _⟩
  obtain ⟨A, c, rfl, hc, hC⟩ := Kd.R_reads hR
  exact ⟨A, c, ks, rfl, hks, hc, Nat.le_trans (entsM_len _ _ _) (hf.skeys hks), hC, hb⟩
end Go.Proofs.Ytagkobpbhfkmdaa.C
/-! from LP -/
namespace Go.Proofs.Ytagkobpbhfkmdaa.C
open Go.RowKit Go.Proofs.Ytagkobpbhfkmdaa.Q Go.Proofs.YtagkobpbhfkmdaaW.PrintLast Go.Proofs.YtagkobpbhfkmdaaW.PrintWords
set_option linter.unusedVariables false
/-- The facts' keys; an entry that is there bears its key. -/
def FK (f : Fcts) (L : List ByteArray) : Prop := ∀ k v, f k = some v → k ∈ L ∧ (v.there = true → v.x.key = k)
theorem FK.mono {f : Fcts} {L L' : List ByteArray} (h : FK f L) (hs : ∀ k ∈ L, k ∈ L') : FK f L' := fun k v hk => ⟨hs k (h k v hk).1, (h k v hk).2⟩
theorem FK.upd {f : Fcts} {L : List ByteArray} (h : FK f L) {k : ByteArray} {v : Fct} (hk : k ∈ L) (hv : v.there = true → v.x.key = k) : FK (upd f k (some v)) L := fun k2 v2 h2 => by
  by_cases e : k2 = k
  · subst e; rw [upd_same] at h2; cases h2; exact ⟨hk, hv⟩
  · rw [upd_other _ _ e] at h2; exact h k2 v2 h2
theorem ltB_trans {a b c : ByteArray} (h : ltB a b) (k : ltB b c) : ltB a c := List.lt_trans h k
theorem ltB_irrefl (a : ByteArray) : ¬ ltB a a := List.lt_irrefl _
/-- Rising lists of the same members are the same. -/
theorem rising_eq : ∀ {l m : List ByteArray}, l.Pairwise ltB → m.Pairwise ltB → (∀ k, k ∈ l ↔ k ∈ m) → l = m
  | [], [], _, _, _ => rfl
  | [], y :: m, _, _, h => absurd ((h y).2 (by simp)) (by simp)
  | x :: l, [], _, _, h => absurd ((h x).1 (by simp)) (by simp)
  | x :: l, y :: m, hl, hm, h => by
    obtain ⟨hl1, hl2⟩ := List.pairwise_cons.1 hl
    obtain ⟨hm1, hm2⟩ := List.pairwise_cons.1 hm
    have hxy : x = y := by
      rcases List.mem_cons.1 ((h x).1 (by simp)) with e | hx
      · exact e
      · rcases List.mem_cons.1 ((h y).2 (by simp)) with e | hy
        · exact e.symm
        · exact absurd (ltB_trans (hl1 y hy) (hm1 x hx)) (ltB_irrefl x)
    subst hxy
    congr 1
    refine rising_eq hl2 hm2 (fun k => ?_)
    have hk := h k
    simp only [List.mem_cons] at hk
    constructor
    · intro hkl
      rcases hk.1 (.inr hkl) with e | hkm
      · subst e; exact absurd (hl1 k hkl) (ltB_irrefl k)
      · exact hkm
    · intro hkm
      rcases hk.2 (.inr hkm) with e | hkl
      · subst e; exact absurd (hm1 k hkm) (ltB_irrefl k)
      · exact hkl
theorem entries_l0 (l : List En) (hl : l.length ≤ 1000000000) : ∀ (d i : Nat), i + d = l.length → ∀ k, d < k → batonref12_Entries.l0 k l l (i : Int) = some true := by
  intro d
  induction d with
  | zero =>
    intro i hi k hk
    obtain ⟨k, rfl⟩ : ∃ k', k = k' + 1 := ⟨k - 1, by omega⟩
    unfold batonref12_Entries.l0
    rw [if_neg (by omega)]
  | succ d ih =>
    intro i hi k hk
    obtain ⟨k, rfl⟩ : ∃ k', k = k' + 1 := ⟨k - 1, by omega⟩
    unfold batonref12_Entries.l0
    rw [if_pos (by omega), if_pos (by omega), if_pos (by omega), if_neg (by simp), w64 (by omega)]
    exact ih (i + 1) (by omega) k (by omega)
theorem entries_refl (l : List En) (hl : l.length ≤ 1000000000) : batonref12_Entries.f (l.length + 1) l l = some true := by
  unfold batonref12_Entries.f
  rw [if_pos rfl]
  exact entries_l0 l hl l.length 0 (by omega) _ (by omega)
end Go.Proofs.Ytagkobpbhfkmdaa.C
