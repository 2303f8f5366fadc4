/- The examples of layer 16: awake is true. -/
import Derived.Test.YtjefeoohfalcaaaT0
namespace Go.Proofs.Ytjefeoohfalcaaa.C
open Go.RowKit Go.Proofs.YtjefeoohfalcaaaW.PrintWords
set_option linter.unusedVariables false
set_option linter.unusedSimpArgs false
set_option maxHeartbeats 1000000 in
set_option maxRecDepth 100000 in
theorem at_is (C b c : Nat) (now : Int) (sk : List Int) (node want : Int) (w : World) (h : CRep 80 w C b c now sk) (v : Bool) (hv : (noneI sk.length node == 0 && atI now sk node == want) = v) : Calls Try.prog 16 #[.pointer (some ⟨C, 0, none⟩), .int .i64 node, .int .i64 want] w fun e w' => e = .returned (.bool v) ∧ w = w' := by
  have H := Aside.mk h
  clear h
  obtain ⟨a, ha⟩ : ∃ a, atI now sk node = a := ⟨_, rfl⟩
  obtain ⟨q, hq⟩ : ∃ q, noneI sk.length node = q := ⟨_, rfl⟩
  have HA := Aside.mk ha
  have HQ := Aside.mk hq
  rw [ha, hq] at hv
  have HV := Aside.mk hv
  clear ha hq hv
  by_cases h0 : q = 0
  · subst h0
    go_enter Try.func16, Try.ntmps16
    go_wp2_with fail
    refine (cat_calls C b c now sk node w H.out).mono ?_
    rintro e w2 ⟨rfl, rfl⟩
    rw [HA.out, HQ.out]
    go_wp2_with fail
    go_ret
    exact ⟨by rw [← HV.out]; simp, rfl⟩
  · have hb : (q == 0) = false := by rw [beq_eq_false_iff_ne]; exact h0
    clear h0
    go_enter Try.func16, Try.ntmps16
    go_wp2_with fail
    refine (cat_calls C b c now sk node w H.out).mono ?_
    rintro e w2 ⟨rfl, rfl⟩
    rw [HA.out, HQ.out]
    go_wp2_with fail
    go_ret
    exact ⟨by rw [← HV.out, hb]; simp, rfl⟩
theorem pass_is {C b c : Nat} {now : Int} {sk : List Int} {w : World} (h : CRep 80 w C b c now sk) (n v now' : Int) (h1 : passI now n = v) (h2 : passed now n = now') : Calls Try.prog 13 #[.pointer (some ⟨C, 0, none⟩), .int .i64 n] w fun e w' => e = .returned (.int .i64 v) ∧ CRep 80 w' C b c now' sk ∧ Fr (fun k => k = C) w w' := by
  subst h1; subst h2
  exact cpass_calls C b c now n sk w h
theorem skew_is {C b c : Nat} {now : Int} {sk : List Int} {w : World} (h : CRep 80 w C b c now sk) (node n v : Int) (sk' : List Int) (h1 : skewI sk.length node n = v) (h2 : skewed sk node n = sk') : Calls Try.prog 12 #[.pointer (some ⟨C, 0, none⟩), .int .i64 node, .int .i64 n] w fun e w' => e = .returned (.int .i64 v) ∧ CRep 80 w' C b c now sk' ∧ Fr (fun k => k = b) w w' := by
  subst h1; subst h2
  exact cskew_calls C b c now node n sk w h
theorem worst_is {C b c : Nat} {now : Int} {sk : List Int} {w : World} (h : CRep 80 w C b c now sk) (v : Int) (h1 : worstI now sk = v) : Calls Try.prog 17 #[.pointer (some ⟨C, 0, none⟩)] w fun e w' => e = .returned (.int .i64 v) ∧ Fr (fun _ => False) w w' := by
  subst h1
  exact cworst_calls C b c now sk w h
theorem new_is (n : Nat) (hn : n ≤ 16) (sk : List Int) (hs : List.replicate n 0 = sk) (w : World) : Calls Try.prog 10 #[.int .i64 n] w fun e w' => ∃ C b c, e = .returned (.tuple #[.pointer (some ⟨C, 0, none⟩), .int .i64 0]) ∧ CRep 80 w' C b c 0 sk ∧ w.heap.size ≤ C ∧ w.heap.size ≤ b ∧ Below w.heap.size w w' := by
  subst hs
  exact cnew_calls n hn w
/-- A row, and a block, that are none of the timers' own. -/
structure Kp (w : World) (fp : List Nat) (v : Value) (l : List Int) : Prop where
  nums : Nums w 0 v l
  off : ∀ k ∈ fp, some k ≠ v.ownBlock
theorem Kp.of {w w' : World} {fp : List Nat} {v : Value} {l : List Int} (h : Nums w' w.heap.size v l) (hl : ∀ k ∈ fp, k < w.heap.size) : Kp w' fp v l := by
  refine ⟨?_, fun k hk e => ?_⟩
  · obtain ⟨h1, h2⟩ := h
    refine ⟨h1, ?_⟩
    rcases h2 with h2 | ⟨g, cap, cur, hv, hg, r⟩
    · exact .inl h2
    · exact .inr ⟨g, cap, cur, hv, Nat.zero_le _, r⟩
  · have h1 := (World.ownsRow.lt h k e.symm).1
    have h2 := hl k hk
    omega
theorem Kp.step {w w' : World} {fp fp' : List Nat} {v : Value} {l : List Int} (h : Kp w fp v l) (hf : Fr (fun k => k ∈ fp) w w') (hn : ∀ k ∈ fp', k ∈ fp ∨ w.heap.size ≤ k) : Kp w' fp' v l := by
  have hlt := fun g (e : v.ownBlock = some g) => (World.ownsRow.lt h.nums g e).2
  refine ⟨?_, fun k hk e => ?_⟩
  · obtain ⟨h1, h2⟩ := h.nums
    refine ⟨h1, ?_⟩
    rcases h2 with h2 | ⟨g, cap, cur, hv, hg, hh, r⟩
    · exact .inl h2
    · exact .inr ⟨g, cap, cur, hv, hg, hf.heap hh (fun hgf => h.off g hgf (by rw [hv]; rfl)), r⟩
  · rcases hn k hk with h1 | h1
    · exact h.off k h1 e
    · have := hlt k e.symm; omega
theorem Kp.new {w w' : World} {fp : List Nat} {v : Value} {l : List Int} (h : Kp w fp v l) (hb : Below w.heap.size w w') : Kp w' fp v l := h.step (Fr.of_new hb) (fun k hk => .inl hk)
theorem Kp.C {w : World} {fp : List Nat} {A : Option Addr} {n c : Nat} {l : List Int} (h : Kp w fp (.slice A n c) l) : l.length = n ∧ l.length ≤ c ∧ Kd.C (Kd.int .i64) w A l.length l := by
  obtain ⟨A', c', e, h1, h2⟩ := h.nums.C
  cases e
  exact ⟨rfl, h1, h2⟩
structure Bk (w : World) (fp : List Nat) (g : Nat) (o : Obj) : Prop where
  blk : w.heap[g]? = some o
  off : g ∉ fp
theorem Bk.step {w w' : World} {fp fp' : List Nat} {g : Nat} {o : Obj} (h : Bk w fp g o) (hf : Fr (fun k => k ∈ fp) w w') (hn : ∀ k ∈ fp', k ∈ fp ∨ w.heap.size ≤ k) : Bk w' fp' g o := ⟨hf.heap h.blk h.off, fun hg => by
  rcases hn g hg with h1 | h1
  · exact h.off h1
  · have := lt_of_block h.blk; omega⟩
theorem Bk.new {w w' : World} {fp : List Nat} {g : Nat} {o : Obj} (h : Bk w fp g o) (hb : Below w.heap.size w w') : Bk w' fp g o := h.step (Fr.of_new hb) (fun k hk => .inl hk)
theorem new_alloc (w : World) (o : Obj) : Below w.heap.size w (w.alloc o) := (Below.refl _ _).alloc (Nat.le_refl _) _
theorem set_is {T : Nat} {S : List (Int × Int)} {fp : List Nat} {w0 w : World} (h : TS w T S fp) (id v : Int) (S' : List (Int × Int)) (hl : S.length ≤ 1000000) (hB : Below w0.heap.size w0 w) (hP : ∀ k ∈ fp, w0.heap.size ≤ k) (he : setS S id v = S') : Calls Try.prog 28 #[.pointer (some ⟨T, 0, none⟩), .int .i64 id, .int .i64 v] w fun e w' => e = .returned (.tuple #[]) ∧ ∃ fp', TS w' T S' fp' ∧ (∀ k ∈ fp', w0.heap.size ≤ k) ∧ Below w0.heap.size w0 w' ∧ (∀ k ∈ fp', k ∈ fp ∨ w.heap.size ≤ k) ∧ Fr (fun k => k ∈ fp) w w' := by
  subst he
  refine (ts_set T S fp id v w (by omega) h).mono fun e w' ⟨h1, fp', h2, h3, h4⟩ => ⟨h1, fp', h2, fun k hk => ?_, hB.trans (h4.below hB.size hP), h3, h4⟩
  rcases h3 k hk with h5 | h5
  · exact hP k h5
  · have := hB.size; omega
theorem due_is {T : Nat} {S : List (Int × Int)} {fp : List Nat} {w0 w : World} (h : TS w T S fp) (now : Int) (l : List Int) (S' : List (Int × Int)) (hl : S.length ≤ 1000000) (hB : Below w0.heap.size w0 w) (hP : ∀ k ∈ fp, w0.heap.size ≤ k) (h1 : (dueS S now).map (·.1) = l) (h2 : restS S now = S') : Calls Try.prog 30 #[.pointer (some ⟨T, 0, none⟩), .int .i64 now] w fun e w' => ∃ v, e = .returned v ∧ Nums w' w.heap.size v l ∧ TS w' T S' fp ∧ Below w0.heap.size w0 w' ∧ Fr (fun k => k ∈ fp) w w' := by
  subst h1; subst h2
  exact (ts_due T S fp now w (by omega) h).mono fun e w' ⟨v, h1, h2, h3, h4⟩ => ⟨v, h1, h2, h3, hB.trans (h4.below hB.size hP), h4⟩
theorem next_is {T : Nat} {S : List (Int × Int)} {fp : List Nat} {w : World} (h : TS w T S fp) (x : Int × Int) (v : Bool) (h1 : headOf S = x) (h2 : S.isEmpty = !v) : Calls Try.prog 33 #[.pointer (some ⟨T, 0, none⟩)] w fun e w' => e = .returned (.tuple #[.agg #[.int .i64 x.1, .int .i64 x.2], .bool v]) ∧ Below w.heap.size w w' := by
  subst h1
  have := ts_next T S fp w h
  rw [h2, Bool.not_not] at this
  exact this
theorem numbers_is (A0 A1 : Option Addr) (c0 c1 n0 n1 : Nat) (l0 l1 : List Int) (w : World) (hb : l0.length ≤ 1000000000) (h0 : Kd.C (Kd.int .i64) w A0 l0.length l0) (h1 : Kd.C (Kd.int .i64) w A1 l1.length l1) (hc0 : l0.length ≤ c0) (hc1 : l1.length ≤ c1) (v : Bool) (hv : decide (l0 = l1) = v) (e0 : l0.length = n0) (e1 : l1.length = n1) :
    Calls Try.prog 32 #[.slice A0 n0 c0, .slice A1 n1 c1] w fun e w' => e = .returned (.bool v) ∧ Below w.heap.size w w' := by
  subst hv; subst e0; subst e1
  exact numbers_calls A0 A1 c0 c1 l0 l1 w hb h0 h1 hc0 hc1
theorem block_C (l : List Int) (hl : l.length ≤ 1000) (w : World) (g : Nat) (T : TypeId) (cs : Array Value) (hb : w.heap[g]? = some (.cells cs T (0, 0))) (hc : cs = (l.map (Value.int .i64)).toArray) : Kd.C (Kd.int .i64) w (some ⟨g, 0, none⟩) l.length l := by
  subst hc
  refine ⟨rfl, by omega, fun _ => ⟨_, rfl, fun j p hj => ⟨[.int .i64 p], rfl, rfl, fun i u hu => ?_⟩⟩⟩
  cases i with
  | succ i => simp at hu
  | zero =>
    simp only [List.getElem?_cons_zero, Option.some.injEq] at hu
    subst hu
    have h := cell_at hb (0 + (j * 1 + 0))
    have e : (Addr.add ⟨g, 0, none⟩ (j * (Kd.int .i64).sz + 0)) = ⟨g, 0 + (j * 1 + 0), none⟩ := by simp [Addr.add, Kd.int, Kd.scalar]; exact fun h => h.symm
    rw [e, h]
    simp [hj]
set_option maxHeartbeats 2000000 in
set_option maxRecDepth 100000 in
theorem aw_true (w : World) : Calls Try.prog 11 #[] w fun e w' => e = .returned (.bool true) ∧ Below w.heap.size w w' := by
  go_enter Try.func11, Try.ntmps11
  go_wp2_with fail
  refine (new_is 2 (by decide) [0, 0] rfl w).mono ?_
  rintro e w1 ⟨C, b, c, rfl, hC, h1, h2, hb⟩
  have HC := Aside.mk hC
  have HB := Aside.mk hb
  have HN := Aside.mk (And.intro h1 h2)
  clear hC h1 h2 hb
  go_wp2_with fail
  refine (pass_is HC.out 10 0 10 (by decide) (by decide)).mono ?_
  rintro e w2 ⟨rfl, hC, hF⟩
  have HC := Aside.mk hC
  have HB := Aside.mk (HB.out.trans (hF.below HB.out.size (fun k e => by rw [e]; exact HN.out.1)))
  clear hC hF
  go_wp2_with fail
  refine (skew_is HC.out 1 (-3) 0 [0, -3] (by decide) (by decide)).mono ?_
  rintro e w3 ⟨rfl, hC, hF⟩
  have HC := Aside.mk hC
  have HB := Aside.mk (HB.out.trans (hF.below HB.out.size (fun k e => by rw [e]; exact HN.out.2)))
  clear hC hF
  go_wp2_with fail
  refine (at_is C b c 10 [0, -3] 0 10 _ HC.out true (by decide)).mono ?_
  rintro e w4 ⟨rfl, rfl⟩
  go_wp2_with fail
  refine (at_is C b c 10 [0, -3] 1 7 _ HC.out true (by decide)).mono ?_
  rintro e w4 ⟨rfl, rfl⟩
  go_wp2_with fail
  refine (skew_is HC.out 1 (-20) 0 [0, -20] (by decide) (by decide)).mono ?_
  rintro e w4 ⟨rfl, hC, hF⟩
  have HC := Aside.mk hC
  have HB := Aside.mk (HB.out.trans (hF.below HB.out.size (fun k e => by rw [e]; exact HN.out.2)))
  clear hC hF
  go_wp2_with fail
  refine (at_is C b c 10 [0, -20] 1 0 _ HC.out true (by decide)).mono ?_
  rintro e w5 ⟨rfl, rfl⟩
  go_wp2_with fail
  refine (worst_is HC.out 10 (by decide)).mono ?_
  rintro e w5 ⟨rfl, hF⟩
  have HB := Aside.mk (HB.out.trans (hF.below HB.out.size (fun k e => e.elim)))
  clear hF HC HN
  go_wp2_with fail
  have HZ := Aside.mk HB.out.size
  have HT := Aside.mk (TS.new w5)
  have HB := Aside.mk (HB.out.trans (((Below.refl _ w5).alloc HB.out.size (.cells #[.slice none 0 0, .map none] 68 (0, 0)))))
  have HP : Aside (∀ k ∈ [w5.heap.size], w.heap.size ≤ k) := ⟨fun k hk => by rw [List.mem_singleton.1 hk]; exact HZ.out⟩
  refine (set_is HT.out 5 30 [(5, 30)] (by decide) HB.out HP.out (by decide)).mono ?_
  rintro e w6 ⟨rfl, fp6, hT, hP, hb, hq, hf⟩
  have HT := Aside.mk hT
  have HP := Aside.mk hP
  have HB := Aside.mk hb
  clear hT hP hb hq hf
  go_wp2_with fail
  refine (set_is HT.out 2 20 [(2, 20), (5, 30)] (by decide) HB.out HP.out (by decide)).mono ?_
  rintro e w7 ⟨rfl, fp7, hT, hP, hb, hq, hf⟩
  have HT := Aside.mk hT
  have HP := Aside.mk hP
  have HB := Aside.mk hb
  clear hT hP hb hq hf
  go_wp2_with fail
  refine (set_is HT.out 9 20 [(2, 20), (9, 20), (5, 30)] (by decide) HB.out HP.out (by decide)).mono ?_
  rintro e w8 ⟨rfl, fp8, hT, hP, hb, hq, hf⟩
  have HT := Aside.mk hT
  have HP := Aside.mk hP
  have HB := Aside.mk hb
  clear hT hP hb hq hf
  go_wp2_with fail
  refine (next_is HT.out (2, 20) true rfl rfl).mono ?_
  rintro e w9 ⟨rfl, hb⟩
  have HT := Aside.mk (HT.out.fr (Fr.of_new (F := fun _ => False) hb) (fun _ _ f => f))
  have HB := Aside.mk (HB.out.trans (hb.mono HB.out.size))
  clear hb
  go_wp2_with fail
  have hn := HT.out.lt
  have BX : Aside (Bk (w9.alloc (.cells #[.int .i64 2, .int .i64 20] 57 (0, 0))) fp8 w9.heap.size (.cells #[.int .i64 2, .int .i64 20] 57 (0, 0))) := ⟨heap_alloc_new _ _, fun h => by have := hn _ h; omega⟩
  clear hn
  have HT := Aside.mk (HT.out.fr (Fr.of_new (F := fun _ => False) (new_alloc w9 (.cells #[.int .i64 2, .int .i64 20] 57 (0, 0)))) (fun _ _ f => f))
  have HB := Aside.mk (HB.out.alloc HB.out.size (.cells #[.int .i64 2, .int .i64 20] 57 (0, 0)))
  refine (due_is HT.out 20 [2, 9] [(5, 30)] (by decide) HB.out HP.out (by decide) (by decide)).mono ?_
  rintro e w10 ⟨va, rfl, hN, hT, hb, hf⟩
  have KA := Aside.mk (Kp.of hN HT.out.lt)
  have BX := Aside.mk (BX.out.step hf (fun k hk => .inl hk))
  have HT := Aside.mk hT
  have HB := Aside.mk hb
  clear hN hT hb hf
  obtain ⟨Ava, cva, rfl, hcva, hCva⟩ := KA.out.nums.C
  have Cva := Aside.mk hcva
  clear hcva hCva
  go_wp2_with fail
  refine (set_is HT.out 5 40 [(5, 40)] (by decide) HB.out HP.out (by decide)).mono ?_
  rintro e w11 ⟨rfl, fp11, hT, hP, hb, hq, hf⟩
  have BX := Aside.mk (BX.out.step hf hq)
  have KA := Aside.mk (KA.out.step hf hq)
  have HT := Aside.mk hT
  have HP := Aside.mk hP
  have HB := Aside.mk hb
  clear hT hP hb hq hf
  go_wp2_with fail
  refine (due_is HT.out 39 [] [(5, 40)] (by decide) HB.out HP.out (by decide) (by decide)).mono ?_
  rintro e w12 ⟨vb, rfl, hN, hT, hb, hf⟩
  have KB := Aside.mk (Kp.of hN HT.out.lt)
  have BX := Aside.mk (BX.out.step hf (fun k hk => .inl hk))
  have KA := Aside.mk (KA.out.step hf (fun k hk => .inl hk))
  have HT := Aside.mk hT
  have HB := Aside.mk hb
  clear hN hT hb hf
  obtain ⟨Avb, cvb, rfl, hcvb, hCvb⟩ := KB.out.nums.C
  have Cvb := Aside.mk hcvb
  clear hcvb hCvb
  go_wp2_with fail
  refine (due_is HT.out 40 [5] [] (by decide) HB.out HP.out (by decide) (by decide)).mono ?_
  rintro e w13 ⟨vd, rfl, hN, hT, hb, hf⟩
  have KD := Aside.mk (Kp.of hN HT.out.lt)
  have BX := Aside.mk (BX.out.step hf (fun k hk => .inl hk))
  have KA := Aside.mk (KA.out.step hf (fun k hk => .inl hk))
  have KB := Aside.mk (KB.out.step hf (fun k hk => .inl hk))
  have HT := Aside.mk hT
  have HB := Aside.mk hb
  clear hN hT hb hf
  obtain ⟨Avd, cvd, rfl, hcvd, hCvd⟩ := KD.out.nums.C
  have Cvd := Aside.mk hcvd
  clear hcvd hCvd
  have x0 : w13.cell? ⟨w9.heap.size, 0, none⟩ = some (.int .i64 2) := cell_at BX.out.blk 0
  have x1 : w13.cell? ⟨w9.heap.size, 1, none⟩ = some (.int .i64 20) := cell_at BX.out.blk 1
  go_wp2_with fail
  have CC := Aside.mk (KA.out.new (new_alloc _ (.cells #[.int .i64 2, .int .i64 9] 2 (0, 0)))).C
  refine (numbers_is _ _ _ _ _ _ [2, 9] [2, 9] _ (by decide) CC.out.2.2 (block_C [2, 9] (by decide) _ _ _ _ (heap_alloc_new _ _) rfl) CC.out.2.1 (by decide) true (by decide) CC.out.1 rfl).mono ?_
  rintro e w14 ⟨rfl, hb⟩
  have KA := Aside.mk ((KA.out.new (new_alloc _ (.cells #[.int .i64 2, .int .i64 9] 2 (0, 0)))).new hb)
  have KB := Aside.mk ((KB.out.new (new_alloc _ (.cells #[.int .i64 2, .int .i64 9] 2 (0, 0)))).new hb)
  have KD := Aside.mk ((KD.out.new (new_alloc _ (.cells #[.int .i64 2, .int .i64 9] 2 (0, 0)))).new hb)
  have HT := Aside.mk ((HT.out.fr (Fr.of_new (F := fun _ => False) (new_alloc _ (.cells #[.int .i64 2, .int .i64 9] 2 (0, 0)))) (fun _ _ f => f)).fr (Fr.of_new (F := fun _ => False) hb) (fun _ _ f => f))
  have HB := Aside.mk ((HB.out.alloc HB.out.size (.cells #[.int .i64 2, .int .i64 9] 2 (0, 0))).trans (hb.mono (HB.out.alloc HB.out.size _).size))
  clear hb CC
  go_wp2_with fail
  have CC := Aside.mk (KD.out.new (new_alloc _ (.cells #[.int .i64 5] 2 (0, 0)))).C
  refine (numbers_is _ _ _ _ _ _ [5] [5] _ (by decide) CC.out.2.2 (block_C [5] (by decide) _ _ _ _ (heap_alloc_new _ _) rfl) CC.out.2.1 (by decide) true (by decide) CC.out.1 rfl).mono ?_
  rintro e w15 ⟨rfl, hb⟩
  have KA := Aside.mk ((KA.out.new (new_alloc _ (.cells #[.int .i64 5] 2 (0, 0)))).new hb)
  have KB := Aside.mk ((KB.out.new (new_alloc _ (.cells #[.int .i64 5] 2 (0, 0)))).new hb)
  have KD := Aside.mk ((KD.out.new (new_alloc _ (.cells #[.int .i64 5] 2 (0, 0)))).new hb)
  have HT := Aside.mk ((HT.out.fr (Fr.of_new (F := fun _ => False) (new_alloc _ (.cells #[.int .i64 5] 2 (0, 0)))) (fun _ _ f => f)).fr (Fr.of_new (F := fun _ => False) hb) (fun _ _ f => f))
  have HB := Aside.mk ((HB.out.alloc HB.out.size (.cells #[.int .i64 5] 2 (0, 0))).trans (hb.mono (HB.out.alloc HB.out.size _).size))
  clear hb CC
  go_wp2_with fail
  refine (ts_len w5.heap.size [] _ w15 HT.out).mono ?_
  rintro e w16 ⟨rfl, rfl⟩
  go_wp2_with fail
  go_ret
  exact ⟨rfl, HB.out⟩
end Go.Proofs.Ytjefeoohfalcaaa.C
