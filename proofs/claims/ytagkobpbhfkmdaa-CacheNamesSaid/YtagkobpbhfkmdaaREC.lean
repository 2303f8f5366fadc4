/- Records: Decode, DecodeTenant. -/
import Derived.Test.YtagkobpbhfkmdaaRDR
import Derived.Test.YtagkobpbhfkmdaaKN
import Derived.Handy
namespace Go.Proofs.Ytagkobpbhfkmdaa.C
open Go.RowKit Go.Proofs.Ytagkobpbhfkmdaa.Q Go.Proofs.YtagkobpbhfkmdaaW.PrintLast Go.Proofs.YtagkobpbhfkmdaaW.PrintWords
set_option linter.unusedVariables false
set_option linter.unusedSimpArgs false
structure Rec where
  rep : ByteArray
  ep : Int
  tm : Int
  gone : Bool
def recC (r : Rec) : Array Value := #[.string r.rep, .int .i64 r.ep, .int .i64 r.tm, .bool r.gone]
/-- What is taken, and its last byte. -/
def rdRec (r : Rdr) : (Rec × Nat) × Rdr :=
  (((⟨(rText r 24).1, ((rVar (rText r 24).2 1099511627776).1 : Int), ((rVar (rVar (rText r 24).2 1099511627776).2 1125899906842624).1 : Int), decide ((rByte (rVar (rVar (rText r 24).2 1099511627776).2 1125899906842624).2).1 = 1)⟩ : Rec), (rByte (rVar (rVar (rText r 24).2 1099511627776).2 1125899906842624).2).1), (rByte (rVar (rVar (rText r 24).2 1099511627776).2 1125899906842624).2).2)
set_option maxHeartbeats 2000000 in
set_option maxRecDepth 100000 in
theorem dec2_calls (g G : Nat) (r : Rdr) (x : Int) (w : World) (h : RD w g r) (hG : w.heap[G]? = some (.cells #[.int .u8 x] 5 (0, 0))) : Calls Try.prog 59 #[.pointer (some ⟨g, 0, none⟩), .pointer (some ⟨G, 0, none⟩)] w fun e w' => e = .returned (.agg (recC (rdRec r).1.1)) ∧ RD w' g (rdRec r).2 ∧ w'.heap[G]? = some (.cells #[.int .u8 (rdRec r).1.2] 5 (0, 0)) ∧ Fr (fun k => k = g ∨ k = G) w w' := by
  have hgG : g ≠ G := fun e => by
    have := h.box
    rw [e, hG] at this
    have := (Obj.cells.injEq _ _ _ _ _ _).mp (Option.some.inj this)
    exact absurd this.2.1 (by decide)
  have hl0 := lt_of_block h.box
  have hl1 := lt_of_block hG
  obtain ⟨⟨X1, r1⟩, e1⟩ : ∃ X, rText r 24 = X := ⟨_, rfl⟩
  obtain ⟨⟨n2, r2⟩, e2⟩ : ∃ X, rVar r1 1099511627776 = X := ⟨_, rfl⟩
  obtain ⟨⟨n3, r3⟩, e3⟩ : ∃ X, rVar r2 1125899906842624 = X := ⟨_, rfl⟩
  obtain ⟨⟨n4, r4⟩, e4⟩ : ∃ X, rByte r3 = X := ⟨_, rfl⟩
  have hD : rdRec r = ((⟨X1, n2, n3, decide (n4 = 1)⟩, n4), r4) := by unfold rdRec; rw [e1]; dsimp only; rw [e2]; dsimp only; rw [e3]; dsimp only; rw [e4]
  rw [hD]
  have C1 := fun v hv => rtext_calls g r 24 (by decide) v hv
  have C2 := fun v hv => rvar_calls g r1 1099511627776 v hv
  have C3 := fun v hv => rvar_calls g r2 1125899906842624 v hv
  have C4 := fun v hv => rbyte_calls g r3 v hv
  rw [e1] at C1
  rw [e2] at C2
  rw [e3] at C3
  rw [e4] at C4
  have L2 : ∀ v, RD v g r1 → n2 ≤ 1099511627776 := fun v hv => by have := (rVar_lt hv.le 1099511627776).2; rw [e2] at this; exact this
  have L3 : ∀ v, RD v g r2 → n3 ≤ 1125899906842624 := fun v hv => by have := (rVar_lt hv.le 1125899906842624).2; rw [e3] at this; exact this
  have HC := Aside.mk (And.intro C1 (And.intro C2 (And.intro C3 (And.intro C4 (And.intro L2 L3)))))
  have HH := Aside.mk (And.intro h (And.intro hG hgG))
  clear C1 C2 C3 C4 L2 L3 e1 e2 e3 e4 hD h hG
  go_enter Try.func59, Try.ntmps59
  go_wp2_with fail
  refine (HC.out.1 _ ⟨blk_al HH.out.1.box _, HH.out.1.le, HH.out.1.few⟩).mono ?_
  rintro e1 w1 ⟨rfl, hr1, hf1⟩
  have H1 := Aside.mk (And.intro hr1 hf1)
  clear hr1 hf1
  go_wp2_with fail
  refine (HC.out.2.1 _ H1.out.1).mono ?_
  rintro e1 w2 ⟨rfl, hr2, hf2⟩
  have hn2 : IntKind.i64.wrap (n2 : Int) = n2 := i64_wrap_nat _ (by have := HC.out.2.2.2.2.1 _ H1.out.1; omega)
  have H2 := Aside.mk (And.intro hr2 (H1.out.2.trans hf2 (fun _ _ h => h)))
  clear hr2 hf2
  go_wp2_with fail
  refine (HC.out.2.2.1 _ H2.out.1).mono ?_
  rintro e1 w3 ⟨rfl, hr3, hf3⟩
  have hn3 : IntKind.i64.wrap (n3 : Int) = n3 := i64_wrap_nat _ (by have := HC.out.2.2.2.2.2 _ H2.out.1; omega)
  have H3 := Aside.mk (And.intro hr3 (H2.out.2.trans hf3 (fun _ _ h => h)))
  clear hr3 hf3 H1 H2
  go_wp2_with fail
  have hG4 : (w3.alloc (Obj.cells #[Value.string X1, Value.int IntKind.i64 n2, Value.int IntKind.i64 n3, Value.bool false] 35 (0, 0))).heap[G]? = some (.cells #[.int .u8 x] 5 (0, 0)) := blk_al (H3.out.2.heap (blk_al HH.out.2.1 _) (fun e => HH.out.2.2 e.symm)) _
  have h5 : (w3.alloc (Obj.cells #[Value.string X1, Value.int IntKind.i64 n2, Value.int IntKind.i64 n3, Value.bool false] 35 (0, 0))).heap[w3.heap.size]? = some (.cells #[Value.string X1, Value.int IntKind.i64 n2, Value.int IntKind.i64 n3, Value.bool false] 35 (0, 0)) := heap_alloc_new _ _
  have hs3 : w.heap.size + 1 ≤ w3.heap.size := by have := H3.out.2.size; simpa using this
  have h6 : (w3.alloc (Obj.cells #[Value.string X1, Value.int IntKind.i64 n2, Value.int IntKind.i64 n3, Value.bool false] 35 (0, 0))).heap[w.heap.size]? = some (.cells #[Value.string (ByteArray.mk #[]), Value.int IntKind.i64 0, Value.int IntKind.i64 0, Value.bool false] 35 (0, 0)) := blk_al (H3.out.2.heap (by simpa using heap_alloc_new w (Obj.cells #[Value.string (ByteArray.mk #[]), Value.int IntKind.i64 0, Value.int IntKind.i64 0, Value.bool false] 35 (0, 0))) (fun e => by omega)) _
  have HF3 := Aside.mk (And.intro (((((Fr.refl (fun k => k = g) w).alloc _).trans H3.out.2 (fun _ _ h => h)).alloc (Obj.cells #[Value.string X1, Value.int IntKind.i64 n2, Value.int IntKind.i64 n3, Value.bool false] 35 (0, 0)))) (And.intro hG4 (And.intro h5 h6)))
  clear hG4 h5 h6
  refine (HC.out.2.2.2.1 _ ⟨blk_al H3.out.1.box _, H3.out.1.le, H3.out.1.few⟩).mono ?_
  generalize (w3.alloc (Obj.cells #[Value.string X1, Value.int IntKind.i64 n2, Value.int IntKind.i64 n3, Value.bool false] 35 (0, 0))) = w4 at *
  rintro e1 w5 ⟨rfl, hr5, hf5⟩
  have hG5 := hf5.heap HF3.out.2.1 (fun e => HH.out.2.2 e.symm)
  have h55 := hf5.heap HF3.out.2.2.1 (fun e => by omega)
  have h56 := hf5.heap HF3.out.2.2.2 (fun e => by omega)
  obtain ⟨b5, hb5⟩ : ∃ b5, w3.heap.size = b5 := ⟨_, rfl⟩
  obtain ⟨b0, hb0⟩ : ∃ b0, w.heap.size = b0 := ⟨_, rfl⟩
  rw [hb5] at h55
  rw [hb0] at h56
  have hne1 : b5 ≠ G := by omega
  have hne2 : b0 ≠ G := by omega
  have hne3 : b0 ≠ b5 := by omega
  have hne4 : b5 ≠ g := by omega
  have hne5 : b0 ≠ g := by omega
  have HF5 := Aside.mk (And.intro (HF3.out.1.trans hf5 (fun _ _ h => h)) (And.intro hr5 (And.intro hG5 (And.intro h55 h56))))
  have t1 := cell_at hG5 0
  have t2 := cell_at h55 3
  have u1 := cell_at h55 0
  have u2 := cell_at h55 1
  have u3 := cell_at h55 2
  have f0 := free_at hG5 0
  have f1 := free_at h55 3
  have y0 := cell_at h56 0
  have y1 := cell_at h56 1
  have y2 := cell_at h56 2
  have y3 := cell_at h56 3
  have v0 := free_at h56 0
  have v1 := free_at h56 1
  have v2 := free_at h56 2
  have v3 := free_at h56 3
  clear hG5 h55 h56 hr5 hf5 HF3 HH HC H3
  go_wp2_with fail
  refine at_world (fun W hW => ?_)
  have hw0 : W.heap[b0]? = some (.cells #[Value.string X1, Value.int IntKind.i64 n2, Value.int IntKind.i64 n3, Value.bool ((n4 : Int) == 1)] 35 (0, 0)) := by
    rw [hW]
    exact set4 (by rw [Below.heap_setCell _ _ _ _ hne3, Below.heap_setCell _ _ _ _ hne2]; exact HF5.out.2.2.2.2) _ _ _ _
  have z0 := cell_at hw0 0
  have z1 := cell_at hw0 1
  have z2 := cell_at hw0 2
  have z3 := cell_at hw0 3
  refine bodyPost_ret (by simp [results, Try.results59, go_sem, z0, z1, z2, z3]; try rfl) rfl ?_
  subst hW
  have hdec : ((n4 : Int) == 1) = decide (n4 = 1) := by rw [Bool.eq_iff_iff]; simp; omega
  rw [hdec]
  refine ⟨rfl, HF5.out.2.1.keep ?_, ?_, ?_⟩
  · rw [Below.heap_setCell _ _ _ _ (show g ≠ b0 by omega), Below.heap_setCell _ _ _ _ (show g ≠ b0 by omega), Below.heap_setCell _ _ _ _ (show g ≠ b0 by omega), Below.heap_setCell _ _ _ _ (show g ≠ b0 by omega), Below.heap_setCell _ _ _ _ (show g ≠ b5 by omega), Below.heap_setCell _ _ _ _ hgG]
  · rw [Below.heap_setCell _ _ _ _ (show G ≠ b0 by omega), Below.heap_setCell _ _ _ _ (show G ≠ b0 by omega), Below.heap_setCell _ _ _ _ (show G ≠ b0 by omega), Below.heap_setCell _ _ _ _ (show G ≠ b0 by omega), Below.heap_setCell _ _ _ _ (show G ≠ b5 by omega), heap_setCell_eq _ HF5.out.2.2.1]
    rfl
  · have hf := HF5.out.1.mono (G := fun k => k = g ∨ k = G) (fun i h => .inl h)
    exact (((((hf.setCell (p := ⟨G, 0, none⟩) (.inl (.inr rfl)) _).setCell (p := ⟨b5, 3, none⟩) (.inr (by show w.heap.size ≤ b5; omega)) _).setCell (p := ⟨b0, 0, none⟩) (.inr (by show w.heap.size ≤ b0; omega)) _).setCell (p := ⟨b0, 1, none⟩) (.inr (by show w.heap.size ≤ b0; omega)) _).setCell (p := ⟨b0, 2, none⟩) (.inr (by show w.heap.size ≤ b0; omega)) _).setCell (p := ⟨b0, 3, none⟩) (.inr (by show w.heap.size ≤ b0; omega)) _
set_option maxHeartbeats 2000000 in
set_option maxRecDepth 100000 in
theorem dec1_calls (G : Nat) (r : Rec) (hs : r.rep.size ≤ 9000000000000000000) (x : Nat) (w : World) (hG : w.heap[G]? = some (.cells #[.int .u8 x] 5 (0, 0))) : Calls Try.prog 57 #[.agg (recC r), .pointer (some ⟨G, 0, none⟩)] w fun e w' => e = .returned (.bool (decide (x ≤ 1) && mayRecB r.rep r.ep r.tm)) ∧ Below w.heap.size w w' := by
  have t0 : w.cell? ⟨G, 0, none⟩ = some (.int .u8 x) := cell_at hG 0
  have hl0 := lt_of_block hG
  have hne0 : ¬ G = w.heap.size := by omega
  have hm := fun v => record_May.calls (r.rep.size + 6) r.rep r.ep r.tm r.gone _ v (mayRec_is r.rep r.ep r.tm r.gone hs _ (by omega))
  unfold recC
  obtain ⟨m, hm0⟩ : ∃ m, mayRecB r.rep r.ep r.tm = m := ⟨_, rfl⟩
  rw [hm0] at hm ⊢
  obtain ⟨rep, ep, tm, gone⟩ := r
  dsimp only at hm ⊢
  clear hm0 hs hG
  by_cases hx : x ≤ 1
  · have hxi : (x : Int) ≤ 1 := by omega
    rw [decide_eq_true hx, Bool.true_and]
    clear hx
    go_enter Try.func57, Try.ntmps57
    go_wp2_with fail
    refine (hm _).mono ?_
    rintro e1 w1 ⟨rfl, hb⟩
    go_wp2_with fail
    go_ret
    exact ⟨rfl, ((Below.refl _ _).alloc (Nat.le_refl _) _).trans (hb.mono (by simp))⟩
  · have hxi : 1 < (x : Int) := by omega
    rw [decide_eq_false hx, Bool.false_and]
    clear hx
    go_enter Try.func57, Try.ntmps57
    go_wp2_with fail
    go_ret
    exact ⟨rfl, (Below.refl _ _).alloc (Nat.le_refl _) _⟩
set_option maxHeartbeats 2000000 in
set_option maxRecDepth 100000 in
theorem dect1_calls (g : Nat) (r : Rdr) (w : World) (h : RD w g r) : Calls Try.prog 65 #[.pointer (some ⟨g, 0, none⟩)] w fun e w' => e = .returned (.agg #[.int .i64 (rVar r 1048576).1, .int .i64 (rVar (rVar r 1048576).2 1099511627776).1]) ∧ RD w' g (rVar (rVar r 1048576).2 1099511627776).2 ∧ Fr (fun k => k = g) w w' := by
  have hl0 := lt_of_block h.box
  obtain ⟨⟨n1, r1⟩, e1⟩ : ∃ X, rVar r 1048576 = X := ⟨_, rfl⟩
  rw [e1]
  obtain ⟨⟨n2, r2⟩, e2⟩ : ∃ X, rVar r1 1099511627776 = X := ⟨_, rfl⟩
  dsimp only
  rw [e2]
  dsimp only
  have C1 := fun v hv => rvar_calls g r 1048576 v hv
  have C2 := fun v hv => rvar_calls g r1 1099511627776 v hv
  rw [e1] at C1
  rw [e2] at C2
  have L1 : ∀ v, RD v g r → n1 ≤ 1048576 := fun v hv => by have := (rVar_lt hv.le 1048576).2; rw [e1] at this; exact this
  have L2 : ∀ v, RD v g r1 → n2 ≤ 1099511627776 := fun v hv => by have := (rVar_lt hv.le 1099511627776).2; rw [e2] at this; exact this
  have HC := Aside.mk (And.intro C1 (And.intro C2 (And.intro L1 L2)))
  have HH := Aside.mk h
  clear C1 C2 L1 L2 e1 e2 h
  go_enter Try.func65, Try.ntmps65
  go_wp2_with fail
  refine (HC.out.1 _ ⟨blk_al HH.out.box _, HH.out.le, HH.out.few⟩).mono ?_
  rintro e1 w1 ⟨rfl, hr1, hf1⟩
  have hn1 : IntKind.i64.wrap (n1 : Int) = n1 := i64_wrap_nat _ (by have := HC.out.2.2.1 _ HH.out; omega)
  have H1 := Aside.mk (And.intro hr1 hf1)
  clear hr1 hf1
  go_wp2_with fail
  refine (HC.out.2.1 _ H1.out.1).mono ?_
  rintro e1 w2 ⟨rfl, hr2, hf2⟩
  have hn2 : IntKind.i64.wrap (n2 : Int) = n2 := i64_wrap_nat _ (by have := HC.out.2.2.2 _ H1.out.1; omega)
  have hF := H1.out.2.trans hf2 (fun _ _ h => h)
  have hb := hF.heap (heap_alloc_new w (Obj.cells #[Value.int IntKind.i64 0, Value.int IntKind.i64 0] 37 (0, 0))) (fun e => by omega)
  obtain ⟨b0, hb0⟩ : ∃ b0, w.heap.size = b0 := ⟨_, rfl⟩
  rw [hb0] at hb
  have HB := Aside.mk (And.intro hb (And.intro hr2 hF))
  have y0 := cell_at hb 0
  have y1 := cell_at hb 1
  have v0 := free_at hb 0
  have v1 := free_at hb 1
  clear hr2 hf2 H1 hF hb
  go_wp2_with fail
  refine at_world (fun W hW => ?_)
  have hw0 : W.heap[b0]? = some (.cells #[Value.int IntKind.i64 n1, Value.int IntKind.i64 n2] 37 (0, 0)) := by
    rw [hW]
    exact set2 HB.out.1 _ _
  have z0 := cell_at hw0 0
  have z1 := cell_at hw0 1
  refine bodyPost_ret (by simp [results, Try.results65, go_sem, z0, z1]; try rfl) rfl ?_
  subst hW
  refine ⟨rfl, HB.out.2.1.keep ?_, ?_⟩
  · rw [Below.heap_setCell _ _ _ _ (show g ≠ b0 by omega), Below.heap_setCell _ _ _ _ (show g ≠ b0 by omega)]
  · exact ((((Fr.refl (fun k => k = g) w).alloc _).trans HB.out.2.2 (fun _ _ h => h)).setCell (p := ⟨b0, 0, none⟩) (.inr (by show w.heap.size ≤ b0; omega)) _).setCell (p := ⟨b0, 1, none⟩) (.inr (by show w.heap.size ≤ b0; omega)) _
def recZ : Rec := ⟨ByteArray.mk #[], 0, 0, false⟩
/-- A record that is read: itself, and the error. -/
def decRec (s : ByteArray) : Rec × Int :=
  if (rdRec ⟨s, 0, 0⟩).2.e ≠ 0 then (recZ, (rdRec ⟨s, 0, 0⟩).2.e) else if 0 < s.size - (rdRec ⟨s, 0, 0⟩).2.p ∨ ¬ (decide ((rdRec ⟨s, 0, 0⟩).1.2 ≤ 1) && mayRecB (rdRec ⟨s, 0, 0⟩).1.1.rep (rdRec ⟨s, 0, 0⟩).1.1.ep (rdRec ⟨s, 0, 0⟩).1.1.tm) = true then (recZ, 4) else ((rdRec ⟨s, 0, 0⟩).1.1, 0)
theorem rdRec_s (r : Rdr) : (rdRec r).2.s = r.s := by
  have h1 : ∀ r : Rdr, ∀ n, (rRaw r n).2.s = r.s := fun r n => by unfold rRaw; repeat' split
                                                                  all_goals rfl
  have h2 : ∀ r : Rdr, (rByte r).2.s = r.s := fun r => by unfold rByte; repeat' split
                                                          all_goals rfl
  have h3 : ∀ r : Rdr, ∀ n, (rText r n).2.s = r.s := fun r n => by
    unfold rText
    repeat' split
    all_goals first | rfl | exact rVar_s _ _ | (rw [h1]; exact rVar_s _ _)
  unfold rdRec
  dsimp only
  rw [h2, rVar_s, rVar_s, h3]
theorem rText_size (r : Rdr) (n : Nat) (h : r.s.size ≤ 140737488355328) : (rText r n).1.size ≤ 140737488355328 := by
  unfold rText rRaw
  repeat' split
  all_goals first | (simp; done) | (dsimp only; rw [ByteArray.size_extract]; have := rVar_s r n; rw [this]; omega) | exact Nat.zero_le _
set_option maxHeartbeats 4000000 in
set_option maxRecDepth 100000 in
theorem decr_calls (s : ByteArray) (hs : s.size ≤ 140737488355328) (G : Nat) (w : World) (hG : w.heap[G]? = some (.cells #[.int .u8 0] 5 (0, 0))) : Calls Try.prog 56 #[.string s, .func (Fn.func 57) #[] #[.pointer (some ⟨G, 0, none⟩)], .func (Fn.func 59) #[] #[.pointer (some ⟨G, 0, none⟩)]] w fun e w' => e = .returned (.tuple #[.agg (recC (decRec s).1), .int .i64 (decRec s).2]) ∧ Fr (fun k => k = G) w w' := by
  have hl0 := lt_of_block hG
  have hsz : (rdRec ⟨s, 0, 0⟩).1.1.rep.size ≤ 140737488355328 := rText_size ⟨s, 0, 0⟩ 24 hs
  have hss := rdRec_s ⟨s, 0, 0⟩
  have C2 := fun g v (hv : RD v g ⟨s, 0, 0⟩) hGv => dec2_calls g G ⟨s, 0, 0⟩ 0 v hv hGv
  obtain ⟨D, hD⟩ : ∃ D, decRec s = D := ⟨_, rfl⟩
  unfold decRec at hD
  obtain ⟨⟨⟨x, n⟩, r⟩, hX⟩ : ∃ X, rdRec ⟨s, 0, 0⟩ = X := ⟨_, rfl⟩
  rw [hX] at hD C2 hsz hss
  dsimp only at hD C2 hsz hss
  have C2 := fun g v (hv : RD v g ⟨s, 0, 0⟩) hGv => (show Calls _ _ _ _ (fun e w' => e = .returned (.agg #[.string x.rep, .int .i64 x.ep, .int .i64 x.tm, .bool x.gone]) ∧ _) from C2 g v hv hGv)
  have HC := Aside.mk (And.intro C2 (And.intro hsz hss))
  have hDD : decRec s = D := by unfold decRec; rw [hX]; exact hD
  rw [hDD]
  have HD := Aside.mk hD
  have HG := Aside.mk hG
  clear C2 hsz hss hD hX hDD hG
  obtain ⟨b0, hb0⟩ : ∃ b0, w.heap.size = b0 := ⟨_, rfl⟩
  have hA1 : (w.alloc (Obj.cells #[Value.string (ByteArray.mk #[]), Value.int IntKind.i64 0, Value.int IntKind.i64 0, Value.bool false] 35 (0, 0))).heap.size = b0 + 1 := by simp [hb0]
  have hA2 : ((w.alloc (Obj.cells #[Value.string (ByteArray.mk #[]), Value.int IntKind.i64 0, Value.int IntKind.i64 0, Value.bool false] 35 (0, 0))).alloc (Obj.cells #[Value.string (ByteArray.mk #[]), Value.int IntKind.i64 0, Value.int IntKind.i64 0, Value.bool false] 35 (0, 0))).heap.size = b0 + 2 := by simp [hb0]
  have hA3 : ((w.alloc (Obj.cells #[Value.string (ByteArray.mk #[]), Value.int IntKind.i64 0, Value.int IntKind.i64 0, Value.bool false] 35 (0, 0))).alloc (Obj.cells #[Value.string (ByteArray.mk #[]), Value.int IntKind.i64 0, Value.int IntKind.i64 0, Value.bool false] 35 (0, 0))).heap[b0]? = some (Obj.cells #[Value.string (ByteArray.mk #[]), Value.int IntKind.i64 0, Value.int IntKind.i64 0, Value.bool false] 35 (0, 0)) := blk_al (by rw [← hb0]; exact heap_alloc_new w _) _
  have hA4 : ((w.alloc (Obj.cells #[Value.string (ByteArray.mk #[]), Value.int IntKind.i64 0, Value.int IntKind.i64 0, Value.bool false] 35 (0, 0))).alloc (Obj.cells #[Value.string (ByteArray.mk #[]), Value.int IntKind.i64 0, Value.int IntKind.i64 0, Value.bool false] 35 (0, 0))).heap[b0 + 1]? = some (Obj.cells #[Value.string (ByteArray.mk #[]), Value.int IntKind.i64 0, Value.int IntKind.i64 0, Value.bool false] 35 (0, 0)) := by rw [← hA1]; exact heap_alloc_new _ _
  have hA5 := blk_al (blk_al HG.out (Obj.cells #[Value.string (ByteArray.mk #[]), Value.int IntKind.i64 0, Value.int IntKind.i64 0, Value.bool false] 35 (0, 0))) (Obj.cells #[Value.string (ByteArray.mk #[]), Value.int IntKind.i64 0, Value.int IntKind.i64 0, Value.bool false] 35 (0, 0))
  have hA6 := (((Fr.refl (fun k => k = G) w).alloc (Obj.cells #[Value.string (ByteArray.mk #[]), Value.int IntKind.i64 0, Value.int IntKind.i64 0, Value.bool false] 35 (0, 0))).alloc (Obj.cells #[Value.string (ByteArray.mk #[]), Value.int IntKind.i64 0, Value.int IntKind.i64 0, Value.bool false] 35 (0, 0)))
  go_enter Try.func56, Try.ntmps56
  go_wp2_with fail
  refine (rnew_calls s hs _).mono ?_
  generalize ((w.alloc (Obj.cells #[Value.string (ByteArray.mk #[]), Value.int IntKind.i64 0, Value.int IntKind.i64 0, Value.bool false] 35 (0, 0))).alloc (Obj.cells #[Value.string (ByteArray.mk #[]), Value.int IntKind.i64 0, Value.int IntKind.i64 0, Value.bool false] 35 (0, 0))) = wa at *
  rintro e1 w1 ⟨rfl, hr1, hbl1⟩
  have h10 := (hbl1.block _ (by omega)).trans hA3
  have h11 := (hbl1.block _ (by omega)).trans hA4
  have h1G := (hbl1.block _ (by omega)).trans hA5
  have hF1 := hA6.trans (Fr.of_new (F := fun k => k = G) hbl1) (fun _ _ h => h)
  rw [hA2] at hr1
  clear hA3 hA4 hA5 hA6
  go_wp2_with fail
  refine (HC.out.1 _ _ hr1 h1G).mono ?_
  rintro e1 w2 ⟨rfl, hr2, h2G, hF2⟩
  have h20 := hF2.heap h10 (fun e => by omega)
  have h21 := hF2.heap h11 (fun e => by omega)
  have hFF := hF1.then (G := fun k => k = b0 + 2 ∨ k = G) hF2 (fun i h => by rcases h with h | h; exact .inr (by omega); exact .inl h)
  clear h10 h11 h1G hF1 hF2 hr1 hbl1
  have k0 := lt_of_block h20
  have k1 := lt_of_block h21
  have kg := lt_of_block h2G
  have kr := lt_of_block hr2.box
  have hB1 := blk_al h20 (Obj.cells #[Value.string x.rep, Value.int IntKind.i64 x.ep, Value.int IntKind.i64 x.tm, Value.bool x.gone] 35 (0, 0))
  have hB2 := blk_al h21 (Obj.cells #[Value.string x.rep, Value.int IntKind.i64 x.ep, Value.int IntKind.i64 x.tm, Value.bool x.gone] 35 (0, 0))
  have hB3 := blk_al h2G (Obj.cells #[Value.string x.rep, Value.int IntKind.i64 x.ep, Value.int IntKind.i64 x.tm, Value.bool x.gone] 35 (0, 0))
  have hB4 := blk_al hr2.box (Obj.cells #[Value.string x.rep, Value.int IntKind.i64 x.ep, Value.int IntKind.i64 x.tm, Value.bool x.gone] 35 (0, 0))
  have hB5 := heap_alloc_new w2 (Obj.cells #[Value.string x.rep, Value.int IntKind.i64 x.ep, Value.int IntKind.i64 x.tm, Value.bool x.gone] 35 (0, 0))
  have hB6 := hFF.alloc (Obj.cells #[Value.string x.rep, Value.int IntKind.i64 x.ep, Value.int IntKind.i64 x.tm, Value.bool x.gone] 35 (0, 0))
  have hB7 : (w2.alloc (Obj.cells #[Value.string x.rep, Value.int IntKind.i64 x.ep, Value.int IntKind.i64 x.tm, Value.bool x.gone] 35 (0, 0))).heap.size = w2.heap.size + 1 := by simp
  have hB8 : RD (w2.alloc (Obj.cells #[Value.string x.rep, Value.int IntKind.i64 x.ep, Value.int IntKind.i64 x.tm, Value.bool x.gone] 35 (0, 0))) (b0 + 2) r := ⟨hB4, hr2.le, hr2.few⟩
  clear hFF h20 h21 h2G hr2 hB4
  obtain ⟨b3, hb3⟩ : ∃ b3, w2.heap.size = b3 := ⟨_, rfl⟩
  rw [hb3] at k0 k1 kg kr hB5 hB7
  have herr := rerr_calls (b0 + 2) r _ hB8
  have hleft := rleft_calls (b0 + 2) r _ hB8
  have hm := fun q => dec1_calls G x (by have := HC.out.2.1; omega) n ((w2.alloc (Obj.cells #[Value.string x.rep, Value.int IntKind.i64 x.ep, Value.int IntKind.i64 x.tm, Value.bool x.gone] 35 (0, 0))).drewN q) hB3
  go_wp2_with fail
  refine herr.mono ?_
  rintro e1 w3 ⟨rfl, rfl⟩
  generalize (w2.alloc (Obj.cells #[Value.string x.rep, Value.int IntKind.i64 x.ep, Value.int IntKind.i64 x.tm, Value.bool x.gone] 35 (0, 0))) = w3 at *
  have y0 := cell_at hB1 0
  have y1 := cell_at hB1 1
  have y2 := cell_at hB1 2
  have y3 := cell_at hB1 3
  have v0 := free_at hB1 0
  have v1 := free_at hB1 1
  have v2 := free_at hB1 2
  have v3 := free_at hB1 3
  have n0 := cell_at hB2 0
  have n1 := cell_at hB2 1
  have n2 := cell_at hB2 2
  have n3 := cell_at hB2 3
  have x0 := cell_at hB5 0
  have x1 := cell_at hB5 1
  have x2 := cell_at hB5 2
  have x3 := cell_at hB5 3
  by_cases he : r.e = 0
  · have heb : (r.e == 0) = true := by rw [he]; rfl
    by_cases hlf : 0 < r.s.size - r.p
    · have hDv : Aside (D = (recZ, 4)) := ⟨by rw [← HD.out, if_neg (by simp [he]), if_pos (.inl (by rw [← HC.out.2.2]; exact hlf))]⟩
      obtain ⟨d, hd⟩ : ∃ d, r.s.size - r.p = d := ⟨_, rfl⟩
      rw [hd] at hleft hlf
      have hli : 0 < (d : Int) := by omega
      have HZ := Aside.mk hB6
      have HZ1 := Aside.mk hB1
      clear hm HD he hd hB6 hB1
      go_wp2_with fail
      refine hleft.mono ?_
      rintro e1 w4 ⟨rfl, q, rfl⟩
      go_wp2_with fail
      refine at_world (fun W hW => ?_)
      have hw0 : W.heap[b0]? = some (Obj.cells #[Value.string (ByteArray.mk #[]), Value.int IntKind.i64 0, Value.int IntKind.i64 0, Value.bool false] 35 (0, 0)) := by
        rw [hW]
        exact set4 (b := b0) (T := 35) (w := w3.drewN q) HZ1.out _ _ _ _
      have z0 := cell_at hw0 0
      have z1 := cell_at hw0 1
      have z2 := cell_at hw0 2
      have z3 := cell_at hw0 3
      refine bodyPost_ret (by simp [results, Try.results56, go_sem, z0, z1, z2, z3]; try rfl) rfl ?_
      subst hW
      rw [hDv.out]
      exact ⟨rfl, ((((HZ.out.drewN q).setCell (p := ⟨b0, 0, none⟩) (.inr (by show w.heap.size ≤ b0; omega)) _).setCell (p := ⟨b0, 1, none⟩) (.inr (by show w.heap.size ≤ b0; omega)) _).setCell (p := ⟨b0, 2, none⟩) (.inr (by show w.heap.size ≤ b0; omega)) _).setCell (p := ⟨b0, 3, none⟩) (.inr (by show w.heap.size ≤ b0; omega)) _⟩
    · have hl0' : r.s.size - r.p = 0 := by omega
      rw [hl0'] at hleft
      obtain ⟨M, hM⟩ : ∃ M, (decide (n ≤ 1) && mayRecB x.rep x.ep x.tm) = M := ⟨_, rfl⟩
      rw [hM] at hm HD
      have HM := Aside.mk hm
      have hlz : ¬ 0 < s.size - r.p := by rw [← HC.out.2.2]; exact hlf
      have HZ := Aside.mk hB6
      have HZ1 := Aside.mk (And.intro hB1 (And.intro hB2 hB5))
      cases M with
      | true =>
        have hDv : Aside (D = (x, 0)) := ⟨by rw [← HD.out, if_neg (by simp [he]), if_neg (by simp; omega)]⟩
        clear hm HD he hB6 hB1 hB2 hB5 hl0' hM hlf hlz y0 y1 y2 y3 v0 v1 v2 v3 n0 n1 n2 n3
        go_wp2_with fail
        refine hleft.mono ?_
        rintro e1 w4 ⟨rfl, q, rfl⟩
        go_wp2_with fail
        refine (HM.out q).mono ?_
        rintro e1 w5 ⟨rfl, hb5⟩
        have g1 := (hb5.block b0 (by show b0 < w3.heap.size; omega)).trans HZ1.out.1
        have g5 := (hb5.block b3 (by show b3 < w3.heap.size; omega)).trans HZ1.out.2.2
        have hZ5 := (HZ.out.drewN q).trans (Fr.of_new (F := fun k => k = G) hb5) (fun _ _ h => h)
        have HZ5 := Aside.mk hZ5
        have HG5 := Aside.mk g1
        clear hb5 hZ5 x0 x1 x2 x3
        have y0 := cell_at g1 0
        have y1 := cell_at g1 1
        have y2 := cell_at g1 2
        have y3 := cell_at g1 3
        have v0 := free_at g1 0
        have v1 := free_at g1 1
        have v2 := free_at g1 2
        have v3 := free_at g1 3
        have x0 := cell_at g5 0
        have x1 := cell_at g5 1
        have x2 := cell_at g5 2
        have x3 := cell_at g5 3
        clear g1 g5
        go_wp2_with fail
        refine at_world (fun W hW => ?_)
        have hw0 : W.heap[b0]? = some (Obj.cells #[Value.string x.rep, Value.int IntKind.i64 x.ep, Value.int IntKind.i64 x.tm, Value.bool x.gone] 35 (0, 0)) := by
          rw [hW]
          exact set4 (b := b0) (T := 35) HG5.out _ _ _ _
        have z0 := cell_at hw0 0
        have z1 := cell_at hw0 1
        have z2 := cell_at hw0 2
        have z3 := cell_at hw0 3
        refine bodyPost_ret (by simp [results, Try.results56, go_sem, z0, z1, z2, z3]; try rfl) rfl ?_
        subst hW
        rw [hDv.out]
        exact ⟨rfl, (((HZ5.out.setCell (p := ⟨b0, 0, none⟩) (.inr (by show w.heap.size ≤ b0; omega)) _).setCell (p := ⟨b0, 1, none⟩) (.inr (by show w.heap.size ≤ b0; omega)) _).setCell (p := ⟨b0, 2, none⟩) (.inr (by show w.heap.size ≤ b0; omega)) _).setCell (p := ⟨b0, 3, none⟩) (.inr (by show w.heap.size ≤ b0; omega)) _⟩
      | false =>
        have hDv : Aside (D = (recZ, 4)) := ⟨by rw [← HD.out, if_neg (by simp [he]), if_pos (.inr (by simp))]⟩
        clear hm HD he hB6 hB1 hB2 hB5 hl0' hM hlf hlz y0 y1 y2 y3 v0 v1 v2 v3 n0 n1 n2 n3
        go_wp2_with fail
        refine hleft.mono ?_
        rintro e1 w4 ⟨rfl, q, rfl⟩
        go_wp2_with fail
        refine (HM.out q).mono ?_
        rintro e1 w5 ⟨rfl, hb5⟩
        have g1 := (hb5.block b0 (by show b0 < w3.heap.size; omega)).trans HZ1.out.1
        have g2 := (hb5.block (b0 + 1) (by show b0 + 1 < w3.heap.size; omega)).trans HZ1.out.2.1
        have hZ5 := (HZ.out.drewN q).trans (Fr.of_new (F := fun k => k = G) hb5) (fun _ _ h => h)
        have HZ5 := Aside.mk hZ5
        have HG5 := Aside.mk g1
        clear hb5 hZ5 x0 x1 x2 x3
        have y0 := cell_at g1 0
        have y1 := cell_at g1 1
        have y2 := cell_at g1 2
        have y3 := cell_at g1 3
        have v0 := free_at g1 0
        have v1 := free_at g1 1
        have v2 := free_at g1 2
        have v3 := free_at g1 3
        have x0 := cell_at g2 0
        have x1 := cell_at g2 1
        have x2 := cell_at g2 2
        have x3 := cell_at g2 3
        clear g1 g2
        go_wp2_with fail
        refine at_world (fun W hW => ?_)
        have hw0 : W.heap[b0]? = some (Obj.cells #[Value.string (ByteArray.mk #[]), Value.int IntKind.i64 0, Value.int IntKind.i64 0, Value.bool false] 35 (0, 0)) := by
          rw [hW]
          exact set4 (b := b0) (T := 35) HG5.out _ _ _ _
        have z0 := cell_at hw0 0
        have z1 := cell_at hw0 1
        have z2 := cell_at hw0 2
        have z3 := cell_at hw0 3
        refine bodyPost_ret (by simp [results, Try.results56, go_sem, z0, z1, z2, z3]; try rfl) rfl ?_
        subst hW
        rw [hDv.out]
        exact ⟨rfl, (((HZ5.out.setCell (p := ⟨b0, 0, none⟩) (.inr (by show w.heap.size ≤ b0; omega)) _).setCell (p := ⟨b0, 1, none⟩) (.inr (by show w.heap.size ≤ b0; omega)) _).setCell (p := ⟨b0, 2, none⟩) (.inr (by show w.heap.size ≤ b0; omega)) _).setCell (p := ⟨b0, 3, none⟩) (.inr (by show w.heap.size ≤ b0; omega)) _⟩
  · have heb : (r.e == 0) = false := by rw [beq_eq_false_iff_ne]; exact he
    have hDv : Aside (D = (recZ, r.e)) := ⟨by rw [← HD.out, if_pos (by simpa using he)]⟩
    have HZ := Aside.mk hB6
    have HZ1 := Aside.mk hB1
    clear hm HD he hB6 hB1 hleft
    go_wp2_with fail
    refine at_world (fun W hW => ?_)
    have hw0 : W.heap[b0]? = some (Obj.cells #[Value.string (ByteArray.mk #[]), Value.int IntKind.i64 0, Value.int IntKind.i64 0, Value.bool false] 35 (0, 0)) := by
      rw [hW]
      exact set4 (b := b0) (T := 35) HZ1.out _ _ _ _
    have z0 := cell_at hw0 0
    have z1 := cell_at hw0 1
    have z2 := cell_at hw0 2
    have z3 := cell_at hw0 3
    refine bodyPost_ret (by simp [results, Try.results56, go_sem, z0, z1, z2, z3]; try rfl) rfl ?_
    subst hW
    rw [hDv.out]
    exact ⟨rfl, (((HZ.out.setCell (p := ⟨b0, 0, none⟩) (.inr (by show w.heap.size ≤ b0; omega)) _).setCell (p := ⟨b0, 1, none⟩) (.inr (by show w.heap.size ≤ b0; omega)) _).setCell (p := ⟨b0, 2, none⟩) (.inr (by show w.heap.size ≤ b0; omega)) _).setCell (p := ⟨b0, 3, none⟩) (.inr (by show w.heap.size ≤ b0; omega)) _⟩
end Go.Proofs.Ytagkobpbhfkmdaa.C
