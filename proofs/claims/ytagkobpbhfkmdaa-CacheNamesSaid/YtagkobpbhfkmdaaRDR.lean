/- bits.Reader: New, good, take, Err, Left, Varint, Raw, Byte, Text. -/
import Derived.Test.YtagkobpbhfkmdaaUV
namespace Go.Proofs.Ytagkobpbhfkmdaa.C
open Go.RowKit Go.Proofs.Ytagkobpbhfkmdaa.Q Go.Proofs.YtagkobpbhfkmdaaW.PrintLast Go.Proofs.YtagkobpbhfkmdaaW.PrintWords
set_option linter.unusedVariables false
set_option linter.unusedSimpArgs false
/-- A reader: its bytes, how many were taken, its error. -/
structure Rdr where
  s : ByteArray
  p : Nat
  e : Int
structure RD (w : World) (g : Nat) (r : Rdr) : Prop where
  box : w.heap[g]? = some (.cells #[.string r.s, .int .i64 r.p, .int .i64 r.e] 148 (0, 0))
  le : r.p ≤ r.s.size
  few : r.s.size ≤ 140737488355328
theorem RD.keep {w w' : World} {g : Nat} {r : Rdr} (h : RD w g r) (e : w'.heap[g]? = w.heap[g]?) : RD w' g r := ⟨e.trans h.box, h.le, h.few⟩
def rVar (r : Rdr) (most : Nat) : Nat × Rdr :=
  if r.e = 0 then (if (uvar r.s r.p).2.2 = 0 then (if most < (uvar r.s r.p).1 then (0, ⟨r.s, r.p, 40⟩) else ((uvar r.s r.p).1, ⟨r.s, (uvar r.s r.p).2.1, 0⟩)) else (0, ⟨r.s, r.p, (uvar r.s r.p).2.2⟩)) else (0, r)
def rRaw (r : Rdr) (n : Nat) : ByteArray × Rdr :=
  if r.e = 0 then (if r.s.size - r.p < n then (ByteArray.empty, ⟨r.s, r.p, 8⟩) else (r.s.extract r.p (r.p + n), ⟨r.s, r.p + n, r.e⟩)) else (ByteArray.empty, r)
def rByte (r : Rdr) : Nat × Rdr :=
  if r.e = 0 then (if r.s.size - r.p < 1 then (0, ⟨r.s, r.p, 8⟩) else (byteAt r.s r.p, ⟨r.s, r.p + 1, r.e⟩)) else (0, r)
def rText (r : Rdr) (most : Nat) : ByteArray × Rdr :=
  if r.e = 0 then (if (rVar r most).2.e = 0 then (if r.s.size - (rVar r most).2.p < (rVar r most).1 then (ByteArray.empty, ⟨r.s, r.p, 8⟩) else rRaw (rVar r most).2 (rVar r most).1) else (ByteArray.empty, (rVar r most).2)) else (ByteArray.empty, r)
theorem rVar_s (r : Rdr) (most : Nat) : (rVar r most).2.s = r.s := by
  unfold rVar
  repeat' split
  all_goals rfl
theorem rVar_le {r : Rdr} (h : r.p ≤ r.s.size) (most : Nat) : (rVar r most).2.p ≤ r.s.size := by
  have := uvar_bound h
  unfold rVar
  repeat' split
  all_goals first | exact h | exact this.2.1
theorem rVar_lt {r : Rdr} (h : r.p ≤ r.s.size) (most : Nat) : (rVar r most).1 < 2 ^ 64 ∧ (rVar r most).1 ≤ most := by
  have := uvar_bound h
  unfold rVar
  repeat' split
  all_goals first | exact ⟨by show 0 < 2 ^ 64; omega, Nat.zero_le _⟩ | exact ⟨this.1, by omega⟩
theorem rd_at {w : World} {g : Nat} {r : Rdr} (h : RD w g r) : w.cell? ⟨g, 0, none⟩ = some (.string r.s) ∧ w.cell? ⟨g, 1, none⟩ = some (.int .i64 r.p) ∧ w.cell? ⟨g, 2, none⟩ = some (.int .i64 r.e) := ⟨cell_at h.box 0, cell_at h.box 1, cell_at h.box 2⟩
theorem rd_free {w : World} {g : Nat} {r : Rdr} (h : RD w g r) (j : Nat) : w.frozen? ⟨g, j, none⟩ = false := free_at h.box j
theorem rd_set1 {w : World} {g : Nat} {r : Rdr} (h : RD w g r) (p : Nat) (hp : p ≤ r.s.size) : RD (w.setCell ⟨g, 1, none⟩ (.int .i64 p)) g ⟨r.s, p, r.e⟩ := ⟨heap_setCell_eq _ h.box, hp, h.few⟩
theorem rd_set2 {w : World} {g : Nat} {r : Rdr} (h : RD w g r) (e : Int) : RD (w.setCell ⟨g, 2, none⟩ (.int .i64 e)) g ⟨r.s, r.p, e⟩ := ⟨heap_setCell_eq _ h.box, h.le, h.few⟩
def FrG (g : Nat) (w w' : World) : Prop := Fr (fun k => k = g) w w'
set_option maxHeartbeats 1000000 in
set_option maxRecDepth 100000 in
theorem rnew_calls (s : ByteArray) (hs : s.size ≤ 140737488355328) (w : World) : Calls Try.prog 83 #[.string s] w fun e w' => e = .returned (.pointer (some ⟨w.heap.size, 0, none⟩)) ∧ RD w' w.heap.size ⟨s, 0, 0⟩ ∧ Below w.heap.size w w' := by
  go_enter Try.func83, Try.ntmps83
  go_wp2_with fail
  go_ret
  exact ⟨rfl, ⟨by simpa using heap_alloc_new w _, Nat.zero_le _, hs⟩, (Below.refl _ _).alloc (Nat.le_refl _) _⟩
set_option maxHeartbeats 1000000 in
set_option maxRecDepth 100000 in
theorem rgood_calls (g : Nat) (r : Rdr) (w : World) (h : RD w g r) : Calls Try.prog 86 #[.pointer (some ⟨g, 0, none⟩)] w fun e w' => e = .returned (.bool (decide (r.e = 0))) ∧ w = w' := by
  obtain ⟨t0, t1, t2⟩ := rd_at h
  clear h
  go_enter Try.func86, Try.ntmps86
  go_wp2_with fail
  go_ret
  exact ⟨by congr 2 <;> (rw [Bool.eq_iff_iff]; simp), rfl⟩
set_option maxHeartbeats 1000000 in
set_option maxRecDepth 100000 in
theorem rerr_calls (g : Nat) (r : Rdr) (w : World) (h : RD w g r) : Calls Try.prog 84 #[.pointer (some ⟨g, 0, none⟩)] w fun e w' => e = .returned (.int .i64 r.e) ∧ w = w' := by
  obtain ⟨t0, t1, t2⟩ := rd_at h
  clear h
  go_enter Try.func84, Try.ntmps84
  go_wp2_with fail
  go_ret
  exact ⟨rfl, rfl⟩
set_option maxHeartbeats 1000000 in
set_option maxRecDepth 100000 in
theorem rleft_calls (g : Nat) (r : Rdr) (w : World) (h : RD w g r) : Calls Try.prog 85 #[.pointer (some ⟨g, 0, none⟩)] w fun e w' => e = .returned (.int .i64 ((r.s.size - r.p : Nat) : Int)) ∧ ∃ q, w' = w.drewN q := by
  obtain ⟨t0, t1, t2⟩ := rd_at h
  have hl := h.le
  have hf := h.few
  clear h
  go_enter Try.func85, Try.ntmps85
  go_wp2_with fail
  go_quiet (fail)
  go_wp2_with fail
  go_ret
  exact ⟨by rw [show ((r.s.size - r.p : Nat) : Int) = (r.s.size : Int) - (r.p : Int) by omega]; rfl, _, rfl⟩
set_option maxHeartbeats 1000000 in
set_option maxRecDepth 100000 in
theorem rtake_ok (g : Nat) (r : Rdr) (n : Nat) (hn : n ≤ r.s.size) (w : World) (h : RD w g r) : Calls Try.prog 89 #[.pointer (some ⟨g, 0, none⟩), .int .i64 n, .int .i64 0] w fun e w' => e = .returned (.bool true) ∧ RD w' g ⟨r.s, n, r.e⟩ ∧ Fr (fun k => k = g) w w' := by
  obtain ⟨t0, t1, t2⟩ := rd_at h
  have f1 := rd_free h 1
  have HR := Aside.mk (And.intro (rd_set1 h n hn) ((Fr.refl (fun k => k = g) w).setCell (p := ⟨g, 1, none⟩) (.inl rfl) (.int .i64 n)))
  clear h
  go_enter Try.func89, Try.ntmps89
  go_wp2_with fail
  go_ret
  exact ⟨rfl, HR.out.1, HR.out.2⟩
set_option maxHeartbeats 1000000 in
set_option maxRecDepth 100000 in
theorem rtake_no (g : Nat) (r : Rdr) (n : Nat) (er : Int) (he : er ≠ 0) (w : World) (h : RD w g r) : Calls Try.prog 89 #[.pointer (some ⟨g, 0, none⟩), .int .i64 n, .int .i64 er] w fun e w' => e = .returned (.bool false) ∧ RD w' g ⟨r.s, r.p, er⟩ ∧ Fr (fun k => k = g) w w' := by
  obtain ⟨t0, t1, t2⟩ := rd_at h
  have f1 := rd_free h 2
  have HR := Aside.mk (And.intro (rd_set2 h er) ((Fr.refl (fun k => k = g) w).setCell (p := ⟨g, 2, none⟩) (.inl rfl) (.int .i64 er)))
  clear h
  have he' : (er == 0) = false := by rw [beq_eq_false_iff_ne]; exact he
  go_enter Try.func89, Try.ntmps89
  go_wp2_with fail
  go_ret
  exact ⟨rfl, HR.out.1, HR.out.2⟩
set_option maxHeartbeats 2000000 in
set_option maxRecDepth 100000 in
theorem rvar_calls (g : Nat) (r : Rdr) (most : Nat) (w : World) (h : RD w g r) : Calls Try.prog 61 #[.pointer (some ⟨g, 0, none⟩), .int .u64 most] w fun e w' => e = .returned (.int .u64 (rVar r most).1) ∧ RD w' g (rVar r most).2 ∧ Fr (fun k => k = g) w w' := by
  obtain ⟨t0, t1, t2⟩ := rd_at h
  have hl := h.le
  have hf := h.few
  have hb := uvar_bound hl
  have HH := Aside.mk h
  by_cases h0 : r.e = 0
  · obtain ⟨n, m, er, hu⟩ : ∃ n m er, uvar r.s r.p = (n, m, er) := ⟨_, _, _, rfl⟩
    have huv := fun v => (uv_calls r.s r.p v hl hf).mono (fun e w' h => (⟨h.1, h.2.symm⟩ : _ ∧ w' = v))
    have hV : rVar r most = if er = 0 then (if most < n then (0, ⟨r.s, r.p, 40⟩) else (n, ⟨r.s, m, 0⟩)) else (0, ⟨r.s, r.p, er⟩) := by
      unfold rVar
      rw [if_pos h0, hu]
    obtain ⟨X, hX⟩ : ∃ X, rVar r most = X := ⟨_, rfl⟩
    rw [hX] at hV ⊢
    have HV := Aside.mk hV
    clear hX hV
    rw [hu] at hb huv
    obtain ⟨hb1, hb2, hb3⟩ := hb
    dsimp only at hb1 hb2 hb3 huv
    have HU := Aside.mk hu
    clear hu
    have hgood := rgood_calls g r w h
    rw [decide_eq_true h0] at hgood
    have H0 := Aside.mk h0
    clear h h0
    go_enter Try.func61, Try.ntmps61
    go_wp2_with fail
    refine hgood.mono ?_
    rintro e1 w1 ⟨rfl, rfl⟩
    go_upto_region 3 with fail
    go_quiet (exact Calls.quiet_of_same (huv _))
    have hq : RD (w.drewN nq) g r := HH.out.keep rfl
    have FQ : Fr (fun k => k = g) w (w.drewN nq) := (Fr.refl _ w).drewN nq
    by_cases he : er = 0
    · subst he
      by_cases hm : most < n
      · have HX : Aside (X = (0, ⟨r.s, r.p, 40⟩)) := ⟨by rw [HV.out, if_pos rfl, if_pos hm]⟩
        have hmi : (most : Int) < (n : Int) := by omega
        clear HV hm
        go_wp2_with fail
        refine (rtake_no g r m 40 (by decide) _ hq).mono ?_
        rintro e1 w1 ⟨rfl, HR, HF⟩
        have HRF := Aside.mk (And.intro HR (FQ.trans HF (fun _ _ h => h)))
        clear HR HF FQ hq
        go_wp2_with fail
        go_ret
        rw [HX.out]
        exact ⟨rfl, HRF.out.1, HRF.out.2⟩
      · have HX : Aside (X = (n, ⟨r.s, m, 0⟩)) := ⟨by rw [HV.out, if_pos rfl, if_neg hm]⟩
        have hmi : (n : Int) ≤ (most : Int) := by omega
        have HE : Aside (r.e = 0) := H0
        clear HV hm
        go_wp2_with fail
        refine (rtake_ok g r m hb2 _ hq).mono ?_
        rintro e1 w1 ⟨rfl, HR, HF⟩
        rw [HE.out] at HR
        have HRF := Aside.mk (And.intro HR (FQ.trans HF (fun _ _ h => h)))
        clear HR HF FQ hq
        go_wp2_with fail
        go_ret
        rw [HX.out]
        exact ⟨rfl, HRF.out.1, HRF.out.2⟩
    · have HX : Aside (X = (0, ⟨r.s, r.p, er⟩)) := ⟨by rw [HV.out, if_neg he]⟩
      have he' : (er == 0) = false := by rw [beq_eq_false_iff_ne]; exact he
      have HN := Aside.mk he
      clear HV he hb3
      go_wp2_with fail
      refine (rtake_no g r m er HN.out _ hq).mono ?_
      rintro e1 w1 ⟨rfl, HR, HF⟩
      have HRF := Aside.mk (And.intro HR (FQ.trans HF (fun _ _ h => h)))
      clear HR HF FQ hq
      go_wp2_with fail
      go_ret
      rw [HX.out]
      exact ⟨rfl, HRF.out.1, HRF.out.2⟩
  · have hV : rVar r most = (0, r) := by unfold rVar; rw [if_neg h0]
    rw [hV]
    have hgood := rgood_calls g r w h
    rw [decide_eq_false h0] at hgood
    clear hV h0 h hb
    go_enter Try.func61, Try.ntmps61
    go_wp2_with fail
    refine hgood.mono ?_
    rintro e1 w1 ⟨rfl, rfl⟩
    go_wp2_with fail
    go_ret
    exact ⟨rfl, HH.out, Fr.refl _ _⟩
set_option maxHeartbeats 2000000 in
set_option maxRecDepth 100000 in
theorem rraw_calls (g : Nat) (r : Rdr) (n : Nat) (hn : n < 2 ^ 62) (w : World) (h : RD w g r) : Calls Try.prog 87 #[.pointer (some ⟨g, 0, none⟩), .int .i64 n] w fun e w' => e = .returned (.string (rRaw r n).1) ∧ RD w' g (rRaw r n).2 ∧ Fr (fun k => k = g) w w' := by
  obtain ⟨t0, t1, t2⟩ := rd_at h
  have hl := h.le
  have hf := h.few
  have HH := Aside.mk h
  have f1 := rd_free h 1
  have f2 := rd_free h 2
  have hleft := rleft_calls g r w h
  have hgood := rgood_calls g r w h
  by_cases h0 : r.e = 0
  · rw [decide_eq_true h0] at hgood
    by_cases hs : r.s.size - r.p < n
    · have hV : rRaw r n = (ByteArray.empty, ⟨r.s, r.p, 8⟩) := by unfold rRaw; rw [if_pos h0, if_pos hs]
      rw [hV]
      have hsi : ((r.s.size - r.p : Nat) : Int) < (n : Int) := by omega
      have HS := Aside.mk (fun q : Nat => And.intro (rd_set2 (h.keep (w' := w.drewN q) rfl) 8) (((Fr.refl (fun k => k = g) w).drewN q).setCell (p := ⟨g, 2, none⟩) (.inl rfl) (.int .i64 8)))
      generalize r.s.size - r.p = d at *
      clear h hV h0 hs
      go_enter Try.func87, Try.ntmps87
      go_wp2_with fail
      refine hgood.mono ?_
      rintro e1 w1 ⟨rfl, rfl⟩
      go_wp2_with fail
      refine hleft.mono ?_
      rintro e1 w1 ⟨rfl, q, rfl⟩
      go_wp2_with fail
      go_ret
      exact ⟨rfl, (HS.out q).1, (HS.out q).2⟩
    · have hV : rRaw r n = (r.s.extract r.p (r.p + n), ⟨r.s, r.p + n, r.e⟩) := by unfold rRaw; rw [if_pos h0, if_neg hs]
      rw [hV]
      have hsi : (n : Int) ≤ ((r.s.size - r.p : Nat) : Int) := by omega
      have hpn : r.p + n ≤ r.s.size := by omega
      have HS := Aside.mk (fun q : Nat => And.intro (rd_set1 (h.keep (w' := w.drewN q) rfl) (r.p + n) hpn) (((Fr.refl (fun k => k = g) w).drewN q).setCell (p := ⟨g, 1, none⟩) (.inl rfl) (.int .i64 ((r.p + n : Nat) : Int))))
      rw [Int.natCast_add] at HS
      generalize r.s.size - r.p = d at *
      clear h hV h0 hs
      go_enter Try.func87, Try.ntmps87
      go_wp2_with fail
      refine hgood.mono ?_
      rintro e1 w1 ⟨rfl, rfl⟩
      go_wp2_with fail
      refine hleft.mono ?_
      rintro e1 w1 ⟨rfl, q, rfl⟩
      go_upto_region 10 with fail
      go_quiet (fail)
      go_wp2_with fail
      go_ret
      exact ⟨rfl, (HS.out q).1.keep rfl, (HS.out q).2.drewN nq⟩
  · have hV : rRaw r n = (ByteArray.empty, r) := by unfold rRaw; rw [if_neg h0]
    rw [hV]
    rw [decide_eq_false h0] at hgood
    clear hV h0 h
    go_enter Try.func87, Try.ntmps87
    go_wp2_with fail
    refine hgood.mono ?_
    rintro e1 w1 ⟨rfl, rfl⟩
    go_wp2_with fail
    go_ret
    exact ⟨rfl, HH.out, Fr.refl _ _⟩
set_option maxHeartbeats 2000000 in
set_option maxRecDepth 100000 in
theorem rbyte_calls (g : Nat) (r : Rdr) (w : World) (h : RD w g r) : Calls Try.prog 62 #[.pointer (some ⟨g, 0, none⟩)] w fun e w' => e = .returned (.int .u8 (rByte r).1) ∧ RD w' g (rByte r).2 ∧ Fr (fun k => k = g) w w' := by
  have hraw := rraw_calls g r 1 (by decide) w h
  by_cases h0 : r.e = 0
  · by_cases hs : r.s.size - r.p < 1
    · have hV : rByte r = (0, ⟨r.s, r.p, 8⟩) := by unfold rByte; rw [if_pos h0, if_pos hs]
      have hW : rRaw r 1 = (ByteArray.empty, ⟨r.s, r.p, 8⟩) := by unfold rRaw; rw [if_pos h0, if_pos hs]
      rw [hV]
      rw [hW] at hraw
      clear hV hW hs h0 h
      go_enter Try.func62, Try.ntmps62
      go_wp2_with fail
      refine hraw.mono ?_
      rintro e1 w1 ⟨rfl, hr, hf⟩
      have HRF := Aside.mk (And.intro hr hf)
      have hb : (ByteArray.empty == ByteArray.mk #[]) = true := by decide
      clear hr hf
      go_wp2_with fail
      go_ret
      exact ⟨rfl, HRF.out.1, HRF.out.2⟩
    · have hlt : r.p < r.s.size := by omega
      have hV : rByte r = (byteAt r.s r.p, ⟨r.s, r.p + 1, r.e⟩) := by unfold rByte; rw [if_pos h0, if_neg hs]
      have hW : rRaw r 1 = (r.s.extract r.p (r.p + 1), ⟨r.s, r.p + 1, r.e⟩) := by unfold rRaw; rw [if_pos h0, if_neg hs]
      rw [hV]
      rw [hW] at hraw
      obtain ⟨X, hX⟩ : ∃ X, r.s.extract r.p (r.p + 1) = X := ⟨_, rfl⟩
      have hX1 : X.size = 1 := by rw [← hX, ByteArray.size_extract]; omega
      have hXb : byteAt r.s r.p = byteAt X 0 := by
        subst hX
        unfold byteAt
        rw [dif_pos hlt, dif_pos (by omega), ByteArray.getElem_extract]
        rfl
      rw [hX] at hraw
      rw [hXb]
      have hX0 : 0 < X.size := by omega
      obtain ⟨b, hb⟩ : ∃ b : UInt8, X[0] = b := ⟨_, rfl⟩
      have hba : byteAt X 0 = b.toNat := by unfold byteAt; rw [dif_pos hX0, hb]
      rw [hba]
      have hbe : X.toList.isEmpty = false := by
        rw [ByteArray.toList_eq]
        cases hd : X.data.toList with
        | nil =>
          rw [show X.size = X.data.toList.length from rfl, hd] at hX1
          exact absurd hX1 (by decide)
        | cons _ _ => rfl
      clear hV hW hs h0 h hX hXb hba
      go_enter Try.func62, Try.ntmps62
      go_wp2_with fail
      refine hraw.mono ?_
      rintro e1 w1 ⟨rfl, hr, hf⟩
      have HRF := Aside.mk (And.intro hr hf)
      clear hr hf
      go_wp2_with fail
      go_ret
      exact ⟨rfl, HRF.out.1, HRF.out.2⟩
  · have hV : rByte r = (0, r) := by unfold rByte; rw [if_neg h0]
    have hW : rRaw r 1 = (ByteArray.empty, r) := by unfold rRaw; rw [if_neg h0]
    rw [hV]
    rw [hW] at hraw
    clear hV hW h0 h
    go_enter Try.func62, Try.ntmps62
    go_wp2_with fail
    refine hraw.mono ?_
    rintro e1 w1 ⟨rfl, hr, hf⟩
    have HRF := Aside.mk (And.intro hr hf)
    have hb : (ByteArray.empty == ByteArray.mk #[]) = true := by decide
    clear hr hf
    go_wp2_with fail
    go_ret
    exact ⟨rfl, HRF.out.1, HRF.out.2⟩
set_option maxHeartbeats 2000000 in
set_option maxRecDepth 100000 in
theorem rtext_calls (g : Nat) (r : Rdr) (most : Nat) (hm : most ≤ 2147483648) (w : World) (h : RD w g r) : Calls Try.prog 60 #[.pointer (some ⟨g, 0, none⟩), .int .i64 most] w fun e w' => e = .returned (.string (rText r most).1) ∧ RD w' g (rText r most).2 ∧ Fr (fun k => k = g) w w' := by
  obtain ⟨t0, t1, t2⟩ := rd_at h
  have HH := Aside.mk h
  have hgood := rgood_calls g r w h
  have hvar := rvar_calls g r most w h
  by_cases h0 : r.e = 0
  · rw [decide_eq_true h0] at hgood
    obtain ⟨⟨n, r2⟩, hV⟩ : ∃ V, rVar r most = V := ⟨_, rfl⟩
    have hVs : r2.s = r.s := by have := rVar_s r most; rw [hV] at this; exact this
    have hVl := rVar_lt h.le most
    rw [hV] at hVl hvar
    dsimp only at hVl hvar
    have hT : rText r most = (if r2.e = 0 then (if r.s.size - r2.p < n then (ByteArray.empty, ⟨r.s, r.p, 8⟩) else rRaw r2 n) else (ByteArray.empty, r2)) := by unfold rText; rw [if_pos h0, hV]
    obtain ⟨X, hX⟩ : ∃ X, rText r most = X := ⟨_, rfl⟩
    rw [hX] at hT ⊢
    have HT := Aside.mk hT
    have HV := Aside.mk (And.intro hVs hVl)
    have hmx : decide ((most : Int) < 0) = false := by simp
    have hwm : IntKind.u64.wrap (most : Int) = most := u64_wrap_nat _ (by omega)
    have hml : (most : Int) ≤ 2147483648 := by omega
    clear hX hT h h0 hVs hVl hV hm
    go_enter Try.func60, Try.ntmps60
    go_wp2_with fail
    refine hgood.mono ?_
    rintro e1 w1 ⟨rfl, rfl⟩
    go_wp2_with fail
    refine hvar.mono ?_
    rintro e1 w1 ⟨rfl, hr2, hf2⟩
    obtain ⟨s0, s1, s2⟩ := rd_at hr2
    have HR2 := Aside.mk (And.intro hr2 hf2)
    have g1 := rd_free hr2 1
    have g2 := rd_free hr2 2
    have hleft := rleft_calls g r2 w1 hr2
    rw [HV.out.1] at hleft
    clear hr2 hf2
    by_cases h2 : r2.e = 0
    · have h2b : (r2.e == 0) = true := by rw [h2]; rfl
      obtain ⟨d, hd⟩ : ∃ d, r.s.size - r2.p = d := ⟨_, rfl⟩
      have hwd : IntKind.u64.wrap (d : Int) = d := u64_wrap_nat _ (by have := HH.out.few; omega)
      rw [hd] at hleft
      rw [hd] at HT
      have HD := Aside.mk hd
      have H2 := Aside.mk h2
      have HL := Aside.mk HH.out.le
      clear hd h2
      by_cases hdn : d < n
      · have HX : Aside (X = (ByteArray.empty, ⟨r.s, r.p, 8⟩)) := ⟨by rw [HT.out, if_pos H2.out, if_pos hdn]⟩
        clear HT
        go_wp2_with fail
        refine hleft.mono ?_
        rintro e1 w2 ⟨rfl, q, rfl⟩
        go_wp2_with fail
        go_ret
        have hz := rd_set1 (rd_set2 (HR2.out.1.keep (w' := w1.drewN q) rfl) 8) r.p (by show r.p ≤ r2.s.size; rw [HV.out.1]; exact HL.out)
        dsimp only at hz
        rw [HV.out.1] at hz
        rw [HX.out]
        exact ⟨rfl, hz, (((HR2.out.2.drewN q).setCell (p := ⟨g, 2, none⟩) (.inl rfl) _).setCell (p := ⟨g, 1, none⟩) (.inl rfl) _)⟩
      · have HX : Aside (X = rRaw r2 n) := ⟨by rw [HT.out, if_pos H2.out, if_neg hdn]⟩
        have hraw := fun q => rraw_calls g r2 n (by have := HV.out.2.2; omega) (w1.drewN q) (HR2.out.1.keep rfl)
        have hni : IntKind.i64.wrap (n : Int) = n := by have := HV.out.2.2; simp [IntKind.wrap, IntKind.bits, IntKind.signed]; omega
        clear HT
        go_wp2_with fail
        refine hleft.mono ?_
        rintro e1 w2 ⟨rfl, q, rfl⟩
        go_wp2_with fail
        refine (hraw _).mono ?_
        rintro e1 w2 ⟨rfl, hr3, hf3⟩
        have HRF := Aside.mk (And.intro hr3 ((HR2.out.2.drewN q).trans hf3 (fun _ _ h => h)))
        clear hr3 hf3
        go_wp2_with fail
        go_ret
        rw [HX.out]
        exact ⟨rfl, HRF.out.1, HRF.out.2⟩
    · have h2b : (r2.e == 0) = false := by rw [beq_eq_false_iff_ne]; exact h2
      have HX : Aside (X = (ByteArray.empty, r2)) := ⟨by rw [HT.out, if_neg h2]⟩
      have H2 := Aside.mk h2
      clear HT h2
      go_wp2_with fail
      go_ret
      rw [HX.out]
      exact ⟨rfl, HR2.out.1, HR2.out.2⟩
  · have hV : rText r most = (ByteArray.empty, r) := by unfold rText; rw [if_neg h0]
    rw [hV]
    rw [decide_eq_false h0] at hgood
    clear hV h0 h hvar
    go_enter Try.func60, Try.ntmps60
    go_wp2_with fail
    refine hgood.mono ?_
    rintro e1 w1 ⟨rfl, rfl⟩
    go_wp2_with fail
    go_ret
    exact ⟨rfl, HH.out, Fr.refl _ _⟩
end Go.Proofs.Ytagkobpbhfkmdaa.C
