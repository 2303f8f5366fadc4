/- Clocks: New, none, Skew, Pass, Now, reading, At. -/
import Derived.Test.YtjefeoohfalcaaaQC
import Derived.WalkLawsBesides
/-! Clocks: New, none, Skew, Pass, Now, reading, At. -/
namespace Go.Proofs.Ytjefeoohfalcaaa.C
open Go.RowKit
set_option linter.unusedVariables false
set_option linter.unusedSimpArgs false
/-- A row of numbers: block b, of capacity c, holds l at its head. -/
structure IRow (w : World) (b c : Nat) (l : List Int) : Prop where
  cur : ∃ cs : Array Value, w.heap[b]? = some (.cells cs 2 (0, 0)) ∧ cs.size = c ∧ cs.toList.take l.length = l.map (Value.int .i64)
  cap : l.length ≤ c
theorem IRow.keep {w w' : World} {b c : Nat} {l : List Int} (h : IRow w b c l) (e : w'.heap[b]? = w.heap[b]?) : IRow w' b c l := by
  obtain ⟨⟨cs, hb, r⟩, h2⟩ := h
  exact ⟨⟨cs, e.trans hb, r⟩, h2⟩
theorem IRow.lt {w : World} {b c : Nat} {l : List Int} (h : IRow w b c l) : b < w.heap.size := by
  obtain ⟨cs, hb, _⟩ := h.cur
  exact lt_of_block hb
theorem IRow.at {w : World} {b c : Nat} {l : List Int} (h : IRow w b c l) {i : Nat} {s : Int} (hs : l[i]? = some s) : w.cell? ⟨b, i, none⟩ = some (.int .i64 s) := by
  obtain ⟨cs, hb, _, ht⟩ := h.cur
  have hi := (List.getElem?_eq_some_iff.1 hs).1
  have h2 : (l.map (Value.int .i64))[i]? = some (.int .i64 s) := by rw [List.getElem?_map, hs]; rfl
  rw [← ht, List.getElem?_take_of_lt hi] at h2
  rw [cell_at hb]
  simpa using h2
theorem IRow.free {w : World} {b c : Nat} {l : List Int} (h : IRow w b c l) (j : Nat) : w.frozen? ⟨b, j, none⟩ = false := by
  obtain ⟨cs, hb, _⟩ := h.cur
  exact free_at hb j
theorem IRow.set {w : World} {b c : Nat} {l : List Int} (h : IRow w b c l) (i : Nat) (v : Int) : IRow (w.setCell ⟨b, i, none⟩ (.int .i64 v)) b c (l.set i v) := by
  obtain ⟨⟨cs, hb, hs, ht⟩, h2⟩ := h
  refine ⟨⟨_, heap_setCell_eq _ hb, by simp [hs], ?_⟩, by simpa using h2⟩
  rw [List.length_set, List.map_set, ← ht]
  simp only [Array.toList_setIfInBounds]
  rw [List.take_set]
theorem IRow.mk' {w : World} {b : Nat} {l : List Int} (h : w.heap[b]? = some (.cells (l.map (Value.int .i64)).toArray 2 (0, 0))) : IRow w b l.length l := ⟨⟨_, h, by simp, by rw [List.take_of_length_le (by simp)]⟩, Nat.le_refl _⟩
/-- A clock (of the program, or of the document: its type tt): block C, its skews in block b. -/
structure CRep (tt : TypeId) (w : World) (C b c : Nat) (now : Int) (sk : List Int) : Prop where
  box : w.heap[C]? = some (.cells #[.int .i64 now, .slice (some ⟨b, 0, none⟩) sk.length c] tt (0, 0))
  row : IRow w b c sk
  tag : tt ≠ 2
  now0 : 0 ≤ now
  now1 : now ≤ 1125899906842624
  few : sk.length ≤ 16
  small : ∀ s ∈ sk, -1073741824 ≤ s ∧ s ≤ 1073741824
theorem CRep.ne {tt : TypeId} {w : World} {C b c : Nat} {now : Int} {sk : List Int} (h : CRep tt w C b c now sk) : C ≠ b := fun e => by
  have h1 := h.box
  obtain ⟨cs, h2, _⟩ := h.row.cur
  rw [e, h2] at h1
  have := (Obj.cells.injEq _ _ _ _ _ _).mp (Option.some.inj h1)
  exact h.tag this.2.1.symm
theorem CRep.keep {tt : TypeId} {w w' : World} {C b c : Nat} {now : Int} {sk : List Int} (h : CRep tt w C b c now sk) (e1 : w'.heap[C]? = w.heap[C]?) (e2 : w'.heap[b]? = w.heap[b]?) : CRep tt w' C b c now sk := ⟨e1.trans h.box, h.row.keep e2, h.tag, h.now0, h.now1, h.few, h.small⟩
theorem CRep.fr {tt : TypeId} {F : Nat → Prop} {w w' : World} {C b c : Nat} {now : Int} {sk : List Int} (h : CRep tt w C b c now sk) (hf : Fr F w w') (h1 : ¬ F C) (h2 : ¬ F b) : CRep tt w' C b c now sk := h.keep (hf.block C (lt_of_block h.box) h1) (hf.block b h.row.lt h2)
theorem CRep.cell0 {tt : TypeId} {w : World} {C b c : Nat} {now : Int} {sk : List Int} (h : CRep tt w C b c now sk) : w.cell? ⟨C, 0, none⟩ = some (.int .i64 now) := cell_at h.box 0
theorem CRep.cell1 {tt : TypeId} {w : World} {C b c : Nat} {now : Int} {sk : List Int} (h : CRep tt w C b c now sk) : w.cell? ⟨C, 1, none⟩ = some (.slice (some ⟨b, 0, none⟩) sk.length c) := cell_at h.box 1
theorem CRep.at {tt : TypeId} {w : World} {C b c : Nat} {now : Int} {sk : List Int} (h : CRep tt w C b c now sk) {i : Nat} {s : Int} (hs : sk[i]? = some s) : w.cell? ⟨b, i, none⟩ = some (.int .i64 s) := h.row.at hs
/-! ### plain -/
def rdg (now s : Int) : Int := min (max (now + s) 0) 1125899906842624
def noneI (n : Nat) (node : Int) : Int := if node < 0 ∨ (n : Int) ≤ node then 5 else 0
def atI (now : Int) (sk : List Int) (node : Int) : Int := if node < 0 ∨ (sk.length : Int) ≤ node then 0 else rdg now (sk.getD node.toNat 0)
def passI (now n : Int) : Int := if n < 0 then 1 else if 1125899906842624 - now < n then 40 else 0
def passed (now n : Int) : Int := if passI now n = 0 then now + n else now
def skewI (k : Nat) (node n : Int) : Int := if node < 0 ∨ (k : Int) ≤ node then 5 else if n < -1073741824 ∨ 1073741824 < n then 1 else 0
def skewed (sk : List Int) (node n : Int) : List Int := if skewI sk.length node n = 0 then sk.set node.toNat n else sk
/-! ### walks -/
theorem made_zeros (n : Nat) : madeCells (Value.int .i64 0).cells (n * 1) = ((List.replicate n 0).map (Value.int .i64)).toArray := by
  apply Array.ext'
  have := toList_madeCells_one (.int .i64 0) (n * 1)
  rw [show (Value.int .i64 0).cells = #[.int .i64 0] from rfl, this]
  simp
theorem ret_int {a b : Int} (h : a = b) : Ending.returned (.int .i64 a) = Ending.returned (.int .i64 b) := by rw [h]
set_option maxHeartbeats 1000000 in
set_option maxRecDepth 100000 in
theorem cnew_calls (n : Nat) (hn : n ≤ 16) (w : World) : Calls Try.prog 10 #[.int .i64 n] w fun e w' => ∃ C b c, e = .returned (.tuple #[.pointer (some ⟨C, 0, none⟩), .int .i64 0]) ∧ CRep 80 w' C b c 0 (List.replicate n 0) ∧ w.heap.size ≤ C ∧ w.heap.size ≤ b ∧ Below w.heap.size w w' := by
  obtain ⟨i0, hi0, hz0, hz1, hz2⟩ := info_parts ids_info
  have hmk : (Instr.makeSlice 42 (.int .i64 n) (.int .i64 n)).run Try.prog w = .ok (.slice (some ⟨w.heap.size, 0, none⟩) n n) (w.alloc (.cells ((List.replicate n 0).map (Value.int .i64)).toArray 2 (0, 0))) := by
    have h := run_makeSlice (P := Try.prog) w 42 2 i0 (.int .i64 0) Try.underlying42 hi0 hz0 .i64 .i64 n n (by omega) (Int.le_refl _) (by rw [hz1]; simp; omega) (by rw [hz2]; simp; omega) (by omega)
    rw [hz1] at h
    simp only [Int.toNat_natCast] at h
    rw [made_zeros] at h
    exact h
  obtain ⟨Z, hZ⟩ : ∃ Z, ((List.replicate n (0 : Int)).map (Value.int .i64)).toArray = Z := ⟨_, rfl⟩
  rw [hZ] at hmk
  have HZ := Aside.mk hZ
  clear hZ hi0 hz0 hz1 hz2
  go_enter Try.func10, Try.ntmps10
  go_wp2_with fail
  go_ret2
  have h1 : ((w.alloc (.cells Z 2 (0, 0))).alloc (.cells #[.int .i64 0, .slice (some ⟨w.heap.size, 0, none⟩) n n] 80 (0, 0))).heap[w.heap.size + 1]? = some (.cells #[.int .i64 0, .slice (some ⟨w.heap.size, 0, none⟩) n n] 80 (0, 0)) := by simpa using heap_alloc_new (w.alloc (.cells Z 2 (0, 0))) (.cells #[.int .i64 0, .slice (some ⟨w.heap.size, 0, none⟩) n n] 80 (0, 0))
  refine ⟨w.heap.size + 1, w.heap.size, n, rfl, ⟨by rw [List.length_replicate]; exact h1, ?_, by decide, by omega, by omega, by rw [List.length_replicate]; exact hn, fun s hs => by rw [List.eq_of_mem_replicate hs]; omega⟩, by omega, by omega, ((Below.refl _ _).alloc (Nat.le_refl _) _).alloc (by simp) _⟩
  have h2 : IRow ((w.alloc (.cells Z 2 (0, 0))).alloc (.cells #[.int .i64 0, .slice (some ⟨w.heap.size, 0, none⟩) n n] 80 (0, 0))) w.heap.size (List.replicate n (0 : Int)).length (List.replicate n 0) := IRow.mk' (by rw [HZ.out]; exact blk_alloc' (heap_alloc_new w _) _)
  rw [List.length_replicate] at h2
  exact h2
set_option maxHeartbeats 1000000 in
set_option maxRecDepth 100000 in
theorem cnew_bad (n : Int) (hn : n < 0 ∨ 16 < n) (w : World) : Calls Try.prog 10 #[.int .i64 n] w fun e w' => e = .returned (.tuple #[.pointer none, .int .i64 1]) ∧ w = w' := by
  by_cases h : n < 0
  · go_enter Try.func10, Try.ntmps10
    go_wp2_with fail
    go_ret2
    exact ⟨rfl, rfl⟩
  · have h1 : 0 ≤ n := by omega
    have h2 : 16 < n := by omega
    clear h hn
    go_enter Try.func10, Try.ntmps10
    go_wp2_with fail
    go_ret2
    exact ⟨rfl, rfl⟩
set_option maxHeartbeats 1000000 in
set_option maxRecDepth 100000 in
theorem cnone_calls (C b c : Nat) (now : Int) (sk : List Int) (node : Int) (w : World) (h : CRep 80 w C b c now sk) : Calls Try.prog 39 #[.pointer (some ⟨C, 0, none⟩), .int .i64 node] w fun e w' => e = .returned (.int .i64 (noneI sk.length node)) ∧ w = w' := by
  have t1 := h.cell1
  have hf := h.few
  unfold noneI
  generalize sk.length = n at *
  clear h
  by_cases h1 : node < 0
  · rw [if_pos (.inl h1)]
    go_enter Try.func39, Try.ntmps39
    go_wp2_with fail
    go_ret
    exact ⟨rfl, rfl⟩
  · by_cases h2 : (n : Int) ≤ node
    · rw [if_pos (.inr h2)]
      have h3 : 0 ≤ node := by omega
      clear h1
      go_enter Try.func39, Try.ntmps39
      go_wp2_with fail
      go_ret
      exact ⟨rfl, rfl⟩
    · rw [if_neg (by omega)]
      have h3 : 0 ≤ node := by omega
      have h4 : node < (n : Int) := by omega
      clear h1 h2
      go_enter Try.func39, Try.ntmps39
      go_wp2_with fail
      go_ret
      exact ⟨rfl, rfl⟩
set_option maxHeartbeats 1000000 in
set_option maxRecDepth 100000 in
theorem creading_calls (C b c : Nat) (now s : Int) (sk : List Int) (w : World) (h : CRep 80 w C b c now sk) (hs : -1073741824 ≤ s ∧ s ≤ 1073741824) : Calls Try.prog 40 #[.pointer (some ⟨C, 0, none⟩), .int .i64 s] w fun e w' => e = .returned (.int .i64 (rdg now s)) ∧ w = w' := by
  have t1 := h.cell0
  have h0 := h.now0
  have h1 := h.now1
  obtain ⟨hs1, hs2⟩ := hs
  clear h
  go_enter Try.func40, Try.ntmps40
  go_wp2_with fail
  all_goals go_ret
  all_goals exact ⟨ret_int (by unfold rdg; omega), rfl⟩
set_option maxHeartbeats 1000000 in
set_option maxRecDepth 100000 in
theorem cat_calls (C b c : Nat) (now : Int) (sk : List Int) (node : Int) (w : World) (h : CRep 80 w C b c now sk) : Calls Try.prog 14 #[.pointer (some ⟨C, 0, none⟩), .int .i64 node] w fun e w' => e = .returned (.tuple #[.int .i64 (atI now sk node), .int .i64 (noneI sk.length node)]) ∧ w = w' := by
  have H := Aside.mk h
  have t1 := h.cell1
  have hf := h.few
  by_cases hb : node < 0 ∨ (sk.length : Int) ≤ node
  · have e1 : noneI sk.length node = 5 := if_pos hb
    have HE : Aside (atI now sk node = 0 ∧ noneI sk.length node = 5) := ⟨if_pos hb, e1⟩
    clear h hb e1
    go_enter Try.func14, Try.ntmps14
    go_wp2_with fail
    refine (cnone_calls C b c now sk node w H.out).mono ?_
    rintro e w2 ⟨rfl, rfl⟩
    rw [HE.out.2]
    go_wp2_with fail
    go_ret2
    exact ⟨by rw [HE.out.1, HE.out.2]; rfl, rfl⟩
  · obtain ⟨i, rfl⟩ : ∃ i : Nat, node = (i : Int) := ⟨node.toNat, by omega⟩
    have hi : i < sk.length := by omega
    have hs : sk[i]? = some sk[i] := List.getElem?_eq_getElem hi
    obtain ⟨s, hse⟩ : ∃ s, sk[i] = s := ⟨_, rfl⟩
    rw [hse] at hs
    have t2 := h.at hs
    have HB := Aside.mk (h.small s (List.mem_of_getElem? hs))
    have HE : Aside (atI now sk i = rdg now s ∧ noneI sk.length i = 0) := ⟨by unfold atI; rw [if_neg hb, Int.toNat_natCast, List.getD_eq_getElem?_getD, hs]; rfl, if_neg hb⟩
    clear h hb hs hse
    generalize hn : sk.length = n at *
    have HN := Aside.mk hn
    clear hn
    go_enter Try.func14, Try.ntmps14
    go_wp2_with fail
    refine (cnone_calls C b c now sk i w H.out).mono ?_
    rintro e w2 ⟨rfl, rfl⟩
    rw [HN.out, HE.out.2]
    go_wp2_with fail
    refine (creading_calls C b c now s sk w H.out HB.out).mono ?_
    rintro e w2 ⟨rfl, rfl⟩
    go_wp2_with fail
    go_ret2
    exact ⟨by rw [HE.out.1, HE.out.2]; rfl, rfl⟩
set_option maxHeartbeats 1000000 in
set_option maxRecDepth 100000 in
theorem cnow_calls (C b c : Nat) (now : Int) (sk : List Int) (w : World) (h : CRep 80 w C b c now sk) : Calls Try.prog 15 #[.pointer (some ⟨C, 0, none⟩)] w fun e w' => e = .returned (.int .i64 now) ∧ w = w' := by
  have t0 := h.cell0
  clear h
  go_enter Try.func15, Try.ntmps15
  go_wp2_with fail
  go_ret
  exact ⟨rfl, rfl⟩
theorem CRep.turn {tt : TypeId} {w : World} {C b c : Nat} {now : Int} {sk : List Int} (h : CRep tt w C b c now sk) (v : Int) (h0 : 0 ≤ v) (h1 : v ≤ 1125899906842624) : CRep tt (w.setCell ⟨C, 0, none⟩ (.int .i64 v)) C b c v sk :=
  ⟨heap_setCell_eq (j := 0) _ h.box, h.row.keep (Below.heap_setCell _ _ _ _ (Ne.symm h.ne)), h.tag, h0, h1, h.few, h.small⟩
theorem CRep.skew {tt : TypeId} {w : World} {C b c : Nat} {now : Int} {sk : List Int} (h : CRep tt w C b c now sk) (i : Nat) (v : Int) (h0 : -1073741824 ≤ v) (h1 : v ≤ 1073741824) : CRep tt (w.setCell ⟨b, i, none⟩ (.int .i64 v)) C b c now (sk.set i v) := by
  refine ⟨?_, h.row.set i v, h.tag, h.now0, h.now1, by rw [List.length_set]; exact h.few, fun s hs => ?_⟩
  · rw [List.length_set]
    exact (Below.heap_setCell _ _ _ _ h.ne).trans h.box
  · rcases List.mem_or_eq_of_mem_set hs with h2 | h2
    · exact h.small s h2
    · subst h2; exact ⟨h0, h1⟩
set_option maxHeartbeats 1000000 in
set_option maxRecDepth 100000 in
theorem cpass_calls (C b c : Nat) (now n : Int) (sk : List Int) (w : World) (h : CRep 80 w C b c now sk) : Calls Try.prog 13 #[.pointer (some ⟨C, 0, none⟩), .int .i64 n] w fun e w' => e = .returned (.int .i64 (passI now n)) ∧ CRep 80 w' C b c (passed now n) sk ∧ Fr (fun k => k = C) w w' := by
  have t0 := h.cell0
  have tf : w.frozen? ⟨C, 0, none⟩ = false := free_at h.box 0
  have h0 := h.now0
  have h1 := h.now1
  have H := Aside.mk h
  clear h
  by_cases ha : n < 0
  · have HE : Aside (passI now n = 1 ∧ passed now n = now) := ⟨if_pos ha, by unfold passed passI; rw [if_pos ha]; rfl⟩
    go_enter Try.func13, Try.ntmps13
    go_wp2_with fail
    go_ret
    exact ⟨by rw [HE.out.1]; rfl, by rw [HE.out.2]; exact H.out, Fr.refl _ _⟩
  · have ha' : 0 ≤ n := by omega
    by_cases hc : 1125899906842624 - now < n
    · have HE : Aside (passI now n = 40 ∧ passed now n = now) := ⟨by unfold passI; rw [if_neg ha, if_pos hc], by unfold passed passI; rw [if_neg ha, if_pos hc]; rfl⟩
      clear ha
      go_enter Try.func13, Try.ntmps13
      go_wp2_with fail
      go_ret
      exact ⟨by rw [HE.out.1]; rfl, by rw [HE.out.2]; exact H.out, Fr.refl _ _⟩
    · have HE : Aside (passI now n = 0 ∧ passed now n = now + n) := ⟨by unfold passI; rw [if_neg ha, if_neg hc], by unfold passed passI; rw [if_neg ha, if_neg hc]; rfl⟩
      have hc' : n ≤ 1125899906842624 - now := by omega
      have HC := Aside.mk (H.out.turn (now + n) (by omega) (by omega))
      clear ha hc
      go_enter Try.func13, Try.ntmps13
      go_wp2_with fail
      go_ret
      exact ⟨by rw [HE.out.1]; rfl, by rw [HE.out.2]; exact HC.out, (Fr.refl (fun k => k = C) _).setCell (.inl rfl) _⟩
set_option maxHeartbeats 1000000 in
set_option maxRecDepth 100000 in
theorem cskew_calls (C b c : Nat) (now node n : Int) (sk : List Int) (w : World) (h : CRep 80 w C b c now sk) : Calls Try.prog 12 #[.pointer (some ⟨C, 0, none⟩), .int .i64 node, .int .i64 n] w fun e w' => e = .returned (.int .i64 (skewI sk.length node n)) ∧ CRep 80 w' C b c now (skewed sk node n) ∧ Fr (fun k => k = b) w w' := by
  have H := Aside.mk h
  have t1 := h.cell1
  have hf := h.few
  by_cases hb : node < 0 ∨ (sk.length : Int) ≤ node
  · have HE : Aside (noneI sk.length node = 5 ∧ skewI sk.length node n = 5 ∧ skewed sk node n = sk) := ⟨if_pos hb, if_pos hb, by unfold skewed skewI; rw [if_pos hb]; rfl⟩
    clear h hb
    go_enter Try.func12, Try.ntmps12
    go_wp2_with fail
    refine (cnone_calls C b c now sk node w H.out).mono ?_
    rintro e w2 ⟨rfl, rfl⟩
    rw [HE.out.1]
    go_wp2_with fail
    go_ret
    exact ⟨by rw [HE.out.2.1]; rfl, by rw [HE.out.2.2]; exact H.out, Fr.refl _ _⟩
  · obtain ⟨i, rfl⟩ : ∃ i : Nat, node = (i : Int) := ⟨node.toNat, by omega⟩
    have hi : i < sk.length := by omega
    by_cases hc : n < -1073741824 ∨ 1073741824 < n
    · have HE : Aside (noneI sk.length i = 0 ∧ skewI sk.length i n = 1 ∧ skewed sk i n = sk) := ⟨if_neg hb, by unfold skewI; rw [if_neg hb, if_pos hc], by unfold skewed skewI; rw [if_neg hb, if_pos hc]; rfl⟩
      clear h hb
      by_cases hd : n < -1073741824
      · clear hc
        go_enter Try.func12, Try.ntmps12
        go_wp2_with fail
        refine (cnone_calls C b c now sk i w H.out).mono ?_
        rintro e w2 ⟨rfl, rfl⟩
        rw [HE.out.1]
        go_wp2_with fail
        go_ret
        exact ⟨by rw [HE.out.2.1]; rfl, by rw [HE.out.2.2]; exact H.out, Fr.refl _ _⟩
      · have hd' : -1073741824 ≤ n := by omega
        have hc' : 1073741824 < n := by omega
        clear hc hd
        go_enter Try.func12, Try.ntmps12
        go_wp2_with fail
        refine (cnone_calls C b c now sk i w H.out).mono ?_
        rintro e w2 ⟨rfl, rfl⟩
        rw [HE.out.1]
        go_wp2_with fail
        go_ret
        exact ⟨by rw [HE.out.2.1]; rfl, by rw [HE.out.2.2]; exact H.out, Fr.refl _ _⟩
    · have HE : Aside (noneI sk.length i = 0 ∧ skewI sk.length i n = 0 ∧ skewed sk i n = sk.set i n) := ⟨if_neg hb, by unfold skewI; rw [if_neg hb, if_neg hc], by unfold skewed skewI; rw [if_neg hb, if_neg hc]; simp⟩
      have hs : sk[i]? = some sk[i] := List.getElem?_eq_getElem hi
      obtain ⟨s, hse⟩ : ∃ s, sk[i] = s := ⟨_, rfl⟩
      rw [hse] at hs
      have t2 := h.at hs
      have t3 : w.frozen? ⟨b, i, none⟩ = false := h.row.free i
      have hd' : -1073741824 ≤ n := by omega
      have hc' : n ≤ 1073741824 := by omega
      have HC := Aside.mk (h.skew i n hd' hc')
      clear h hb hc hs hse
      generalize hn : sk.length = k at *
      have HN := Aside.mk hn
      clear hn
      go_enter Try.func12, Try.ntmps12
      go_wp2_with fail
      refine (cnone_calls C b c now sk i w H.out).mono ?_
      rintro e w2 ⟨rfl, rfl⟩
      rw [HN.out, HE.out.1]
      go_wp2_with fail
      go_ret
      exact ⟨by rw [HE.out.2.1]; rfl, by rw [HE.out.2.2]; exact HC.out, (Fr.refl (fun k => k = b) _).setCell (.inl rfl) _⟩
end Go.Proofs.Ytjefeoohfalcaaa.C
/-! Clocks: Worst. -/
namespace Go.Proofs.Ytjefeoohfalcaaa.C
open Go.RowKit
set_option linter.unusedVariables false
set_option linter.unusedSimpArgs false
def worseI (now m s : Int) : Int := max m (max (rdg now s - now) (now - rdg now s))
def worstI (now : Int) (sk : List Int) : Int := sk.foldl (worseI now) 0
theorem int_eq {a b : Int} (h : a = b) : Value.int .i64 a = Value.int .i64 b := by rw [h]
theorem rdg_in (now s : Int) : 0 ≤ rdg now s ∧ rdg now s ≤ 1125899906842624 := by unfold rdg; omega
theorem worstI_in (now : Int) (h0 : 0 ≤ now) (h1 : now ≤ 1125899906842624) : ∀ (sk : List Int) (m : Int), 0 ≤ m → m ≤ 1125899906842624 → 0 ≤ sk.foldl (worseI now) m ∧ sk.foldl (worseI now) m ≤ 1125899906842624
  | [], m, a, b => ⟨a, b⟩
  | s :: r, m, a, b => by
    have := rdg_in now s
    exact worstI_in now h0 h1 r _ (by unfold worseI; omega) (by unfold worseI; omega)
theorem worst_snoc (now : Int) (sk : List Int) (k : Nat) (s : Int) (h : sk[k]? = some s) : worstI now (sk.take (k + 1)) = worseI now (worstI now (sk.take k)) s := by
  have hk := (List.getElem?_eq_some_iff.1 h).1
  unfold worstI
  rw [List.take_succ_eq_append_getElem hk, (List.getElem?_eq_some_iff.1 h).2, List.foldl_append]
  rfl
set_option maxHeartbeats 1000000 in
set_option maxRecDepth 100000 in
theorem cworst_calls (C b c : Nat) (now : Int) (sk : List Int) (w : World) (h : CRep 80 w C b c now sk) : Calls Try.prog 17 #[.pointer (some ⟨C, 0, none⟩)] w fun e w' => e = .returned (.int .i64 (worstI now sk)) ∧ Fr (fun _ => False) w w' := by
  have H := Aside.mk h
  have t1 := h.cell1
  have h0 := h.now0
  have h1 := h.now1
  have hf := h.few
  clear h
  obtain ⟨n, hn⟩ : ∃ n, sk.length = n := ⟨_, rfl⟩
  rw [hn] at t1 hf
  have HN := Aside.mk hn
  clear hn
  go_enter Try.func17, Try.ntmps17
  go_wp2_with fail
  go_loopw [3, 14] (fun v3 v14 wr => ∃ k : Nat, k ≤ n ∧ v14 = .int .i64 k ∧ v3 = .int .i64 (worstI now (sk.take k)) ∧ Aside (Fr (fun _ => False) w wr)) (fun _ v14 _ => n - (intOf v14).toNat)
  case atStart => exact ⟨0, by omega, rfl, rfl, ⟨Fr.refl _ _⟩⟩
  case round =>
    obtain ⟨k, hk, rfl, rfl, HF⟩ := hrel
    have HR := Aside.mk (H.out.fr HF.out (fun f => f) (fun f => f))
    by_cases hlt : k < n
    · have hs : sk[k]? = some (sk[k]'(by rw [HN.out]; exact hlt)) := List.getElem?_eq_getElem _
      obtain ⟨s, hse⟩ : ∃ s, sk[k]'(by rw [HN.out]; exact hlt) = s := ⟨_, rfl⟩
      rw [hse] at hs
      have t2 := HR.out.at hs
      have t3 := HR.out.cell0
      have hr := rdg_in now s
      have hwi := worstI_in now h0 h1 (sk.take k) 0 (by omega) (by omega)
      have HW := Aside.mk (worst_snoc now sk k s hs)
      have HSM := Aside.mk (HR.out.small s (List.mem_of_getElem? hs))
      change 0 ≤ worstI now (sk.take k) ∧ worstI now (sk.take k) ≤ _ at hwi
      obtain ⟨m, hm⟩ : ∃ m, worstI now (sk.take k) = m := ⟨_, rfl⟩
      rw [hm] at hwi
      have HM := Aside.mk hm
      rw [hm]
      obtain ⟨hw0, hw1⟩ := hwi
      obtain ⟨hr0, hr1⟩ := hr
      clear hse hs hm
      go_wp2_with fail
      refine (creading_calls C b c now s sk wr HR.out HSM.out).mono ?_
      rintro e w2 ⟨rfl, rfl⟩
      obtain ⟨q, hq⟩ : ∃ q, rdg now s = q := ⟨_, rfl⟩
      rw [hq] at hr0 hr1 ⊢
      have HQ := Aside.mk hq
      clear hq
      go_wp2_with fail
      go_region
      go_wp2_with fail
      go_roundw
      case rel => exact ⟨k + 1, by omega, by go_num, int_eq (by rw [HW.out, HM.out]; unfold worseI; rw [HQ.out]; (repeat' split) <;> omega), ⟨HF.out.drew⟩⟩
      case measure => simp [intOf]; omega
    · obtain rfl : k = n := by omega
      have HT : Aside (sk.take k = sk) := ⟨List.take_of_length_le (by have := HN.out; omega)⟩
      go_wp2_with fail
      go_ret
      exact ⟨by rw [HT.out]; rfl, HF.out⟩
end Go.Proofs.Ytjefeoohfalcaaa.C
