/- Timers: Set. -/
import Derived.Test.YtjefeoohfalcaaaQA
namespace Go.Proofs.Ytjefeoohfalcaaa.C
open Go.RowKit
set_option linter.unusedVariables false
set_option linter.unusedSimpArgs false
theorem map_nil (u : World) (r : Option Nat) : (binOp .eql 64 (.map r) (.map none)).run Try.prog u = .ok (.bool r.isNone) u := run_eql_map_nil u _ _ _ r Try.underlying64
def Seted (w w' : World) (T : Nat) (l : List (Int × Int)) (fp : List Nat) (id at' : Int) : Prop := ∃ l' fp', l'.Perm (del l id ++ [(id, at')]) ∧ TM w' T l' fp' ∧ (∀ k ∈ fp', k ∈ fp ∨ w.heap.size ≤ k) ∧ Fr (fun k => k ∈ fp) w w'
set_option maxHeartbeats 1000000 in
set_option maxRecDepth 100000 in
theorem tset_new (T : Nat) (id at' : Int) (w : World) (h1 : w.heap[T]? = some (.cells #[.slice none 0 0, .map none] 68 (0, 0))) : Calls Try.prog 28 #[.pointer (some ⟨T, 0, none⟩), .int .i64 id, .int .i64 at'] w fun e w' => e = .returned (.tuple #[]) ∧ Seted w w' T [] [T] id at' := by
  have t1 : w.cell? ⟨T, 1, none⟩ = some (.map none) := cell_at h1 1
  have t1f : w.frozen? ⟨T, 1, none⟩ = false := free_at h1 1
  have hTl := lt_of_block h1
  have hTn : ¬ T = w.heap.size := by omega
  have hmm := @run_makeMap Try.prog
  obtain ⟨W1, hW1⟩ : ∃ W1 : World, W1 = (w.setCell ⟨T, 1, none⟩ (.map (some w.heap.size))).alloc (.map #[] 0) := ⟨_, rfl⟩
  have T1 : W1.heap[T]? = some (.cells #[.slice none 0 0, .map (some w.heap.size)] 68 (0, 0)) := by rw [hW1]; exact blk_alloc' (heap_setCell_eq (j := 1) _ h1) _
  have M1 : W1.heap[w.heap.size]? = some (.map #[] 0) := by
    rw [hW1]
    have := heap_alloc_new (w.setCell ⟨T, 1, none⟩ (.map (some w.heap.size))) (.map #[] 0)
    simpa [World.setCell] using this
  have F1 : Fr (fun k => k ∈ [T]) w W1 := by rw [hW1]; exact ((Fr.refl _ w).setCell (.inl (by simp)) _).alloc _
  have hl : (Instr.lookup 64 (.map (some w.heap.size)) (.int .i64 id) true).run Try.prog W1 = .ok (.tuple #[.int .i64 0, .bool false]) W1 := (GMap.empty (Value.int .i64) (Value.int .i64) 0).lookup_none mapKey Try.underlying64 zeroInt M1 rfl true
  have HP := Aside.mk (hpush_calls 68 T w.heap.size (.slice none 0 0) [] (fun _ => none) (id, at') W1 (by simp) T1 (World.ownsRow_nil _ _ _ _) (by simp [Value.ownBlock]) ⟨#[], 0, M1, GMap.empty _ _ _⟩ (by simp [Ids]) (fun i p => ⟨fun h => (by cases h), fun ⟨k, _, hk⟩ => (by simp at hk)⟩) (fun k h1 h2 => (by simp at h2)))
  have HF1 := Aside.mk F1
  have HW1 := Aside.mk hW1
  have t2 : W1.cell? ⟨T, 1, none⟩ = some (.map (some w.heap.size)) := cell_at T1 1
  clear h1 T1 M1 F1 hW1
  have hq := map_nil
  go_enter Try.func28, Try.ntmps28
  go_upto_region 3 with fail
  rw [← HW1.out]
  go_wp2_with fail
  refine HP.out.mono ?_
  rintro e w2 ⟨rfl, b', c', l', f', hp, hR, hH, hF, hb⟩
  have hb2 : W1.heap.size ≤ b' := by
    rcases hb with h | h
    · simp [Value.ownBlock] at h
    · exact h
  have HZ : Aside (Seted w w2 T [] [T] id at') := ⟨l', [T, b', w.heap.size], hp, .inr ⟨b', c', w.heap.size, f', hR, hH, rfl⟩, fun k hk => by
    simp only [List.mem_cons, List.not_mem_nil, or_false] at hk ⊢
    rcases hk with rfl | rfl | rfl
    · exact .inl rfl
    · exact .inr (Nat.le_trans HF1.out.size hb2)
    · exact .inr (Nat.le_refl _), HF1.out.then hF (fun i hi => by
    rcases hi with h | h | h
    · simp [h]
    · exact .inr (by omega)
    · simp [Value.ownBlock] at h)⟩
  clear hp hR hH hF hb hb2
  go_wp2_with fail
  go_end0
  exact ⟨rfl, HZ.out⟩
set_option maxHeartbeats 1000000 in
set_option maxRecDepth 100000 in
theorem tset_old (T b c m : Nat) (l : List (Int × Int)) (f : Int → Option Int) (id at' : Int) (w : World) (hl9 : l.length ≤ 100000000) (h1 : HRep w 68 T b c m l f) (h2 : HeapN l l.length) : Calls Try.prog 28 #[.pointer (some ⟨T, 0, none⟩), .int .i64 id, .int .i64 at'] w fun e w' => e = .returned (.tuple #[]) ∧ Seted w w' T l [T, b, m] id at' := by
  have t1 : w.cell? ⟨T, 1, none⟩ = some (.map (some m)) := cell_at h1.rep.box 1
  have H1 := Aside.mk h1
  have H2 := Aside.mk h2
  rcases at_or h1.at' id with hf | ⟨i, x, hx, rfl⟩
  · have hl := look_none h1 hf
    have hnone := placed_none h1.at' hf
    have hmp := h1.rep.map
    have HD := Aside.mk (del_none hnone)
    have HP := Aside.mk (hpush_calls 68 T m (.slice (some ⟨b, 0, none⟩) l.length c) l f (id, at') w (by omega) h1.rep.box (ownsRow_row h1.rep.row) (fun e => h1.rep.ne (by simp [Value.ownBlock] at e; exact e.symm)) h1.rep.map (ids_snoc h1.ids hnone) h1.at' h2)
    clear h1 h2 hf hnone hmp
    have hq := map_nil
    go_enter Try.func28, Try.ntmps28
    go_wp2_with fail
    refine HP.out.mono ?_
    rintro e w2 ⟨rfl, b', c', l', f', hp, hR, hH, hF, hb⟩
    have HZ : Aside (Seted w w2 T l [T, b, m] id at') := ⟨l', [T, b', m], by rw [HD.out]; exact hp, .inr ⟨b', c', m, f', hR, hH, rfl⟩, fun k hk => by
      simp only [List.mem_cons, List.not_mem_nil, or_false] at hk ⊢
      rcases hk with rfl | rfl | rfl
      · exact .inl (.inl rfl)
      · rcases hb with h | h
        · simp only [Value.ownBlock, Option.some.injEq] at h
          exact .inl (.inr (.inl h))
        · exact .inr h
      · exact .inl (.inr (.inr rfl)), hF.mono (fun i hi => by
      rcases hi with h | h | h
      · simp [h]
      · simp [h]
      · simp only [Value.ownBlock, Option.some.injEq] at h
        simp [h])⟩
    clear hp hR hH hF hb
    go_wp2_with fail
    go_end0
    exact ⟨rfl, HZ.out⟩
  · have hl := look_some h1 hx
    have t0 := h1.cell
    obtain ⟨k1, k2⟩ := h1.rep.row.cells hx
    have kf := h1.rep.row.free (i * 2 + 1)
    have hi := (List.getElem?_eq_some_iff.1 hx).1
    have hmx := h1.rep.row.max
    have hcp := h1.rep.row.cap
    unfold maxLen at hmx
    have HX := Aside.mk hx
    obtain ⟨W1, hW1⟩ : ∃ W1 : World, W1 = w.setCell ⟨b, i * 2 + 1, none⟩ (.int .i64 at') := ⟨_, rfl⟩
    have HR1 : Aside (HRep W1 68 T b c m (l.set i (x.1, at')) f) := ⟨by rw [hW1]; exact h1.storeAt hx at'⟩
    have HB1 : Aside (BothBut (l.set i (x.1, at')) (l.set i (x.1, at')).length i) := ⟨by rw [List.length_set]; exact heap_turned h2 hx⟩
    have HF1 : Aside (Fr (fun k => k ∈ [T, b, m]) w W1) := ⟨by rw [hW1]; exact (Fr.refl _ w).setCell (.inl (by simp)) _⟩
    have HW1 := Aside.mk hW1
    have HIL := Aside.mk (show i < (l.set i (x.1, at')).length ∧ (l.set i (x.1, at')).length ≤ 1000000000 by rw [List.length_set]; omega)
    clear h1 h2 hx hW1
    generalize l.length = n at *
    have hq := map_nil
    go_enter Try.func28, Try.ntmps28
    go_wp2_with fail
    rw [← HW1.out]
    refine (hfix_calls 68 T b c m i _ f W1 HIL.out.2 HIL.out.1 HR1.out HB1.out).mono ?_
    rintro e w2 ⟨rfl, l', f', hp, hR, hH, hF⟩
    have HZ : Aside (Seted w w2 T l [T, b, m] x.1 at') := ⟨l', [T, b, m], hp.trans (set_perm at' H1.out.ids HX.out), .inr ⟨b, c, m, f', hR, hH, rfl⟩, fun k hk => .inl hk, HF1.out.then hF (fun i hi => by rcases hi with h | h <;> simp [h])⟩
    clear hp hR hH hF
    go_wp2_with fail
    exact bodyPost_ret (results_none (by first | rfl | kernel_rfl) _ _ _) rfl ⟨rfl, HZ.out⟩
theorem tset_calls (T : Nat) (l : List (Int × Int)) (fp : List Nat) (id at' : Int) (w : World) (hl9 : l.length ≤ 100000000) (h : TM w T l fp) : Calls Try.prog 28 #[.pointer (some ⟨T, 0, none⟩), .int .i64 id, .int .i64 at'] w fun e w' => e = .returned (.tuple #[]) ∧ Seted w w' T l fp id at' := by
  rcases h with ⟨h1, rfl, rfl⟩ | ⟨b, c, m, f, h1, h2, rfl⟩
  · exact tset_new T id at' w h1
  · exact tset_old T b c m l f id at' w hl9 h1 h2
end Go.Proofs.Ytjefeoohfalcaaa.C
