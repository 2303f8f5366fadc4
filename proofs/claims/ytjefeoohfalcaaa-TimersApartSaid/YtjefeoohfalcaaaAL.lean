/- slices.SortFunc over timers. -/
import Derived.Shelf.SlSortCmp.WholeK
import Derived.Sort.LotA
import Derived.Test.YtjefeoohfalcaaaSH
/-! slices.SortFunc over timers. -/
namespace Go.Proofs.Ytjefeoohfalcaaa.C
open Go.Shelf Go.RowKit Go.Proofs.Ytjefeoohfalcaaa.Q Go.Proofs.YtjefeoohfalcaaaW.PrintLast Go.Proofs.YtjefeoohfalcaaaW.PrintWords
set_option linter.unusedVariables false
set_option linter.unusedSimpArgs false
def encT (x : Int × Int) : List Value := [.int .i64 x.1, .int .i64 x.2]
theorem swo_ahead : Go.Sort.SWO (ltOf aheadI) where
  irrefl x := by unfold ltOf; rw [aheadI_lt]; unfold aheadB; simp
  trans x y z h1 h2 := by unfold ltOf at *; rw [aheadI_lt] at *; unfold aheadB at *; simp only [decide_eq_true_eq] at *; omega
  ntrans x y z h1 h2 := by unfold ltOf at *; rw [aheadI_lt] at *; unfold aheadB at *; simp only [decide_eq_false_iff_not] at *; omega
theorem cmp_lays (g size : Nat) (w : World) : CmpLays Try.prog 47 #[] encT 2 aheadI g 0 size w := fun _ _ _ _ x y => ahead_exact x y _
theorem flat_at (l : List (Int × Int)) (j : Nat) (hj : j < l.length * 2) : (tcells l)[j]? = some ((Go.Sort.flatK encT 2 l.toArray)[j]!) := by
  rw [Go.Sort.get_flatK _ _ _ _ (by simpa using hj)]
  have hd : j / 2 < l.length := by omega
  obtain ⟨x, hx⟩ : ∃ x, l[j / 2]? = some x := ⟨_, List.getElem?_eq_getElem hd⟩
  have h2 := tcells_at l (j / 2) x hx
  have hb : l.toArray[j / 2]! = x := by simp [hx]
  rw [hb]
  rcases Nat.mod_two_eq_zero_or_one j with h | h
  · have e : j = j / 2 * 2 := by omega
    rw [h]; conv => lhs; rw [e]
    exact h2.1
  · have e : j = j / 2 * 2 + 1 := by omega
    rw [h]; conv => lhs; rw [e]
    exact h2.2
theorem holds_of {w : World} {g : Nat} {cs : Array Value} {t : TypeId} {l : List (Int × Int)} (h : w.heap[g]? = some (.cells cs t (0, 0))) (ht : cs.toList.take (l.length * 2) = tcells l) : Go.Sort.HoldsK encT 2 w g 0 l.toArray := by
  intro j hj
  have hj2 : j < l.length * 2 := by simpa using hj
  rw [Nat.zero_add]
  refine ⟨?_, free_at h j⟩
  rw [cell_at h]
  have h3 := flat_at l j hj2
  rw [← ht, List.getElem?_take_of_lt hj2] at h3
  simpa using h3
theorem sorted_block {w : World} {g : Nat} {cs : Array Value} {t : TypeId} (h : w.heap[g]? = some (.cells cs t (0, 0))) (n : Nat) (d : Array (Int × Int)) (os : Array Obj) : (sortWorldK encT 2 w g 0 n d os).heap[g]? = some (.cells (Go.Sort.putCells id 0 (Go.Sort.flatK encT 2 d) cs) t (0, 0)) := by
  have hg := lt_of_block h
  unfold sortWorldK
  rw [Go.Sort.heap_grow_old _ _ (by rw [Go.Sort.size_putRowK]; exact hg)]
  show (w.heap.modify g _)[g]? = _
  rw [Array.getElem?_modify, if_pos rfl, h]
  rfl
theorem put_take {cs : Array Value} {l : List (Int × Int)} (hs : l.length * 2 ≤ cs.size) : (Go.Sort.putCells id 0 (Go.Sort.flatK encT 2 l.toArray) cs).toList.take (l.length * 2) = tcells l := by
  apply List.ext_getElem?
  intro j
  by_cases hj : j < l.length * 2
  · rw [List.getElem?_take_of_lt hj, flat_at l j hj]
    unfold Go.Sort.putCells
    have hc : j < cs.size := by omega
    simp [hj, hc]
  · rw [List.getElem?_eq_none (by simp; omega), List.getElem?_eq_none (by rw [tcells_len]; omega)]
theorem sorted_below {w : World} {g base : Nat} (hb : base ≤ g) (hw : base ≤ w.heap.size) (n : Nat) (d : Array (Int × Int)) (os : Array Obj) : Below base w (sortWorldK encT 2 w g 0 n d os) := by
  refine ⟨rfl, rfl, rfl, ?_, fun k hk => ?_⟩
  · unfold sortWorldK
    rw [Go.Sort.size_grow, Go.Sort.size_putRowK]
    exact Nat.le_add_right _ _
  · unfold sortWorldK
    rw [Go.Sort.heap_grow_old _ _ (by rw [Go.Sort.size_putRowK]; exact Nat.lt_of_lt_of_le hk hw)]
    show (w.heap.modify g _)[k]? = _
    rw [Array.getElem?_modify, if_neg (by omega)]
theorem srt_of_sorted {l l' : List (Int × Int)} (hi : (l.map (·.1)).Nodup) (hp : Go.Sort.PermIn 0 l.toArray.size l.toArray l'.toArray) (hs : Go.Sort.SortedIn (ltOf aheadI) 0 l.toArray.size l'.toArray) : l'.Perm l ∧ Srt l' := by
  obtain ⟨h1, _, h3⟩ := hp
  have hlen : l'.length = l.length := by simpa using h1
  have hP : l'.Perm l := by
    have e1 : l'.toArray.extract 0 l.toArray.size = l'.toArray := by rw [← h1]; simp
    have e2 : l.toArray.extract 0 l.toArray.size = l.toArray := by simp
    rw [e1, e2] at h3
    exact h3
  refine ⟨hP, ?_⟩
  have hnd : (l'.map (·.1)).Nodup := (hP.map _).nodup_iff.mpr hi
  unfold Srt
  rw [List.pairwise_iff_getElem]
  intro i j hi' hj' hij
  have hne : l'[i].1 ≠ l'[j].1 := by
    have := (List.pairwise_iff_getElem.mp hnd) i j (by simpa using hi') (by simpa using hj') hij
    simpa using this
  have hlt := hs i j (Nat.zero_le _) hij (by simpa [hlen] using hj')
  unfold ltOf at hlt
  rw [aheadI_lt] at hlt
  have e1 : l'.toArray[j]! = l'[j] := by simp [hj']
  have e2 : l'.toArray[i]! = l'[i] := by simp [hi']
  rw [e1, e2] at hlt
  unfold aheadB at hlt ⊢
  simp only [decide_eq_false_iff_not, decide_eq_true_eq] at hlt ⊢
  omega
theorem sort_calls (base g c : Nat) (l : List (Int × Int)) (w : World) (hi : (l.map (·.1)).Nodup) (hlen : l.length ≤ 100000000) (hb : base ≤ g) (hR : Row w g c l) (hw : base ≤ w.heap.size) :
    Calls Try.prog 54 #[.slice (some ⟨g, 0, none⟩) l.length c, .func (.func 47) #[] #[]] w fun e w' => e = .returned (.tuple #[]) ∧ ∃ l', l'.Perm l ∧ Srt l' ∧ Row w' g c l' ∧ Below base w w' := by
  obtain ⟨⟨cs, h1, h2, h3⟩, h4, h5⟩ := hR
  have eg : ∀ args w, (callFunc 47 args).run Try.prog w = .ok (.enter 47 args) w := enters_of Try.func47 (by kernel_rfl) rfl
  have hcon := AnyQ.slices_SortFunc sortT 2 Try.isAgg57 Try.sizeOf57 encT (fun _ => rfl) (fun x v hv => by simp [encT] at hv; rcases hv with rfl | rfl <;> rfl) aheadI swo_ahead 47 #[] g 0 c l.toArray w eg (cmp_lays g _ w) (holds_of h1 h3) (lt_of_block h1) (by simp; omega)
  rw [List.size_toArray] at hcon
  refine hcon.mono ?_
  rintro e w' ⟨rfl, d', n, os, hp, hs, rfl⟩
  obtain ⟨l', rfl⟩ : ∃ l' : List (Int × Int), d' = l'.toArray := ⟨d'.toList, by simp⟩
  obtain ⟨q1, q2⟩ := srt_of_sorted hi (by simpa using hp) (by simpa using hs)
  have hl := q1.length_eq
  refine ⟨rfl, l', q1, q2, ⟨⟨_, sorted_block h1 n _ os, by unfold Go.Sort.putCells; simpa using h2, put_take (by omega)⟩, by omega, h5⟩, sorted_below hb hw n _ os⟩
end Go.Proofs.Ytjefeoohfalcaaa.C
/-! Timers.All. -/
namespace Go.Proofs.Ytjefeoohfalcaaa.C
open Go.Shelf Go.RowKit Go.Proofs.Ytjefeoohfalcaaa.Q Go.Proofs.YtjefeoohfalcaaaW.PrintLast Go.Proofs.YtjefeoohfalcaaaW.PrintWords
set_option linter.unusedVariables false
set_option linter.unusedSimpArgs false
/-- A slice of timers of its own (or nil). -/
def Told (base : Nat) (W : World) (v : Value) (S : List (Int × Int)) : Prop :=
  (v = .slice none 0 0 ∧ S = []) ∨ ∃ g c, v = .slice (some ⟨g, 0, none⟩) S.length c ∧ base ≤ g ∧ Row W g c S
theorem told_of {base : Nat} {W : World} {v : Value} {S : List (Int × Int)} (h : W.ownsRow base 57 2 v S.length (tcells S)) : Told base W v S := by
  rcases h.2 with ⟨hv, h0⟩ | ⟨g, cap, cur, hv, hb, hg, hn, hm, hs, ht⟩
  · exact .inl ⟨hv, List.eq_nil_of_length_eq_zero h0⟩
  · exact .inr ⟨g, cap, hv, hb, ⟨cur, hg, hs, ht⟩, hn, hm⟩
theorem lay_bits : ∀ w, Calls Try.prog 61 #[.int .u64 0] w fun e w' => e = .returned (.int .i64 0) ∧ w' = w := fun w =>
  Any.bits_Len (SlLaysF0.n15.bits (P := Try.prog) (ρ := sortT_ren) { sortT with }) 0 w (by omega) (by omega)
set_option maxHeartbeats 1000000 in
set_option maxRecDepth 100000 in
theorem ins_none (fv : Value) (w : World) : Calls Try.prog 63 #[.slice none 0 0, .int .i64 0, .int .i64 0, fv] w fun e w' => e = .returned (.tuple #[]) ∧ w = w' := by
  go_enter Try.func63, Try.ntmps63
  go_wp2
  refine wp_loop_rounds 1 ?_
  rw [rounds_succ]
  go_wp2
  go_end0
  exact ⟨rfl, rfl⟩
set_option maxHeartbeats 1000000 in
set_option maxRecDepth 100000 in
theorem pdq_none (lim : Int) (fv : Value) (w : World) : Calls Try.prog 60 #[.slice none 0 0, .int .i64 0, .int .i64 0, .int .i64 lim, fv] w fun e w' => e = .returned (.tuple #[]) ∧ w = w' := by
  go_enter Try.func60, Try.ntmps60
  go_wp2
  refine wp_loop_rounds 1 ?_
  rw [rounds_succ]
  go_wp2_with fail
  refine (ins_none fv w).mono ?_
  rintro e w' ⟨rfl, rfl⟩
  go_wp2_with fail
  (try simp only [Exit.inBlock, Exit.then]); refine bodyPost_ret (results_none rfl _ _ _) rfl ?_
  exact ⟨rfl, rfl⟩
set_option maxHeartbeats 1000000 in
set_option maxRecDepth 100000 in
theorem sort_none (fv : Value) (w : World) : Calls Try.prog 54 #[.slice none 0 0, fv] w fun e w' => e = .returned (.tuple #[]) ∧ w = w' := by
  go_enter Try.func54, Try.ntmps54
  go_wp2_with fail
  refine (lay_bits w).mono ?_
  rintro e w' ⟨rfl, rfl⟩
  go_wp2_with fail
  refine (pdq_none 0 fv _).mono ?_
  rintro e w' ⟨rfl, rfl⟩
  go_wp2_with fail
  go_end0
  exact ⟨rfl, rfl⟩
set_option maxHeartbeats 1000000 in
set_option maxRecDepth 100000 in
theorem values_calls (a : Option Addr) (n c : Nat) (w : World) : Calls Try.prog 46 #[.slice a n c] w fun e w' => e = .returned (.func (.func 55) #[] #[.pointer (some ⟨w.heap.size, 0, none⟩)]) ∧ w' = w.alloc (.cells #[.slice a n c] 46) := by
  go_enter Try.func46, Try.ntmps46
  go_wp2_with fail
  go_ret
  exact ⟨rfl, rfl⟩
set_option maxHeartbeats 1000000 in
set_option maxRecDepth 100000 in
theorem collect_calls (Bs : Nat) (sv : Value) (zs : List (Int × Int)) (hlen : zs.length ≤ 100000000) (w : World) (hBs : Bs < w.heap.size) (hc0 : w.cell? ⟨Bs, 0, none⟩ = some sv) (hI : TSl w.heap.size w sv zs) :
    Calls Try.prog 53 #[.func (.func 55) #[] #[.pointer (some ⟨Bs, 0, none⟩)]] w fun e W' => ∃ v, e = .returned v ∧ Told w.heap.size W' v zs ∧ Below w.heap.size w W' := by
  have hcon := callsIn_wide.1 (appendSeq_in Fence.wide 3 trivial trivial rfl (by omega) Bs sv zs hlen w hBs hc0 hI)
  clear hc0 hI
  go_enter Try.func53, Try.ntmps53
  go_wp2_with fail
  refine hcon.mono ?_
  rintro e w1 ⟨v, rfl, hv, hb⟩
  have HV := Aside.mk (told_of hv)
  have HB := Aside.mk hb
  clear hv hb hcon
  obtain ⟨A, n, c, rfl⟩ : ∃ A n c, v = .slice A n c := by
    rcases HV.out with ⟨rfl, _⟩ | ⟨g, c, rfl, _⟩
    · exact ⟨_, _, _, rfl⟩
    · exact ⟨_, _, _, rfl⟩
  go_wp2_with fail
  go_ret
  exact ⟨_, rfl, HV.out, HB.out⟩
set_option maxHeartbeats 1000000 in
set_option maxRecDepth 100000 in
theorem sorted_calls (Bs : Nat) (sv : Value) (zs : List (Int × Int)) (hi : (zs.map (·.1)).Nodup) (hlen : zs.length ≤ 100000000) (w : World) (hBs : Bs < w.heap.size) (hc0 : w.cell? ⟨Bs, 0, none⟩ = some sv) (hI : TSl w.heap.size w sv zs) :
    Calls Try.prog 45 #[.func (.func 55) #[] #[.pointer (some ⟨Bs, 0, none⟩)], .func (.func 47) #[] #[]] w fun e W' => ∃ v l', e = .returned v ∧ l'.Perm zs ∧ Srt l' ∧ Told w.heap.size W' v l' ∧ Below w.heap.size w W' := by
  have HI := Aside.mk hi
  have HC := Aside.mk (collect_calls Bs sv zs hlen w hBs hc0 hI)
  clear hc0 hI hi
  go_enter Try.func45, Try.ntmps45
  go_wp2_with fail
  refine HC.out.mono ?_
  rintro e w1 ⟨v, rfl, hv, hb⟩
  have HB := Aside.mk hb
  clear hb HC
  rcases hv with ⟨rfl, rfl⟩ | ⟨g, c, rfl, hg, hR⟩
  · go_wp2_with fail
    refine (sort_none _ w1).mono ?_
    rintro e w2 ⟨rfl, rfl⟩
    go_wp2_with fail
    go_ret
    exact ⟨_, [], rfl, List.Perm.refl _, List.Pairwise.nil, .inl ⟨rfl, rfl⟩, HB.out⟩
  · have HR := Aside.mk hR
    have HG := Aside.mk hg
    clear hR hg
    go_wp2_with fail
    refine (sort_calls w.heap.size g c zs w1 HI.out hlen HG.out HR.out HB.out.size).mono ?_
    rintro e w2 ⟨rfl, l', hp, hs, hR, hb⟩
    have HZ := Aside.mk (And.intro hp (And.intro hs (And.intro hR hb)))
    clear hp hs hR hb
    go_wp2_with fail
    go_ret
    exact ⟨.slice (some ⟨g, 0, none⟩) zs.length c, l', rfl, HZ.out.1, HZ.out.2.1, .inr ⟨g, c, by rw [HZ.out.1.length_eq], HG.out, HZ.out.2.2.1⟩, HB.out.trans HZ.out.2.2.2⟩
theorem srt_unique {S S' : List (Int × Int)} (h : S.Perm S') (h1 : Srt S) (h2 : Srt S') : S = S' := by
  induction S generalizing S' with
  | nil => exact (List.Perm.nil_eq h)
  | cons x r ih =>
    cases S' with
    | nil => exact absurd h.length_eq (by simp)
    | cons y r' =>
      have hx : x = y := by
        rcases List.mem_cons.1 (h.subset (List.mem_cons_self)) with e | hm
        · exact e
        · rcases List.mem_cons.1 (h.symm.subset (List.mem_cons_self (a := y) (l := r'))) with e | hm2
          · exact e.symm
          · have q1 := (List.pairwise_cons.1 h2).1 x hm
            have q2 := (List.pairwise_cons.1 h1).1 y hm2
            unfold aheadB at q1 q2
            simp only [decide_eq_true_eq] at q1 q2
            omega
      subst hx
      rw [ih ((List.perm_cons x).1 h) (List.pairwise_cons.1 h1).2 (List.pairwise_cons.1 h2).2]
theorem ts_slice {w : World} {T : Nat} {S : List (Int × Int)} {fp : List Nat} (h : TS w T S fp) : ∃ A n c zs, w.cell? ⟨T, 0, none⟩ = some (.slice A n c) ∧ zs.Perm S ∧ TSl w.heap.size w (.slice A n c) zs := by
  obtain ⟨l, hp, h1⟩ := h.tm
  rcases h1 with ⟨h1, rfl, _⟩ | ⟨b, c, m, f, h1, _, _⟩
  · exact ⟨none, 0, 0, [], cell_at h1 0, hp, .inl ⟨rfl, rfl⟩⟩
  · exact ⟨some ⟨b, 0, none⟩, l.length, c, l, h1.cell, hp, .inr ⟨b, c, rfl, h1.rep.row.lt, h1.rep.row⟩⟩
set_option maxHeartbeats 1000000 in
set_option maxRecDepth 100000 in
theorem all_calls (T : Nat) (S : List (Int × Int)) (fp : List Nat) (w : World) (hl : S.length ≤ 100000000) (h : TS w T S fp) : Calls Try.prog 29 #[.pointer (some ⟨T, 0, none⟩)] w fun e w' => ∃ v, e = .returned v ∧ Told w.heap.size w' v S ∧ Below w.heap.size w w' := by
  obtain ⟨A, n, c, zs, t0, hp, hI⟩ := ts_slice h
  have hids : (zs.map (·.1)).Nodup := (hp.map _).nodup_iff.mpr h.ids
  have HP := Aside.mk (And.intro hp (And.intro h.srt hI))
  have HI := Aside.mk hids
  clear hp hI h hids
  go_enter Try.func29, Try.ntmps29
  go_wp2_with fail
  refine (values_calls A n c w).mono ?_
  rintro e w1 ⟨rfl, hw1⟩
  have hb0 : Below w.heap.size w w1 := by rw [hw1]; exact (Below.refl _ w).alloc (Nat.le_refl _) _
  have hs1 : w.heap.size < w1.heap.size := by rw [hw1]; simp
  have hc1 : w1.cell? ⟨w.heap.size, 0, none⟩ = some (.slice A n c) := by rw [hw1]; exact cell_at (blk_new w _) 0
  have HC := Aside.mk (And.intro hb0 (And.intro hs1 hc1))
  have hI1 : TSl w1.heap.size w1 (.slice A n c) zs := by
    rcases HP.out.2.2.below hb0 with e | ⟨b, c', e, hb, hr⟩
    · exact .inl e
    · exact .inr ⟨b, c', e, by omega, hr⟩
  have HQ := Aside.mk hI1
  clear hw1 hb0 hs1 hc1 hI1
  go_wp2_with fail
  refine (sorted_calls w.heap.size (.slice A n c) zs HI.out (by rw [HP.out.1.length_eq]; exact hl) w1 HC.out.2.1 HC.out.2.2 HQ.out).mono ?_
  rintro e w2 ⟨v, l', rfl, hp, hs, hT, hb⟩
  obtain rfl : l' = S := srt_unique (hp.trans HP.out.1) hs HP.out.2.1
  have HT : Aside (Told w.heap.size w2 v l') := ⟨by
    rcases hT with e | ⟨g, c', e, hg, hr⟩
    · exact .inl e
    · exact .inr ⟨g, c', e, Nat.le_trans HC.out.1.size hg, hr⟩⟩
  have HB := Aside.mk (HC.out.1.trans (hb.mono HC.out.1.size))
  obtain ⟨A2, n2, c2, rfl⟩ : ∃ A n c, v = .slice A n c := by
    rcases HT.out with ⟨rfl, _⟩ | ⟨g, c, rfl, _⟩
    · exact ⟨_, _, _, rfl⟩
    · exact ⟨_, _, _, rfl⟩
  clear hp hs hT hb
  go_wp2_with fail
  go_ret
  exact ⟨_, rfl, HT.out, HB.out⟩
end Go.Proofs.Ytjefeoohfalcaaa.C
