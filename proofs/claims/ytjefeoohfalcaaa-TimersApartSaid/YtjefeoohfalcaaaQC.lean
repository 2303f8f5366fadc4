/- Timers: Due. -/
import Derived.Test.YtjefeoohfalcaaaQB
namespace Go.Proofs.Ytjefeoohfalcaaa.C
open Go.RowKit Go.Proofs.YtjefeoohfalcaaaW.PrintWords
set_option linter.unusedVariables false
set_option linter.unusedSimpArgs false
/-! ### plain -/
/-- In the row of their times. -/
def Srt (S : List (Int × Int)) : Prop := S.Pairwise fun a b => aheadB a b = true
theorem le_antisymm {a b : Int × Int} (h1 : le a b) (h2 : le b a) : a = b := by
  unfold le aheadB at h1 h2
  simp only [decide_eq_false_iff_not] at h1 h2
  have e1 : a.1 = b.1 := by omega
  have e2 : a.2 = b.2 := by omega
  exact Prod.ext e1 e2
theorem head_of {w : World} {T : Nat} {l S : List (Int × Int)} {fp : List Nat} (h : TM w T l fp) (hp : l.Perm S) (hs : Srt S) : headOf l = headOf S ∧ l.isEmpty = S.isEmpty := by
  rcases h with ⟨_, rfl, _⟩ | ⟨b, c, m, f, _, hH, _⟩
  · have := hp.nil_eq
    subst this
    exact ⟨rfl, rfl⟩
  · cases l with
    | nil =>
      have := hp.nil_eq
      subst this
      exact ⟨rfl, rfl⟩
    | cons x r =>
      cases S with
      | nil => exact absurd hp.length_eq (by simp)
      | cons y q =>
        refine ⟨?_, rfl⟩
        show x = y
        have h1 : y ∈ x :: r := hp.mem_iff.2 (by simp)
        obtain ⟨i, hi⟩ := List.getElem?_of_mem h1
        have h2 := heap_head hH (Nat.le_refl _) i (List.getElem?_eq_some_iff.1 hi).1 x y rfl hi
        have h3 : x ∈ y :: q := hp.mem_iff.1 (by simp)
        rcases List.mem_cons.1 h3 with h4 | h4
        · exact h4
        · have := (List.pairwise_cons.1 hs).1 x h4
          exact le_antisymm h2 (le_of_ahead this)
def lenOf : Value → Nat | .slice _ n _ => n | _ => 0
/-- What is due up to a time stands at the head. -/
theorem due_take {S : List (Int × Int)} {now : Int} {k : Nat} (hs : Srt S) (hk : k ≤ S.length) (h1 : ∀ x ∈ S.take k, x.2 ≤ now) (h2 : ∀ x, S[k]? = some x → ¬ x.2 ≤ now) : S.take k = S.filter (fun x => decide (x.2 ≤ now)) ∧ S.drop k = S.filter (fun x => !decide (x.2 ≤ now)) := by
  have hd : ∀ x ∈ S.drop k, ¬ x.2 ≤ now := by
    intro x hx
    cases hq : S.drop k with
    | nil => rw [hq] at hx; cases hx
    | cons y r =>
      have hy : S[k]? = some y := by
        have := List.getElem?_drop (xs := S) (i := k) (j := 0)
        rw [hq] at this
        simpa using this.symm
      have hny := h2 y hy
      rw [hq] at hx
      rcases List.mem_cons.1 hx with rfl | hx
      · exact hny
      · have hs2 : Srt (y :: r) := by
          have := List.Pairwise.sublist (List.drop_sublist k S) hs
          rw [hq] at this
          exact this
        have := (List.pairwise_cons.1 hs2).1 x hx
        unfold aheadB at this
        simp only [decide_eq_true_eq] at this
        omega
  have e := List.take_append_drop k S
  constructor
  · conv => rhs; rw [← e, List.filter_append]
    rw [List.filter_eq_self.2 (fun x hx => by simpa using h1 x hx), List.filter_eq_nil_iff.2 (fun x hx => by simpa using hd x hx), List.append_nil]
  · conv => rhs; rw [← e, List.filter_append]
    rw [List.filter_eq_nil_iff.2 (fun x hx => by simpa using h1 x hx), List.filter_eq_self.2 (fun x hx => by simpa using hd x hx), List.nil_append]
theorem due_step {S l : List (Int × Int)} {k : Nat} {y : Int × Int} (hI : Ids S) (hy : S[k]? = some y) (hp : l.Perm (S.drop k)) : (del l y.1).Perm (S.drop (k + 1)) := by
  have hk := (List.getElem?_eq_some_iff.1 hy).1
  have e : S.drop k = [] ++ y :: S.drop (k + 1) := by
    rw [List.drop_eq_getElem_cons hk, (List.getElem?_eq_some_iff.1 hy).2]
    rfl
  have hI2 : Ids (S.drop k) := by
    unfold Ids at *
    exact List.Nodup.sublist (List.Sublist.map _ (List.drop_sublist k S)) hI
  have h1 := del_perm_of hp y.1
  rw [e] at h1 hI2
  rw [del_split hI2] at h1
  simpa using h1
theorem ownsRow_fr {F : Nat → Prop} {w w' : World} {base : Nat} {e : TypeId} {size : Nat} {v : Value} {n : Nat} {xs : List Value} (h : w.ownsRow base e size v n xs) (hf : Fr F w w') (hF : ∀ k, base ≤ k → ¬ F k) : w'.ownsRow base e size v n xs := by
  obtain ⟨h1, h2⟩ := h
  refine ⟨h1, ?_⟩
  rcases h2 with h2 | ⟨g, cap, cur, hv, hg, hh, r⟩
  · exact .inl h2
  · exact .inr ⟨g, cap, cur, hv, hg, hf.heap hh (hF g hg), r⟩
theorem TM.fr {F : Nat → Prop} {w w' : World} {T : Nat} {l : List (Int × Int)} {fp : List Nat} (h : TM w T l fp) (hf : Fr F w w') (hF : ∀ k ∈ fp, ¬ F k) : TM w' T l fp := h.keep fun k hk => hf.block k (h.lt k hk) (hF k hk)
theorem ids_info : (Try.prog.info? 2).map (fun i => (i.zero, i.size, i.bytes)) = some (some (.int .i64 0), 1, 8) := by kernel_rfl
theorem news1 (w : World) (v : Value) (T : TypeId) : ∀ (j : Nat) (u : Value), ([v] : List Value)[j]? = some u → (w.alloc (.cells #[v] T (0, 0))).cell? ((⟨w.heap.size, 0, none⟩ : Addr).add j) = some u := by
  intro j u h
  have := cell_at (heap_alloc_new w (.cells #[v] T (0, 0))) (0 + j)
  have e : (⟨w.heap.size, 0, none⟩ : Addr).add j = ⟨w.heap.size, 0 + j, none⟩ := by simp [Addr.add]; exact fun h => h.symm
  rw [e, this]
  simpa using h
theorem ownsRow_len {w : World} {base : Nat} {e : TypeId} {size : Nat} {v : Value} {n : Nat} {xs : List Value} (h : w.ownsRow base e size v n xs) : lenOf v = n := by
  rcases h.2 with ⟨rfl, rfl⟩ | ⟨g, cap, cur, rfl, _⟩ <;> rfl
theorem ownsRow_ne {w : World} {base : Nat} {e : TypeId} {size : Nat} {v : Value} {n : Nat} {xs : List Value} (h : w.ownsRow base e size v n xs) {g : Nat} {cs : Array Value} {t : TypeId} (hg : w.heap[g]? = some (.cells cs t (0, 0))) (hne : t ≠ e) : some g ≠ v.ownBlock := by
  rcases h.2 with ⟨rfl, rfl⟩ | ⟨b, cap, cur, rfl, _, hb, _⟩
  · simp [Value.ownBlock]
  · intro e2
    simp only [Value.ownBlock, Option.some.injEq] at e2
    subst e2
    rw [hg] at hb
    cases hb
    exact hne rfl
/-! ### the walk -/
structure DueRel (w : World) (T : Nat) (S : List (Int × Int)) (fp : List Nat) (now : Int) (v5 v6 v7 : Value) (k : Nat) (l' : List (Int × Int)) (g : Nat) (wr : World) : Prop where
  len : k ≤ S.length
  v5n : lenOf v5 = k
  v6p : v6 = .pointer (some ⟨g, 0, none⟩)
  v7b : v7 = .bool (!(S.drop k).isEmpty)
  perm : l'.Perm (S.drop k)
  done : ∀ x ∈ S.take k, x.2 ≤ now
  own : wr.ownsRow w.heap.size 2 1 v5 k ((S.take k).map fun x => .int .i64 x.1)
  tm : TM wr T l' fp
  box : wr.heap[g]? = some (.cells #[.int .i64 (headOf (S.drop k)).1, .int .i64 (headOf (S.drop k)).2] 57 (0, 0))
  new : w.heap.size ≤ g
  fr : Fr (fun k => k ∈ fp) w wr
def Dued (w w' : World) (T : Nat) (S : List (Int × Int)) (fp : List Nat) (now : Int) (v : Value) : Prop :=
  w'.ownsRow w.heap.size 2 1 v (S.filter (fun x => decide (x.2 ≤ now))).length ((S.filter (fun x => decide (x.2 ≤ now))).map fun x => .int .i64 x.1) ∧ ∃ l', l'.Perm (S.filter (fun x => !decide (x.2 ≤ now))) ∧ TM w' T l' fp ∧ Fr (fun k => k ∈ fp) w w'
theorem DueRel.fin {w wr : World} {T : Nat} {S : List (Int × Int)} {fp : List Nat} {now : Int} {v5 v6 v7 : Value} {k : Nat} {l' : List (Int × Int)} {g : Nat} (h : DueRel w T S fp now v5 v6 v7 k l' g wr) (hs : Srt S) (h2 : ∀ x, S[k]? = some x → ¬ x.2 ≤ now) : Dued w wr T S fp now v5 := by
  obtain ⟨e1, e2⟩ := due_take hs h.len h.done h2
  refine ⟨?_, l', ?_, h.tm, h.fr⟩
  · rw [← e1]
    have : (S.take k).length = k := by rw [List.length_take]; have := h.len; omega
    rw [this]
    exact h.own
  · rw [← e2]; exact h.perm
set_option maxHeartbeats 2000000 in
set_option maxRecDepth 100000 in
theorem tdue_calls (T : Nat) (l S : List (Int × Int)) (fp : List Nat) (now : Int) (w : World) (hl9 : l.length ≤ 100000000) (h : TM w T l fp) (hp : l.Perm S) (hs : Srt S) : Calls Try.prog 30 #[.pointer (some ⟨T, 0, none⟩), .int .i64 now] w fun e w' => ∃ v, e = .returned v ∧ Dued w w' T S fp now v := by
  have HI := Aside.mk (h.ids.perm hp.symm)
  have HS := Aside.mk hs
  have HT := Aside.mk h
  have HP := Aside.mk hp
  have HL : Aside (S.length ≤ 100000000) := ⟨by rw [← hp.length_eq]; exact hl9⟩
  obtain ⟨i0, hi0, hz0, hz1, hz2⟩ := info_parts ids_info
  have HIN := Aside.mk (And.intro hi0 (And.intro hz0 (And.intro hz1 hz2)))
  have HH := Aside.mk (head_of h hp hs)
  clear h hp hs hi0 hz0 hz1 hz2 hl9
  go_enter Try.func30, Try.ntmps30
  go_wp2_with fail
  refine (tnext_calls T l fp w HT.out).mono ?_
  rintro e w1 ⟨rfl, hb⟩
  rw [HH.out.1, HH.out.2]
  have HT1 := Aside.mk (HT.out.fr (Fr.of_new (F := fun _ => False) hb) (fun _ _ f => f))
  have HF1 := Aside.mk (Fr.of_new (F := fun k => k ∈ fp) hb)
  clear hb
  go_wp2_with fail
  go_loopw [5, 6, 7] (fun v5 v6 v7 wr => ∃ k l' g, Aside (DueRel w T S fp now v5 v6 v7 k l' g wr)) (fun v5 _ _ _ => S.length - lenOf v5)
  case atStart => exact ⟨0, l, w1.heap.size, ⟨⟨Nat.zero_le _, rfl, rfl, rfl, by simpa using HP.out, by simp, World.ownsRow_nil _ _ _ _, (HT1.out.fr ((Fr.refl (fun _ => False) _).alloc _) (fun _ _ f => f)), heap_alloc_new w1 _, HF1.out.size, HF1.out.alloc _⟩⟩⟩
  case round =>
    obtain ⟨k, l', g, HR⟩ := hrel
    cases hk : S[k]? with
    | none =>
      have hdk : S.drop k = [] := List.drop_eq_nil_of_le (List.getElem?_eq_none_iff.1 hk)
      obtain rfl : u6 = .pointer (some ⟨g, 0, none⟩) := HR.out.v6p
      obtain rfl : u7 = .bool false := by rw [HR.out.v7b, hdk]; rfl
      have HZ := Aside.mk (HR.out.fin HS.out (fun x hx => by rw [hk] at hx; cases hx))
      clear hk hdk
      go_wp2_with fail
      go_ret
      exact ⟨_, rfl, HZ.out⟩
    | some y =>
      have hkl := (List.getElem?_eq_some_iff.1 hk).1
      have hdk : S.drop k = y :: S.drop (k + 1) := by rw [List.drop_eq_getElem_cons hkl, (List.getElem?_eq_some_iff.1 hk).2]
      obtain rfl : u6 = .pointer (some ⟨g, 0, none⟩) := HR.out.v6p
      obtain rfl : u7 = .bool true := by rw [HR.out.v7b, hdk]; rfl
      have hbox : wr.heap[g]? = some (.cells #[.int .i64 y.1, .int .i64 y.2] 57 (0, 0)) := by have := HR.out.box; rw [hdk] at this; exact this
      have HB := Aside.mk hbox
      have c0 : wr.cell? ⟨g, 0, none⟩ = some (.int .i64 y.1) := cell_at hbox 0
      have c1 : wr.cell? ⟨g, 1, none⟩ = some (.int .i64 y.2) := cell_at hbox 1
      have hgl := lt_of_block hbox
      have hgn : ¬ g = wr.heap.size := by omega
      have HK := Aside.mk hk
      have HD := Aside.mk hdk
      have HKL := Aside.mk hkl
      clear hk hdk hbox hkl
      by_cases hy : y.2 ≤ now
      · have HY := Aside.mk hy
        go_wp2_with (at_builtin; refine wpList_append_own _ rfl _ _ 42 rfl w.heap.size 2 i0 (.int .i64 0) 1 8 Try.underlying42 HIN.out.1 HIN.out.2.1 HIN.out.2.2.1 HIN.out.2.2.2 rfl (by decide) _ _ _ rfl (HR.out.own.alloc _) ⟨wr.heap.size, 0, none⟩ 1 1 [.int .i64 y.1] rfl rfl ?c1 ?c2 ?c3 ?c4 ?c5 ?_)
        case c1 => exact news1 wr _ _
        case c2 => intro u hu; rw [List.mem_singleton.1 hu]; rfl
        case c3 => have := HL.out; have := HKL.out; unfold maxLen; omega
        case c4 => have := HL.out; have := HKL.out; omega
        case c5 => have := HR.out.fr.size; simp; omega
        intro v5 W2 hown hgrow hnn
        clear hnn
        have hfp : ∀ q ∈ fp, q < w.heap.size := HT.out.lt
        have hbase : ∀ q, some q = u5.ownBlock → w.heap.size ≤ q := fun q e => (HR.out.own.lt q e.symm).1
        have HO2 : Aside (W2.ownsRow w.heap.size 2 1 v5 (k + 1) ((S.take (k + 1)).map fun x => .int .i64 x.1)) := ⟨by
          rw [List.take_succ_eq_append_getElem HKL.out, (List.getElem?_eq_some_iff.1 HK.out).2, List.map_append, List.map_take]
          exact hown⟩
        have HG2 : Aside (Fr (fun q => some q = u5.ownBlock) (wr.alloc (.cells #[.int .i64 y.1] 2 (0, 0))) W2) := ⟨Fr.of_grown hgrow (fun q e => e.symm)⟩
        have hb2 : W2.heap[g]? = some (.cells #[.int .i64 y.1, .int .i64 y.2] 57 (0, 0)) := HG2.out.heap (blk_alloc' HB.out _) (ownsRow_ne HR.out.own HB.out (by decide))
        have HT2 : Aside (TM W2 T l' fp) := ⟨(HR.out.tm.fr ((Fr.refl (fun _ => False) _).alloc _) (fun _ _ f => f)).fr HG2.out (fun q hq e => by have := hfp q hq; have := hbase q e; omega)⟩
        have HF2 : Aside (Fr (fun q => q ∈ fp) w W2) := ⟨(HR.out.fr.alloc _).then HG2.out (fun q e => .inr (hbase q e))⟩
        have HB2 := Aside.mk hb2
        have d0 : W2.cell? ⟨g, 0, none⟩ = some (.int .i64 y.1) := cell_at hb2 0
        have HFP := Aside.mk hfp
        have HNG := Aside.mk HR.out.new
        have HL' : Aside (l'.length ≤ 100000000) := ⟨by rw [HR.out.perm.length_eq, List.length_drop]; have := HL.out; omega⟩
        have HPM := Aside.mk HR.out.perm
        have HDN := Aside.mk HR.out.done
        have HV5 := Aside.mk HR.out.v5n
        clear hown hgrow hfp hbase hb2 c0 c1 HR
        go_wp2_with fail
        refine (tstop_calls T l' fp y.1 W2 (Nat.le_trans HL'.out (by decide)) HT2.out).mono ?_
        rintro e W3 ⟨rfl, l2, hp2, hT3, hF3⟩
        have hgfp : ¬ g ∈ fp := fun hq => by have := HFP.out g hq; have := HNG.out; omega
        have hb3 : W3.heap[g]? = some (.cells #[.int .i64 y.1, .int .i64 y.2] 57 (0, 0)) := hF3.heap HB2.out hgfp
        have e0 : W3.cell? ⟨g, 0, none⟩ = some (.int .i64 y.1) := cell_at hb3 0
        have e1 : W3.cell? ⟨g, 1, none⟩ = some (.int .i64 y.2) := cell_at hb3 1
        have HO3 := Aside.mk (ownsRow_fr HO2.out hF3 (fun q hq f => by have := HFP.out q f; omega))
        have HF3 := Aside.mk (HF2.out.then hF3 (fun q f => .inl f))
        have HT3 := Aside.mk (hT3.fr ((Fr.refl (fun _ => False) _).alloc (.cells #[.int .i64 y.1, .int .i64 y.2] 57 (0, 0))) (fun _ _ f => f))
        have HP3 : Aside (l2.Perm (S.drop (k + 1))) := ⟨hp2.trans (due_step HI.out HK.out HPM.out)⟩
        have HH3 := Aside.mk (head_of HT3.out HP3.out (List.Pairwise.sublist (List.drop_sublist _ _) HS.out))
        clear hp2 hT3 hF3 hgfp hb3 d0
        go_wp2_with fail
        refine (tnext_calls T l2 fp _ HT3.out).mono ?_
        rintro e W4 ⟨rfl, hb4⟩
        rw [HH3.out.1, HH3.out.2]
        have hn4 : W4.heap[W3.heap.size]? = some (.cells #[.int .i64 y.1, .int .i64 y.2] 57 (0, 0)) := (hb4.block _ (by simp)).trans (heap_alloc_new W3 _)
        have HF4 := Aside.mk ((HF3.out.alloc (.cells #[.int .i64 y.1, .int .i64 y.2] 57 (0, 0))).then (Fr.of_new (F := fun _ => False) hb4) (fun _ f => f.elim))
        have HT4 := Aside.mk (HT3.out.fr (Fr.of_new (F := fun _ => False) hb4) (fun _ _ f => f))
        have HO4 := Aside.mk (ownsRow_fr (HO3.out.alloc (.cells #[.int .i64 y.1, .int .i64 y.2] 57 (0, 0))) (Fr.of_new (F := fun _ => False) hb4) (fun _ _ f => f))
        have HN4 := Aside.mk hn4
        have f0 : W4.cell? ⟨W3.heap.size, 0, none⟩ = some (.int .i64 y.1) := cell_at hn4 0
        have f1 : W4.cell? ⟨W3.heap.size, 1, none⟩ = some (.int .i64 y.2) := cell_at hn4 1
        have f2 : ∀ j, W4.frozen? ⟨W3.heap.size, j, none⟩ = false := fun j => free_at hn4 j
        clear hb4 hn4 e0 e1
        go_wp2_with fail
        go_roundw
        case rel =>
          have hnf : ∀ q ∈ fp, ¬ q = W3.heap.size := fun q hq e => by have := HFP.out q hq; have := HF3.out.size; omega
          have hne : some W3.heap.size ≠ v5.ownBlock := ownsRow_ne HO4.out HN4.out (by decide)
          refine ⟨k + 1, l2, W3.heap.size, ⟨⟨HKL.out, ownsRow_len HO4.out, rfl, rfl, HP3.out, ?_, ?_, ?_, ?_, HF3.out.size, ?_⟩⟩⟩
          · intro x hx
            rw [List.take_succ_eq_append_getElem HKL.out, (List.getElem?_eq_some_iff.1 HK.out).2] at hx
            rcases List.mem_append.1 hx with h | h
            · exact HDN.out x h
            · rw [List.mem_singleton.1 h]; exact HY.out
          · exact ownsRow_setCell_other (ownsRow_setCell_other HO4.out hne.symm _) hne.symm _
          · exact (HT4.out.fr ((Fr.refl (fun q => q = W3.heap.size) _).setCell (.inl rfl) _) hnf).fr ((Fr.refl (fun q => q = W3.heap.size) _).setCell (.inl rfl) _) hnf
          · exact heap_setCell_eq (j := 1) _ (heap_setCell_eq (j := 0) _ HN4.out)
          · exact (HF4.out.setCell (.inr HF3.out.size) _).setCell (.inr HF3.out.size) _
        case measure =>
          have h1 := ownsRow_len HO4.out
          have h2 := HKL.out
          have h3 := HV5.out
          simp [h1, h3]
          omega
      · have HZ := Aside.mk (HR.out.fin HS.out (fun x hx => by rw [HK.out] at hx; cases hx; exact hy))
        go_wp2_with fail
        go_ret
        exact ⟨_, rfl, HZ.out⟩
end Go.Proofs.Ytjefeoohfalcaaa.C
