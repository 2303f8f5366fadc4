/- The document's timers: Stop, Has. -/
import Derived.Test.YtjefeoohfalcaaaON
import Derived.Test.YtjefeoohfalcaaaWTab
/-! The document's timers: Stop, Has. -/
namespace Go.Proofs.Ytjefeoohfalcaaa.C
open Go.RowKit Go.Proofs.Ytjefeoohfalcaaa.Q
set_option linter.unusedVariables false
set_option linter.unusedSimpArgs false
/-- A row of the document's timers. -/
structure RRow (w : World) (b c : Nat) (l : List (Int × Int)) : Prop where
  cur : ∃ cs : Array Value, w.heap[b]? = some (.cells cs 96 (0, 0)) ∧ cs.size = c * 2 ∧ cs.toList.take (l.length * 2) = tcells l
  cap : l.length ≤ c
  max : c ≤ maxLen
theorem RRow.lt {w : World} {b c : Nat} {l : List (Int × Int)} (h : RRow w b c l) : b < w.heap.size := by
  obtain ⟨cs, hb, _⟩ := h.cur
  exact lt_of_block hb
theorem RRow.keep {w w' : World} {b c : Nat} {l : List (Int × Int)} (h : RRow w b c l) (e : w'.heap[b]? = w.heap[b]?) : RRow w' b c l := by
  obtain ⟨⟨cs, hb, r⟩, h2, h3⟩ := h
  exact ⟨⟨cs, e.trans hb, r⟩, h2, h3⟩
theorem RRow.news {w : World} {b c : Nat} {l : List (Int × Int)} (h : RRow w b c l) (j : Nat) (u : Value) (hu : (tcells l)[j]? = some u) : w.cell? ⟨b, j, none⟩ = some u := by
  obtain ⟨cs, hb, hs, ht⟩ := h.cur
  rw [cell_at hb]
  rw [← ht] at hu
  have hj : j < l.length * 2 := by
    rcases Nat.lt_or_ge j (l.length * 2) with h' | h'
    · exact h'
    · rw [List.getElem?_eq_none (by rw [List.length_take]; omega)] at hu; cases hu
  rw [List.getElem?_take_of_lt hj] at hu
  simpa using hu
theorem RRow.cells {w : World} {b c : Nat} {l : List (Int × Int)} (h : RRow w b c l) {i : Nat} {x : Int × Int} (hx : l[i]? = some x) :
    w.cell? ⟨b, i * 2, none⟩ = some (.int .i64 x.1) ∧ w.cell? ⟨b, i * 2 + 1, none⟩ = some (.int .i64 x.2) :=
  ⟨h.news _ _ (tcells_at l i x hx).1, h.news _ _ (tcells_at l i x hx).2⟩
/-- The slice of the document's timers: nil, or a row. -/
def RV (w : World) (A : Option Addr) (n c : Nat) (S : List (Int × Int)) : Prop :=
  (A = none ∧ n = 0 ∧ c = 0 ∧ S = []) ∨ ∃ g, A = some ⟨g, 0, none⟩ ∧ n = S.length ∧ RRow w g c S
theorem RV.len {w : World} {A : Option Addr} {n c : Nat} {S : List (Int × Int)} (h : RV w A n c S) : n = S.length := by
  rcases h with ⟨_, rfl, _, rfl⟩ | ⟨g, _, h, _⟩
  · rfl
  · exact h
theorem RV.cap {w : World} {A : Option Addr} {n c : Nat} {S : List (Int × Int)} (h : RV w A n c S) : n ≤ c ∧ c ≤ maxLen := by
  rcases h with ⟨_, rfl, rfl, rfl⟩ | ⟨g, _, h, h2⟩
  · exact ⟨Nat.le_refl _, by unfold maxLen; omega⟩
  · exact ⟨by rw [h]; exact h2.cap, h2.max⟩
theorem RV.below {w w' : World} {A : Option Addr} {n c : Nat} {S : List (Int × Int)} (h : RV w A n c S) (hb : Below w.heap.size w w') : RV w' A n c S := by
  rcases h with h | ⟨g, h1, h2, h3⟩
  · exact .inl h
  · exact .inr ⟨g, h1, h2, h3.keep (hb.block g h3.lt)⟩
theorem RV.fr {F : Nat → Prop} {w w' : World} {A : Option Addr} {n c : Nat} {S : List (Int × Int)} {t : TypeId} {X : Nat} {cs : Array Value} (h : RV w A n c S) (hX : w.heap[X]? = some (.cells cs t (0, 0))) (ht : t ≠ 96) (hf : Fr F w w') (hF : ∀ k, F k → k = X) : RV w' A n c S := by
  rcases h with h | ⟨g, h1, h2, h3⟩
  · exact .inl h
  · refine .inr ⟨g, h1, h2, h3.keep (hf.block g h3.lt (fun f => ?_))⟩
    have := hF g f
    subst this
    obtain ⟨cs2, hb, _⟩ := h3.cur
    rw [hX] at hb
    cases hb
    exact ht rfl
theorem RV.at {w : World} {A : Option Addr} {n c : Nat} {S : List (Int × Int)} (h : RV w A n c S) {i : Nat} {x : Int × Int} (hx : S[i]? = some x) : ∃ g, A = some ⟨g, 0, none⟩ ∧ w.cell? ⟨g, i * 2, none⟩ = some (.int .i64 x.1) ∧ w.cell? ⟨g, i * 2 + 1, none⟩ = some (.int .i64 x.2) ∧ g < w.heap.size := by
  rcases h with ⟨_, _, _, rfl⟩ | ⟨g, h1, h2, h3⟩
  · simp at hx
  · exact ⟨g, h1, (h3.cells hx).1, (h3.cells hx).2, h3.lt⟩
/-- The document's timers: their block, what they hold. -/
structure RT (w : World) (X : Nat) (S : List (Int × Int)) : Prop where
  own : ∃ A c, w.heap[X]? = some (.cells #[.slice A S.length c] 74 (0, 0)) ∧ RV w A S.length c S
theorem RT.lt {w : World} {X : Nat} {S : List (Int × Int)} (h : RT w X S) : X < w.heap.size := by
  obtain ⟨A, c, h1, _⟩ := h.own
  exact lt_of_block h1
theorem RT.below {w w' : World} {X : Nat} {S : List (Int × Int)} (h : RT w X S) (hb : Below w.heap.size w w') : RT w' X S := by
  obtain ⟨A, c, h1, h2⟩ := h.own
  exact ⟨A, c, (hb.block X (lt_of_block h1)).trans h1, h2.below hb⟩
theorem rv_own {w : World} {B n : Nat} {v : Value} {S : List (Int × Int)} (h : w.ownsRow B 96 2 v n (tcells S)) (hn : n = S.length) : ∃ A c, v = .slice A n c ∧ RV w A n c S := by
  rcases h.2 with ⟨h1, h2⟩ | ⟨g, cap, cur, hv, hbg, hb, hc, hm, hs, ht⟩
  · exact ⟨none, 0, by rw [h1, h2], .inl ⟨rfl, h2, rfl, List.eq_nil_of_length_eq_zero (by omega)⟩⟩
  · exact ⟨_, cap, hv, .inr ⟨g, rfl, hn, ⟨cur, hb, hs, by rw [← hn]; exact ht⟩, by omega, hm⟩⟩
theorem rt_stored {w : World} {X : Nat} {A A' : Option Addr} {n n' c c' : Nat} {S : List (Int × Int)} (hX : w.heap[X]? = some (.cells #[.slice A n c] 74 (0, 0))) (h : RV w A' n' c' S) : RT (w.setCell ⟨X, 0, none⟩ (.slice A' n' c')) X S := by
  have hn := h.len
  subst hn
  exact ⟨A', c', heap_setCell_eq _ hX, h.fr hX (by decide) ((Fr.refl (fun k => k = X) w).setCell (.inl rfl) _) (fun k e => e)⟩
theorem rtimer_info : (Try.prog.info? 96).map (fun i => (i.zero, i.size, i.bytes)) = some (some (.agg #[.int .i64 0, .int .i64 0]), 2, 16) := by kernel_rfl
theorem take_snoc' {S : List (Int × Int)} {k : Nat} {x : Int × Int} (hx : S[k]? = some x) : S.take (k + 1) = S.take k ++ [x] := by
  obtain ⟨h, rfl⟩ := List.getElem?_eq_some_iff.1 hx
  exact List.take_succ_eq_append_getElem h
theorem del_snoc (S : List (Int × Int)) (x : Int × Int) (id : Int) : del (S ++ [x]) id = del S id ++ if x.1 = id then [] else [x] := by
  unfold del
  rw [List.filter_append]
  congr 1
  by_cases h : x.1 = id <;> simp [h]
set_option maxHeartbeats 2000000 in
set_option maxRecDepth 100000 in
theorem rstop_calls (X : Nat) (S : List (Int × Int)) (id : Int) (w : World) (hI : Ids S) (hl : S.length ≤ 1000000) (h : RT w X S) : Calls Try.prog 35 #[.pointer (some ⟨X, 0, none⟩), .int .i64 id] w fun e w' => e = .returned (.bool (hasOf S id).isSome) ∧ RT w' X (del S id) ∧ Fr (fun k => k = X) w w' := by
  obtain ⟨A, c, hX, hV⟩ := h.own
  obtain ⟨n, hn⟩ : ∃ n, S.length = n := ⟨_, rfl⟩
  rw [hn] at hX hV hl
  have HX := Aside.mk hX
  have HV := Aside.mk hV
  have HN := Aside.mk hn
  have HI := Aside.mk hI
  have hXl := lt_of_block hX
  have hcap := hV.cap
  unfold maxLen at hcap
  obtain ⟨i0, hi0, hz0, hz1, hz2⟩ := info_parts rtimer_info
  have HIN := Aside.mk (And.intro hi0 (And.intro hz0 (And.intro hz1 hz2)))
  clear h hX hV hn hI hi0 hz0 hz1 hz2
  go_enter Try.func35, Try.ntmps35
  go_wp2_with fail
  go_loopw [5, 6] (fun v5 v6 wr => ∃ k : Nat, k ≤ n ∧ v6 = .int .i64 k ∧ Aside (wr.ownsRow w.heap.size 96 2 v5 (del (S.take k) id).length (tcells (del (S.take k) id)) ∧ Below w.heap.size w wr)) (fun _ v6 _ => n - (intOf v6).toNat)
  case atStart => exact ⟨0, by omega, rfl, ⟨World.ownsRow_nil _ _ _ _, Below.refl _ _⟩⟩
  case round =>
    obtain ⟨k, hk, rfl, HR⟩ := hrel
    have hXr := (HR.out.2.block X hXl).trans HX.out
    have HXR := Aside.mk hXr
    have t0 : wr.cell? ⟨X, 0, none⟩ = some (.slice A n c) := cell_at hXr 0
    clear hXr
    by_cases hlt : k < n
    · obtain ⟨x, hx⟩ : ∃ x, S[k]? = some x := ⟨_, List.getElem?_eq_getElem (by rw [HN.out]; exact hlt)⟩
      obtain ⟨g, rfl, t1, t2, hg⟩ := (HV.out.below HR.out.2).at hx
      have hsn := take_snoc' hx
      have hds := del_snoc (S.take k) x id
      rw [← hsn] at hds
      have hdl : (del (S.take k) id).length ≤ k := Nat.le_trans (del_le _ _) (List.length_take_le _ _)
      obtain ⟨q, hq⟩ : ∃ q, (del (S.take k) id).length = q := ⟨_, rfl⟩
      rw [hq] at hdl
      have HQ := Aside.mk hq
      by_cases he : x.1 = id
      · rw [if_pos he, List.append_nil] at hds
        have hb : (x.1 != id) = false := by rw [he]; simp
        have HZ := Aside.mk hds
        clear hds hsn hx he hq
        go_wp2_with fail
        go_roundw
        case rel => exact ⟨k + 1, by omega, by go_num, by rw [HZ.out]; exact HR⟩
        case measure => simp [intOf]; omega
      · rw [if_neg he] at hds
        have hb : (x.1 != id) = true := by simpa using he
        have HZ := Aside.mk hds
        have hown := HR.out.1
        rw [HQ.out] at hown
        have HO := Aside.mk hown
        have HS := Aside.mk HR.out.2.size
        clear hds hsn hx he hq hown
        go_wp2_with (at_builtin; refine wpList_append_own _ rfl _ _ 72 rfl w.heap.size 96 i0 (.agg #[.int .i64 0, .int .i64 0]) 2 16 Try.underlying72 HIN.out.1 HIN.out.2.1 HIN.out.2.2.1 HIN.out.2.2.2 rfl (by decide) _ _ _ rfl (HO.out.alloc _) ⟨wr.heap.size, 0, none⟩ 1 1 [.int .i64 x.1, .int .i64 x.2] rfl rfl ?c1 ?c2 ?c3 ?c4 ?c5 ?_)
        case c1 => exact cell_two_new wr _ _ _
        case c2 => simp [Value.oneCell']
        case c3 => unfold maxLen; omega
        case c4 => omega
        case c5 => have := HS.out; simp; omega
        intro v5 W2 hown hgrow hnn
        have HO2 : Aside (W2.ownsRow w.heap.size 96 2 v5 (del (S.take (k + 1)) id).length (tcells (del (S.take (k + 1)) id)) ∧ Below w.heap.size w W2) := ⟨by
          rw [HZ.out, List.length_append, HQ.out]
          exact ⟨by simpa [tcells] using hown, (HR.out.2.alloc HR.out.2.size _).grown hgrow (by have := HS.out; simp; omega) (fun q e => (HO.out.lt q e).1)⟩⟩
        clear hown hgrow hnn
        go_wp2_with fail
        go_roundw
        case rel => exact ⟨k + 1, by omega, by go_num, HO2⟩
        case measure => simp [intOf]; omega
    · obtain rfl : k = n := by omega
      have hown := HR.out.1
      rw [List.take_of_length_le (by rw [HN.out]; exact Nat.le_refl _)] at hown
      obtain ⟨A', c', rfl, hv⟩ := rv_own hown rfl
      obtain ⟨m, hm⟩ : ∃ m, (del S id).length = m := ⟨_, rfl⟩
      rw [hm] at hv ⊢
      have HV' := Aside.mk hv
      have hfz : wr.frozen? ⟨X, 0, none⟩ = false := free_at HXR.out 0
      have HF : Aside (Fr (fun k => k = X) w wr) := ⟨Fr.of_new HR.out.2⟩
      cases hh : (hasOf S id).isSome with
      | true =>
        have hlen := del_len HI.out hh
        rw [hm, HN.out] at hlen
        have hd : decide (m < k) = true := by simp; omega
        have HH := Aside.mk hh
        clear hown hv hm hh
        go_wp2_with fail
        go_ret
        exact ⟨by rw [HH.out]; rfl, rt_stored HXR.out HV'.out, HF.out.setCell (.inl rfl) _⟩
      | false =>
        have hlen : m = k := by rw [← hm, del_none (hasB_none hh), HN.out]
        subst hlen
        have HH := Aside.mk hh
        clear hown hv hm hh
        go_wp2_with fail
        go_ret
        exact ⟨by rw [HH.out]; rfl, rt_stored HXR.out HV'.out, HF.out.setCell (.inl rfl) _⟩
set_option maxHeartbeats 2000000 in
set_option maxRecDepth 100000 in
theorem rhas_calls (X : Nat) (S : List (Int × Int)) (id : Int) (w : World) (hI : Ids S) (h : RT w X S) : Calls Try.prog 37 #[.pointer (some ⟨X, 0, none⟩), .int .i64 id] w fun e w' => e = .returned (.tuple #[.int .i64 ((hasOf S id).getD 0), .bool (hasOf S id).isSome]) ∧ w = w' := by
  obtain ⟨A, c, hX, hV⟩ := h.own
  obtain ⟨n, hn⟩ : ∃ n, S.length = n := ⟨_, rfl⟩
  rw [hn] at hX hV
  have HV := Aside.mk hV
  have HN := Aside.mk hn
  have HI := Aside.mk hI
  have hcap := hV.cap
  unfold maxLen at hcap
  have t0 : w.cell? ⟨X, 0, none⟩ = some (.slice A n c) := cell_at hX 0
  clear h hX hV hn hI
  go_enter Try.func37, Try.ntmps37
  go_wp2_with fail
  go_loop [6] (fun v6 => ∃ k : Nat, k ≤ n ∧ v6 = .int .i64 k ∧ Aside (∀ y ∈ S.take k, y.1 ≠ id)) (fun v6 => n - (intOf v6).toNat)
  case atStart => exact ⟨0, by omega, rfl, ⟨by simp⟩⟩
  case round =>
    obtain ⟨k, hk, rfl, HR⟩ := hrel
    by_cases hlt : k < n
    · obtain ⟨x, hx⟩ : ∃ x, S[k]? = some x := ⟨_, List.getElem?_eq_getElem (by rw [HN.out]; exact hlt)⟩
      obtain ⟨g, rfl, t1, t2, hg⟩ := HV.out.at hx
      have HX := Aside.mk hx
      by_cases he : x.1 = id
      · have hb : (x.1 == id) = true := by rw [he]; simp
        have HH := Aside.mk (has_some HI.out hx)
        have HE := Aside.mk he
        clear hx he
        go_wp2_with fail
        go_ret2
        exact ⟨by rw [← HE.out, HH.out]; rfl, rfl⟩
      · have hb : (x.1 == id) = false := by simpa using he
        have HE : Aside (∀ y ∈ S.take (k + 1), y.1 ≠ id) := ⟨by
          rw [take_snoc' hx]
          intro y hy
          rcases List.mem_append.1 hy with h1 | h1
          · exact HR.out y h1
          · rw [List.mem_singleton.1 h1]; exact he⟩
        clear hx he
        go_wp2_with fail
        go_round
        case rel => exact ⟨k + 1, by omega, by go_num, HE⟩
        case measure => simp [intOf]; omega
    · obtain rfl : k = n := by omega
      have HH : Aside (hasOf S id = none) := ⟨has_none (by have := HR.out; rw [List.take_of_length_le (by rw [HN.out]; exact Nat.le_refl _)] at this; exact this)⟩
      go_wp2_with fail
      go_ret2
      exact ⟨by rw [HH.out]; rfl, rfl⟩
end Go.Proofs.Ytjefeoohfalcaaa.C
/-! The document's timers: ahead, Set, Due. -/
namespace Go.Proofs.Ytjefeoohfalcaaa.C
open Go.RowKit Go.Proofs.Ytjefeoohfalcaaa.Q Go.Proofs.YtjefeoohfalcaaaW.PrintLast Go.Proofs.YtjefeoohfalcaaaW.PrintWords
set_option linter.unusedVariables false
set_option linter.unusedSimpArgs false
set_option maxHeartbeats 1000000 in
set_option maxRecDepth 100000 in
theorem rahead_calls (x y : Int × Int) (w : World) : Calls Try.prog 50 #[.agg #[.int .i64 x.1, .int .i64 x.2], .agg #[.int .i64 y.1, .int .i64 y.2]] w fun e w' => e = .returned (.bool (aheadB x y)) ∧ Below w.heap.size w w' := by
  have HB : Aside (∀ o o' : Obj, Below w.heap.size w ((w.alloc o).alloc o')) := ⟨fun o o' => ((Below.refl _ _).alloc (Nat.le_refl _) _).alloc (by simp) _⟩
  by_cases h1 : x.2 < y.2
  · have HA : Aside (aheadB x y = true) := ⟨by unfold aheadB; simp; omega⟩
    have d1 : decide (x.2 < y.2) = true := by simpa using h1
    clear h1
    go_enter Try.func50, Try.ntmps50
    go_wp2_with fail
    go_ret
    exact ⟨by rw [HA.out]; rfl, HB.out _ _⟩
  · have d1 : decide (x.2 < y.2) = false := by simpa using h1
    by_cases h2 : x.2 = y.2
    · have d2 : (x.2 == y.2) = true := by simpa using h2
      obtain ⟨b, hb⟩ : ∃ b, decide (x.1 < y.1) = b := ⟨_, rfl⟩
      have HA : Aside (aheadB x y = b) := ⟨by unfold aheadB; rw [← hb]; exact decide_eq_decide.2 ⟨fun h => by omega, fun h => by omega⟩⟩
      clear h1 h2
      cases b with
      | true =>
        go_enter Try.func50, Try.ntmps50
        go_wp2_with fail
        go_ret
        exact ⟨by rw [HA.out]; rfl, HB.out _ _⟩
      | false =>
        go_enter Try.func50, Try.ntmps50
        go_wp2_with fail
        go_ret
        exact ⟨by rw [HA.out]; rfl, HB.out _ _⟩
    · have d2 : (x.2 == y.2) = false := by simpa using h2
      have HA : Aside (aheadB x y = false) := ⟨by unfold aheadB; simp; omega⟩
      clear h1 h2
      go_enter Try.func50, Try.ntmps50
      go_wp2_with fail
      go_ret
      exact ⟨by rw [HA.out]; rfl, HB.out _ _⟩
/-- A source of timers that is appended. -/
def Src2 (w : World) (v : Value) (m : Nat) (news : List Value) : Prop :=
  news.length = m * 2 ∧ (∀ u ∈ news, u.oneCell' = true) ∧ ((v = .slice none 0 0 ∧ m = 0 ∧ news = []) ∨ ∃ a c, v = .slice (some a) m c ∧ ∀ j u, news[j]? = some u → w.cell? (a.add j) = some u)
theorem tcells_one (l : List (Int × Int)) : ∀ u ∈ tcells l, u.oneCell' = true := by
  intro u hu
  unfold tcells at hu
  rw [List.mem_flatMap] at hu
  obtain ⟨x, _, hx⟩ := hu
  simp only [List.mem_cons, List.not_mem_nil, or_false] at hx
  rcases hx with rfl | rfl <;> rfl
theorem tcells_drop (l : List (Int × Int)) (k : Nat) (hk : k ≤ l.length) : tcells (l.drop k) = (tcells l).drop (k * 2) := by
  have h := tcells_append (l.take k) (l.drop k)
  rw [List.take_append_drop] at h
  rw [h]
  have h2 : (tcells (l.take k)).length = k * 2 := by rw [tcells_len, List.length_take]; omega
  rw [← h2, List.drop_left]
theorem add_at (g i j : Nat) : ((⟨g, i, none⟩ : Addr).add j) = ⟨g, i + j, none⟩ := by
  unfold Addr.add
  split
  · subst_vars; rfl
  · rfl
theorem RV.take {w : World} {A : Option Addr} {n c : Nat} {S : List (Int × Int)} (h : RV w A n c S) {k : Nat} (hk : k ≤ n) : Src2 w (sliced A 0 k c 2) k (tcells (S.take k)) := by
  have hl := h.len
  refine ⟨by rw [tcells_len, List.length_take]; omega, tcells_one _, ?_⟩
  rcases h with ⟨rfl, rfl, rfl, rfl⟩ | ⟨g, rfl, h2, h3⟩
  · obtain rfl : k = 0 := by omega
    exact .inl ⟨by simp [sliced], rfl, rfl⟩
  · refine .inr ⟨⟨g, 0, none⟩, c, ?_, ?_⟩
    · unfold sliced
      split
      · simp
      · simp [add_at]
    · intro j u hu
      rw [add_at, Nat.zero_add]
      rw [← tcells_take] at hu
      have hj : j < k * 2 := by
        rcases Nat.lt_or_ge j (k * 2) with h' | h'
        · exact h'
        · rw [List.getElem?_eq_none (by rw [List.length_take]; omega)] at hu; cases hu
      rw [List.getElem?_take_of_lt hj] at hu
      exact h3.news j u hu
theorem RV.drop {w : World} {A : Option Addr} {n c : Nat} {S : List (Int × Int)} (h : RV w A n c S) {k : Nat} (hk : k ≤ n) : Src2 w (sliced A k n c 2) (n - k) (tcells (S.drop k)) := by
  have hl := h.len
  have hc := h.cap
  refine ⟨by rw [tcells_len, List.length_drop]; omega, tcells_one _, ?_⟩
  rcases h with ⟨rfl, rfl, rfl, rfl⟩ | ⟨g, rfl, h2, h3⟩
  · obtain rfl : k = 0 := by omega
    exact .inl ⟨by simp [sliced], rfl, rfl⟩
  · unfold sliced
    by_cases e : c = k
    · rw [if_pos e]
      refine .inr ⟨⟨g, 0, none⟩, c - k, rfl, ?_⟩
      intro j u hu
      rw [List.drop_eq_nil_of_le (by omega)] at hu
      simp [tcells] at hu
    · rw [if_neg e]
      refine .inr ⟨⟨g, k * 2, none⟩, c - k, by simp [add_at], ?_⟩
      intro j u hu
      rw [add_at]
      rw [tcells_drop _ _ (by omega), List.getElem?_drop] at hu
      exact h3.news _ u hu
theorem rapp_src {w : World} {B n : Nat} {v : Value} {xs : List Value} (hown : w.ownsRow B 96 2 v n xs) {src : Value} {m : Nat} {news : List Value} (hs : Src2 w src m news) (h63 : n + m ≤ 4000000) (hB : B ≤ w.heap.size) :
    ∃ v' w', (Builtin.append_ #[72, 72] 72 #[v, src]).run Try.prog w = .ok v' w' ∧ w'.ownsRow B 96 2 v' (n + m) (xs ++ news) ∧ w.grownBy w' v.ownBlock := by
  obtain ⟨i0, hi0, hz0, hz1, hz2⟩ := info_parts rtimer_info
  obtain ⟨hl, h1, hs⟩ := hs
  rcases hs with ⟨rfl, rfl, rfl⟩ | ⟨a, c, rfl, hc⟩
  · exact ⟨v, w, run_append_owned_none w B 72 72 96 i0 2 Try.underlying72 hi0 v n xs hown, by simpa using hown, ⟨rfl, rfl, rfl, Nat.le_refl _, fun k hk hne => rfl⟩⟩
  · obtain ⟨v', w', hr, ho, hg, _⟩ := run_append_own (P := Try.prog) w B 72 72 96 i0 (.agg #[.int .i64 0, .int .i64 0]) 2 16 Try.underlying72 hi0 hz0 hz1 hz2 rfl (by decide) v n xs hown a m c news hl hc h1 (by unfold maxLen; omega) (by omega) hB
    exact ⟨v', w', hr, ho, hg⟩
theorem own_slice {w : World} {B n : Nat} {v : Value} {e : TypeId} {size : Nat} {xs : List Value} (h : w.ownsRow B e size v n xs) : ∃ A c, v = .slice A n c := by
  rcases h.2 with ⟨h1, h2⟩ | ⟨g, cap, cur, hv, _⟩
  · exact ⟨none, 0, by rw [h1, h2]⟩
  · exact ⟨_, cap, hv⟩
theorem rown_empty (w : World) : (w.alloc (.cells #[] 96 (0, 0))).ownsRow w.heap.size 96 2 (.slice (some ⟨w.heap.size, 0, none⟩) 0 0) 0 [] :=
  ⟨rfl, .inr ⟨w.heap.size, 0, #[], rfl, Nat.le_refl _, heap_alloc_new w _, Nat.le_refl _, Nat.zero_le _, rfl, rfl⟩⟩
theorem rown_emp {B : Nat} (w : World) (h : B ≤ w.heap.size) : (w.alloc (.cells #[] 96 (0, 0))).ownsRow B 96 2 (.slice (some ⟨w.heap.size, 0, none⟩) 0 0) 0 [] :=
  ⟨rfl, .inr ⟨w.heap.size, 0, #[], rfl, h, heap_alloc_new w _, Nat.le_refl _, Nat.zero_le _, rfl, rfl⟩⟩
/-- A slice of x alone, in a block. -/
def RBlk (w : World) (v : Value) (x : Int × Int) : Prop := ∃ g, v = .slice (some ⟨g, 0, none⟩) 1 1 ∧ w.heap[g]? = some (.cells #[.int .i64 x.1, .int .i64 x.2] 96 (0, 0))
theorem rblk_new (w : World) (x : Int × Int) : RBlk (w.alloc (.cells #[.int .i64 x.1, .int .i64 x.2] 96 (0, 0))) (.slice (some ⟨w.heap.size, 0, none⟩) 1 1) x := ⟨_, rfl, heap_alloc_new w _⟩
theorem RBlk.alloc {w : World} {v : Value} {x : Int × Int} (h : RBlk w v x) (o : Obj) : RBlk (w.alloc o) v x := by
  obtain ⟨g, h1, h2⟩ := h
  exact ⟨g, h1, blk_alloc h2 o⟩
theorem RBlk.grown {w w' : World} {v : Value} {x : Int × Int} {row : Option Nat} (h : RBlk w v x) (hg : w.grownBy w' row) (hr : v.ownBlock ≠ row) : RBlk w' v x := by
  obtain ⟨g, rfl, h2⟩ := h
  exact ⟨g, rfl, (hg.block g (lt_of_block h2) hr).trans h2⟩
theorem RBlk.src {w : World} {v : Value} {x : Int × Int} (h : RBlk w v x) : Src2 w v 1 [.int .i64 x.1, .int .i64 x.2] := by
  obtain ⟨g, rfl, h2⟩ := h
  refine ⟨rfl, by simp [Value.oneCell'], .inr ⟨_, 1, rfl, fun j u hu => ?_⟩⟩
  rw [add_at, cell_at h2, Nat.zero_add]
  simpa using hu
theorem rsrc_one (w : World) (x : Int × Int) : Src2 (w.alloc (.cells #[.int .i64 x.1, .int .i64 x.2] 96 (0, 0))) (.slice (some ⟨w.heap.size, 0, none⟩) 1 1) 1 [.int .i64 x.1, .int .i64 x.2] :=
  ⟨rfl, by simp [Value.oneCell'], .inr ⟨_, 1, rfl, cell_two_new w _ _ _⟩⟩
/-- How many stand ahead of x. -/
def cntA (x : Int × Int) : List (Int × Int) → Nat
  | [] => 0
  | y :: r => if aheadB x y = true then 0 else cntA x r + 1
theorem ins_cnt (x : Int × Int) : ∀ S, ins x S = S.take (cntA x S) ++ [x] ++ S.drop (cntA x S)
  | [] => rfl
  | y :: r => by
    unfold ins cntA
    split
    · simp
    · rw [ins_cnt x r]; simp
theorem cnt_is {x : Int × Int} : ∀ {S : List (Int × Int)} {k : Nat}, k ≤ S.length → (∀ y ∈ S.take k, aheadB y x = true) → (∀ y, S[k]? = some y → aheadB x y = true) → cntA x S = k
  | [], k, hk, _, _ => by simp at hk; subst hk; rfl
  | y :: r, 0, _, _, h2 => by unfold cntA; rw [if_pos (h2 y rfl)]
  | y :: r, k + 1, hk, h1, h2 => by
    have hy := h1 y (by simp)
    unfold cntA
    rw [if_neg (fun h => by unfold aheadB at h hy; simp only [decide_eq_true_eq] at h hy; omega), cnt_is (by simpa using hk) (fun z hz => h1 z (by simp [hz])) (fun z hz => h2 z (by simpa using hz))]

def rset5T : Bool × List (List Nat × List Nat) := (true, [([], []), ([], []), ([], []), ([2], [2]), ([3], [3]), ([4], [4]), ([], []), ([5, 6], [5, 6]), ([1, 7], [1, 7]), ([], []), ([9], [9]), ([8, 10, 8], [8, 10]), ([], []), ([12], [12]), ([13], [13]), ([14], [14]), ([], []), ([15, 16], [15, 16]), ([11, 17, 11], [11, 17]), ([0, 0, 1, 2, 3, 4, 5, 6, 7, 8, 9, 10, 11, 12, 13, 14, 15, 16, 17, 18], [0]), ([19, 0, 1, 2, 3, 4, 5, 6, 7, 8, 9, 10, 11, 12, 13, 14, 15, 16, 17, 18], [19]), ([20, 18, 18, 0, 1, 2, 3, 4, 5, 6, 7, 8, 9, 10, 11, 12, 13, 14, 15, 16, 17, 18], [18, 20])])
def rset5B : List Nat := [0, 0, 0, 4, 12, 28, 0, 124, 254, 0, 512, 2046, 0, 4096, 12288, 28672, 0, 126976, 262142, 524287, 1048575, 2097151]
theorem rset5_tab : rtab .any (opsOf Try.f34 5) = rset5T := by kernel_rfl
theorem rset5_bits : waitsOk rset5T.2 rset5B = true := by kernel_rfl

set_option maxHeartbeats 2000000 in
set_option maxRecDepth 100000 in
theorem rset_calls (X : Nat) (S : List (Int × Int)) (id v : Int) (w : World) (hI : Ids S) (hl : S.length ≤ 1000000) (h : RT w X S) : Calls Try.prog 34 #[.pointer (some ⟨X, 0, none⟩), .int .i64 id, .int .i64 v] w fun e w' => e = .returned (.tuple #[]) ∧ RT w' X (setS S id v) ∧ Fr (fun k => k = X) w w' := by
  have HC := Aside.mk (rstop_calls X S id w hI hl h)
  have hnot := del_not S id
  obtain ⟨S1, hS1⟩ : ∃ S1, del S id = S1 := ⟨_, rfl⟩
  have HS1 := Aside.mk hS1
  have HL1 : Aside (S1.length ≤ 1000000) := ⟨by rw [← hS1]; exact Nat.le_trans (del_le S id) hl⟩
  rw [hS1] at hnot
  have HNOT := Aside.mk hnot
  obtain ⟨x, hx⟩ : ∃ x : Int × Int, x = (id, v) := ⟨_, rfl⟩
  have HX := Aside.mk hx
  have hx1 : id = x.1 := by rw [hx]
  have hx2 : v = x.2 := by rw [hx]
  clear h hI hl hS1 hnot hx
  subst hx1; subst hx2
  go_enter Try.func34, Try.ntmps34
  go_wp2_with fail
  refine HC.out.mono ?_
  rintro e w1 ⟨rfl, hT, hF⟩
  rw [HS1.out] at hT
  have HF := Aside.mk hF
  obtain ⟨A, c, hb, hV⟩ := hT.own
  obtain ⟨n, hn⟩ : ∃ n, S1.length = n := ⟨_, rfl⟩
  have hn9 := HL1.out
  rw [hn] at hb hV hn9
  have HB := Aside.mk hb
  have HV := Aside.mk hV
  have HN := Aside.mk hn
  have hXl := lt_of_block hb
  have hcap := hV.cap
  unfold maxLen at hcap
  generalize (hasOf S x.1).isSome = bb
  clear hT hF hb hV hn HC
  go_upto_block 0 with fail
  have HBox : Aside ((w1.alloc (.cells #[.int .i64 x.1, .int .i64 x.2] 96 (0, 0))).heap[w1.heap.size]? = some (.cells #[.int .i64 x.1, .int .i64 x.2] 96 (0, 0))) := ⟨heap_alloc_new w1 _⟩
  have HB1 : Aside (Below w1.heap.size w1 (w1.alloc (.cells #[.int .i64 x.1, .int .i64 x.2] 96 (0, 0)))) := ⟨(Below.refl _ _).alloc (Nat.le_refl _) _⟩
  obtain ⟨G, hG⟩ : ∃ G, w1.heap.size = G := ⟨_, rfl⟩
  obtain ⟨wa, hwa⟩ : ∃ wa, wa = w1.alloc (.cells #[.int .i64 x.1, .int .i64 x.2] 96 (0, 0)) := ⟨_, rfl⟩
  have HGS : Aside (w1.heap.size = G) := ⟨hG⟩
  have hGa : G < wa.heap.size := by rw [hwa, ← hG]; simp
  simp only [hG] at HBox
  rw [hG]
  rw [← hwa] at HBox HB1 ⊢
  clear hG hwa
  go_cut [7] from 14 to 33 (fun v7 wr => ∃ k : Nat, k ≤ n ∧ v7 = .int .i64 k ∧ Aside ((∀ y ∈ S1.take k, aheadB y x = true) ∧ (∀ y, S1[k]? = some y → aheadB x y = true) ∧ Below wa.heap.size wa wr))
  case first =>
    go_wp2_with fail
    go_loopw [7] (fun v7 wr => ∃ k : Nat, k ≤ n ∧ v7 = .int .i64 k ∧ Aside ((∀ y ∈ S1.take k, aheadB y x = true) ∧ Below wa.heap.size wa wr)) (fun v7 _ => n - (intOf v7).toNat)
    case atStart => exact ⟨0, by omega, rfl, ⟨by simp, Below.refl _ _⟩⟩
    case round =>
      obtain ⟨k, hk, rfl, HR⟩ := hrel
      have HBW : Aside (Below w1.heap.size w1 wr) := ⟨HB1.out.trans (HR.out.2.mono HB1.out.size)⟩
      have hXr : wr.heap[X]? = some (.cells #[.slice A n c] 74 (0, 0)) := (HBW.out.block X hXl).trans HB.out
      have t0 : wr.cell? ⟨X, 0, none⟩ = some (.slice A n c) := cell_at hXr 0
      have hbr := (HR.out.2.block G hGa).trans HBox.out
      have t1 : wr.cell? ⟨G, 0, none⟩ = some (.int .i64 x.1) := cell_at hbr 0
      have t2 : wr.cell? ⟨G, 1, none⟩ = some (.int .i64 x.2) := cell_at hbr 1
      have HVR := Aside.mk (HV.out.below HBW.out)
      clear hXr hbr
      by_cases hlt : k < n
      · obtain ⟨y, hy⟩ : ∃ y, S1[k]? = some y := ⟨_, List.getElem?_eq_getElem (by rw [HN.out]; exact hlt)⟩
        obtain ⟨g, rfl, t3, t4, hg⟩ := HVR.out.at hy
        have HY := Aside.mk hy
        have HYN : Aside (y.1 ≠ x.1) := ⟨HNOT.out y (List.mem_of_getElem? hy)⟩
        clear hy
        go_upto_region 3 with fail
        go_still_tail 16, (by kernel_rfl)
        go_wp2_with fail
        refine (rahead_calls y x _).mono ?_
        rintro e w3 ⟨rfl, hb⟩
        have HB3 := Aside.mk (below_of_drew hb)
        cases ha : aheadB y x with
        | true =>
          have HZ : Aside ((∀ y ∈ S1.take (k + 1), aheadB y x = true) ∧ Below wa.heap.size wa w3) := ⟨by
            rw [take_snoc' HY.out]
            intro z hz
            rcases List.mem_append.1 hz with h1 | h1
            · exact HR.out.1 z h1
            · rw [List.mem_singleton.1 h1]; exact ha, HR.out.2.trans (HB3.out.mono HR.out.2.size)⟩
          clear hb ha
          go_wp2_with fail
          go_roundw
          case rel => exact ⟨k + 1, by omega, by go_num, HZ⟩
          case measure => simp [intOf]; omega
        | false =>
          have HZ : Aside ((∀ y ∈ S1.take k, aheadB y x = true) ∧ (∀ z, S1[k]? = some z → aheadB x z = true) ∧ Below wa.heap.size wa w3) := ⟨HR.out.1, fun z hz => by rw [HY.out] at hz; cases hz; exact ahead_or HYN.out (by rw [ha]; simp), HR.out.2.trans (HB3.out.mono HR.out.2.size)⟩
          clear hb ha
          go_wp2_with fail
          go_meet
          exact ⟨k, hk, rfl, HZ⟩
      · obtain rfl : k = n := by omega
        have HZ0 : ∀ w', Below wa.heap.size wa w' → Aside ((∀ y ∈ S1.take k, aheadB y x = true) ∧ (∀ z, S1[k]? = some z → aheadB x z = true) ∧ Below wa.heap.size wa w') := fun w' hb => ⟨HR.out.1, (fun z hz => by rw [List.getElem?_eq_none (by rw [HN.out]; exact Nat.le_refl _)] at hz; cases hz), hb⟩
        have HQ := Aside.mk HZ0
        clear HZ0
        go_upto_region 3 with fail
        go_quiet (fail)
        go_wp2_with fail
        go_meet
        exact ⟨k, hk, rfl, HQ.out _ (by first | exact HR.out.2 | exact pw_below_drewN HR.out.2 _ | exact below_drew1 HR.out.2)⟩
  case rest =>
    obtain ⟨k, hk, rfl, HR⟩ := hcut
    have HBW : Aside (Below w1.heap.size w1 wc) := ⟨HB1.out.trans (HR.out.2.2.mono HB1.out.size)⟩
    have HXR : Aside (wc.heap[X]? = some (.cells #[.slice A n c] 74 (0, 0))) := ⟨(HBW.out.block X hXl).trans HB.out⟩
    have HBR : Aside (wc.heap[G]? = some (.cells #[.int .i64 x.1, .int .i64 x.2] 96 (0, 0))) := ⟨(HR.out.2.2.block G hGa).trans HBox.out⟩
    have hkc : k ≤ c := by omega
    have hXl2 : X < wc.heap.size := lt_of_block HXR.out
    have hGl2 : G < wc.heap.size := lt_of_block HBR.out
    have hfin : ∀ W0, Below wc.heap.size wc W0 → ∀ W5 v3, W5.ownsRow W0.heap.size 96 2 v3 (k + 1 + (n - k)) (tcells (S1.take k) ++ [.int .i64 x.1, .int .i64 x.2] ++ tcells (S1.drop k)) → Below W0.heap.size W0 W5 → RT (W5.setCell ⟨X, 0, none⟩ v3) X (setS S x.1 x.2) ∧ Fr (fun k => k = X) w (W5.setCell ⟨X, 0, none⟩ v3) := by
      intro W0 hb0 W5 v3 ho hb5
      have hc := cnt_is (S := S1) (k := k) (x := x) (by rw [HN.out]; exact hk) HR.out.1 HR.out.2.1
      have e : setS S x.1 x.2 = S1.take k ++ [x] ++ S1.drop k := by unfold setS; rw [HS1.out, ins_cnt]; show List.take (cntA x S1) S1 ++ [x] ++ _ = _; rw [hc]
      have hb : Below w1.heap.size w1 W5 := (HBW.out.trans (hb0.mono HBW.out.size)).trans (hb5.mono (Nat.le_trans HBW.out.size hb0.size))
      obtain ⟨A', c', rfl, hv⟩ := rv_own (S := S1.take k ++ [x] ++ S1.drop k) (n := 0 + k + 1 + (n - k)) (by simpa [tcells_append, tcells] using ho) (by have := HN.out; simp; omega)
      refine ⟨?_, ?_⟩
      · rw [e]
        exact rt_stored ((hb.block X hXl).trans HB.out) hv
      · exact (HF.out.trans (Fr.of_new (F := fun k => k = X) hb) (fun _ _ f => f)).setCell (.inl rfl) _
    have HFIN := Aside.mk hfin
    clear hfin
    go_upto_region 5 with fail
    obtain ⟨W0, hW0⟩ : ∃ W0, W0 = wc.drew := ⟨_, rfl⟩
    have hs0 : W0.heap.size = wc.heap.size := by rw [hW0]; rfl
    have hb0 : Below wc.heap.size wc W0 := by rw [hW0]; exact below_drew1 (Below.refl _ _)
    have HB0 := Aside.mk hb0
    have HV : Aside (RV W0 A n c S1) := ⟨by
      have h1 := (‹Aside (RV w1 A n c S1)›.out.below HBW.out).below hb0
      exact h1⟩
    have hXl : X < W0.heap.size := by rw [hs0]; exact hXl2
    have hGl : G < W0.heap.size := by rw [hs0]; exact hGl2
    have hx0 := (hb0.block X hXl2).trans HXR.out
    have hg0 := (hb0.block G hGl2).trans HBR.out
    have hfz : W0.frozen? ⟨X, 0, none⟩ = false := free_at hx0 0
    have HH : Aside (∀ {W : World}, Below W0.heap.size W0 W → W.cell? ⟨X, 0, none⟩ = some (.slice A n c) ∧ W.cell? ⟨G, 0, none⟩ = some (.int .i64 x.1) ∧ W.cell? ⟨G, 1, none⟩ = some (.int .i64 x.2)) := ⟨fun hb => ⟨(hb.cell (p := ⟨X, 0, none⟩) hXl).trans (cell_at hx0 0), (hb.cell (p := ⟨G, 0, none⟩) hGl).trans (cell_at hg0 0), (hb.cell (p := ⟨G, 1, none⟩) hGl).trans (cell_at hg0 1)⟩⟩
    have hst : (fun w' : World => w'.cell? ⟨X, 0, none⟩ = some (.slice A n c) ∧ w'.cell? ⟨G, 0, none⟩ = some (.int .i64 x.1) ∧ w'.cell? ⟨G, 1, none⟩ = some (.int .i64 x.2)) wc.drew := by rw [← hW0]; exact HH.out (Below.refl _ _)
    clear hb0 hx0 hg0
    refine start_ (n := 22) (S := (fun w' => w'.cell? ⟨X, 0, none⟩ = some (.slice A n c) ∧ w'.cell? ⟨G, 0, none⟩ = some (.int .i64 x.1) ∧ w'.cell? ⟨G, 1, none⟩ = some (.int .i64 x.2))) (ds := [21]) #[false, false, false, false, false, false, false, false, false, false, false, false, false, false, false, false, false, false, false, false, false, false] (by kernel_rfl) rfl rfl hst (fun hHeld => ?_); rw [← hW0] at *; refine with_tabW rset5_tab rset5_bits (fun HT_ HW_ => ?_)
    refine pure_ (i := 0) (N := (some 34)) (v := ?_) (a' := ?_) #[true, false, false, false, false, false, false, false, false, false, false, false, false, false, false, false, false, false, false, false, false, false] rfl rfl (any_of HT_.out (by kernel_rfl)) (fun _ _ _ h => h) (Or.inl ⟨by rfl, ?_⟩) ?_ ?_
    rotate_left
    · intro w'
      go_simp
      with_reducible rfl
    rotate_left
    · simp only [Act.put, List.setIfInBounds_toArray, List.set_cons_zero, List.set_cons_succ, i64_w, i32_w]
      rfl
    refine pure_ (i := 2) (N := (some 36)) (v := ?_) (a' := ?_) #[true, false, true, false, false, false, false, false, false, false, false, false, false, false, false, false, false, false, false, false, false, false] rfl rfl (any_of HT_.out (by kernel_rfl)) (fun _ _ _ h => h) (Or.inl ⟨by rfl, ?_⟩) ?_ ?_
    rotate_left
    · intro w'
      go_simp
      with_reducible rfl
    rotate_left
    · simp only [Act.put, List.setIfInBounds_toArray, List.set_cons_zero, List.set_cons_succ, i64_w, i32_w]
      rfl
    refine pure_ (i := 3) (N := (some 37)) (v := ?_) (a' := ?_) #[true, false, true, true, false, false, false, false, false, false, false, false, false, false, false, false, false, false, false, false, false, false] rfl rfl (any_of HT_.out (by kernel_rfl)) (fun _ _ _ h => h) (Or.inl ⟨by rfl, ?_⟩) ?_ ?_
    rotate_left
    · intro w'
      go_simp
      with_reducible rfl
    rotate_left
    · simp only [Act.put, List.setIfInBounds_toArray, List.set_cons_zero, List.set_cons_succ, i64_w, i32_w]
      rfl
    refine pure_ (i := 4) (N := (some 38)) (v := ?_) (a' := ?_) #[true, false, true, true, true, false, false, false, false, false, false, false, false, false, false, false, false, false, false, false, false, false] rfl rfl (any_of HT_.out (by kernel_rfl)) (fun _ _ _ h => h) (Or.inl ⟨by rfl, ?_⟩) ?_ ?_
    rotate_left
    · intro w'
      go_simp
      with_reducible rfl
    rotate_left
    · simp only [Act.put, List.setIfInBounds_toArray, List.set_cons_zero, List.set_cons_succ, i64_w, i32_w]
      rfl
    refine take_ (i := 5) (N := (some 39)) (v := ?_) (a' := ?_) #[true, false, true, true, true, true, false, false, false, false, false, false, false, false, false, false, false, false, false, false, false, false] rfl rfl (take_ofW HT_.out HW_.out (by kernel_rfl)) (fun _ _ _ h => h) (Or.inl ⟨by rfl, ?_⟩) hHeld ?_ ?_
    rotate_left
    · rintro w' ⟨s1, _⟩
      go_simp
      with_reducible rfl
    rotate_left
    · simp only [Act.put, List.setIfInBounds_toArray, List.set_cons_zero, List.set_cons_succ, i64_w, i32_w]
      rfl
    refine pure_ (i := 6) (N := (some 40)) (v := ?_) (a' := ?_) #[true, false, true, true, true, true, true, false, false, false, false, false, false, false, false, false, false, false, false, false, false, false] rfl rfl (any_of HT_.out (by kernel_rfl)) (fun _ _ _ h => h) (Or.inl ⟨by rfl, ?_⟩) ?_ ?_
    rotate_left
    · intro w'
      go_simp
      with_reducible rfl
    rotate_left
    · simp only [Act.put, List.setIfInBounds_toArray, List.set_cons_zero, List.set_cons_succ, i64_w, i32_w]
      rfl
    refine pure_ (i := 7) (N := (some 41)) (v := sliced A 0 k c 2) (a' := ?_) #[true, false, true, true, true, true, true, true, false, false, false, false, false, false, false, false, false, false, false, false, false, false] rfl rfl (any_of HT_.out (by kernel_rfl)) (fun _ _ _ h => h) (Or.inl ⟨by rfl, ?_⟩) ?_ ?_
    · intro w'
      go_simp
    rotate_left
    · simp only [Act.put, List.setIfInBounds_toArray, List.set_cons_zero, List.set_cons_succ, i64_w, i32_w]
      rfl
    refine take_ (i := 9) (N := (some 43)) (v := ?_) (a' := ?_) #[true, false, true, true, true, true, true, true, false, true, false, false, false, false, false, false, false, false, false, false, false, false] rfl rfl (take_ofW HT_.out HW_.out (by kernel_rfl)) (fun _ _ _ h => h) (Or.inl ⟨by rfl, ?_⟩) hHeld ?_ ?_
    rotate_left
    · rintro w' ⟨_, s2, s3⟩
      go_simp
      with_reducible rfl
    rotate_left
    · simp only [Act.put, List.setIfInBounds_toArray, List.set_cons_zero, List.set_cons_succ, i64_w, i32_w]
      rfl
    refine pure_ (i := 12) (N := (some 46)) (v := ?_) (a' := ?_) #[true, false, true, true, true, true, true, true, false, true, false, false, true, false, false, false, false, false, false, false, false, false] rfl rfl (any_of HT_.out (by kernel_rfl)) (fun _ _ _ h => h) (Or.inl ⟨by rfl, ?_⟩) ?_ ?_
    rotate_left
    · intro w'
      go_simp
      with_reducible rfl
    rotate_left
    · simp only [Act.put, List.setIfInBounds_toArray, List.set_cons_zero, List.set_cons_succ, i64_w, i32_w]
      rfl
    refine pure_ (i := 13) (N := (some 47)) (v := ?_) (a' := ?_) #[true, false, true, true, true, true, true, true, false, true, false, false, true, true, false, false, false, false, false, false, false, false] rfl rfl (any_of HT_.out (by kernel_rfl)) (fun _ _ _ h => h) (Or.inl ⟨by rfl, ?_⟩) ?_ ?_
    rotate_left
    · intro w'
      go_simp
      with_reducible rfl
    rotate_left
    · simp only [Act.put, List.setIfInBounds_toArray, List.set_cons_zero, List.set_cons_succ, i64_w, i32_w]
      rfl
    refine pure_ (i := 14) (N := (some 48)) (v := ?_) (a' := ?_) #[true, false, true, true, true, true, true, true, false, true, false, false, true, true, true, false, false, false, false, false, false, false] rfl rfl (any_of HT_.out (by kernel_rfl)) (fun _ _ _ h => h) (Or.inl ⟨by rfl, ?_⟩) ?_ ?_
    rotate_left
    · intro w'
      go_simp
      with_reducible rfl
    rotate_left
    · simp only [Act.put, List.setIfInBounds_toArray, List.set_cons_zero, List.set_cons_succ, i64_w, i32_w]
      rfl
    refine take_ (i := 15) (N := (some 49)) (v := ?_) (a' := ?_) #[true, false, true, true, true, true, true, true, false, true, false, false, true, true, true, true, false, false, false, false, false, false] rfl rfl (take_ofW HT_.out HW_.out (by kernel_rfl)) (fun _ _ _ h => h) (Or.inl ⟨by rfl, ?_⟩) hHeld ?_ ?_
    rotate_left
    · rintro w' ⟨s1, _⟩
      go_simp
      with_reducible rfl
    rotate_left
    · simp only [Act.put, List.setIfInBounds_toArray, List.set_cons_zero, List.set_cons_succ, i64_w, i32_w]
      rfl
    refine pure_ (i := 16) (N := (some 50)) (v := ?_) (a' := ?_) #[true, false, true, true, true, true, true, true, false, true, false, false, true, true, true, true, true, false, false, false, false, false] rfl rfl (any_of HT_.out (by kernel_rfl)) (fun _ _ _ h => h) (Or.inl ⟨by rfl, ?_⟩) ?_ ?_
    rotate_left
    · intro w'
      go_simp
      with_reducible rfl
    rotate_left
    · simp only [Act.put, List.setIfInBounds_toArray, List.set_cons_zero, List.set_cons_succ, i64_w, i32_w]
      rfl
    refine pure_ (i := 17) (N := (some 51)) (v := sliced A k n c 2) (a' := ?_) #[true, false, true, true, true, true, true, true, false, true, false, false, true, true, true, true, true, true, false, false, false, false] rfl rfl (any_of HT_.out (by kernel_rfl)) (fun _ _ _ h => h) (Or.inl ⟨by rfl, ?_⟩) ?_ ?_
    · intro w'
      go_simp
    rotate_left
    · simp only [Act.put, List.setIfInBounds_toArray, List.set_cons_zero, List.set_cons_succ, i64_w, i32_w]
      rfl
    refine join_ (σ := Value × Value × Value) 5 #[true, true, true, true, true, true, true, true, true, true, true, false, true, true, true, true, true, true, false, false, false, false] (fun s => [(35, s.1), (42, s.2.1), (44, s.2.2)]) (fun s w' => w'.ownsRow W0.heap.size 96 2 s.2.1 k (tcells (S1.take k)) ∧ RBlk w' s.2.2 x ∧ Below W0.heap.size W0 w') ?_ ?_
    rotate_left
    · intro hCont
      refine two_ (i := 1) (j := 10) (Ni := (some 35)) (Nj := (some 44)) #[true, true, true, true, true, true, true, true, false, true, false, false, true, true, true, true, true, true, false, false, false, false] #[true, false, true, true, true, true, true, true, false, true, true, false, true, true, true, true, true, true, false, false, false, false] rfl rfl rfl rfl (two_of HT_.out (by kernel_rfl)) (by decide) (by decide) (fun K9 hK => ?_) (fun K9 hK => ?_)
      · skip
        obtain ⟨W1, hwW1⟩ : ∃ V, V = W0.alloc (.cells #[] 96 (0, 0)) := ⟨_, rfl⟩
        refine value_ (v := .slice (some ⟨W0.heap.size, 0, none⟩) 0 0) (w1 := W1) (by rfl) rfl (by rw [hwW1]; unfold execOp; go_simp) ?_
        have hOnew : W1.ownsRow W0.heap.size 96 2 (.slice (some ⟨W0.heap.size, 0, none⟩) 0 0) 0 [] := by rw [hwW1]; exact rown_emp W0 (Below.refl W0.heap.size W0).size
        have hBnew : Below W0.heap.size W0 W1 := by rw [hwW1]; exact (Below.refl W0.heap.size W0).alloc (Below.refl W0.heap.size W0).size _
        have hsz1 : W0.heap.size < W1.heap.size := by rw [hwW1]; simp
        have HBw := Aside.mk hBnew
        clear hBnew
        have HOw := Aside.mk hOnew
        clear hOnew
        refine hK.out _ _ (HH.out HBw.out) (fun hHeld => ?_)
        clear hK K9
        refine norm_ (a' := ?_) ?_ ?_
        rotate_left
        · show Act.put _ (some 35) _ = _
          simp only [Act.put, List.setIfInBounds_toArray, List.set_cons_zero, List.set_cons_succ]
          rfl
        refine two_ (i := 8) (j := 10) (Ni := (some 42)) (Nj := (some 44)) #[true, true, true, true, true, true, true, true, true, true, false, false, true, true, true, true, true, true, false, false, false, false] #[true, true, true, true, true, true, true, true, false, true, true, false, true, true, true, true, true, true, false, false, false, false] rfl rfl rfl rfl (two_of HT_.out (by kernel_rfl)) (by decide) (by decide) (fun K9 hK => ?_) (fun K9 hK => ?_)
        · skip
          obtain ⟨v1, W2, hrunA, hown, hgrow⟩ := rapp_src (B := W0.heap.size) HOw.out ((HV.out.below HBw.out).take hk) (by omega) HBw.out.size
          try simp only [Nat.zero_add, List.nil_append] at hown
          have hBnew := HBw.out.grown hgrow HBw.out.size (fun q e => (HOw.out.lt q e).1)
          have hR1 := hrunA
          clear hrunA HOw HBw hgrow
          have HOw := Aside.mk hown
          have HBw := Aside.mk hBnew
          clear hown hBnew
          refine value_ (v := v1) (w1 := W2) (by rfl) rfl (exec_append _ _ 72 _ _ rfl rfl rfl hR1) ?_
          clear hR1
          refine hK.out _ _ (HH.out HBw.out) (fun hHeld => ?_)
          clear hK K9
          refine norm_ (a' := ?_) ?_ ?_
          rotate_left
          · show Act.put _ (some 42) _ = _
            simp only [Act.put, List.setIfInBounds_toArray, List.set_cons_zero, List.set_cons_succ]
            rfl
          refine one_ (i := 10) (N := (some 44)) #[true, true, true, true, true, true, true, true, true, true, true, false, true, true, true, true, true, true, false, false, false, false] rfl rfl (one_of HT_.out (by kernel_rfl)) (by decide) (fun K9 hK => ?_)
          obtain ⟨W3, hwW3⟩ : ∃ V, V = W2.alloc (.cells #[.int .i64 x.1, .int .i64 x.2] 96 (0, 0)) := ⟨_, rfl⟩
          refine value_ (v := .slice (some ⟨W2.heap.size, 0, none⟩) 1 1) (w1 := W3) (by rfl) rfl (by rw [hwW3]; unfold execOp; go_simp) ?_
          have hOnew : W3.ownsRow W0.heap.size 96 2 v1 k (tcells (S1.take k)) := by rw [hwW3]; exact HOw.out.alloc _
          have hXnew : RBlk W3 (.slice (some ⟨W2.heap.size, 0, none⟩) 1 1) x := by rw [hwW3]; exact rblk_new W2 x
          have hBnew : Below W0.heap.size W0 W3 := by rw [hwW3]; exact HBw.out.alloc HBw.out.size _
          have hsz10 : W2.heap.size < W3.heap.size := by rw [hwW3]; simp
          clear HBw
          clear HOw
          have HBw := Aside.mk hBnew
          clear hBnew
          have HOw := Aside.mk hOnew
          clear hOnew
          have HXw := Aside.mk hXnew
          clear hXnew
          refine hK.out _ _ (HH.out HBw.out) (fun hHeld => ?_)
          clear hK K9
          refine norm_ (a' := ?_) ?_ ?_
          rotate_left
          · show Act.put _ (some 44) _ = _
            simp only [Act.put, List.setIfInBounds_toArray, List.set_cons_zero, List.set_cons_succ]
            rfl
          exact norm_ (by first | (simp only [putAll, Act.put, List.setIfInBounds_toArray, List.set_cons_zero, List.set_cons_succ]; done) | (simp only [putAll, Act.put, List.setIfInBounds_toArray, List.set_cons_zero, List.set_cons_succ]; rfl)) (hCont (_, _, _) _ ⟨HOw.out, HXw.out, HBw.out⟩)
        · skip
          obtain ⟨W2, hwW2⟩ : ∃ V, V = W1.alloc (.cells #[.int .i64 x.1, .int .i64 x.2] 96 (0, 0)) := ⟨_, rfl⟩
          refine value_ (v := .slice (some ⟨W1.heap.size, 0, none⟩) 1 1) (w1 := W2) (by rfl) rfl (by rw [hwW2]; unfold execOp; go_simp) ?_
          have hOnew : W2.ownsRow W0.heap.size 96 2 (.slice (some ⟨W0.heap.size, 0, none⟩) 0 0) 0 [] := by rw [hwW2]; exact HOw.out.alloc _
          have hXnew : RBlk W2 (.slice (some ⟨W1.heap.size, 0, none⟩) 1 1) x := by rw [hwW2]; exact rblk_new W1 x
          have hBnew : Below W0.heap.size W0 W2 := by rw [hwW2]; exact HBw.out.alloc HBw.out.size _
          have hsz10 : W1.heap.size < W2.heap.size := by rw [hwW2]; simp
          clear HBw
          clear HOw
          have HBw := Aside.mk hBnew
          clear hBnew
          have HOw := Aside.mk hOnew
          clear hOnew
          have HXw := Aside.mk hXnew
          clear hXnew
          refine hK.out _ _ (HH.out HBw.out) (fun hHeld => ?_)
          clear hK K9
          refine norm_ (a' := ?_) ?_ ?_
          rotate_left
          · show Act.put _ (some 44) _ = _
            simp only [Act.put, List.setIfInBounds_toArray, List.set_cons_zero, List.set_cons_succ]
            rfl
          refine one_ (i := 8) (N := (some 42)) #[true, true, true, true, true, true, true, true, true, true, true, false, true, true, true, true, true, true, false, false, false, false] rfl rfl (one_of HT_.out (by kernel_rfl)) (by decide) (fun K9 hK => ?_)
          obtain ⟨v1, W3, hrunA, hown, hgrow⟩ := rapp_src (B := W0.heap.size) HOw.out ((HV.out.below HBw.out).take hk) (by omega) HBw.out.size
          try simp only [Nat.zero_add, List.nil_append] at hown
          have hBnew := HBw.out.grown hgrow HBw.out.size (fun q e => (HOw.out.lt q e).1)
          have hXnew := HXw.out.grown hgrow (by simp [Value.ownBlock]; omega)
          have hR1 := hrunA
          clear hrunA HOw HBw hgrow HXw
          have HOw := Aside.mk hown
          have HBw := Aside.mk hBnew
          clear hown hBnew
          have HXw := Aside.mk hXnew
          clear hXnew
          refine value_ (v := v1) (w1 := W3) (by rfl) rfl (exec_append _ _ 72 _ _ rfl rfl rfl hR1) ?_
          clear hR1
          refine hK.out _ _ (HH.out HBw.out) (fun hHeld => ?_)
          clear hK K9
          refine norm_ (a' := ?_) ?_ ?_
          rotate_left
          · show Act.put _ (some 42) _ = _
            simp only [Act.put, List.setIfInBounds_toArray, List.set_cons_zero, List.set_cons_succ]
            rfl
          exact norm_ (by first | (simp only [putAll, Act.put, List.setIfInBounds_toArray, List.set_cons_zero, List.set_cons_succ]; done) | (simp only [putAll, Act.put, List.setIfInBounds_toArray, List.set_cons_zero, List.set_cons_succ]; rfl)) (hCont (_, _, _) _ ⟨HOw.out, HXw.out, HBw.out⟩)
      · skip
        obtain ⟨W1, hwW1⟩ : ∃ V, V = W0.alloc (.cells #[.int .i64 x.1, .int .i64 x.2] 96 (0, 0)) := ⟨_, rfl⟩
        refine value_ (v := .slice (some ⟨W0.heap.size, 0, none⟩) 1 1) (w1 := W1) (by rfl) rfl (by rw [hwW1]; unfold execOp; go_simp) ?_
        have hXnew : RBlk W1 (.slice (some ⟨W0.heap.size, 0, none⟩) 1 1) x := by rw [hwW1]; exact rblk_new W0 x
        have hBnew : Below W0.heap.size W0 W1 := by rw [hwW1]; exact (Below.refl W0.heap.size W0).alloc (Below.refl W0.heap.size W0).size _
        have hsz10 : W0.heap.size < W1.heap.size := by rw [hwW1]; simp
        have HBw := Aside.mk hBnew
        clear hBnew
        have HXw := Aside.mk hXnew
        clear hXnew
        refine hK.out _ _ (HH.out HBw.out) (fun hHeld => ?_)
        clear hK K9
        refine norm_ (a' := ?_) ?_ ?_
        rotate_left
        · show Act.put _ (some 44) _ = _
          simp only [Act.put, List.setIfInBounds_toArray, List.set_cons_zero, List.set_cons_succ]
          rfl
        refine one_ (i := 1) (N := (some 35)) #[true, true, true, true, true, true, true, true, false, true, true, false, true, true, true, true, true, true, false, false, false, false] rfl rfl (one_of HT_.out (by kernel_rfl)) (by decide) (fun K9 hK => ?_)
        obtain ⟨W2, hwW2⟩ : ∃ V, V = W1.alloc (.cells #[] 96 (0, 0)) := ⟨_, rfl⟩
        refine value_ (v := .slice (some ⟨W1.heap.size, 0, none⟩) 0 0) (w1 := W2) (by rfl) rfl (by rw [hwW2]; unfold execOp; go_simp) ?_
        have hOnew : W2.ownsRow W0.heap.size 96 2 (.slice (some ⟨W1.heap.size, 0, none⟩) 0 0) 0 [] := by rw [hwW2]; exact rown_emp W1 HBw.out.size
        have hXnew : RBlk W2 (.slice (some ⟨W0.heap.size, 0, none⟩) 1 1) x := by rw [hwW2]; exact HXw.out.alloc _
        have hBnew : Below W0.heap.size W0 W2 := by rw [hwW2]; exact HBw.out.alloc HBw.out.size _
        have hsz1 : W1.heap.size < W2.heap.size := by rw [hwW2]; simp
        clear HBw
        clear HXw
        have HBw := Aside.mk hBnew
        clear hBnew
        have HOw := Aside.mk hOnew
        clear hOnew
        have HXw := Aside.mk hXnew
        clear hXnew
        refine hK.out _ _ (HH.out HBw.out) (fun hHeld => ?_)
        clear hK K9
        refine norm_ (a' := ?_) ?_ ?_
        rotate_left
        · show Act.put _ (some 35) _ = _
          simp only [Act.put, List.setIfInBounds_toArray, List.set_cons_zero, List.set_cons_succ]
          rfl
        refine one_ (i := 8) (N := (some 42)) #[true, true, true, true, true, true, true, true, true, true, true, false, true, true, true, true, true, true, false, false, false, false] rfl rfl (one_of HT_.out (by kernel_rfl)) (by decide) (fun K9 hK => ?_)
        obtain ⟨v1, W3, hrunA, hown, hgrow⟩ := rapp_src (B := W0.heap.size) HOw.out ((HV.out.below HBw.out).take hk) (by omega) HBw.out.size
        try simp only [Nat.zero_add, List.nil_append] at hown
        have hBnew := HBw.out.grown hgrow HBw.out.size (fun q e => (HOw.out.lt q e).1)
        have hXnew := HXw.out.grown hgrow (by simp [Value.ownBlock]; omega)
        have hR1 := hrunA
        clear hrunA HOw HBw hgrow HXw
        have HOw := Aside.mk hown
        have HBw := Aside.mk hBnew
        clear hown hBnew
        have HXw := Aside.mk hXnew
        clear hXnew
        refine value_ (v := v1) (w1 := W3) (by rfl) rfl (exec_append _ _ 72 _ _ rfl rfl rfl hR1) ?_
        clear hR1
        refine hK.out _ _ (HH.out HBw.out) (fun hHeld => ?_)
        clear hK K9
        refine norm_ (a' := ?_) ?_ ?_
        rotate_left
        · show Act.put _ (some 42) _ = _
          simp only [Act.put, List.setIfInBounds_toArray, List.set_cons_zero, List.set_cons_succ]
          rfl
        exact norm_ (by first | (simp only [putAll, Act.put, List.setIfInBounds_toArray, List.set_cons_zero, List.set_cons_succ]; done) | (simp only [putAll, Act.put, List.setIfInBounds_toArray, List.set_cons_zero, List.set_cons_succ]; rfl)) (hCont (_, _, _) _ ⟨HOw.out, HXw.out, HBw.out⟩)
    rintro ⟨v0, v1, v44⟩ W2 ⟨hown, hblk, hbel⟩
    have HOv1 := Aside.mk hown
    have HBK := Aside.mk hblk
    have HB3 := Aside.mk hbel
    have hHeld := HH.out HB3.out
    clear hown hblk hbel
    refine norm_ (a' := ?_) ?_ ?_
    rotate_left
    · simp only [putAll, Act.put, List.setIfInBounds_toArray, List.set_cons_zero, List.set_cons_succ]
      rfl
    refine one_ (i := 11) (N := (some 45)) #[true, true, true, true, true, true, true, true, true, true, true, true, true, true, true, true, true, true, false, false, false, false] rfl rfl (one_of HT_.out (by kernel_rfl)) (by decide) (fun K9 hK => ?_)
    obtain ⟨v2, W4, hrunv2, hown, hgrow⟩ := rapp_src (B := W0.heap.size) (HOv1.out) (HBK.out.src) (by omega) (HB3.out.size)
    try simp only [Nat.zero_add, List.nil_append] at hown
    have HOv2 := Aside.mk hown
    have HBv2 : Aside (Below W0.heap.size W0 W4) := ⟨HB3.out.grown hgrow HB3.out.size (fun q e => (HOv1.out.lt q e).1)⟩
    have hRv2 := hrunv2
    clear hown hgrow hrunv2
    refine value_ (v := v2) (w1 := W4) (by rfl) rfl (exec_append _ _ 72 _ _ rfl rfl rfl hRv2) ?_
    clear hRv2
    refine hK.out _ _ (HH.out HBv2.out) (fun hHeld => ?_)
    clear hK K9
    refine norm_ (a' := ?_) ?_ ?_
    rotate_left
    · show Act.put _ (some 45) _ = _
      simp only [Act.put, List.setIfInBounds_toArray, List.set_cons_zero, List.set_cons_succ]
      rfl
    refine one_ (i := 18) (N := (some 52)) #[true, true, true, true, true, true, true, true, true, true, true, true, true, true, true, true, true, true, true, false, false, false] rfl rfl (one_of HT_.out (by kernel_rfl)) (by decide) (fun K9 hK => ?_)
    obtain ⟨v3, W5, hrunv3, hown, hgrow⟩ := rapp_src (B := W0.heap.size) (HOv2.out) ((HV.out.below HBv2.out).drop hk) (by omega) (HBv2.out.size)
    try simp only [Nat.zero_add, List.nil_append] at hown
    have HOv3 := Aside.mk hown
    have HBv3 : Aside (Below W0.heap.size W0 W5) := ⟨HBv2.out.grown hgrow HBv2.out.size (fun q e => (HOv2.out.lt q e).1)⟩
    have hRv3 := hrunv3
    clear hown hgrow hrunv3
    refine value_ (v := v3) (w1 := W5) (by rfl) rfl (exec_append _ _ 72 _ _ rfl rfl rfl hRv3) ?_
    clear hRv3
    refine hK.out _ _ (HH.out HBv3.out) (fun hHeld => ?_)
    clear hK K9
    refine norm_ (a' := ?_) ?_ ?_
    rotate_left
    · show Act.put _ (some 52) _ = _
      simp only [Act.put, List.setIfInBounds_toArray, List.set_cons_zero, List.set_cons_succ]
      rfl
    refine pure_ (i := 19) (N := (some 53)) (v := ?_) (a' := ?_) #[true, true, true, true, true, true, true, true, true, true, true, true, true, true, true, true, true, true, true, true, false, false] rfl rfl (any_of HT_.out (by kernel_rfl)) (fun _ _ _ h => h) (Or.inl ⟨by rfl, ?_⟩) ?_ ?_
    rotate_left
    · intro w'
      go_simp
      with_reducible rfl
    rotate_left
    · simp only [Act.put, List.setIfInBounds_toArray, List.set_cons_zero, List.set_cons_succ, i64_w, i32_w]
      rfl
    refine pure_ (i := 20) (N := (some 54)) (v := ?_) (a' := ?_) #[true, true, true, true, true, true, true, true, true, true, true, true, true, true, true, true, true, true, true, true, true, false] rfl rfl (any_of HT_.out (by kernel_rfl)) (fun _ _ _ h => h) (Or.inl ⟨by rfl, ?_⟩) ?_ ?_
    rotate_left
    · intro w'
      go_simp
      with_reducible rfl
    rotate_left
    · simp only [Act.put, List.setIfInBounds_toArray, List.set_cons_zero, List.set_cons_succ, i64_w, i32_w]
      rfl
    refine last_ (i := 21) (N := none) #[true, true, true, true, true, true, true, true, true, true, true, true, true, true, true, true, true, true, true, true, true, true] rfl rfl (one_of HT_.out (by kernel_rfl)) (by decide) (fun K9 hK => ?_)
    have q1 : W5.cell? ⟨X, 0, none⟩ = some (.slice A n c) := (HH.out HBv3.out).1
    have q2 : W5.frozen? ⟨X, 0, none⟩ = false := (HBv3.out.frozen (p := ⟨X, 0, none⟩) hXl).trans hfz
    obtain ⟨A3, c3, rfl⟩ := own_slice HOv3.out
    refine skip_ (w1 := W5.setCell ⟨X, 0, none⟩ (.slice A3 (k + 1 + (n - k)) c3)) (by rfl) rfl (by unfold execOp; go_simp) ?_
    refine hK.out _ _ ?_
    clear hK K9
    refine done_ (done_of HT_.out (by kernel_rfl)) ?_
    clear HT_ HW_ hHeld
    go_wp2_with fail
    all_goals go_end0
    all_goals exact ⟨rfl, HFIN.out W0 HB0.out W5 _ HOv3.out HBv3.out⟩

theorem wpList_append_run {P : Program} {ops : Array Oper} {rest : List Oper} {o : Oper} {a : Act} {w : World} {Q : Exit → Act → World → Prop} (hgd : o.guard = none) (s x : Operand) (t : TypeId)
    (ho : o.op = .call { callee := .builtin .append, args := #[s, x], argTypes := #[t, t] }) {v src v' : Value} {w' : World} (hs : a.eval s = v) (hx : a.eval x = src)
    (hrun : (Builtin.append_ #[t, t] o.type #[v, src]).run P w = .ok v' w') (h : wpList P ops Q rest (a.put o.dst v') w') : wpList P ops Q (o :: rest) a w :=
  wpList_plain hgd fun _ hK => by
    unfold Oper.wp execOp
    simp only [ho, resolve, invoke, builtin, Sem.run_bind, Sem.run_pure, Result.andThen_ok, List.map_toArray, List.map_cons, List.map_nil, hs, hx, hrun]
    exact hK _ _ h
theorem dueS_is {S : List (Int × Int)} {now : Int} {k : Nat} (hs : Srt S) (hk : k ≤ S.length) (h1 : ∀ x ∈ S.take k, x.2 ≤ now) (h2 : ∀ x, S[k]? = some x → ¬ x.2 ≤ now) : S.take k = dueS S now ∧ S.drop k = restS S now := due_take hs hk h1 h2
set_option maxHeartbeats 2000000 in
set_option maxRecDepth 100000 in
theorem rdue_calls (X : Nat) (S : List (Int × Int)) (now : Int) (w : World) (hs : Srt S) (hl : S.length ≤ 1000000) (h : RT w X S) : Calls Try.prog 36 #[.pointer (some ⟨X, 0, none⟩), .int .i64 now] w fun e w' => ∃ v, e = .returned v ∧ Nums w' w.heap.size v ((dueS S now).map (·.1)) ∧ RT w' X (restS S now) ∧ Fr (fun k => k = X) w w' := by
  obtain ⟨A, c, hX, hV⟩ := h.own
  obtain ⟨n, hn⟩ : ∃ n, S.length = n := ⟨_, rfl⟩
  rw [hn] at hX hV hl
  have HX := Aside.mk hX
  have HV := Aside.mk hV
  have HN := Aside.mk hn
  have HS := Aside.mk hs
  have hXl := lt_of_block hX
  have hcap := hV.cap
  unfold maxLen at hcap
  obtain ⟨i0, hi0, hz0, hz1, hz2⟩ := info_parts ids_info
  have HIN := Aside.mk (And.intro hi0 (And.intro hz0 (And.intro hz1 hz2)))
  clear h hX hV hn hs hi0 hz0 hz1 hz2
  go_enter Try.func36, Try.ntmps36
  go_upto_block 0 with fail
  go_cut [5, 6] from 7 to 38 (fun v5 v6 wr => ∃ k : Nat, k ≤ n ∧ v6 = .int .i64 k ∧ Aside ((∀ x ∈ S.take k, x.2 ≤ now) ∧ (∀ x, S[k]? = some x → ¬ x.2 ≤ now) ∧ wr.ownsRow w.heap.size 2 1 v5 k ((S.take k).map fun x => .int .i64 x.1) ∧ Below w.heap.size w wr))
  case first =>
    go_wp2_with fail
    go_loopw [5, 6] (fun v5 v6 wr => ∃ k : Nat, k ≤ n ∧ v6 = .int .i64 k ∧ Aside ((∀ x ∈ S.take k, x.2 ≤ now) ∧ wr.ownsRow w.heap.size 2 1 v5 k ((S.take k).map fun x => .int .i64 x.1) ∧ Below w.heap.size w wr)) (fun _ v6 _ => n - (intOf v6).toNat)
    case atStart => exact ⟨0, by omega, rfl, ⟨by simp, World.ownsRow_nil _ _ _ _, Below.refl _ _⟩⟩
    case round =>
      obtain ⟨k, hk, rfl, HR⟩ := hrel
      have hXr := (HR.out.2.2.block X hXl).trans HX.out
      have t0 : wr.cell? ⟨X, 0, none⟩ = some (.slice A n c) := cell_at hXr 0
      clear hXr
      by_cases hlt : k < n
      · obtain ⟨y, hy⟩ : ∃ y, S[k]? = some y := ⟨_, List.getElem?_eq_getElem (by rw [HN.out]; exact hlt)⟩
        obtain ⟨g, rfl, t1, t2, hg⟩ := (HV.out.below HR.out.2.2).at hy
        have HY := Aside.mk hy
        have HSZ := Aside.mk HR.out.2.2.size
        clear hy
        by_cases hyn : y.2 ≤ now
        · have d1 : decide (y.2 ≤ now) = true := by simpa using hyn
          have HZ : Aside (∀ x ∈ S.take (k + 1), x.2 ≤ now) := ⟨by
            rw [take_snoc' HY.out]
            intro z hz
            rcases List.mem_append.1 hz with h1 | h1
            · exact HR.out.1 z h1
            · rw [List.mem_singleton.1 h1]; exact hyn⟩
          clear hyn
          go_wp2_with (at_builtin; refine wpList_append_own _ rfl _ _ 42 rfl w.heap.size 2 i0 (.int .i64 0) 1 8 Try.underlying42 HIN.out.1 HIN.out.2.1 HIN.out.2.2.1 HIN.out.2.2.2 rfl (by decide) _ _ _ rfl (HR.out.2.1.alloc _) ⟨wr.heap.size, 0, none⟩ 1 1 [.int .i64 y.1] rfl rfl ?c1 ?c2 ?c3 ?c4 ?c5 ?_)
          case c1 => exact news1 wr _ _
          case c2 => intro u hu; rw [List.mem_singleton.1 hu]; rfl
          case c3 => unfold maxLen; omega
          case c4 => omega
          case c5 => have := HSZ.out; simp; omega
          intro v5 W2 hown hgrow hnn
          have HO2 : Aside ((∀ x ∈ S.take (k + 1), x.2 ≤ now) ∧ W2.ownsRow w.heap.size 2 1 v5 (k + 1) ((S.take (k + 1)).map fun x => .int .i64 x.1) ∧ Below w.heap.size w W2) := ⟨HZ.out, by
            rw [take_snoc' HY.out, List.map_append, List.map_take]
            exact hown, (HR.out.2.2.alloc HSZ.out _).grown hgrow (by have := HSZ.out; simp; omega) (fun q e => (HR.out.2.1.lt q e).1)⟩
          clear hown hgrow hnn
          go_wp2_with fail
          go_roundw
          case rel => exact ⟨k + 1, by omega, by go_num, HO2⟩
          case measure => simp [intOf]; omega
        · have d1 : decide (y.2 ≤ now) = false := by simpa using hyn
          have HZ : Aside ((∀ x ∈ S.take k, x.2 ≤ now) ∧ (∀ x, S[k]? = some x → ¬ x.2 ≤ now) ∧ wr.ownsRow w.heap.size 2 1 u5 k ((S.take k).map fun x => .int .i64 x.1) ∧ Below w.heap.size w wr) := ⟨HR.out.1, (fun x hx => by rw [HY.out] at hx; cases hx; exact hyn), HR.out.2⟩
          clear hyn
          go_wp2_with fail
          go_meet
          exact ⟨k, hk, rfl, HZ⟩
      · obtain rfl : k = n := by omega
        have HZ : Aside ((∀ x ∈ S.take k, x.2 ≤ now) ∧ (∀ x, S[k]? = some x → ¬ x.2 ≤ now) ∧ wr.ownsRow w.heap.size 2 1 u5 k ((S.take k).map fun x => .int .i64 x.1) ∧ Below w.heap.size w wr) := ⟨HR.out.1, (fun x hx => by rw [List.getElem?_eq_none (by rw [HN.out]; exact Nat.le_refl _)] at hx; cases hx), HR.out.2⟩
        go_wp2_with fail
        go_meet
        exact ⟨k, hk, rfl, HZ⟩
  case rest =>
    obtain ⟨k, hk, rfl, HR⟩ := hcut
    obtain ⟨hd1, hd2⟩ := dueS_is HS.out (by rw [HN.out]; exact hk) HR.out.1 HR.out.2.1
    have HB := Aside.mk HR.out.2.2.2
    have HXC : Aside (wc.heap[X]? = some (.cells #[.slice A n c] 74 (0, 0))) := ⟨(HB.out.block X hXl).trans HX.out⟩
    have t0 : wc.cell? ⟨X, 0, none⟩ = some (.slice A n c) := cell_at HXC.out 0
    have HO : Aside (Nums wc w.heap.size u5 ((dueS S now).map (·.1))) := ⟨by
      unfold Nums
      rw [← hd1, List.length_map, List.map_map, List.length_take, HN.out, Nat.min_eq_left hk]
      exact HR.out.2.2.1⟩
    have HSRC := Aside.mk (((HV.out.below HB.out).below ((Below.refl _ _).alloc (Nat.le_refl _) (.cells #[] 96 (0, 0)))).drop hk)
    rw [hd2] at HSRC
    obtain ⟨V, hV⟩ : ∃ V, sliced A k n c 2 = V := ⟨_, rfl⟩
    have hkc : k ≤ c := by omega
    have hsl : ∀ u, (Instr.sliceAt 72 (.slice A n c) (some (.int .i64 k)) none none).run Try.prog u = .ok V u := by
      intro u
      rw [← hV]
      go_simp
    rw [hV] at HSRC
    obtain ⟨V3, W3, hrun, hown, hgrow⟩ := rapp_src (B := wc.heap.size) (rown_empty wc) HSRC.out (by omega) (by simp)
    simp only [Nat.zero_add, List.nil_append] at hown
    obtain ⟨A3, c3, rfl⟩ := own_slice hown
    have hb3 : Below wc.heap.size wc W3 := ((Below.refl _ wc).alloc (Nat.le_refl _) _).grown hgrow (by simp) (fun q e => ((rown_empty wc).lt q e).1)
    have hlen : (restS S now).length = n - k := by rw [← hd2, List.length_drop, HN.out]
    obtain ⟨A4, c4, e4, hv4⟩ := rv_own hown hlen.symm
    cases e4
    have hX3 := (hb3.block X (lt_of_block HXC.out)).trans HXC.out
    have HRT : Aside (RT (W3.setCell ⟨X, 0, none⟩ (.slice A3 (n - k) c3)) X (restS S now)) := ⟨rt_stored hX3 hv4⟩
    have hf3 : Fr (fun k => k = X) w W3 := (Fr.of_new (F := fun k => k = X) HB.out).trans (Fr.of_new (F := fun k => k = X) hb3) (fun _ _ f => f)
    have HF : Aside (Fr (fun k => k = X) w (W3.setCell ⟨X, 0, none⟩ (.slice A3 (n - k) c3))) := ⟨hf3.setCell (.inl rfl) _⟩
    have HN3 : Aside (Nums (W3.setCell ⟨X, 0, none⟩ (.slice A3 (n - k) c3)) w.heap.size u5 ((dueS S now).map (·.1))) := ⟨(HO.out.fr (F := fun _ => False) (Fr.of_new hb3) (fun _ _ _ f => f)).fr ((Fr.refl (fun k => k = X) W3).setCell (.inl rfl) _) (fun q hq _ e => by omega)⟩
    have q1 : W3.cell? ⟨X, 0, none⟩ = some (.slice A n c) := cell_at hX3 0
    have q2 : W3.frozen? ⟨X, 0, none⟩ = false := free_at hX3 0
    have hrun2 := hrun
    clear hd1 hd2 hown hgrow hb3 hlen hv4 hX3 hf3 hrun hV
    go_upto_region 6 with fail
    have hXc := lt_of_block HXC.out
    have hXn : ¬ X = wc.heap.size := by omega
    go_wp2_with (at_builtin; refine wpList_append_run rfl _ _ 72 rfl rfl rfl hrun2 ?_)
    go_ret
    exact ⟨_, rfl, HN3.out, HRT.out, HF.out⟩
end Go.Proofs.Ytjefeoohfalcaaa.C
