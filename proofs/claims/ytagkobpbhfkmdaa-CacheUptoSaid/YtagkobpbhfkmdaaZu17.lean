/- Zu: texts of this claim, laid together. -/
import Derived.Deep.Upon
import Derived.Test.YtagkobpbhfkmdaaZu12
import Derived.Test.YtagkobpbhfkmdaaZu15
/-! from HA -/
namespace Go.Proofs.Ytagkobpbhfkmdaa.C
open Go.RowKit Go.Proofs.Ytagkobpbhfkmdaa.Q Go.Proofs.YtagkobpbhfkmdaaW.PrintLast Go.Proofs.YtagkobpbhfkmdaaW.PrintWords
set_option linter.unusedVariables false
set_option linter.unusedSimpArgs false
theorem reps_app {α : Type} {R : α → List Value → Prop} {s : Nat} {l l2 : List α} {a b : List Value} (h : Reps R s l a) (k : Reps R s l2 b) : Reps R s (l ++ l2) (a ++ b) := ⟨by rw [List.length_append, List.length_append, h.1, k.1, Nat.add_mul], fun j p hj => by
  by_cases hlt : j < l.length
  · rw [List.getElem?_append_left hlt] at hj
    have hm : (j + 1) * s ≤ a.length := by rw [h.1]; exact Nat.mul_le_mul_right _ hlt
    rw [Nat.add_mul, Nat.one_mul] at hm
    rw [List.drop_append_of_le_length (by omega), List.take_append_of_le_length (by rw [List.length_drop]; omega)]
    exact h.2 j p hj
  · rw [List.getElem?_append_right (by omega)] at hj
    have hm : l.length * s ≤ j * s := Nat.mul_le_mul_right _ (by omega)
    have hsub : j * s - a.length = (j - l.length) * s := by rw [h.1, Nat.sub_mul]
    rw [List.drop_append, List.drop_of_length_le (by rw [h.1]; exact hm), List.nil_append, hsub]
    exact k.2 _ p hj⟩
theorem ev_infoH : (Try.prog.info? 75).map (fun i => (i.zero, i.size, i.bytes)) = some (some (.agg #[.int .i64 0, .bool false, .string (ByteArray.mk #[]), .string (ByteArray.mk #[])]), 4, 48) := by kernel_rfl
/-- What append of events to a full row comes to. -/
theorem hap_append (W : World) (A A2 : Option Addr) (n m c2 : Nat) (l l2 : List S75) (ty : TypeId) (g : k75.C W A n l) (g2 : k75.C W A2 m l2) (hmc : m ≤ c2) (hb : n + m ≤ 1000000000) (hA : ∀ ad, A = some ad → ad.block < W.heap.size) :
    ∃ A' c' W', (Builtin.append_ #[31, 31] ty #[.slice A n n, .slice A2 m c2]).run Try.prog W = .ok (.slice A' (n + m) c') W' ∧ n + m ≤ c' ∧ k75.C W' A' (n + m) (l ++ l2) ∧ (A' = A ∨ ∀ ad, A' = some ad → ad.block = W.heap.size ∧ W.heap.size < W'.heap.size) ∧ Below W.heap.size W W' := by
  obtain ⟨i0, hi, hz0, hz1, hz2⟩ := info_parts ev_infoH
  have hn := g.1
  have hm := g2.1
  by_cases h0 : m = 0
  · subst h0
    have hl2 : l2 = [] := List.eq_nil_of_length_eq_zero hm
    subst hl2
    refine ⟨A, n, W, ?_, by omega, by simpa using g, .inl rfl, Below.refl _ _⟩
    refine run_append_nothing W 31 31 ty 75 i0 Try.underlying31 hi A n n (Nat.le_refl _) _ ⟨.inl ⟨_, Try.underlying31⟩, fun w' => by simp [Builtin.lenOf], ?_, ?_, by simp, by simp⟩
    · cases A2 with
      | none => exact run_firstCells_none _ _ _ _ _
      | some a => exact run_firstCells_some _ _ _ _ _ _ [] (by simp) (by simp)
    · cases A2 with
      | none => exact run_firstCells_none _ _ _ _ _
      | some a => exact run_firstCells_some _ _ _ _ _ _ [] (by simp) (by simp)
  · obtain ⟨a2, rfl, hc2⟩ := g2.2.2 (by omega)
    obtain ⟨news, hr2, hcn⟩ := ReadsRow.inner_ g2
    have hnl : news.length = m * 4 := by rw [hr2.1, hm]; rfl
    have hones : ∀ u ∈ news, u.oneCell' = true := fun u hu => by
      obtain ⟨j, hj⟩ := List.getElem?_of_mem hu
      have hjl : j < news.length := (List.getElem?_eq_some_iff.1 hj).1
      have hx : j / 4 < l2.length := by omega
      have hp := hr2.2 (j / 4) _ (List.getElem?_eq_getElem hx)
      have ho := k75_open hp
      have hin : u ∈ (news.drop (j / 4 * 4)).take 4 := by
        refine List.mem_iff_getElem?.2 ⟨j - j / 4 * 4, ?_⟩
        rw [List.getElem?_take, if_pos (by omega), List.getElem?_drop, show j / 4 * 4 + (j - j / 4 * 4) = j by omega]
        exact hj
      have hsz : (k75 : Kd S75).sz = 4 := rfl
      rw [hsz] at ho
      rw [ho] at hin
      simp only [List.mem_cons, List.not_mem_nil, or_false] at hin
      rcases hin with rfl | rfl | rfl | rfl <;> rfl
    have hsrc : Src Try.prog i0.size 31 (.slice (some a2) m c2) m news W := ⟨.inl ⟨_, Try.underlying31⟩, fun w' => by simp [Builtin.lenOf], run_firstCells_some _ _ _ _ _ _ news (by rw [hz1]; exact hnl) hcn, run_firstCells_some _ _ _ _ _ _ news (by rw [hz1]; exact hnl) hcn, by rw [hz1]; exact hnl, hones⟩
    obtain ⟨olds, hold, hro⟩ : ∃ olds : List Value, (Builtin.firstCells i0.size n (.slice A n n)).run Try.prog W.drew = .ok olds.toArray W.drew ∧ Reps (k75.K W) 4 l olds := by
      by_cases hn0 : n = 0
      · subst hn0
        have : l = [] := List.eq_nil_of_length_eq_zero hn
        subst this
        refine ⟨[], ?_, Reps.none _ _⟩
        cases A with
        | none => exact run_firstCells_none _ _ _ _ _
        | some a => exact run_firstCells_some _ _ _ _ _ _ [] (by simp) (by simp)
      · obtain ⟨a, rfl, hc⟩ := g.2.2 (by omega)
        obtain ⟨olds, hr, hco⟩ := ReadsRow.inner_ g
        exact ⟨olds, run_firstCells_some _ _ _ _ _ _ olds (by rw [hz1, hr.1, hn]; rfl) hco, hr⟩
    have hol : olds.length = n * 4 := by rw [hro.1, hn]
    have hcap := grownCap_ge W (n + m) n 75
    have hcm := grownCap_le_maxLen W (n + m) n 75 (by unfold maxLen; omega)
    have hrun := run_append_grow_src (P := Try.prog) W 31 31 ty 75 i0 _ Try.underlying31 hi hz0 A n n olds hold _ m news hsrc (by omega) (by omega) (growslice_fits (by omega) (by rw [hz2]; omega))
    have hbel : Below W.heap.size W (W.drew.alloc (.cells ((olds ++ news).toArray ++ Builtin.zeroCells (Value.agg #[Value.int IntKind.i64 0, Value.bool false, Value.string (ByteArray.mk #[]), Value.string (ByteArray.mk #[])]).cells (grownCap W (n + m) n 75 - (n + m))) 75)) := (Below.refl W.heap.size W).drew.alloc (Nat.le_refl _) _
    refine ⟨_, _, _, hrun, hcap, ?_, .inr (fun ad e => by cases e; exact ⟨rfl, by simp⟩), hbel⟩
    have hR : k75.R 75 (W.drew.alloc (.cells ((olds ++ news).toArray ++ Builtin.zeroCells (Value.agg #[Value.int IntKind.i64 0, Value.bool false, Value.string (ByteArray.mk #[]), Value.string (ByteArray.mk #[])]).cells (grownCap W (n + m) n 75 - (n + m))) 75)) W.heap.size (fun _ => True) (.slice (some ⟨W.heap.size, 0, none⟩) (l ++ l2).length (grownCap W (n + m) n 75)) (l ++ l2) :=
      ⟨fun _ _ => trivial, olds ++ news, ⟨by rw [List.length_append, List.length_append, hol, hnl, hn, hm, Nat.add_mul]; rfl, .inr ⟨W.heap.size, _, _, rfl, Nat.le_refl _, heap_alloc_new W.drew _, by rw [List.length_append, hn, hm]; exact hcap, hcm, by simp only [Array.size_append, List.size_toArray, size_zeroCells, List.length_append, hol, hnl]; show n * 4 + m * 4 + (grownCap W (n + m) n 75 - (n + m)) * 4 = grownCap W (n + m) n 75 * 4; omega, by
        have hlen : (l ++ l2).length * 4 = (olds ++ news).length := by rw [List.length_append, List.length_append, hol, hnl, hn, hm, Nat.add_mul]
        have hlen2 : (l ++ l2).length * (k75 : Kd S75).sz = (olds ++ news).length := hlen
        rw [hlen2, Array.toList_append, List.take_append_of_le_length (Nat.le_refl _)]
        exact List.take_length⟩⟩, (reps_app hro hr2).imp_ (fun p c hp => by rw [k75_open hp]; exact k75_mkM _ _ _ p)⟩
    obtain ⟨A', c', he, hle, hC⟩ := Kd.R_reads hR
    cases he
    rw [List.length_append, hn, hm] at hC
    exact hC
end Go.Proofs.Ytagkobpbhfkmdaa.C
/-! from DO -/
namespace Go.Proofs.Ytagkobpbhfkmdaa.C
open Go.RowKit Go.Proofs.Ytagkobpbhfkmdaa.Q Go.Proofs.YtagkobpbhfkmdaaW.PrintLast Go.Proofs.YtagkobpbhfkmdaaW.PrintWords
set_option linter.unusedVariables false
set_option linter.unusedSimpArgs false
abbrev Txn' := S101
def stepD (p : Tre × List S75) (o : Opn) : Tre × List S75 :=
  ((opM p.1 o).1, if (opM p.1 o).2 = true then p.2 ++ [⟨(opM p.1 o).1.rev, o.f0, o.f1, o.f2⟩] else p.2)
def opsM (X : Tre) (l : List Opn) : Tre × List S75 := l.foldl stepD ({ X with rev := X.rev + 1 }, [])
/-- What Do comes to: the tree, whether it was done, the error. -/
def doM (X : Tre) (x : Txn') : Tre × (Bool × Int) :=
  if mayTxnB x = false then (X, (false, 4)) else if x.f0.any (offB X.t) = true then (X, (false, 0)) else if x.f1.length = 0 then (X, (true, 0)) else if X.rev = 1099511627776 then (X, (false, 40))
  else ({ (opsM X x.f1).1 with hap := X.hap ++ (opsM X x.f1).2 }, (true, 0))
theorem opM_ok {X : Tre} (o : Opn) (h : X.t.ok) : (opM X o).1.t.ok ∧ (opM X o).1.t.cnt ≤ X.t.cnt + 1 ∧ (opM X o).1.rev = X.rev ∧ (opM X o).1.low = X.low ∧ (opM X o).1.hap = X.hap := by
  unfold opM
  split
  · split
    · exact ⟨(Shf.drop_ok _ h).1, Nat.le_succ_of_le (Shf.drop_ok _ h).2, rfl, rfl, rfl⟩
    · exact ⟨h, Nat.le_succ _, rfl, rfl, rfl⟩
  · exact ⟨(Shf.put_ok _ _ h).1, (Shf.put_ok _ _ h).2, rfl, rfl, rfl⟩
theorem opsM_take {X : Tre} {l : List Opn} {k : Nat} {o : Opn} (h : l[k]? = some o) : opsM X (l.take (k + 1)) = stepD (opsM X (l.take k)) o := by
  unfold opsM
  rw [List.take_add_one, h, List.foldl_append]
  rfl
theorem TRx.fr {F : Nat → Prop} {w w' : World} {T : Nat} {X : Tre} {A : Option Addr} {c : Nat} (h : TRx w T X A c) (hf : Fr F w w') (hT : ¬ F T) (hS : ∀ k cs t, F k → w.heap[k]? = some (.cells cs t (0, 0)) → t ≠ 153) (hA : ∀ ad, A = some ad → ¬ F ad.block) : TRx w' T X A c := by
  obtain ⟨v, m, h1, h2, h3, h4, h5⟩ := h
  exact ⟨v, m, (hf.block T (lt_of_block h1) hT).trans h1, h2.fr hf hS, row_fr (F := F) (fun h => h) h3 hf hA, h4, fun ad e => ⟨Nat.lt_of_lt_of_le (h5 ad e).1 hf.size, (h5 ad e).2⟩⟩
theorem opsM_hap (X : Tre) : ∀ l : List Opn, (opsM X l).1.hap = X.hap := by
  have : ∀ (l : List Opn) (p : Tre × List S75), (l.foldl stepD p).1.hap = p.1.hap := fun l => by
    induction l with
    | nil => intro p; rfl
    | cons o l ih =>
      intro p
      rw [List.foldl_cons, ih]
      show (opM p.1 o).1.hap = _
      unfold opM
      split
      · split <;> rfl
      · rfl
  exact fun l => this l _
theorem exec_append2 {P : Program} {w w' : World} {v' s x : Value} (ρ : Operand → Value) (o : Oper) (t : TypeId) (sa xa : Operand) (hop : o.op = .call { callee := .builtin .append, args := #[sa, xa], argTypes := #[t, t] }) (hs : ρ sa = s) (hx : ρ xa = x)
    (h : (Builtin.append_ #[t, t] o.type #[s, x]).run P w = .ok v' w') : (execOp ρ o).run P w = .ok (.value v') w' := by
  simp [execOp, hop, resolve, invoke, builtin, hs, hx, h, Result.andThen]
def do16T : Bool × List (List Nat × List Nat) := (true, [([], []), ([], []), ([1], [1]), ([2], [2]), ([3], [3]), ([], []), ([5], [5]), ([], []), ([7], [7]), ([], []), ([9], [9]), ([4, 6, 8, 10], [4, 6, 8, 10]), ([11], [11]), ([0, 12], [0, 12]), ([13, 13, 0, 1, 2, 3, 4, 5, 6, 7, 8, 9, 10, 11, 12, 13], [0, 13])])
def do16B : List Nat := [0, 0, 2, 6, 14, 0, 32, 0, 128, 0, 512, 2046, 4094, 8191, 16383]
theorem do16_tab : rtab .any (opsOf Try.f46 16) = do16T := by kernel_rfl
theorem do16_bits : waitsOk do16T.2 do16B = true := by kernel_rfl
def do18T : Bool × List (List Nat × List Nat) := (true, [([], []), ([], []), ([1], [1]), ([2], [2]), ([3], [3]), ([], []), ([5], [5]), ([6], [6]), ([7], [7]), ([8], [8]), ([], []), ([10], [10]), ([11], [11]), ([12], [12]), ([13], [13]), ([4, 9, 14], [4, 9, 14]), ([], []), ([15, 16], [15, 16]), ([0, 0, 1, 2, 3, 4, 5, 6, 7, 8, 9, 10, 11, 12, 13, 14, 15, 16, 17], [0]), ([18, 0, 1, 2, 3, 4, 5, 6, 7, 8, 9, 10, 11, 12, 13, 14, 15, 16, 17], [18]), ([19, 17, 17, 0, 1, 2, 3, 4, 5, 6, 7, 8, 9, 10, 11, 12, 13, 14, 15, 16, 17], [17, 19])])
def do18B : List Nat := [0, 0, 2, 6, 14, 0, 32, 96, 224, 480, 0, 1024, 3072, 7168, 15360, 32766, 0, 131070, 262143, 524287, 1048575]
theorem do18_tab : rtab .any (opsOf Try.f46 18) = do18T := by kernel_rfl
theorem do18_bits : waitsOk do18T.2 do18B = true := by kernel_rfl
set_option maxHeartbeats 8000000 in
set_option maxRecDepth 100000 in
theorem do_calls (T : Nat) (X : Tre) (x : Txn') (A0 A1 : Option Addr) (c0 c1 : Nat) (w : World) (A : Option Addr) (c : Nat) (hx : TRx w T X A c) (ho : X.t.ok) (hn : X.t.cnt ≤ 1000000000) (hh : X.hap.length ≤ 100000000) (hr : 0 ≤ X.rev ∧ X.rev ≤ 1099511627776)
    (g0 : k158.C w A0 x.f0.length x.f0) (g1 : k117.C w A1 x.f1.length x.f1) (h0 : x.f0.length ≤ c0) (h1 : x.f1.length ≤ c1) (hl0 : x.f0.length ≤ 1000000) (hl1 : x.f1.length ≤ 1000000) (hs0 : ∀ c ∈ x.f0, c.f0.size ≤ 9000000000000000000) (hs1 : ∀ o ∈ x.f1, o.f1.size ≤ 9000000000000000000) (hA1 : 0 < x.f1.length → ∀ ad, A1 = some ad → ad.block ≠ T) :
    Calls Try.prog 46 #[.pointer (some ⟨T, 0, none⟩), .agg #[.slice A0 x.f0.length c0, .slice A1 x.f1.length c1]] w fun e w' => (∃ V, e = .returned (.tuple #[V, .bool (doM X x).2.1, .int .i64 (doM X x).2.2])) ∧ (∃ A' c', TRx w' T (doM X x).1 A' c' ∧ (A' = A ∨ ∀ ad, A' = some ad → w.heap.size ≤ ad.block)) ∧ Fr (fun k => k = T) w w' := by
  have hTl : T < w.heap.size := by obtain ⟨v, m, h1, _⟩ := hx; exact lt_of_block h1
  obtain ⟨l0, l1⟩ := x
  dsimp only at g0 g1 h0 h1 hl0 hl1 hs0 hs1 hA1 ⊢
  obtain ⟨Y, hY⟩ : ∃ Y, doM X ⟨l0, l1⟩ = Y := ⟨_, rfl⟩
  rw [hY]
  unfold doM at hY
  dsimp only at hY
  obtain ⟨n0, hn0⟩ : ∃ n, l0.length = n := ⟨_, rfl⟩
  obtain ⟨n1, hn1⟩ : ∃ n, l1.length = n := ⟨_, rfl⟩
  obtain ⟨B1, hB1⟩ : ∃ B, mayTxnB ⟨l0, l1⟩ = B := ⟨_, rfl⟩
  obtain ⟨B2, hB2⟩ : ∃ B, l0.any (offB X.t) = B := ⟨_, rfl⟩
  have hb := (Below.refl w.heap.size w).alloc (Nat.le_refl _) (Obj.cells #[Value.slice A0 n0 c0, Value.slice A1 n1 c1] 101 (0, 0))
  have hE := heap_alloc_new w (Obj.cells #[Value.slice A0 n0 c0, Value.slice A1 n1 c1] 101 (0, 0))
  have hmt := fun W hW => mayTxn_calls ⟨l0, l1⟩ A0 A1 c0 c1 W (Kd.C_below g0 hW) (Kd.C_below g1 hW) h0 h1 hl0 hl1 hs0 hs1
  have hhd := fun W hW => holds_calls T X A0 c0 l0 W (⟨A, c, hx.below hW⟩) (Kd.C_below g0 hW) h0 (by omega)
  dsimp only at hmt
  rw [hB1, hn0, hn1] at hmt
  rw [hB2, hn0] at hhd
  rw [hB1, hB2, hn1] at hY
  obtain ⟨b0, hb0⟩ : ∃ b0, w.heap.size = b0 := ⟨_, rfl⟩
  rw [hb0] at hE
  rw [hn0] at h0 hl0 ⊢
  rw [hn1] at h1 hl1 hA1 ⊢
  have HY := Aside.mk hY
  have HX := Aside.mk (And.intro hx (And.intro ho (And.intro hn (And.intro hh (And.intro hr (And.intro g1 (And.intro hn1 (And.intro hs1 (And.intro hA1 (And.intro hTl hb0))))))))))
  have HB := Aside.mk (And.intro hb hE)
  have HM := Aside.mk (And.intro hmt hhd)
  clear hx ho hn hh hr g0 g1 hs0 hs1 hA1 hTl hn0 hn1 hB1 hB2 hY hmt hhd hb
  go_enter Try.func46, Try.ntmps46
  go_upto_region 3 with fail
  try rw [hb0]
  clear hb0
  generalize w.alloc (Obj.cells #[Value.slice A0 n0 c0, Value.slice A1 n1 c1] 101 (0, 0)) = w1 at *
  have y0 := cell_at hE 0
  have y1 := cell_at hE 1
  have hmt := HM.out.1 w1 HB.out.1
  clear hE
  cases B1 with
  | false =>
    have HY1 := HY.out
    rw [if_pos rfl] at HY1
    go_wp2_with fail
    refine hmt.mono ?_
    rintro e w2 ⟨rfl, hb2⟩
    have HB2 := Aside.mk (HB.out.1.trans (hb2.mono HB.out.1.size))
    clear hb2 hmt
    go_wp2_with fail
    go_returns
    rw [← HY1]
    exact ⟨⟨_, rfl⟩, ⟨A, c, HX.out.1.below HB2.out, .inl rfl⟩, Fr.of_new HB2.out⟩
  | true =>
    go_wp2_with fail
    refine hmt.mono ?_
    rintro e w2 ⟨rfl, hb2⟩
    have hE2 := (hb2.block b0 (lt_of_block HB.out.2)).trans HB.out.2
    have HB2 := Aside.mk (And.intro (HB.out.1.trans (hb2.mono HB.out.1.size)) hE2)
    have y0 : w2.cell? ⟨b0, 0, none⟩ = some (.slice A0 n0 c0) := cell_at hE2 0
    have hhd := HM.out.2 w2 HB2.out.1
    clear hb2 hmt y1 hE2 HM
    cases B2 with
    | true =>
      have HY1 := HY.out
      rw [if_neg (by decide), if_pos rfl] at HY1
      go_wp2_with fail
      refine hhd.mono ?_
      rintro e w3 ⟨rfl, hb3⟩
      have HB3 := Aside.mk (HB2.out.1.trans (hb3.mono HB2.out.1.size))
      clear hb3 hhd
      go_wp2_with fail
      go_returns
      rw [← HY1]
      exact ⟨⟨_, rfl⟩, ⟨A, c, HX.out.1.below HB3.out, .inl rfl⟩, Fr.of_new HB3.out⟩
    | false =>
      go_wp2_with fail
      refine hhd.mono ?_
      rintro e w3 ⟨rfl, hb3⟩
      have hE3 := (hb3.block b0 (lt_of_block HB2.out.2)).trans HB2.out.2
      have HB3 := Aside.mk (And.intro (HB2.out.1.trans (hb3.mono HB2.out.1.size)) hE3)
      have y1 : w3.cell? ⟨b0, 1, none⟩ = some (.slice A1 n1 c1) := cell_at hE3 1
      have hx3 := HX.out.1.below HB3.out.1
      obtain ⟨v, m, hT, _, _, _, _⟩ := hx3
      have e2 := cell_at hT 2
      have z2 := free_at hT 2
      have HT := Aside.mk hT
      clear hb3 hhd y0 hE3 hT
      by_cases hz : n1 = 0
      · have HY1 := HY.out
        rw [if_neg (by decide), if_neg (by decide), if_pos hz] at HY1
        subst hz
        go_wp2_with fail
        go_returns
        rw [← HY1]
        exact ⟨⟨_, rfl⟩, ⟨A, c, HX.out.1.below HB3.out.1, .inl rfl⟩, Fr.of_new HB3.out.1⟩
      · by_cases hrm : X.rev = 1099511627776
        · have HY1 := HY.out
          rw [if_neg (by decide), if_neg (by decide), if_neg hz, if_pos hrm] at HY1
          have hz' : ¬ (n1 : Int) = 0 := by omega
          rw [hrm] at e2
          go_wp2_with fail
          go_returns
          rw [← HY1]
          exact ⟨⟨_, rfl⟩, ⟨A, c, HX.out.1.below HB3.out.1, .inl rfl⟩, Fr.of_new HB3.out.1⟩
        · have HY1 := HY.out
          rw [if_neg (by decide), if_neg (by decide), if_neg hz, if_neg hrm] at HY1
          have HYY := Aside.mk HY1
          have hz' : ¬ (n1 : Int) = 0 := by omega
          have hrr := HX.out.2.2.2.2.1
          have hwr : wrap64 (X.rev + 1) = X.rev + 1 := by unfold wrap64; omega
          clear HY1 HY
          go_upto_region 12 with fail
          have hT3 := heap_setCell_eq (j := 2) (.int .i64 (X.rev + 1)) HT.out
          simp only [List.setIfInBounds_toArray, List.set_cons_zero, List.set_cons_succ] at hT3
          have hF4 : Fr (fun k => k = T) w3 (w3.setCell ⟨T, 2, none⟩ (.int .i64 (X.rev + 1))) := (Fr.refl (fun k => k = T) _).setCell (p := ⟨T, 2, none⟩) (.inl rfl) _
          have hx4 : TRx (w3.setCell ⟨T, 2, none⟩ (.int .i64 (X.rev + 1))) T { X with rev := X.rev + 1 } A c := by
            obtain ⟨v', m', q1, q2, q3, q4, q5⟩ := HX.out.1.below HB3.out.1
            rw [HT.out] at q1
            cases q1
            exact ⟨_, _, hT3, q2.fr hF4 (fun k cs t hk hc => by subst hk; rw [HT.out] at hc; cases hc; decide), row_fr (F := fun k => k = T) (fun h => h) q3 hF4 (fun ad e => (q5 ad e).2), q4, fun ad e => ⟨Nat.lt_of_lt_of_le (q5 ad e).1 hF4.size, (q5 ad e).2⟩⟩
          have hF4' := (Fr.of_new (F := fun k => k = T) HB3.out.1).trans hF4 (fun _ _ h => h)
          have hbT : ¬ b0 = T := by have := HX.out.2.2.2.2.2.2.2.2.2; omega
          have hE4 : (w3.setCell ⟨T, 2, none⟩ (.int .i64 (X.rev + 1))).heap[b0]? = some (Obj.cells #[Value.slice A0 n0 c0, Value.slice A1 n1 c1] 101 (0, 0)) := (hF4.block b0 (lt_of_block HB3.out.2) hbT).trans HB3.out.2
          have H4 := Aside.mk (And.intro hx4 (And.intro hF4' hE4))
          have y1 := cell_at hE4 1
          clear hT3 hF4 hx4 hF4' hE4 e2 z2 HT
          generalize (w3.setCell ⟨T, 2, none⟩ (.int .i64 (X.rev + 1))) = w4 at *
          simp only [show ((n1 : Int) == 0) = false from beq_false_of_ne hz', show (X.rev == 1099511627776) = false from beq_false_of_ne hrm]
          clear hrm hz' hz
          go_wp2_with fail
          go_loopw [4, 43] (fun v4 v43 wr => ∃ k : Nat, k ≤ n1 ∧ v43 = .int .i64 k ∧ Aside (TRx wr T (opsM X (l1.take k)).1 A c ∧ (opsM X (l1.take k)).1.t.ok ∧ (opsM X (l1.take k)).1.t.cnt ≤ X.t.cnt + k ∧ (opsM X (l1.take k)).2.length ≤ k ∧ k75.R 75 wr b0 (fun k => b0 ≤ k) v4 (opsM X (l1.take k)).2 ∧ Fr (fun k => k = T) w wr ∧ wr.heap[b0]? = some (Obj.cells #[Value.slice A0 n0 c0, Value.slice A1 n1 c1] 101 (0, 0)))) (fun _ v43 _ => n1 - (intOf v43).toNat)
          case atStart => exact ⟨0, by omega, rfl, ⟨H4.out.1, HX.out.2.1, Nat.le_refl _, Nat.le_refl _, Kd.R_nil _ _ _ _ _, H4.out.2.1, H4.out.2.2⟩⟩
          case round =>
            obtain ⟨k, hk, rfl, HI⟩ := hrel
            by_cases hkn : k < n1
            · obtain ⟨o, ho⟩ : ∃ o, l1[k]? = some o := ⟨_, List.getElem?_eq_getElem (by rw [HX.out.2.2.2.2.2.2.1]; exact hkn)⟩
              have hrow := row_fr (F := fun k => k = T) (fun h => h) HX.out.2.2.2.2.2.1 HI.out.2.2.2.2.2.1 (HX.out.2.2.2.2.2.2.2.2.1 (by omega))
              obtain ⟨ad, he, f0, f1, f2⟩ := at_T117 hrow (k : Int) (by omega) (by rw [HX.out.2.2.2.2.2.2.1]; omega)
              rw [rd_getO ho] at f0 f1 f2
              simp only [Int.toNat_natCast] at f0 f1 f2
              have hstep := opsM_take (X := X) ho
              obtain ⟨P, hP⟩ : ∃ P, opsM X (l1.take k) = P := ⟨_, rfl⟩
              rw [hP] at hstep
              have HI2 := HI.out
              rw [hP] at HI2
              have hok := opM_ok o HI2.2.1
              obtain ⟨o0, o1, o2⟩ := o
              dsimp only at f0 f1 f2
              have hbo := heap_alloc_new wr (Obj.cells #[Value.bool o0, Value.string o1, Value.string o2] 117 (0, 0))
              have hbb := (Below.refl wr.heap.size wr).alloc (Nat.le_refl _) (Obj.cells #[Value.bool o0, Value.string o1, Value.string o2] 117 (0, 0))
              have hcall := op_calls T P.1 ⟨o0, o1, o2⟩ A c (wr.alloc (Obj.cells #[Value.bool o0, Value.string o1, Value.string o2] 117 (0, 0))) (HI2.1.below hbb) HI2.2.1 (by have := HX.out.2.2.1; have := HI2.2.2.1; omega)
              obtain ⟨Q, hQ⟩ : ∃ Q, opM P.1 ⟨o0, o1, o2⟩ = Q := ⟨_, rfl⟩
              unfold stepD at hstep
              rw [hQ] at hstep hcall hok
              obtain ⟨Q, q⟩ := Q
              dsimp only at hcall hstep hok
              obtain ⟨bo, hbo0⟩ : ∃ b, wr.heap.size = b := ⟨_, rfl⟩
              rw [hbo0] at hbo
              have HS := Aside.mk (And.intro hstep (And.intro hok hbo0))
              have HBW := Aside.mk (And.intro hbb hbo)
              have HI := Aside.mk HI2
              subst he
              clear hrow ho hstep hok hbb hbo HI2 hP hQ
              go_wp2_with fail
              refine hcall.mono ?_
              rintro e w5 ⟨rfl, hx5, hf5⟩
              have hf5' : Fr (fun k => k = T) w w5 := (HI.out.2.2.2.2.2.1.trans (Fr.of_new (F := fun k => k = T) HBW.out.1) (fun _ _ h => h)).trans hf5 (fun _ _ h => h)
              have hoT : ¬ bo = T := by have h1 := HS.out.2.2; have h2 := HI.out.1; obtain ⟨_, _, h3, _⟩ := h2; have := lt_of_block h3; omega
              have hb0T : ¬ b0 = T := by have := HX.out.2.2.2.2.2.2.2.2.2; omega
              have hob5 : w5.heap[bo]? = _ := (hf5.block bo (lt_of_block HBW.out.2) hoT).trans HBW.out.2
              have hE5 : w5.heap[b0]? = _ := (hf5.block b0 (by have := lt_of_block HI.out.2.2.2.2.2.2; have := HBW.out.1.size; omega) hb0T).trans ((HBW.out.1.block b0 (lt_of_block HI.out.2.2.2.2.2.2)).trans HI.out.2.2.2.2.2.2)
              have hR5 : k75.R 75 w5 b0 (fun k => b0 ≤ k) u4 P.2 := Kd.R_step (Kd.R_below HI.out.2.2.2.2.1 HBW.out.1) (fun k hk hlt => hf5.block k hlt (by have := HX.out.2.2.2.2.2.2.2.2.2; omega))
              have H5 := Aside.mk (And.intro hx5 (And.intro hf5' (And.intro hob5 (And.intro hE5 (And.intro hR5 (And.intro HI.out.2.2.1 HI.out.2.2.2.1))))))
              clear hx5 hf5 hf5' hoT hb0T hob5 hE5 hR5 HI HBW hcall
              cases q with
              | false =>
                go_wp2_with fail
                go_roundw
                case rel =>
                  refine ⟨k + 1, by omega, by go_num, ?_⟩
                  rw [HS.out.1, if_neg (by decide)]
                  exact ⟨H5.out.1, HS.out.2.1.1, by have := HS.out.2.1.2.1; have := H5.out.2.2.2.2.2.1; dsimp only; omega, by have := H5.out.2.2.2.2.2.2; dsimp only; omega, H5.out.2.2.2.2.1, H5.out.2.1, H5.out.2.2.2.1⟩
                case measure => simp [intOf]; omega
              | true =>
                go_upto_region 16 with fail
                obtain ⟨Wd, hWd⟩ : ∃ W, w5.drew = W := ⟨_, rfl⟩
                have HWD := Aside.mk hWd
                obtain ⟨Bz, hBz⟩ : ∃ b, b0 = b := ⟨_, rfl⟩
                obtain ⟨rv, hrv⟩ : ∃ r, Q.rev = r := ⟨_, rfl⟩
                obtain ⟨evs, hevs⟩ : ∃ e, P.2 = e := ⟨_, rfl⟩
                obtain ⟨V, hV⟩ : ∃ v, u4 = v := ⟨_, rfl⟩
                have HEV : Aside (k75.R 75 Wd Bz (fun k => Bz ≤ k) V evs) := ⟨by rw [← hWd, ← hBz, ← hevs, ← hV]; exact Kd.R_drew H5.out.2.2.2.2.1⟩
                have hbz : b0 ≤ Wd.heap.size := by rw [← hWd]; exact Nat.le_of_lt (lt_of_block H5.out.2.2.2.1)
                have HBZ : Aside (Bz ≤ Wd.heap.size) := ⟨by rw [← hBz]; exact hbz⟩
                have HEL : Aside (evs.length ≤ 1000000) := ⟨by rw [← hevs]; have := H5.out.2.2.2.2.2.2; omega⟩
                have HTd : Aside (TRx Wd T Q A c ∧ Wd.heap[bo]? = some (Obj.cells #[Value.bool o0, Value.string o1, Value.string o2] 117 (0, 0)) ∧ Fr (fun k => k = T) w Wd ∧ Wd.heap[b0]? = some (Obj.cells #[Value.slice A0 n0 c0, Value.slice (some ad) n1 c1] 101 (0, 0))) := ⟨by rw [← hWd]; exact ⟨H5.out.1.below (below_drew1 (Below.refl _ _)), H5.out.2.2.1, H5.out.2.1.drew, H5.out.2.2.2.1⟩⟩
                have HD : Aside (∀ W', Below Wd.heap.size Wd W' → (W'.cell? ⟨T, 2, none⟩ = some (.int .i64 rv) ∧ W'.cell? ⟨bo, 0, none⟩ = some (.bool o0) ∧ W'.cell? ⟨bo, 1, none⟩ = some (.string o1) ∧ W'.cell? ⟨bo, 2, none⟩ = some (.string o2))) := ⟨fun W hW => by
                  obtain ⟨v', m', q1, _⟩ := HTd.out.1
                  rw [hrv] at q1
                  have k1 := (hW.block T (lt_of_block q1)).trans q1
                  have k2 := (hW.block bo (lt_of_block HTd.out.2.1)).trans HTd.out.2.1
                  exact ⟨cell_at k1 2, cell_at k2 0, cell_at k2 1, cell_at k2 2⟩⟩
                have HD2 : Aside (∀ W', (Wd.alloc (.cells #[.int .i64 rv, .bool o0, .string o1, .string o2] 75 (0, 0))).grownBy W' V.ownBlock → (W'.cell? ⟨T, 2, none⟩ = some (.int .i64 rv) ∧ W'.cell? ⟨bo, 0, none⟩ = some (.bool o0) ∧ W'.cell? ⟨bo, 1, none⟩ = some (.string o1) ∧ W'.cell? ⟨bo, 2, none⟩ = some (.string o2))) := ⟨fun W hW => by
                  obtain ⟨v', m', q1, _⟩ := HTd.out.1
                  rw [hrv] at q1
                  have k1 := (hW.block T (by have := lt_of_block q1; simp; omega) (Kd.R_ne HEV.out q1 (by decide))).trans (blk_al q1 _)
                  have k2 := (hW.block bo (by have := lt_of_block HTd.out.2.1; simp; omega) (Kd.R_ne HEV.out HTd.out.2.1 (by decide))).trans (blk_al HTd.out.2.1 _)
                  exact ⟨cell_at k1 2, cell_at k2 0, cell_at k2 1, cell_at k2 2⟩⟩
                have HCN : Aside (P.1.t.cnt ≤ X.t.cnt + k ∧ P.2.length ≤ k) := ⟨H5.out.2.2.2.2.2⟩
                have HRV := Aside.mk hrv
                have HEVS := Aside.mk hevs
                have HBB := Aside.mk hBz
                rw [hV]
                clear H5 hWd hBz hrv hevs hV hbz
                refine start_ (n := 15) (S := (fun w' => w'.cell? ⟨T, 2, none⟩ = some (.int .i64 rv) ∧ w'.cell? ⟨bo, 0, none⟩ = some (.bool o0) ∧ w'.cell? ⟨bo, 1, none⟩ = some (.string o1) ∧ w'.cell? ⟨bo, 2, none⟩ = some (.string o2))) (ds := []) #[false, false, false, false, false, false, false, false, false, false, false, false, false, false, false] (by kernel_rfl) rfl rfl (by rw [HWD.out]; exact HD.out Wd (Below.refl _ _)) (fun hHeld => ?_); refine with_tabW do16_tab do16_bits (fun HT_ HW_ => ?_)
                rw [HWD.out] at hHeld ⊢
                refine pure_ (i := 0) (N := (some 50)) (v := ?_) (a' := ?_) #[true, false, false, false, false, false, false, false, false, false, false, false, false, false, false] rfl rfl (any_of HT_.out (by kernel_rfl)) (fun _ _ _ h => h) (Or.inl ⟨by rfl, ?_⟩) ?_ ?_
                rotate_left
                · intro w'
                  go_simp
                  with_reducible rfl
                rotate_left
                · simp only [Act.put, List.setIfInBounds_toArray, List.set_cons_zero, List.set_cons_succ, i64_w, i32_w]
                  rfl
                refine pure_ (i := 1) (N := (some 51)) (v := ?_) (a' := ?_) #[true, true, false, false, false, false, false, false, false, false, false, false, false, false, false] rfl rfl (any_of HT_.out (by kernel_rfl)) (fun _ _ _ h => h) (Or.inl ⟨by rfl, ?_⟩) ?_ ?_
                rotate_left
                · intro w'
                  go_simp
                  with_reducible rfl
                rotate_left
                · simp only [Act.put, List.setIfInBounds_toArray, List.set_cons_zero, List.set_cons_succ, i64_w, i32_w]
                  rfl
                refine pure_ (i := 2) (N := (some 52)) (v := ?_) (a' := ?_) #[true, true, true, false, false, false, false, false, false, false, false, false, false, false, false] rfl rfl (any_of HT_.out (by kernel_rfl)) (fun _ _ _ h => h) (Or.inl ⟨by rfl, ?_⟩) ?_ ?_
                rotate_left
                · intro w'
                  go_simp
                  with_reducible rfl
                rotate_left
                · simp only [Act.put, List.setIfInBounds_toArray, List.set_cons_zero, List.set_cons_succ, i64_w, i32_w]
                  rfl
                refine pure_ (i := 3) (N := (some 53)) (v := ?_) (a' := ?_) #[true, true, true, true, false, false, false, false, false, false, false, false, false, false, false] rfl rfl (any_of HT_.out (by kernel_rfl)) (fun _ _ _ h => h) (Or.inl ⟨by rfl, ?_⟩) ?_ ?_
                rotate_left
                · intro w'
                  go_simp
                  with_reducible rfl
                rotate_left
                · simp only [Act.put, List.setIfInBounds_toArray, List.set_cons_zero, List.set_cons_succ, i64_w, i32_w]
                  rfl
                refine take_ (i := 4) (N := (some 54)) (v := ?_) (a' := ?_) #[true, true, true, true, true, false, false, false, false, false, false, false, false, false, false] rfl rfl (take_ofW HT_.out HW_.out (by kernel_rfl)) (fun _ _ _ h => h) (Or.inl ⟨by rfl, ?_⟩) hHeld ?_ ?_
                rotate_left
                · rintro w' ⟨s1, _⟩
                  go_simp
                  with_reducible rfl
                rotate_left
                · simp only [Act.put, List.setIfInBounds_toArray, List.set_cons_zero, List.set_cons_succ, i64_w, i32_w]
                  rfl
                refine pure_ (i := 5) (N := (some 55)) (v := ?_) (a' := ?_) #[true, true, true, true, true, true, false, false, false, false, false, false, false, false, false] rfl rfl (any_of HT_.out (by kernel_rfl)) (fun _ _ _ h => h) (Or.inl ⟨by rfl, ?_⟩) ?_ ?_
                rotate_left
                · intro w'
                  go_simp
                  with_reducible rfl
                rotate_left
                · simp only [Act.put, List.setIfInBounds_toArray, List.set_cons_zero, List.set_cons_succ, i64_w, i32_w]
                  rfl
                refine take_ (i := 6) (N := (some 56)) (v := ?_) (a' := ?_) #[true, true, true, true, true, true, true, false, false, false, false, false, false, false, false] rfl rfl (take_ofW HT_.out HW_.out (by kernel_rfl)) (fun _ _ _ h => h) (Or.inl ⟨by rfl, ?_⟩) hHeld ?_ ?_
                rotate_left
                · rintro w' ⟨_, s1, _⟩
                  go_simp
                  with_reducible rfl
                rotate_left
                · simp only [Act.put, List.setIfInBounds_toArray, List.set_cons_zero, List.set_cons_succ, i64_w, i32_w]
                  rfl
                refine pure_ (i := 7) (N := (some 57)) (v := ?_) (a' := ?_) #[true, true, true, true, true, true, true, true, false, false, false, false, false, false, false] rfl rfl (any_of HT_.out (by kernel_rfl)) (fun _ _ _ h => h) (Or.inl ⟨by rfl, ?_⟩) ?_ ?_
                rotate_left
                · intro w'
                  go_simp
                  with_reducible rfl
                rotate_left
                · simp only [Act.put, List.setIfInBounds_toArray, List.set_cons_zero, List.set_cons_succ, i64_w, i32_w]
                  rfl
                refine take_ (i := 8) (N := (some 58)) (v := ?_) (a' := ?_) #[true, true, true, true, true, true, true, true, true, false, false, false, false, false, false] rfl rfl (take_ofW HT_.out HW_.out (by kernel_rfl)) (fun _ _ _ h => h) (Or.inl ⟨by rfl, ?_⟩) hHeld ?_ ?_
                rotate_left
                · rintro w' ⟨_, _, s1, _⟩
                  go_simp
                  with_reducible rfl
                rotate_left
                · simp only [Act.put, List.setIfInBounds_toArray, List.set_cons_zero, List.set_cons_succ, i64_w, i32_w]
                  rfl
                refine pure_ (i := 9) (N := (some 59)) (v := ?_) (a' := ?_) #[true, true, true, true, true, true, true, true, true, true, false, false, false, false, false] rfl rfl (any_of HT_.out (by kernel_rfl)) (fun _ _ _ h => h) (Or.inl ⟨by rfl, ?_⟩) ?_ ?_
                rotate_left
                · intro w'
                  go_simp
                  with_reducible rfl
                rotate_left
                · simp only [Act.put, List.setIfInBounds_toArray, List.set_cons_zero, List.set_cons_succ, i64_w, i32_w]
                  rfl
                refine take_ (i := 10) (N := (some 60)) (v := ?_) (a' := ?_) #[true, true, true, true, true, true, true, true, true, true, true, false, false, false, false] rfl rfl (take_ofW HT_.out HW_.out (by kernel_rfl)) (fun _ _ _ h => h) (Or.inl ⟨by rfl, ?_⟩) hHeld ?_ ?_
                rotate_left
                · rintro w' ⟨_, _, _, s1⟩
                  go_simp
                  with_reducible rfl
                rotate_left
                · simp only [Act.put, List.setIfInBounds_toArray, List.set_cons_zero, List.set_cons_succ, i64_w, i32_w]
                  rfl
                refine pure_ (i := 11) (N := (some 61)) (v := ?_) (a' := ?_) #[true, true, true, true, true, true, true, true, true, true, true, true, false, false, false] rfl rfl (any_of HT_.out (by kernel_rfl)) (fun _ _ _ h => h) (Or.inl ⟨by rfl, ?_⟩) ?_ ?_
                rotate_left
                · intro w'
                  go_simp
                  with_reducible rfl
                rotate_left
                · simp only [Act.put, List.setIfInBounds_toArray, List.set_cons_zero, List.set_cons_succ, i64_w, i32_w]
                  rfl
                refine one_ (i := 12) (N := (some 62)) #[true, true, true, true, true, true, true, true, true, true, true, true, true, false, false] rfl rfl (one_of HT_.out (by kernel_rfl)) (by decide) (fun K9 hK => ?_)

                refine value_ (v := .slice (some ⟨Wd.heap.size, 0, none⟩) 1 1) (w1 := Wd.alloc (.cells #[.int .i64 rv, .bool o0, .string o1, .string o2] 75 (0, 0))) (by rfl) rfl (by unfold execOp; go_simp) ?_
                refine hK.out _ _ (HD.out _ (new_alloc _ _)) (fun hHeld => ?_)
                clear hK K9
                refine norm_ (a' := ?_) ?_ ?_
                rotate_left
                · show Act.put _ (some 62) _ = _
                  simp only [Act.put, List.setIfInBounds_toArray, List.set_cons_zero, List.set_cons_succ]
                  rfl
                refine one_ (i := 13) (N := (some 63)) #[true, true, true, true, true, true, true, true, true, true, true, true, true, true, false] rfl rfl (one_of HT_.out (by kernel_rfl)) (by decide) (fun K9 hK => ?_)
                refine Kd.R_append_rows_step k75 (Rr := k75.K (Wd.alloc (.cells #[.int .i64 rv, .bool o0, .string o1, .string o2] 75 (0, 0)))) (w0 := Wd) Bz (by rfl) _ _ 31 75 (.agg #[.int .i64 0, .bool false, .string (ByteArray.mk #[]), .string (ByteArray.mk #[])]) 48 rfl Try.underlying31 ev_infoH rfl (by decide) (by decide) V evs [⟨rv, o0, o1, o2⟩] (some ⟨Wd.heap.size, 0, none⟩) 1 1 (fun k => Bz ≤ k) (fun _ => False) rfl rfl (Kd.R_below HEV.out (new_alloc _ _)) (row_one (heap_alloc_new Wd _) (k75_mk _ ⟨rv, o0, o1, o2⟩) rfl) (fun x cs h => by rw [k75_open h]; exact k75_mkM _ _ _ x) (fun _ h => h.elim) (fun k hk => by have h1 := HBZ.out; have h2 : Wd.heap.size + 1 ≤ k := (by simpa using hk); omega) ((Below.refl Bz Wd).alloc HBZ.out _) (by simp; have := HBZ.out; omega) (by have := HEL.out; omega) ?_
                rintro V1 W2 hr2 hb2 hg2 -
                have HR2 := Aside.mk (And.intro hr2 (And.intro hb2 hg2))
                refine hK.out _ _ (HD2.out W2 hg2) (fun hHeld => ?_)
                clear hK K9 hr2 hb2 hg2
                refine norm_ (a' := ?_) ?_ ?_
                rotate_left
                · show Act.put _ (some 63) _ = _
                  simp only [Act.put, List.setIfInBounds_toArray, List.set_cons_zero, List.set_cons_succ]
                  rfl
                refine pure_ (i := 14) (N := (some 4)) (v := ?_) (a' := ?_) #[true, true, true, true, true, true, true, true, true, true, true, true, true, true, true] rfl rfl (any_of HT_.out (by kernel_rfl)) (fun _ _ _ h => h) (Or.inl ⟨by rfl, ?_⟩) ?_ ?_
                rotate_left
                · intro w'
                  go_simp
                  with_reducible rfl
                rotate_left
                · simp only [Act.put, List.setIfInBounds_toArray, List.set_cons_zero, List.set_cons_succ, i64_w, i32_w]
                  rfl
                refine done_ (done_of HT_.out (by kernel_rfl)) ?_
                clear HT_ HW_ hHeld
                go_wp2_with fail
                go_roundw
                case rel =>
                  refine ⟨k + 1, by omega, by go_num, ?_⟩
                  have hfr : Fr (fun k => some k = V.ownBlock) Wd W2 := ((Fr.refl (fun k => some k = V.ownBlock) Wd).alloc _).trans (Fr.of_grown HR2.out.2.2 (fun k hk => hk.symm)) (fun _ _ h => h)
                  have hAd : ∀ ad, A = some ad → ad.block < b0 := fun ad e => by obtain ⟨_, _, _, _, _, _, h5⟩ := HX.out.1; have := (h5 ad e).1; have := HX.out.2.2.2.2.2.2.2.2.2; omega
                  have hTb : T < b0 := by have := HX.out.2.2.2.2.2.2.2.2.2; omega
                  have hVb : ∀ k, some k = V.ownBlock → b0 ≤ k := fun k hk => by rw [HBB.out]; exact HEV.out.1 k hk.symm
                  have hx2 := HTd.out.1.fr hfr (fun e => by have := hVb T e; omega) (fun k cs t hk hc e => by subst e; exact Kd.R_ne HEV.out hc (by decide) hk) (fun ad e hk => by have := hVb _ hk; have := hAd ad e; omega)
                  have hE2 : W2.heap[b0]? = _ := (hfr.block b0 (lt_of_block HTd.out.2.2.2) (fun hk => Kd.R_ne HEV.out HTd.out.2.2.2 (by decide) hk)).trans HTd.out.2.2.2
                  have hf2 : Fr (fun k => k = T) w W2 := ⟨hfr.os.trans HTd.out.2.2.1.os, hfr.tape.trans HTd.out.2.2.1.tape, hfr.output.trans HTd.out.2.2.1.output, Nat.le_trans HTd.out.2.2.1.size hfr.size, fun k hk hn => (hfr.block k (Nat.lt_of_lt_of_le hk HTd.out.2.2.1.size) (fun e => by have := hVb k e; have := HX.out.2.2.2.2.2.2.2.2.2; omega)).trans (HTd.out.2.2.1.block k hk hn)⟩
                  have hr2 := HR2.out.1
                  rw [← HBB.out, ← HEVS.out, ← HRV.out] at hr2
                  rw [HS.out.1]
                  simp only [if_true]
                  exact ⟨hx2, HS.out.2.1.1, by have := HS.out.2.1.2.1; have := HCN.out.1; omega, by have := HCN.out.2; simp; omega, hr2, hf2, hE2⟩
                case measure => simp [intOf]; omega
            · obtain rfl : n1 = k := by omega
              have hlk : l1.take n1 = l1 := List.take_of_length_le (by rw [HX.out.2.2.2.2.2.2.1]; exact Nat.le_refl _)
              have HI2 := HI.out
              rw [hlk] at HI2
              have HYY2 := HYY.out
              obtain ⟨P, hP⟩ : ∃ P, opsM X l1 = P := ⟨_, rfl⟩
              rw [hP] at HI2 HYY2
              obtain ⟨A2, c2, rfl, hc2, hC2⟩ := Kd.R_reads HI2.2.2.2.2.1
              have hhap : P.1.hap = X.hap := by rw [← hP]; exact opsM_hap X l1
              obtain ⟨nh, hnh⟩ : ∃ n, X.hap.length = n := ⟨_, rfl⟩
              obtain ⟨ne, hne⟩ : ∃ n, P.2.length = n := ⟨_, rfl⟩
              have hApp := hap_append wr.drew A A2 nh ne c2 P.1.hap P.2 31 (by obtain ⟨_, _, _, _, q3, _, _⟩ := HI2.1; rw [hhap, hnh] at q3; rw [hhap]; exact Kd.C_drew q3) (by rw [hne] at hC2; exact Kd.C_drew hC2) (by omega) (by have := HX.out.2.2.2.1; have := HI2.2.2.2.1; omega) (fun ad e => by obtain ⟨_, _, _, _, _, _, q5⟩ := HI2.1; exact (q5 ad e).1)
              obtain ⟨A', c', W3, hrun, hc3, hC3, hA3, hb3⟩ := hApp
              have HX2 := HI2.1.below (below_drew1 (Below.refl wr.heap.size wr))
              obtain ⟨v', m', q1, q2, q3, q4, q5⟩ := HX2
              rw [hhap, hnh] at q1 q4
              obtain ⟨Wd, hWd⟩ : ∃ W, wr.drew = W := ⟨_, rfl⟩
              rw [hWd] at hrun hA3 hb3 q1 q2 q3 q5
              have HWD := Aside.mk hWd
              have HRUN := Aside.mk hrun
              have HC2 : Aside (Wd.cell? ⟨T, 4, none⟩ = some (.slice A nh c)) := ⟨cell_at q1 4⟩
              have q6 := (hb3.block T (lt_of_block q1)).trans q1
              have HC3 : Aside (W3.cell? ⟨T, 4, none⟩ = some (.slice A nh c)) := ⟨cell_at q6 4⟩
              have HFZ : Aside (W3.frozen? ⟨T, 4, none⟩ = false) := ⟨free_at q6 4⟩
              have HE := Aside.mk (And.intro hb3 (And.intro q6 (And.intro (q2.below hb3) (And.intro hC3 (And.intro hA3 (And.intro hc3 (And.intro (HI2.2.2.2.2.2.1) (And.intro hhap (And.intro HYY2 (And.intro q5 (And.intro hnh hne)))))))))))
              clear hrun q1 q2 q3 q5 q6 hb3 hA3 hC3 hc3 HI2 HYY2 HYY hWd hhap hC2 hlk hP HI H4 hnh
              rw [hne]
              clear hne
              go_upto_region 18 with fail
              refine start_ (n := 21) (S := (fun w' => w'.cell? ⟨T, 4, none⟩ = some (.slice A nh c))) (ds := [20]) #[false, false, false, false, false, false, false, false, false, false, false, false, false, false, false, false, false, false, false, false, false] (by kernel_rfl) rfl rfl (by rw [HWD.out]; exact HC2.out) (fun hHeld => ?_); refine with_tabW do18_tab do18_bits (fun HT_ HW_ => ?_)
              rw [HWD.out] at hHeld ⊢
              refine pure_ (i := 0) (N := (some 65)) (v := ?_) (a' := ?_) #[true, false, false, false, false, false, false, false, false, false, false, false, false, false, false, false, false, false, false, false, false] rfl rfl (any_of HT_.out (by kernel_rfl)) (fun _ _ _ h => h) (Or.inl ⟨by rfl, ?_⟩) ?_ ?_
              rotate_left
              · intro w'
                go_simp
                with_reducible rfl
              rotate_left
              · simp only [Act.put, List.setIfInBounds_toArray, List.set_cons_zero, List.set_cons_succ, i64_w, i32_w]
                rfl
              refine pure_ (i := 1) (N := (some 66)) (v := ?_) (a' := ?_) #[true, true, false, false, false, false, false, false, false, false, false, false, false, false, false, false, false, false, false, false, false] rfl rfl (any_of HT_.out (by kernel_rfl)) (fun _ _ _ h => h) (Or.inl ⟨by rfl, ?_⟩) ?_ ?_
              rotate_left
              · intro w'
                go_simp
                with_reducible rfl
              rotate_left
              · simp only [Act.put, List.setIfInBounds_toArray, List.set_cons_zero, List.set_cons_succ, i64_w, i32_w]
                rfl
              refine pure_ (i := 2) (N := (some 67)) (v := ?_) (a' := ?_) #[true, true, true, false, false, false, false, false, false, false, false, false, false, false, false, false, false, false, false, false, false] rfl rfl (any_of HT_.out (by kernel_rfl)) (fun _ _ _ h => h) (Or.inl ⟨by rfl, ?_⟩) ?_ ?_
              rotate_left
              · intro w'
                go_simp
                with_reducible rfl
              rotate_left
              · simp only [Act.put, List.setIfInBounds_toArray, List.set_cons_zero, List.set_cons_succ, i64_w, i32_w]
                rfl
              refine pure_ (i := 3) (N := (some 68)) (v := ?_) (a' := ?_) #[true, true, true, true, false, false, false, false, false, false, false, false, false, false, false, false, false, false, false, false, false] rfl rfl (any_of HT_.out (by kernel_rfl)) (fun _ _ _ h => h) (Or.inl ⟨by rfl, ?_⟩) ?_ ?_
              rotate_left
              · intro w'
                go_simp
                with_reducible rfl
              rotate_left
              · simp only [Act.put, List.setIfInBounds_toArray, List.set_cons_zero, List.set_cons_succ, i64_w, i32_w]
                rfl
              refine take_ (i := 4) (N := (some 69)) (v := ?_) (a' := ?_) #[true, true, true, true, true, false, false, false, false, false, false, false, false, false, false, false, false, false, false, false, false] rfl rfl (take_ofW HT_.out HW_.out (by kernel_rfl)) (fun _ _ _ h => h) (Or.inl ⟨by rfl, ?_⟩) hHeld ?_ ?_
              rotate_left
              · rintro w' s1
                go_simp
                with_reducible rfl
              rotate_left
              · simp only [Act.put, List.setIfInBounds_toArray, List.set_cons_zero, List.set_cons_succ, i64_w, i32_w]
                rfl
              refine pure_ (i := 5) (N := (some 70)) (v := ?_) (a' := ?_) #[true, true, true, true, true, true, false, false, false, false, false, false, false, false, false, false, false, false, false, false, false] rfl rfl (any_of HT_.out (by kernel_rfl)) (fun _ _ _ h => h) (Or.inl ⟨by rfl, ?_⟩) ?_ ?_
              rotate_left
              · intro w'
                go_simp
                with_reducible rfl
              rotate_left
              · simp only [Act.put, List.setIfInBounds_toArray, List.set_cons_zero, List.set_cons_succ, i64_w, i32_w]
                rfl
              refine pure_ (i := 6) (N := (some 71)) (v := ?_) (a' := ?_) #[true, true, true, true, true, true, true, false, false, false, false, false, false, false, false, false, false, false, false, false, false] rfl rfl (any_of HT_.out (by kernel_rfl)) (fun _ _ _ h => h) (Or.inl ⟨by rfl, ?_⟩) ?_ ?_
              rotate_left
              · intro w'
                go_simp
                with_reducible rfl
              rotate_left
              · simp only [Act.put, List.setIfInBounds_toArray, List.set_cons_zero, List.set_cons_succ, i64_w, i32_w]
                rfl
              refine pure_ (i := 7) (N := (some 72)) (v := ?_) (a' := ?_) #[true, true, true, true, true, true, true, true, false, false, false, false, false, false, false, false, false, false, false, false, false] rfl rfl (any_of HT_.out (by kernel_rfl)) (fun _ _ _ h => h) (Or.inl ⟨by rfl, ?_⟩) ?_ ?_
              rotate_left
              · intro w'
                go_simp
                with_reducible rfl
              rotate_left
              · simp only [Act.put, List.setIfInBounds_toArray, List.set_cons_zero, List.set_cons_succ, i64_w, i32_w]
                rfl
              refine take_ (i := 8) (N := (some 73)) (v := ?_) (a' := ?_) #[true, true, true, true, true, true, true, true, true, false, false, false, false, false, false, false, false, false, false, false, false] rfl rfl (take_ofW HT_.out HW_.out (by kernel_rfl)) (fun _ _ _ h => h) (Or.inl ⟨by rfl, ?_⟩) hHeld ?_ ?_
              rotate_left
              · rintro w' s1
                go_simp
                with_reducible rfl
              rotate_left
              · simp only [Act.put, List.setIfInBounds_toArray, List.set_cons_zero, List.set_cons_succ, i64_w, i32_w]
                rfl
              refine pure_ (i := 9) (N := (some 74)) (v := ?_) (a' := ?_) #[true, true, true, true, true, true, true, true, true, true, false, false, false, false, false, false, false, false, false, false, false] rfl rfl (any_of HT_.out (by kernel_rfl)) (fun _ _ _ h => h) (Or.inl ⟨by rfl, ?_⟩) ?_ ?_
              rotate_left
              · intro w'
                go_simp
                with_reducible rfl
              rotate_left
              · simp only [Act.put, List.setIfInBounds_toArray, List.set_cons_zero, List.set_cons_succ, i64_w, i32_w]
                rfl
              refine pure_ (i := 10) (N := (some 75)) (v := ?_) (a' := ?_) #[true, true, true, true, true, true, true, true, true, true, true, false, false, false, false, false, false, false, false, false, false] rfl rfl (any_of HT_.out (by kernel_rfl)) (fun _ _ _ h => h) (Or.inl ⟨by rfl, ?_⟩) ?_ ?_
              rotate_left
              · intro w'
                go_simp
                with_reducible rfl
              rotate_left
              · simp only [Act.put, List.setIfInBounds_toArray, List.set_cons_zero, List.set_cons_succ, i64_w, i32_w]
                rfl
              refine pure_ (i := 11) (N := (some 76)) (v := ?_) (a' := ?_) #[true, true, true, true, true, true, true, true, true, true, true, true, false, false, false, false, false, false, false, false, false] rfl rfl (any_of HT_.out (by kernel_rfl)) (fun _ _ _ h => h) (Or.inl ⟨by rfl, ?_⟩) ?_ ?_
              rotate_left
              · intro w'
                go_simp
                with_reducible rfl
              rotate_left
              · simp only [Act.put, List.setIfInBounds_toArray, List.set_cons_zero, List.set_cons_succ, i64_w, i32_w]
                rfl
              refine pure_ (i := 12) (N := (some 77)) (v := ?_) (a' := ?_) #[true, true, true, true, true, true, true, true, true, true, true, true, true, false, false, false, false, false, false, false, false] rfl rfl (any_of HT_.out (by kernel_rfl)) (fun _ _ _ h => h) (Or.inl ⟨by rfl, ?_⟩) ?_ ?_
              rotate_left
              · intro w'
                go_simp
                with_reducible rfl
              rotate_left
              · simp only [Act.put, List.setIfInBounds_toArray, List.set_cons_zero, List.set_cons_succ, i64_w, i32_w]
                rfl
              refine take_ (i := 13) (N := (some 78)) (v := ?_) (a' := ?_) #[true, true, true, true, true, true, true, true, true, true, true, true, true, true, false, false, false, false, false, false, false] rfl rfl (take_ofW HT_.out HW_.out (by kernel_rfl)) (fun _ _ _ h => h) (Or.inl ⟨by rfl, ?_⟩) hHeld ?_ ?_
              rotate_left
              · rintro w' s1
                go_simp
                with_reducible rfl
              rotate_left
              · simp only [Act.put, List.setIfInBounds_toArray, List.set_cons_zero, List.set_cons_succ, i64_w, i32_w]
                rfl
              refine pure_ (i := 14) (N := (some 79)) (v := ?_) (a' := ?_) #[true, true, true, true, true, true, true, true, true, true, true, true, true, true, true, false, false, false, false, false, false] rfl rfl (any_of HT_.out (by kernel_rfl)) (fun _ _ _ h => h) (Or.inl ⟨by rfl, ?_⟩) ?_ ?_
              rotate_left
              · intro w'
                go_simp
                with_reducible rfl
              rotate_left
              · simp only [Act.put, List.setIfInBounds_toArray, List.set_cons_zero, List.set_cons_succ, i64_w, i32_w]
                rfl
              refine pure_ (i := 15) (N := (some 80)) (v := ?_) (a' := ?_) #[true, true, true, true, true, true, true, true, true, true, true, true, true, true, true, true, false, false, false, false, false] rfl rfl (any_of HT_.out (by kernel_rfl)) (fun _ _ _ h => h) (Or.inl ⟨by rfl, ?_⟩) ?_ ?_
              rotate_left
              · intro w'
                go_simp
                with_reducible rfl
              rotate_left
              · simp only [Act.put, List.setIfInBounds_toArray, List.set_cons_zero, List.set_cons_succ, i64_w, i32_w]
                rfl
              refine pure_ (i := 16) (N := (some 81)) (v := ?_) (a' := ?_) #[true, true, true, true, true, true, true, true, true, true, true, true, true, true, true, true, true, false, false, false, false] rfl rfl (any_of HT_.out (by kernel_rfl)) (fun _ _ _ h => h) (Or.inl ⟨by rfl, ?_⟩) ?_ ?_
              rotate_left
              · intro w'
                go_simp
                with_reducible rfl
              rotate_left
              · simp only [Act.put, List.setIfInBounds_toArray, List.set_cons_zero, List.set_cons_succ, i64_w, i32_w]
                rfl
              refine one_ (i := 17) (N := (some 82)) #[true, true, true, true, true, true, true, true, true, true, true, true, true, true, true, true, true, true, false, false, false] rfl rfl (one_of HT_.out (by kernel_rfl)) (by decide) (fun K9 hK => ?_)
              refine value_ (v := .slice A' (nh + ne) c') (w1 := W3) (by rfl) rfl (exec_append2 _ _ 31 _ _ rfl rfl rfl HRUN.out) ?_
              refine hK.out _ _ HC3.out (fun hHeld => ?_)
              clear hK K9
              refine norm_ (a' := ?_) ?_ ?_
              rotate_left
              · show Act.put _ (some 82) _ = _
                simp only [Act.put, List.setIfInBounds_toArray, List.set_cons_zero, List.set_cons_succ]
                rfl
              refine pure_ (i := 18) (N := (some 83)) (v := ?_) (a' := ?_) #[true, true, true, true, true, true, true, true, true, true, true, true, true, true, true, true, true, true, true, false, false] rfl rfl (any_of HT_.out (by kernel_rfl)) (fun _ _ _ h => h) (Or.inl ⟨by rfl, ?_⟩) ?_ ?_
              rotate_left
              · intro w'
                go_simp
                with_reducible rfl
              rotate_left
              · simp only [Act.put, List.setIfInBounds_toArray, List.set_cons_zero, List.set_cons_succ, i64_w, i32_w]
                rfl
              refine pure_ (i := 19) (N := (some 84)) (v := ?_) (a' := ?_) #[true, true, true, true, true, true, true, true, true, true, true, true, true, true, true, true, true, true, true, true, false] rfl rfl (any_of HT_.out (by kernel_rfl)) (fun _ _ _ h => h) (Or.inl ⟨by rfl, ?_⟩) ?_ ?_
              rotate_left
              · intro w'
                go_simp
                with_reducible rfl
              rotate_left
              · simp only [Act.put, List.setIfInBounds_toArray, List.set_cons_zero, List.set_cons_succ, i64_w, i32_w]
                rfl
              refine last_ (i := 20) (N := none) #[true, true, true, true, true, true, true, true, true, true, true, true, true, true, true, true, true, true, true, true, true] rfl rfl (one_of HT_.out (by kernel_rfl)) (by decide) (fun K9 hK => ?_)
              have q1 : W3.cell? ⟨T, 4, none⟩ = some (.slice A nh c) := HC3.out
              have q2 : W3.frozen? ⟨T, 4, none⟩ = false := HFZ.out
              refine skip_ (w1 := W3.setCell ⟨T, 4, none⟩ (.slice A' (nh + ne) c')) (by rfl) rfl (by unfold execOp; go_simp) ?_
              refine hK.out _ _ ?_
              clear hK K9
              refine done_ (done_of HT_.out (by kernel_rfl)) ?_
              clear HT_ HW_ hHeld
              go_wp2_with fail
              go_returns
              obtain ⟨a1, a2, a3, a4, a5, a6, a7, a8, a9, a10, a11, a12⟩ := HE.out
              rw [← a9]
              have hT9 := heap_setCell_eq (j := 4) (.slice A' (nh + ne) c') a2
              simp only [List.setIfInBounds_toArray, List.set_cons_zero, List.set_cons_succ] at hT9
              have hF9 : Fr (fun k => k = T) W3 (W3.setCell ⟨T, 4, none⟩ (.slice A' (nh + ne) c')) := (Fr.refl (fun k => k = T) _).setCell (p := ⟨T, 4, none⟩) (.inl rfl) _
              have hfd : Fr (fun k => k = T) w Wd := by rw [← HWD.out]; exact a7.drew
              have hAb : ∀ ad, A' = some ad → ad.block < W3.heap.size ∧ ad.block ≠ T := fun ad e => by
                rcases a5 with h | h
                · rw [h] at e
                  exact ⟨Nat.lt_of_lt_of_le (a10 ad e).1 a1.size, (a10 ad e).2⟩
                · have h1 := h ad e
                  have h2 : T < Wd.heap.size := by have := hfd.size; have := HX.out.2.2.2.2.2.2.2.2.2; omega
                  exact ⟨by omega, by omega⟩
              have hlen : (P.1.hap ++ P.2).length = nh + ne := by rw [List.length_append, a8, a11, a12]
              refine ⟨⟨_, rfl⟩, ⟨A', c', ⟨v', m', ?_, a3.fr hF9 (fun k cs t hk hc => by subst hk; rw [a2] at hc; cases hc; decide), ?_, ?_, fun ad e => ⟨Nat.lt_of_lt_of_le (hAb ad e).1 hF9.size, (hAb ad e).2⟩⟩, by rcases a5 with h | h; exact .inl h; exact .inr (fun ad e => by have := (h ad e).1; have := hfd.size; omega)⟩, (hfd.trans (Fr.of_new a1) (fun _ _ h => h)).trans hF9 (fun _ _ h => h)⟩
              · rw [a8] at hlen
                dsimp only
                rw [hlen]
                exact hT9
              · have := row_fr (F := fun k => k = T) (fun h => h) a4 hF9 (fun ad e => (hAb ad e).2)
                rw [a8] at this hlen
                dsimp only
                rw [hlen]
                exact this
              · rw [a8] at hlen
                dsimp only
                rw [hlen]
                exact a6
end Go.Proofs.Ytagkobpbhfkmdaa.C
