/- Zu: texts of this claim, laid together. -/
import Derived.Test.YtagkobpbhfkmdaaZu9
import Derived.Test.YtagkobpbhfkmdaaZu13
import Derived.Test.YtagkobpbhfkmdaaZu14
import Derived.Test.YtagkobpbhfkmdaaZu15
/-! from LT -/
namespace Go.Proofs.Ytagkobpbhfkmdaa.C
open Go.Shelf Go.RowKit Go.Proofs.Ytagkobpbhfkmdaa.Q Go.Proofs.YtagkobpbhfkmdaaW.PrintLast Go.Proofs.YtagkobpbhfkmdaaW.PrintWords
set_option linter.unusedVariables false
set_option linter.unusedSimpArgs false
attribute [local go_sem] Oper.semAt_some
def BT (B : Nat) (w w' : World) : Prop := Below B w w'
theorem BT.trans {B : Nat} {a b c : World} (h : BT B a b) (k : BT B b c) : BT B a c := Below.trans h k
theorem BT.put {B : Nat} {w : World} (hn : B ≤ w.heap.size) (W : World) (l : Nat) (o o' : Obj) (hl : w.heap.size ≤ l) (h : W.heap[l]? = some o) (_ : o.isCells = false) (_ : o.isWalk = false) : BT B W (W.putObj l o') := by
  have := grownBy_putObj' W l o'
  exact ⟨this.os, this.tape, this.output, this.size, fun k hk => by
    have hl2 := lt_of_block h
    exact this.block k (by omega) (fun e => by cases e; omega)⟩
def encKE (x : ByteArray × Ent) : Array Value := #[.string x.1, .agg #[.string x.2.key, .string x.2.val, .int .i64 x.2.made, .int .i64 x.2.mod]]
set_option maxRecDepth 100000 in
theorem from1_in (n : Nat) (l N Bs Bk : Nat) (w0 : World) (t : Shf) (v : Option Addr) (J Jx : List (ByteArray × Ent) → World → Prop) (hJd : ∀ p W, J p W → J p W.drew)
    (hY : ∀ p x W, J p W → p.length < N → YieldAt Fence.wide (n - 1) Try.prog l (encKE x) W fun e W' => (e = .returned (.bool true) ∧ J (p ++ [x]) W' ∧ BT w0.heap.size W W') ∨ (e = .returned (.bool false) ∧ Jx (p ++ [x]) W'))
    (W : World) (hs : SH w0 v t) (hb : Below w0.heap.size w0 W) (hJ : J [] W) (hN : t.ord.length ≤ N)
    (hBs : W.heap[Bs]? = some (.cells #[.pointer v] 109 (0, 0))) (hBk : W.heap[Bk]? = some (.cells #[.string (ByteArray.mk #[])] 9 (0, 0))) :
    CallsIn Fence.wide n Try.prog 77 #[.func (.yield l) #[] #[], .pointer (some ⟨Bs, 0, none⟩), .pointer (some ⟨Bk, 0, none⟩)] W fun e W' => (∃ v, e = .returned v) ∧
      ((∃ ys, ys = t.ord ∧ J ys W') ∨ (∃ p, True ∧ Jx p W')) := by
  have hfW : Fence.wide.fn 78 := trivial
  have b0 : W.cell? ⟨Bs, 0, none⟩ = some (.pointer v) := cell_at hBs 0
  have k0 : W.cell? ⟨Bk, 0, none⟩ = some (.string (ByteArray.mk #[])) := cell_at hBk 0
  have hw := swalk_in l N w0 J Jx hJd (fun m p x W1 h1 h2 => YieldAt.anyN m (hY p x W1 h1 h2)) t (n - 1) v [] W hs hb hJ (by simpa using hN)
  refine callsIn_of_wp Try.func77 rfl trivial ?_ rfl
  simp only [Try.ntmps77, List.size_toArray, List.length_cons, List.length_nil, Nat.reduceAdd, Nat.reduceSub, Array.replicate_succ, Array.replicate_zero, List.push_toArray, List.append_toArray, List.nil_append, List.cons_append]
  gi_wp2_with fail
  refine ⟨fun h => (by cases h), ?_⟩
  refine hw.mono ?_
  rintro e w' (⟨rfl, hJ1, hb1⟩ | ⟨rfl, q, hx⟩)
  all_goals gi_wp2
  · go_end0
    exact ⟨⟨_, rfl⟩, .inl ⟨_, rfl, by simpa using hJ1⟩⟩
  · go_end0
    exact ⟨⟨_, rfl⟩, .inr ⟨_, trivial, hx⟩⟩
theorem from_in (n : Nat) (v : Option Addr) (k : ByteArray) (w : World) : CallsIn Fence.wide n Try.prog 49 #[.pointer v, .string k] w fun e w' =>
    e = .returned (.func (.func 77) #[] #[.pointer (some ⟨w.heap.size, 0, none⟩), .pointer (some ⟨w.heap.size + 1, 0, none⟩)]) ∧ w' = (w.alloc (.cells #[.pointer v] 109)).alloc (.cells #[.string k] 9) := by
  refine callsIn_of_wp Try.func49 rfl trivial ?_ rfl
  simp only [Try.ntmps49, List.size_toArray, List.length_cons, List.length_nil, Nat.reduceAdd, Nat.reduceSub, Array.replicate_succ, Array.replicate_zero, List.push_toArray, List.append_toArray, List.nil_append, List.cons_append]
  gi_wp2_with fail
  go_ret
  exact ⟨by simp, rfl⟩
theorem begins_nil (k : ByteArray) : beginsB k (ByteArray.mk #[]) = true := by
  unfold beginsB keys_Begins.f strings_HasPrefix.f stringslite_HasPrefix.f
  have h0 : ((ByteArray.mk #[]).size : Int) = 0 := rfl
  have h1 : (k.extract 0 0).toList = [] := by
    have : k.extract 0 0 = ByteArray.mk #[] := by ext1; simp
    rw [this]; decide +kernel
  rw [h0]
  have h2 : (ByteArray.mk #[]).toList = [] := by decide +kernel
  simp [h1, h2]
def tlsM (t : Shf) : List En := t.ord.map fun x => enOf x.2
theorem from_stops (n : Nat) (hn : 2 ≤ n) (Bs Bk : Nat) (w0 w : World) (t : Shf) (v : Option Addr) (hs : SH w0 v t) (hb : Below w0.heap.size w0 w)
    (hBs : w.heap[Bs]? = some (.cells #[.pointer v] 109 (0, 0))) (hBk : w.heap[Bk]? = some (.cells #[.string (ByteArray.mk #[])] 9 (0, 0))) :
    SeqStopsK Fence.wide n Try.prog 77 #[.pointer (some ⟨Bs, 0, none⟩), .pointer (some ⟨Bk, 0, none⟩)] encKE (BT w0.heap.size) (fun ys => ys = t.ord) (fun _ => True) t.ord.length w := fun l J Jx W hW hJ hJx hY h0 =>
  from1_in n l t.ord.length Bs Bk w0 t v J Jx (fun p W1 h => hJ p W1 W1.drew none h (grown_below (below_drew1 (Below.refl _ _))) (fun r e => by cases e)) hY W hs (hb.trans (hW.mono hb.size)) h0 (Nat.le_refl _) ((hW.block Bs (lt_of_block hBs)).trans hBs) ((hW.block Bk (lt_of_block hBk)).trans hBk)
def kecells (l : List (ByteArray × Ent)) : List Value := ecells (l.map fun x => enOf x.2)
theorem kecells_snoc (l : List (ByteArray × Ent)) (x : ByteArray × Ent) : kecells (l ++ [x]) = kecells l ++ [.string x.2.key, .string x.2.val, .int .i64 x.2.made, .int .i64 x.2.mod] := by
  unfold kecells
  rw [List.map_append, List.map_cons, List.map_nil, ecells_snoc]
  rfl
set_option maxRecDepth 100000 in
set_option maxHeartbeats 4000000 in
theorem tlist_in (n : Nat) (hn : 10 ≤ n) (T : Nat) (X : Tre) (w : World) (h : TR w T X) (hN : X.t.cnt ≤ 1000000) :
    CallsIn Fence.wide n Try.prog 25 #[.pointer (some ⟨T, 0, none⟩), .string (ByteArray.mk #[])] w fun e W' => ∃ v, e = .returned v ∧ W'.ownsRow w.heap.size 46 4 v (tlsM X.t).length (ecells (tlsM X.t)) ∧ Below w.heap.size w W' := by
  have hfF : Fence.wide.fn 49 := trivial
  have hfB : Fence.wide.fn 50 := trivial
  have h1 : 1 ≤ n := by omega
  obtain ⟨A, c, v, m, hT, hS, _⟩ := h
  have hTl := lt_of_block hT
  obtain ⟨i0, hi, hz0, hz1, hz2⟩ := info_parts ent_info
  have hord : X.t.ord.length ≤ 1000000 := by rw [Shf.ord_len]; exact hN
  obtain ⟨t, ht⟩ : ∃ t, X.t = t := ⟨_, rfl⟩
  rw [ht] at hS hord ⊢
  clear hN ht
  refine callsIn_of_wp_marks Try.func25 rfl trivial ?_ rfl
  simp only [Try.ntmps25, List.size_toArray, List.length_cons, List.length_nil, Nat.reduceAdd, Nat.reduceSub, Array.replicate_succ, Array.replicate_zero, List.push_toArray, List.append_toArray, List.nil_append, List.cons_append]
  gi_wp2_with fail
  obtain ⟨wb, hwb⟩ : ∃ wb, w.alloc (.cells #[.string (ByteArray.mk #[])] 9) = wb := ⟨_, rfl⟩
  have hbb : Below w.heap.size w wb := by rw [← hwb]; exact (Below.refl _ w).alloc (Nat.le_refl _) _
  obtain ⟨bp, hbp⟩ : ∃ b, w.heap.size = b := ⟨_, rfl⟩
  have bP : wb.heap[bp]? = some (.cells #[.string (ByteArray.mk #[])] 9 (0, 0)) := by rw [← hwb, ← hbp]; exact World.alloc_heap_new w _
  have hSb := hS.below hbb
  have hTb := (hbb.block T hTl).trans hT
  have hHB := Aside.mk (And.intro hbb hbp)
  have hwbs : wb.heap.size = bp + 1 := by rw [← hwb, ← hbp]; simp
  rw [hwb, hbp, ← hwbs]
  clear hwbs
  clear hwb hT hS hbb hTl hbp
  obtain ⟨w1, hw1⟩ : ∃ w1, wb.alloc (.cells #[.slice none 0 0] 30) = w1 := ⟨_, rfl⟩
  have hs1 : w1.heap.size = wb.heap.size + 1 := by rw [← hw1]; simp
  have hB1 : Below wb.heap.size wb w1 := by rw [← hw1]; exact (Below.refl _ wb).alloc (Nat.le_refl _) _
  have bO : Boxed w1 wb.heap.size 30 (.slice none 0 0) := by rw [← hw1]; exact Boxed.new wb 30 (.slice none 0 0)
  rw [hw1]
  clear hw1
  have y0 : w1.drew.cell? ⟨T, 0, none⟩ = some (.pointer v) := cell_at ((hB1.block T (lt_of_block hTb)).trans hTb) 0
  have y1 : w1.drew.cell? ⟨bp, 0, none⟩ = some (.string (ByteArray.mk #[])) := cell_at ((hB1.block bp (lt_of_block bP)).trans bP) 0
  refine wpIn_region_any (by kernel_rfl) ?_
  try (change wpAnyIn _ _ _ _ _ _ _ _ _ (World.drew _))
  apply cut_
  · intro hrest
    refine wpAnyIn_ready (rs := [0, 4]) (by kernel_rfl) (by simp) ?_
    refine AllReadyIn.cons rfl (fun K hK => ?_) ?_
    · go_simp
      refine hK _ _ ?_
      clear hK K
      refine inNorm_ (a' := ?_) (L' := #[true, false, false, false, false, false]) ?_ (by rfl) ?_
      rotate_left
      · first
        | (show Act.put _ (some 10) _ = _; simp only [Act.put, List.setIfInBounds_toArray, List.set_cons_zero, List.set_cons_succ]; rfl)
        | rfl
      refine wpAnyIn_ready (rs := [1, 4]) (by kernel_rfl) (by simp) ?_
      refine AllReadyIn.cons rfl (fun K hK => ?_) ?_
      · go_simp
        refine hK _ _ ?_
        clear hK K
        refine inNorm_ (a' := ?_) (L' := #[true, true, false, false, false, false]) ?_ (by rfl) ?_
        rotate_left
        · first
          | (show Act.put _ (some 11) _ = _; simp only [Act.put, List.setIfInBounds_toArray, List.set_cons_zero, List.set_cons_succ]; rfl)
          | rfl
        refine wpAnyIn_ready (rs := [2, 4]) (by kernel_rfl) (by simp) ?_
        refine AllReadyIn.cons rfl (fun K hK => ?_) ?_
        · go_simp
          refine hK _ _ ?_
          clear hK K
          refine inNorm_ (a' := ?_) (L' := #[true, true, true, false, false, false]) ?_ (by rfl) ?_
          rotate_left
          · first
            | (show Act.put _ (some 12) _ = _; simp only [Act.put, List.setIfInBounds_toArray, List.set_cons_zero, List.set_cons_succ]; rfl)
            | rfl
          refine wpAnyIn_ready (rs := [3, 4]) (by kernel_rfl) (by simp) ?_
          refine AllReadyIn.cons rfl (fun K hK => ?_) ?_
          · go_simp
            refine hK _ _ ?_
            clear hK K
            refine inNorm_ (a' := ?_) (L' := #[true, true, true, true, false, false]) ?_ (by rfl) ?_
            rotate_left
            · first
              | (show Act.put _ (some 13) _ = _; simp only [Act.put, List.setIfInBounds_toArray, List.set_cons_zero, List.set_cons_succ]; rfl)
              | rfl
            refine wpAnyIn_ready (rs := [4]) (by kernel_rfl) (by simp) ?_
            refine AllReadyIn.cons rfl (fun K hK => ?_) ?_
            · go_simp
              refine hK _ _ ?_
              clear hK K
              refine inNorm_ (a' := ?_) (L' := #[true, true, true, true, true, false]) ?_ (by rfl) ?_
              rotate_left
              · first
                | (show Act.put _ (some 14) _ = _; simp only [Act.put, List.setIfInBounds_toArray, List.set_cons_zero, List.set_cons_succ]; rfl)
                | rfl
              exact hrest
            exact AllReadyIn.nil
          refine AllReadyIn.cons rfl (fun K hK => ?_) ?_
          · go_simp
            refine hK _ _ ?_
            clear hK K
            refine inNorm_ (a' := ?_) (L' := #[true, true, true, false, true, false]) ?_ (by rfl) ?_
            rotate_left
            · first
              | (show Act.put _ (some 14) _ = _; simp only [Act.put, List.setIfInBounds_toArray, List.set_cons_zero, List.set_cons_succ]; rfl)
              | rfl
            refine wpAnyIn_ready (rs := [3]) (by kernel_rfl) (by simp) ?_
            refine AllReadyIn.cons rfl (fun K hK => ?_) ?_
            · go_simp
              refine hK _ _ ?_
              clear hK K
              refine inNorm_ (a' := ?_) (L' := #[true, true, true, true, true, false]) ?_ (by rfl) ?_
              rotate_left
              · first
                | (show Act.put _ (some 13) _ = _; simp only [Act.put, List.setIfInBounds_toArray, List.set_cons_zero, List.set_cons_succ]; rfl)
                | rfl
              exact hrest
            exact AllReadyIn.nil
          exact AllReadyIn.nil
        refine AllReadyIn.cons rfl (fun K hK => ?_) ?_
        · go_simp
          refine hK _ _ ?_
          clear hK K
          refine inNorm_ (a' := ?_) (L' := #[true, true, false, false, true, false]) ?_ (by rfl) ?_
          rotate_left
          · first
            | (show Act.put _ (some 14) _ = _; simp only [Act.put, List.setIfInBounds_toArray, List.set_cons_zero, List.set_cons_succ]; rfl)
            | rfl
          refine wpAnyIn_ready (rs := [2]) (by kernel_rfl) (by simp) ?_
          refine AllReadyIn.cons rfl (fun K hK => ?_) ?_
          · go_simp
            refine hK _ _ ?_
            clear hK K
            refine inNorm_ (a' := ?_) (L' := #[true, true, true, false, true, false]) ?_ (by rfl) ?_
            rotate_left
            · first
              | (show Act.put _ (some 12) _ = _; simp only [Act.put, List.setIfInBounds_toArray, List.set_cons_zero, List.set_cons_succ]; rfl)
              | rfl
            refine wpAnyIn_ready (rs := [3]) (by kernel_rfl) (by simp) ?_
            refine AllReadyIn.cons rfl (fun K hK => ?_) ?_
            · go_simp
              refine hK _ _ ?_
              clear hK K
              refine inNorm_ (a' := ?_) (L' := #[true, true, true, true, true, false]) ?_ (by rfl) ?_
              rotate_left
              · first
                | (show Act.put _ (some 13) _ = _; simp only [Act.put, List.setIfInBounds_toArray, List.set_cons_zero, List.set_cons_succ]; rfl)
                | rfl
              exact hrest
            exact AllReadyIn.nil
          exact AllReadyIn.nil
        exact AllReadyIn.nil
      refine AllReadyIn.cons rfl (fun K hK => ?_) ?_
      · go_simp
        refine hK _ _ ?_
        clear hK K
        refine inNorm_ (a' := ?_) (L' := #[true, false, false, false, true, false]) ?_ (by rfl) ?_
        rotate_left
        · first
          | (show Act.put _ (some 14) _ = _; simp only [Act.put, List.setIfInBounds_toArray, List.set_cons_zero, List.set_cons_succ]; rfl)
          | rfl
        refine wpAnyIn_ready (rs := [1]) (by kernel_rfl) (by simp) ?_
        refine AllReadyIn.cons rfl (fun K hK => ?_) ?_
        · go_simp
          refine hK _ _ ?_
          clear hK K
          refine inNorm_ (a' := ?_) (L' := #[true, true, false, false, true, false]) ?_ (by rfl) ?_
          rotate_left
          · first
            | (show Act.put _ (some 11) _ = _; simp only [Act.put, List.setIfInBounds_toArray, List.set_cons_zero, List.set_cons_succ]; rfl)
            | rfl
          refine wpAnyIn_ready (rs := [2]) (by kernel_rfl) (by simp) ?_
          refine AllReadyIn.cons rfl (fun K hK => ?_) ?_
          · go_simp
            refine hK _ _ ?_
            clear hK K
            refine inNorm_ (a' := ?_) (L' := #[true, true, true, false, true, false]) ?_ (by rfl) ?_
            rotate_left
            · first
              | (show Act.put _ (some 12) _ = _; simp only [Act.put, List.setIfInBounds_toArray, List.set_cons_zero, List.set_cons_succ]; rfl)
              | rfl
            refine wpAnyIn_ready (rs := [3]) (by kernel_rfl) (by simp) ?_
            refine AllReadyIn.cons rfl (fun K hK => ?_) ?_
            · go_simp
              refine hK _ _ ?_
              clear hK K
              refine inNorm_ (a' := ?_) (L' := #[true, true, true, true, true, false]) ?_ (by rfl) ?_
              rotate_left
              · first
                | (show Act.put _ (some 13) _ = _; simp only [Act.put, List.setIfInBounds_toArray, List.set_cons_zero, List.set_cons_succ]; rfl)
                | rfl
              exact hrest
            exact AllReadyIn.nil
          exact AllReadyIn.nil
        exact AllReadyIn.nil
      exact AllReadyIn.nil
    refine AllReadyIn.cons rfl (fun K hK => ?_) ?_
    · go_simp
      refine hK _ _ ?_
      clear hK K
      refine inNorm_ (a' := ?_) (L' := #[false, false, false, false, true, false]) ?_ (by rfl) ?_
      rotate_left
      · first
        | (show Act.put _ (some 14) _ = _; simp only [Act.put, List.setIfInBounds_toArray, List.set_cons_zero, List.set_cons_succ]; rfl)
        | rfl
      refine wpAnyIn_ready (rs := [0]) (by kernel_rfl) (by simp) ?_
      refine AllReadyIn.cons rfl (fun K hK => ?_) ?_
      · go_simp
        refine hK _ _ ?_
        clear hK K
        refine inNorm_ (a' := ?_) (L' := #[true, false, false, false, true, false]) ?_ (by rfl) ?_
        rotate_left
        · first
          | (show Act.put _ (some 10) _ = _; simp only [Act.put, List.setIfInBounds_toArray, List.set_cons_zero, List.set_cons_succ]; rfl)
          | rfl
        refine wpAnyIn_ready (rs := [1]) (by kernel_rfl) (by simp) ?_
        refine AllReadyIn.cons rfl (fun K hK => ?_) ?_
        · go_simp
          refine hK _ _ ?_
          clear hK K
          refine inNorm_ (a' := ?_) (L' := #[true, true, false, false, true, false]) ?_ (by rfl) ?_
          rotate_left
          · first
            | (show Act.put _ (some 11) _ = _; simp only [Act.put, List.setIfInBounds_toArray, List.set_cons_zero, List.set_cons_succ]; rfl)
            | rfl
          refine wpAnyIn_ready (rs := [2]) (by kernel_rfl) (by simp) ?_
          refine AllReadyIn.cons rfl (fun K hK => ?_) ?_
          · go_simp
            refine hK _ _ ?_
            clear hK K
            refine inNorm_ (a' := ?_) (L' := #[true, true, true, false, true, false]) ?_ (by rfl) ?_
            rotate_left
            · first
              | (show Act.put _ (some 12) _ = _; simp only [Act.put, List.setIfInBounds_toArray, List.set_cons_zero, List.set_cons_succ]; rfl)
              | rfl
            refine wpAnyIn_ready (rs := [3]) (by kernel_rfl) (by simp) ?_
            refine AllReadyIn.cons rfl (fun K hK => ?_) ?_
            · go_simp
              refine hK _ _ ?_
              clear hK K
              refine inNorm_ (a' := ?_) (L' := #[true, true, true, true, true, false]) ?_ (by rfl) ?_
              rotate_left
              · first
                | (show Act.put _ (some 13) _ = _; simp only [Act.put, List.setIfInBounds_toArray, List.set_cons_zero, List.set_cons_succ]; rfl)
                | rfl
              exact hrest
            exact AllReadyIn.nil
          exact AllReadyIn.nil
        exact AllReadyIn.nil
      exact AllReadyIn.nil
    exact AllReadyIn.nil
  refine wpAnyIn_ready (rs := [5]) (by kernel_rfl) (by simp) ?_
  refine AllReadyIn.cons rfl (fun K hK => ?_) AllReadyIn.nil
  go_simp
  try refine ⟨fun h => (by cases h), ?_⟩
  refine (from_in _ _ _ _).mono ?_
  rintro e w' ⟨rfl, rfl⟩
  refine hK _ _ ?_
  clear hK K
  refine inNorm_ (a' := ?_) (L' := #[true, true, true, true, true, true]) ?_ (by rfl) ?_
  rotate_left
  · first
    | (show Act.put _ (some 15) _ = _; simp only [Act.put, List.setIfInBounds_toArray, List.set_cons_zero, List.set_cons_succ]; rfl)
    | rfl
  refine wpAnyIn_done (by kernel_rfl) ?_ _
  clear y0 y1
  gi_wp2_with fail
  rw [show w1.drew.heap.size = wb.heap.size + 1 from hs1]
  obtain ⟨w2, hw2⟩ : ∃ w2, (w1.drew.alloc (.cells #[.pointer v] 109)).alloc (.cells #[.string (ByteArray.mk #[])] 9) = w2 := ⟨_, rfl⟩
  have hs2 : w2.heap.size = wb.heap.size + 3 := by rw [← hw2]; simp; show w1.heap.size = _; exact hs1
  have hB2 : Below wb.heap.size wb w2 := by rw [← hw2]; exact (hB1.drew.alloc (by show _ ≤ w1.heap.size; omega) _).alloc (by simp; show _ ≤ w1.heap.size + 1; omega) _
  have bO2 : Boxed w2 wb.heap.size 30 (.slice none 0 0) := by rw [← hw2]; exact (Boxed.alloc (W := w1.drew) bO _).alloc _
  have bs : w2.heap[wb.heap.size + 1]? = some (.cells #[.pointer v] 109 (0, 0)) := by
    have := World.alloc_heap_new w1.drew (.cells #[.pointer v] 109)
    rw [show w1.drew.heap.size = wb.heap.size + 1 from hs1] at this
    rw [← hw2]
    exact blk_al this _
  have bk : w2.heap[wb.heap.size + 2]? = some (.cells #[.string (ByteArray.mk #[])] 9 (0, 0)) := by
    have := World.alloc_heap_new (w1.drew.alloc (.cells #[.pointer v] 109)) (.cells #[.string (ByteArray.mk #[])] 9)
    rw [World.size_alloc, show w1.drew.heap.size = wb.heap.size + 1 from hs1] at this
    rw [← hw2]
    exact this
  rw [hw2]
  clear hw2 bO hB1 hs1
  refine wpIn_rangeFunc_ownH rfl h1 (gf := 77) (lb := #[.pointer (some ⟨wb.heap.size + 1, 0, none⟩), .pointer (some ⟨wb.heap.size + 2, 0, none⟩)]) rfl trivial (enters_of Try.func77 (by kernel_rfl) rfl)
    (from_stops (n - 1) (by omega) (wb.heap.size + 1) (wb.heap.size + 2) wb w2 t v hSb hB2 bs bk) BT.trans (BT.put hB2.size) (Below.refl _ _) (fun _ => rfl)
    (fun p W => (∃ v, Boxed W wb.heap.size 30 v ∧ W.ownsRow wb.heap.size 46 4 v p.length (kecells p) ∧ True) ∧ Below wb.heap.size wb W)
    (fun _ _ _ => False)
    (OwnFrom.and (Own.from (holdsRow_own wb.heap.size wb.heap.size 30 46 4 (fun p => p.length) (fun p => kecells p) (fun _ _ => True)) _) (ownFrom_below (Nat.le_refl _) hB2.size))
    (fun _ _ _ _ _ hs _ _ => hs)
    ⟨⟨_, bO2, World.ownsRow_nil _ _ _ _, trivial⟩, hB2⟩
    (fun x a' W => ∃ g, wb.heap.size < g ∧ W.heap[g]? = some (.cells #[.string x.2.key, .string x.2.val, .int .i64 x.2.made, .int .i64 x.2.mod] 46 (0, 0)) ∧ a' = { tmps := #[.pointer (some ⟨T, 0, none⟩), .string (ByteArray.mk #[]), undef, .pointer (some ⟨bp, 0, none⟩), .slice none 0 0, .pointer (some ⟨wb.heap.size, 0, none⟩), .string x.1, .pointer (some ⟨g, 0, none⟩), .pointer (some ⟨T, 0, none⟩), .bool false, .pointer (some ⟨T, 0, none⟩), .pointer (some ⟨T, 0, none⟩), .pointer (some ⟨T, 0, none⟩), .pointer v, .string (ByteArray.mk #[]), .func (.func 77) #[] #[.pointer (some ⟨wb.heap.size + 1, 0, none⟩), .pointer (some ⟨wb.heap.size + 2, 0, none⟩)], .string x.1, .agg #[.string x.2.key, .string x.2.val, .int .i64 x.2.made, .int .i64 x.2.mod], undef, undef, undef, undef, undef, undef, undef, undef, undef], defers := [] }) ?hAx ?assign ?body ?done ?stop
  case hAx =>
    rintro x a' u A B row ⟨g, g1, g2, g3⟩ hg hr
    refine ⟨g, g1, (hg.block g (Array.getElem?_eq_some_iff.1 g2).1 (fun e => ?_)).trans g2, g3⟩
    obtain ⟨_, o, ho, hc⟩ := hr g e.symm
    rw [g2] at ho; cases ho; cases hc
  case assign =>
    rintro l p x W K ⟨⟨v, hv, hrow, _⟩, hB⟩ hK
    simp only [encKE]
    gi_wp2
    exact hK _ _ ((KeepsOthers.alloc _ _).from _) ((Below.refl _ W).alloc hB.size _) ⟨⟨v, hv.alloc _, hrow.alloc _, trivial⟩, hB.alloc hB.size _⟩ ⟨W.heap.size, hv.lt, World.alloc_heap_new W _, rfl⟩
  case body =>
    rintro l p x a' W hl ⟨r, hr⟩ ⟨⟨v, hv, hrow, _⟩, hB⟩ ⟨g, hg, hbl, rfl⟩ hlt
    have hc := hv.cell
    have t0 : W.cell? ⟨g, 0, none⟩ = some (.string x.2.key) := cell_at hbl 0
    have t1 : W.cell? ⟨g, 1, none⟩ = some (.string x.2.val) := cell_at hbl 1
    have t2 : W.cell? ⟨g, 2, none⟩ = some (.int .i64 x.2.made) := cell_at hbl 2
    have t3 : W.cell? ⟨g, 3, none⟩ = some (.int .i64 x.2.mod) := cell_at hbl 3
    have p0 : W.cell? ⟨bp, 0, none⟩ = some (.string (ByteArray.mk #[])) := cell_at ((hB.block bp (lt_of_block bP)).trans bP) 0
    have hown := own_typed hrow
    have h3 : 1 ≤ n - 1 - 1 := by omega
    have hbg := fun W => begins_calls x.1 (ByteArray.mk #[]) W
    rw [begins_nil] at hbg
    have hrowq : ∀ q, (W.drewN q).ownsRow wb.heap.size 46 4 v p.length (kecells p) := fun q => hrow
    have hvq : ∀ q, Boxed (W.drewN q) wb.heap.size 30 v := fun q => hv
    gi_wp2_with (first
      | (gi_at_call 50; refine (CallsIn.inRound l (callsIn_wide.2 (hbg _))).mono ?_; rintro e w' ⟨rfl, q, rfl⟩)
      | (gi_at_builtin; refine wpListIn_append_own _ rfl _ _ 30 rfl wb.heap.size 46 i0 (.agg #[.string (ByteArray.mk #[]), .string (ByteArray.mk #[]), .int .i64 0, .int .i64 0]) 4 48 Try.underlying30 hi hz0 hz1 hz2 rfl (by decide) _ _ _ rfl ((hrowq q).alloc _) ⟨W.heap.size, 0, none⟩ 1 1 [.string x.2.key, .string x.2.val, .int .i64 x.2.made, .int .i64 x.2.mod] rfl rfl (cell_four_new (W.drewN q) _ _ _ _ _) (by simp [Value.oneCell']) (by unfold maxLen; omega) (by omega) (by have := hB.size; simp; omega) ?_; intro v' w1 hown' hgrow _; obtain ⟨g', cap', rfl⟩ := ownsRow_succ hown'; obtain ⟨hv1, hv2, hr2, hk2, hb2⟩ := (hvq q).appended (by decide) (hrowq q) hB.size (Nat.le_refl _) hown' hgrow; have hc1 := hv1.cell; have hf1 := hv1.frozen))
    have hk3 : KeepsOthers W (W.drewN q) := ⟨Nat.le_refl _, fun _ _ h _ => h⟩
    refine ⟨(hk3.trans hk2).from _, ?_, ⟨_, hv2, by simpa [kecells_snoc] using hr2, trivial⟩, (hB.trans (pw_below_drewN (Below.refl _ _) q)).trans hb2⟩
    exact Below.trans (pw_below_drewN (Below.refl _ _) q) hb2
  case done =>
    rintro D ys W hD rfl ⟨⟨v, hv, hrow, _⟩, hB⟩ hK
    have hc := hv.cell
    gi_wp2
    refine ⟨by simp, .inl ⟨_, _, rfl, run_takeDeferred hK, ?_⟩⟩
    have hsz : w.heap.size ≤ wb.heap.size := hHB.out.1.size
    have hP := fun o' => BT.put (B := w.heap.size) (w := w2) (Nat.le_trans hsz hB2.size) W D _ o' (by rw [hs2] at hD ⊢; exact hD) hK rfl rfl
    refine ⟨_, results_tmp rfl _ _ _, v, rfl, ?_, (hHB.out.1.trans (hB.mono hsz)).trans (hP _)⟩
    have hl : (tlsM t).length = t.ord.length := by unfold tlsM; rw [List.length_map]
    rw [hl]
    exact own_weaken (ownsRow_putObj hrow _ hK rfl) hsz
  case stop =>
    rintro D c p W _ _ h _
    exact h.elim
theorem tlist_calls (T : Nat) (X : Tre) (w : World) (h : TR w T X) (hN : X.t.cnt ≤ 1000000) :
    Calls Try.prog 25 #[.pointer (some ⟨T, 0, none⟩), .string (ByteArray.mk #[])] w fun e w' => ∃ A c, e = .returned (.slice A (tlsM X.t).length c) ∧ (tlsM X.t).length ≤ c ∧ k46.C w' A (tlsM X.t).length (tlsM X.t) ∧ (∀ ad, A = some ad → w.heap.size ≤ ad.block) ∧ Below w.heap.size w w' := by
  refine ((callsIn_wide (n := 10)).1 (tlist_in 10 (by omega) T X w h hN)).mono ?_
  rintro e w' ⟨v, rfl, hrow, hb⟩
  have hR : k46.R 46 w' w.heap.size (fun k => w.heap.size ≤ k) v (tlsM X.t) := ⟨fun k hk => own_base hrow k hk, ecells (tlsM X.t), hrow, ecells_reps _ _ _ _⟩
  have h0 := hR.1
  obtain ⟨A, c, rfl, hc, hC⟩ := Kd.R_reads hR
  exact ⟨A, c, rfl, hc, hC, fun ad e => h0 ad.block (by rw [e]; rfl), hb⟩
end Go.Proofs.Ytagkobpbhfkmdaa.C
/-! from PB -/
namespace Go.Proofs.Ytagkobpbhfkmdaa.C
open Go.RowKit Go.Proofs.Ytagkobpbhfkmdaa.Q
set_option linter.unusedVariables false
set_option linter.unusedSimpArgs false
theorem slt_iff {a b : ByteArray} : slt a b = true ↔ ltB a b := by
  unfold slt ltB
  rw [bytesLess_eq, Lib.toList_data, Lib.toList_data, decide_eq_true_iff]
theorem slt_false {a b : ByteArray} : slt a b = false ↔ ¬ ltB a b := by
  rw [← slt_iff]; cases slt a b <;> simp
theorem ltB_or (a b : ByteArray) : ltB a b ∨ a = b ∨ ltB b a := by
  by_cases h1 : ltB a b
  · exact .inl h1
  · by_cases h2 : ltB b a
    · exact .inr (.inr h2)
    · refine .inr (.inl ?_)
      have : a.data.toList = b.data.toList := List.le_antisymm (List.not_lt.1 h2) (List.not_lt.1 h1)
      have : a.data = b.data := Array.ext' this
      cases a; cases b; cases this; rfl
theorem ltB_ne {a b : ByteArray} (h : ltB a b) : a ≠ b := fun e => by subst e; exact ltB_irrefl _ h
theorem ltB_asymm {a b : ByteArray} (h : ltB a b) : ¬ ltB b a := fun k => ltB_irrefl _ (ltB_trans h k)
theorem eqL_iff {a b : ByteArray} : (a.toList == b.toList) = true ↔ a = b := eqT_iff
def SrtO (L : List (ByteArray × Ent)) : Prop := L.Pairwise (fun a b => ltB a.1 b.1)
namespace Shf
theorem ord_wth (k : ByteArray) (e : Ent) (l r : Shf) : (wth k e l r).ord = l.ord ++ (k, e) :: r.ord := rfl
theorem ord_node (k : ByteArray) (e : Ent) (l r : Shf) (h : Int) : (node k e l r h).ord = l.ord ++ (k, e) :: r.ord := rfl
theorem ord_lvl {k : ByteArray} {e : Ent} {l r : Shf} (hl : ok l) (hr : ok r) : (lvl k e l r).ord = l.ord ++ (k, e) :: r.ord := by
  unfold lvl
  split
  · rename_i h
    cases l with
    | nil => have := ht_pos hr; rw [ht_nil] at h; omega
    | node lk le ll lr lh =>
      obtain ⟨h1, h2, h3⟩ := hl
      by_cases hc : lr.ht ≤ ll.ht
      · rw [lvlL_a hc]; simp [ord_wth, ord_node, List.append_assoc]
      · cases lr with
        | nil => have := ht_pos h1; rw [ht_nil] at hc; omega
        | node mk me ml mr mh => rw [lvlL_b hc]; simp [ord_wth, ord_node, List.append_assoc]
  · split
    · rename_i h
      cases r with
      | nil => have := ht_pos hl; rw [ht_nil] at h; omega
      | node rk re rl rr rh =>
        obtain ⟨h1, h2, h3⟩ := hr
        by_cases hc : rl.ht ≤ rr.ht
        · rw [lvlR_a hc]; simp [ord_wth, ord_node, List.append_assoc]
        · cases rl with
          | nil => have := ht_pos h2; rw [ht_nil] at hc; omega
          | node mk me ml mr mh => rw [lvlR_b hc]; simp [ord_wth, ord_node, List.append_assoc]
    · rfl
end Shf
theorem srt_node {k : ByteArray} {e : Ent} {l r : List (ByteArray × Ent)} (h : SrtO (l ++ (k, e) :: r)) : SrtO l ∧ SrtO r ∧ (∀ x ∈ l, ltB x.1 k) ∧ (∀ x ∈ r, ltB k x.1) := by
  unfold SrtO at h ⊢
  rw [List.pairwise_append, List.pairwise_cons] at h
  exact ⟨h.1, h.2.1.2, fun x hx => h.2.2 x hx (k, e) (List.mem_cons_self), h.2.1.1⟩
theorem srt_mk {k : ByteArray} {e : Ent} {l r : List (ByteArray × Ent)} (h1 : SrtO l) (h2 : SrtO r) (h3 : ∀ x ∈ l, ltB x.1 k) (h4 : ∀ x ∈ r, ltB k x.1) : SrtO (l ++ (k, e) :: r) := by
  unfold SrtO at h1 h2 ⊢
  rw [List.pairwise_append, List.pairwise_cons]
  refine ⟨h1, ⟨h4, h2⟩, fun x hx y hy => ?_⟩
  rcases List.mem_cons.1 hy with rfl | hy
  · exact h3 x hx
  · exact ltB_trans (h3 x hx) (h4 y hy)
theorem filt_none {L : List (ByteArray × Ent)} {p : ByteArray × Ent → Bool} (h : ∀ x ∈ L, p x = false) : L.filter p = [] := by
  rw [List.filter_eq_nil_iff]
  intro x hx
  rw [h x hx]
  exact Bool.false_ne_true
theorem filt_all {L : List (ByteArray × Ent)} {p : ByteArray × Ent → Bool} (h : ∀ x ∈ L, p x = true) : L.filter p = L := List.filter_eq_self.2 h
namespace Shf
theorem put_ord (k : ByteArray) (e : Ent) : ∀ {t : Shf}, ok t → SrtO t.ord → (put k e t).ord = t.ord.filter (fun x => slt x.1 k) ++ (k, e) :: t.ord.filter (fun x => slt k x.1)
  | nil, _, _ => rfl
  | node sk se l r h, ⟨hl, hr, he⟩, hs => by
    rw [ord_node] at hs ⊢
    obtain ⟨s1, s2, s3, s4⟩ := srt_node hs
    unfold put
    by_cases c1 : slt k sk = true
    · rw [if_pos c1, ord_lvl (put_ok k e hl).1 hr, put_ord k e hl s1]
      have c1' := slt_iff.1 c1
      have e1 : r.ord.filter (fun x => slt x.1 k) = [] := filt_none (fun x hx => slt_false.2 (ltB_asymm (ltB_trans c1' (s4 x hx))))
      have e2 : r.ord.filter (fun x => slt k x.1) = r.ord := filt_all (fun x hx => slt_iff.2 (ltB_trans c1' (s4 x hx)))
      have e3 : slt sk k = false := slt_false.2 (ltB_asymm c1')
      simp [List.filter_append, List.filter_cons, e1, e2, e3, c1, List.append_assoc]
    · rw [if_neg c1]
      have c1' : slt k sk = false := by simpa using c1
      by_cases c2 : k.toList == sk.toList
      · have hk := eqL_iff.1 c2
        subst hk
        rw [if_neg (by rw [c2, Bool.or_true]; decide)]
        have e1 : r.ord.filter (fun x => slt x.1 k) = [] := filt_none (fun x hx => slt_false.2 (ltB_asymm (s4 x hx)))
        have e2 : r.ord.filter (fun x => slt k x.1) = r.ord := filt_all (fun x hx => slt_iff.2 (s4 x hx))
        have e3 : l.ord.filter (fun x => slt x.1 k) = l.ord := filt_all (fun x hx => slt_iff.2 (s3 x hx))
        have e4 : l.ord.filter (fun x => slt k x.1) = [] := filt_none (fun x hx => slt_false.2 (ltB_asymm (s3 x hx)))
        rw [ord_node]
        simp [List.filter_append, List.filter_cons, e1, e2, e3, e4, c1']
      · have c2' : (k.toList == sk.toList) = false := by simpa using c2
        rw [if_pos (by rw [c1', c2']; rfl), ord_lvl hl (put_ok k e hr).1, put_ord k e hr s2]
        have c3 : ltB sk k := by
          rcases ltB_or k sk with h | h | h
          · rw [slt_iff.2 h] at c1'; cases c1'
          · exact absurd (eqL_iff.2 h) c2
          · exact h
        have e3 : l.ord.filter (fun x => slt x.1 k) = l.ord := filt_all (fun x hx => slt_iff.2 (ltB_trans (s3 x hx) c3))
        have e4 : l.ord.filter (fun x => slt k x.1) = [] := filt_none (fun x hx => slt_false.2 (ltB_asymm (ltB_trans (s3 x hx) c3)))
        simp [List.filter_append, List.filter_cons, e3, e4, c1', slt_iff.2 c3, List.append_assoc]
theorem least_ord : ∀ {t : Shf} {k : ByteArray} {e : Ent} {l r : Shf} {h : Int}, leastT t = node k e l r h → ∃ rest, t.ord = (k, e) :: rest
  | nil, _, _, _, _, _, hh => by cases hh
  | node k e nil r h, _, _, _, _, _, hh => by cases hh; exact ⟨_, rfl⟩
  | node sk se (node lk le ll lr lh) r h, _, _, _, _, _, hh => by
    obtain ⟨rest, hr⟩ := least_ord (t := node lk le ll lr lh) hh
    rw [ord_node sk se (node lk le ll lr lh) r h, hr]
    exact ⟨_, rfl⟩
theorem least_nil {t : Shf} (h : leastT t = nil) : t = nil := by
  cases t with
  | nil => rfl
  | node k e l r hh => obtain ⟨_, _, _, _, _, h1⟩ := leastT_node (t := node k e l r hh) (fun h => by cases h); rw [h] at h1; cases h1
theorem drop_ord (k : ByteArray) : ∀ {t : Shf}, ok t → SrtO t.ord → (drop k t).ord = t.ord.filter (fun x => !(k.toList == x.1.toList)) := by
  intro t
  induction t generalizing k with
  | nil => intro _ _; rfl
  | node sk se l r h ihl ihr =>
    rintro ⟨hl, hr, he⟩ hs
    rw [ord_node] at hs ⊢
    obtain ⟨s1, s2, s3, s4⟩ := srt_node hs
    unfold drop
    by_cases c1 : slt k sk = true
    · rw [if_pos c1, ord_lvl (drop_ok k hl).1 hr, ihl k hl s1]
      have c1' := slt_iff.1 c1
      have e2 : r.ord.filter (fun x => !(k.toList == x.1.toList)) = r.ord := filt_all (fun x hx => by
        cases hb : (k.toList == x.1.toList) with
        | false => rfl
        | true => exact absurd (eqL_iff.1 hb) (ltB_ne (ltB_trans c1' (s4 x hx))))
      have e3 : (k.toList == sk.toList) = false := by
        cases hb : (k.toList == sk.toList) with
        | false => rfl
        | true => exact absurd (eqL_iff.1 hb) (ltB_ne c1')
      simp [List.filter_append, List.filter_cons, e2, e3]
    · rw [if_neg c1]
      have c1' : slt k sk = false := by simpa using c1
      by_cases c2 : k.toList == sk.toList
      · have hk := eqL_iff.1 c2
        subst hk
        rw [if_neg (by rw [c2, Bool.or_true]; decide)]
        have e2 : r.ord.filter (fun x => !(k.toList == x.1.toList)) = r.ord := filt_all (fun x hx => by
          cases hb : (k.toList == x.1.toList) with
          | false => rfl
          | true => exact absurd (eqL_iff.1 hb) (ltB_ne (s4 x hx)))
        have e3 : l.ord.filter (fun x => !(k.toList == x.1.toList)) = l.ord := filt_all (fun x hx => by
          cases hb : (k.toList == x.1.toList) with
          | false => rfl
          | true => exact absurd (eqL_iff.1 hb).symm (ltB_ne (s3 x hx)))
        have e4 : (l.ord ++ (k, se) :: r.ord).filter (fun x => !(k.toList == x.1.toList)) = l.ord ++ r.ord := by
          rw [List.filter_append, List.filter_cons, e2, e3]
          simp
        rw [e4]
        cases l with
        | nil => rfl
        | node lk le ll lr lh =>
          cases hlt : leastT r with
          | nil => rw [least_nil hlt]; simp [ord]
          | node nk ne nl nr nh =>
            obtain ⟨rest, hrest⟩ := least_ord hlt
            show (lvl nk ne (node lk le ll lr lh) (drop nk r)).ord = _
            rw [ord_lvl hl (drop_ok nk hr).1, ihr nk hr s2, hrest]
            rw [hrest] at s2
            have s5 := (List.pairwise_cons.1 s2).1
            have e5 : rest.filter (fun x => !(nk.toList == x.1.toList)) = rest := filt_all (fun x hx => by
              cases hb : (nk.toList == x.1.toList) with
              | false => rfl
              | true => exact absurd (eqL_iff.1 hb) (ltB_ne (s5 x hx)))
            rw [List.filter_cons]
            simp [e5]
      · have c2' : (k.toList == sk.toList) = false := by simpa using c2
        rw [if_pos (by rw [c1', c2']; rfl), ord_lvl hl (drop_ok k hr).1, ihr k hr s2]
        have c3 : ltB sk k := by
          rcases ltB_or k sk with h | h | h
          · rw [slt_iff.2 h] at c1'; cases c1'
          · exact absurd (eqL_iff.2 h) c2
          · exact h
        have e3 : l.ord.filter (fun x => !(k.toList == x.1.toList)) = l.ord := filt_all (fun x hx => by
          cases hb : (k.toList == x.1.toList) with
          | false => rfl
          | true => exact absurd (eqL_iff.1 hb).symm (ltB_ne (ltB_trans (s3 x hx) c3)))
        simp [List.filter_append, List.filter_cons, e3, c2']
theorem get_mem {k : ByteArray} : ∀ {t : Shf}, SrtO t.ord → (∀ e, (k, e) ∈ t.ord → get k t = (e, true)) ∧ ((∀ e, (k, e) ∉ t.ord) → get k t = (entZ0, false))
  | nil, _ => ⟨fun e h => (by cases h), fun _ => rfl⟩
  | node sk se l r h, hs => by
    rw [ord_node] at hs ⊢
    obtain ⟨s1, s2, s3, s4⟩ := srt_node hs
    unfold get
    by_cases c1 : (sk.toList == k.toList) = true
    · have hk := eqL_iff.1 c1
      subst hk
      rw [if_pos c1]
      refine ⟨fun e he => ?_, fun hn => absurd (List.mem_append_right _ List.mem_cons_self) (hn se)⟩
      rcases List.mem_append.1 he with he | he
      · exact absurd (s3 _ he) (ltB_irrefl _)
      · rcases List.mem_cons.1 he with he | he
        · cases he; rfl
        · exact absurd (s4 _ he) (ltB_irrefl _)
    · rw [if_neg c1]
      have hne : sk ≠ k := fun e => c1 (eqL_iff.2 e)
      by_cases c2 : slt k sk = true
      · rw [if_pos c2]
        have c2' := slt_iff.1 c2
        obtain ⟨g1, g2⟩ := get_mem (k := k) (t := l) s1
        refine ⟨fun e he => g1 e ?_, fun hn => g2 (fun e he => hn e (List.mem_append_left _ he))⟩
        rcases List.mem_append.1 he with he | he
        · exact he
        · rcases List.mem_cons.1 he with he | he
          · cases he; exact absurd rfl hne
          · exact absurd (ltB_trans c2' (s4 _ he)) (ltB_irrefl _)
      · rw [if_neg c2]
        have c3 : ltB sk k := by
          rcases ltB_or k sk with h | h | h
          · exact absurd (slt_iff.2 h) c2
          · exact absurd h.symm hne
          · exact h
        obtain ⟨g1, g2⟩ := get_mem (k := k) (t := r) s2
        refine ⟨fun e he => g1 e ?_, fun hn => g2 (fun e he => hn e (List.mem_append_right _ (List.mem_cons_of_mem _ he)))⟩
        rcases List.mem_append.1 he with he | he
        · exact absurd (ltB_trans c3 (s3 _ he)) (ltB_irrefl _)
        · rcases List.mem_cons.1 he with he | he
          · cases he; exact absurd rfl hne
          · exact he
end Shf
theorem put_srt {k : ByteArray} {e : Ent} {t : Shf} (ho : t.ok) (hs : SrtO t.ord) : SrtO (Shf.put k e t).ord := by
  rw [Shf.put_ord k e ho hs]
  exact srt_mk (List.Pairwise.filter _ hs) (List.Pairwise.filter _ hs) (fun x hx => slt_iff.1 (List.mem_filter.1 hx).2) (fun x hx => slt_iff.1 (List.mem_filter.1 hx).2)
theorem drop_srt {k : ByteArray} {t : Shf} (ho : t.ok) (hs : SrtO t.ord) : SrtO (Shf.drop k t).ord := by
  rw [Shf.drop_ord k ho hs]
  exact List.Pairwise.filter _ hs
theorem put_mem {k : ByteArray} {e : Ent} {t : Shf} (ho : t.ok) (hs : SrtO t.ord) (x : ByteArray × Ent) : x ∈ (Shf.put k e t).ord ↔ (x = (k, e) ∨ (x.1 ≠ k ∧ x ∈ t.ord)) := by
  rw [Shf.put_ord k e ho hs, List.mem_append, List.mem_cons, List.mem_filter, List.mem_filter, slt_iff, slt_iff]
  constructor
  · rintro (⟨h1, h2⟩ | h | ⟨h1, h2⟩)
    · exact .inr ⟨ltB_ne h2, h1⟩
    · exact .inl h
    · exact .inr ⟨(ltB_ne h2).symm, h1⟩
  · rintro (h | ⟨h1, h2⟩)
    · exact .inr (.inl h)
    · rcases ltB_or x.1 k with h | h | h
      · exact .inl ⟨h2, h⟩
      · exact absurd h h1
      · exact .inr (.inr ⟨h2, h⟩)
theorem drop_mem {k : ByteArray} {t : Shf} (ho : t.ok) (hs : SrtO t.ord) (x : ByteArray × Ent) : x ∈ (Shf.drop k t).ord ↔ (x.1 ≠ k ∧ x ∈ t.ord) := by
  rw [Shf.drop_ord k ho hs, List.mem_filter]
  have : (!(k.toList == x.1.toList)) = true ↔ x.1 ≠ k := by
    cases hb : (k.toList == x.1.toList) with
    | false => simp; intro e; rw [e] at hb; simp at hb
    | true => simp [eqL_iff.1 hb]
  rw [this]
  exact ⟨fun h => ⟨h.2, h.1⟩, fun h => ⟨h.2, h.1⟩⟩
theorem get_put {k k' : ByteArray} {e : Ent} {t : Shf} (ho : t.ok) (hs : SrtO t.ord) : Shf.get k' (Shf.put k e t) = if k' = k then (e, true) else Shf.get k' t := by
  obtain ⟨g1, g2⟩ := Shf.get_mem (k := k') (put_srt (k := k) (e := e) ho hs)
  by_cases hk : k' = k
  · subst hk
    rw [if_pos rfl]
    exact g1 e ((put_mem ho hs _).2 (.inl rfl))
  · rw [if_neg hk]
    obtain ⟨q1, q2⟩ := Shf.get_mem (k := k') hs
    by_cases hx : ∃ e', (k', e') ∈ t.ord
    · obtain ⟨e', he⟩ := hx
      rw [q1 e' he]
      exact g1 e' ((put_mem ho hs _).2 (.inr ⟨hk, he⟩))
    · rw [q2 (fun e' he => hx ⟨e', he⟩)]
      exact g2 (fun e' he => by
        rcases (put_mem ho hs _).1 he with h | ⟨_, h⟩
        · cases h; exact hk rfl
        · exact hx ⟨e', h⟩)
theorem get_drop {k k' : ByteArray} {t : Shf} (ho : t.ok) (hs : SrtO t.ord) : Shf.get k' (Shf.drop k t) = if k' = k then (entZ0, false) else Shf.get k' t := by
  obtain ⟨g1, g2⟩ := Shf.get_mem (k := k') (drop_srt (k := k) ho hs)
  by_cases hk : k' = k
  · subst hk
    rw [if_pos rfl]
    exact g2 (fun e' he => ((drop_mem ho hs _).1 he).1 rfl)
  · rw [if_neg hk]
    obtain ⟨q1, q2⟩ := Shf.get_mem (k := k') hs
    by_cases hx : ∃ e', (k', e') ∈ t.ord
    · obtain ⟨e', he⟩ := hx
      rw [q1 e' he]
      exact g1 e' ((drop_mem ho hs _).2 ⟨hk, he⟩)
    · rw [q2 (fun e' he => hx ⟨e', he⟩)]
      exact g2 (fun e' he => hx ⟨e', ((drop_mem ho hs _).1 he).2⟩)
end Go.Proofs.Ytagkobpbhfkmdaa.C
