/- maps.DeleteFunc over a cache's facts: what is known as of a revision at most is struck. -/
import Derived.Test.YtagkobpbhfkmdaaCX
import Derived.Maps.RangeRun
import Derived.Maps.Range
namespace Go.Proofs.Ytagkobpbhfkmdaa.C
open Go.RowKit Go.ChangeMaps Go.Proofs.Ytagkobpbhfkmdaa.Q Go.Proofs.YtagkobpbhfkmdaaW.PrintLast Go.Proofs.YtagkobpbhfkmdaaW.PrintWords
set_option linter.unusedVariables false
set_option linter.unusedSimpArgs false
theorem CAdel {w : World} {M c : Nat} {es : Array MapEntry} {f : Fcts} (hm : w.heap[M]? = some (.map es c)) (hg : GMap Value.string factV es c f) (k : ByteArray) (ty : TypeId) :
    ∃ es', (Builtin.delete_ #[77, 9] ty #[.map (some M), .string k]).run Try.prog w = .ok (.tuple #[]) (setBlock w M (.map es' c)) ∧ GMap Value.string factV es' c (upd f k none) ∧ es'.toList.Sublist es.toList := by
  cases hf : f k with
  | none =>
    obtain ⟨h1, h2⟩ := hg.find_none strK hf w
    refine ⟨es, by simp [Builtin.delete_, run_underlying Try.underlying77, MapKept.run_getObj_map hm, strK.check, h1, MapKept.run_setObj_map _ hm, Result.andThen, setBlock], ?_, List.Sublist.refl _⟩
    have : upd f k none = f := funext fun i => by
      by_cases e : i = k
      · subst e; rw [upd_same, hf]
      · rw [upd_other _ _ e]
    rw [this]
    exact hg
  | some v0 =>
    obtain ⟨j, e, h1, h2, h3, h4⟩ := hg.find_some strK hf w
    have hlt := (List.getElem?_eq_some_iff.1 h2).1
    have hl : (es.eraseIdxIfInBounds j).toList = es.toList.eraseIdx j := by
      rw [Array.eraseIdxIfInBounds, dif_pos (by simpa using hlt), Array.toList_eraseIdx]
    exact ⟨_, by simp [Builtin.delete_, run_underlying Try.underlying77, MapKept.run_getObj_map hm, strK.check, h1, MapKept.run_setObj_map _ hm, Result.andThen, setBlock], hg.erased strK h2 h3, by rw [hl]; exact List.eraseIdx_sublist _ _⟩
theorem filter_lt {α : Type} (p q : α → Bool) (hpq : ∀ x, q x = true → p x = true) : ∀ {l : List α} {e : α}, e ∈ l → p e = true → q e = false → (l.filter q).length < (l.filter p).length
  | x :: l, e, he, h1, h2 => by
    have hle : (l.filter q).length ≤ (l.filter p).length := by
      rw [← List.countP_eq_length_filter, ← List.countP_eq_length_filter]
      exact List.countP_mono_left (fun y _ h => hpq y h)
    rcases List.mem_cons.1 he with rfl | he
    · rw [List.filter_cons, List.filter_cons, h1, h2]
      simp
      omega
    · have := filter_lt p q hpq he h1 h2
      rw [List.filter_cons, List.filter_cons]
      cases hq : q x with
      | true => rw [hpq x hq]; simpa using this
      | false =>
        cases hp : p x with
        | true => simp; omega
        | false => simpa using this
def leftN (es : Array MapEntry) (seen : Array Nat) : Nat := (es.toList.filter fun e => !seen.contains e.born).length
theorem leftN_of (es : Array MapEntry) (seen : Array Nat) : (leftOf es seen).size = leftN es seen := by
  unfold leftOf leftN
  rw [← Array.length_toList, Array.toList_filter]
theorem contains_push (seen : Array Nat) (a b : Nat) : (seen.push a).contains b = (seen.contains b || b == a) := by
  rw [Array.contains_push]
def leftW (M r : Nat) (w : World) : Nat := match w.heap[M]?, w.heap[r]? with
  | some (.map es _), some (.mapIter _ _ seen _) => leftN es seen
  | _, _ => 0
theorem leftW_is {M r c a b : Nat} {m : Option Nat} {w : World} {es : Array MapEntry} {seen : Array Nat} (h1 : w.heap[M]? = some (.map es c)) (h2 : w.heap[r]? = some (.mapIter m a seen b)) : leftW M r w = leftN es seen := by
  unfold leftW
  rw [h1, h2]
def dropM (f : Fcts) (rev : Int) : Fcts := fun k => match f k with | none => none | some v => if v.asof ≤ rev then none else some v
/-- On the way: f' is what is left of f. -/
structure Way (f f' : Fcts) (rev : Int) (es : Array MapEntry) (seen : Array Nat) : Prop where
  sub : ∀ k v, f' k = some v → f k = some v
  gone : ∀ k v, f k = some v → f' k = none → v.asof ≤ rev
  seen : ∀ x ∈ es.toList, seen.contains x.born = true → ∀ k v, x.key = .string k → f' k = some v → rev < v.asof
theorem Way.done {f f' : Fcts} {rev : Int} {es : Array MapEntry} {c : Nat} {seen : Array Nat} (h : Way f f' rev es seen) (hg : GMap Value.string factV es c f') (hl : leftN es seen = 0) : f' = dropM f rev := by
  funext k
  unfold dropM
  cases hf' : f' k with
  | none =>
    cases hf : f k with
    | none => rfl
    | some v => dsimp only; rw [if_pos (h.gone k v hf hf')]
  | some v =>
    rw [h.sub k v hf']
    obtain ⟨x, hx, hk⟩ := hg.has k v hf'
    have hs : seen.contains x.born = true := by
      cases hc : seen.contains x.born with
      | true => rfl
      | false =>
        have : x ∈ es.toList.filter fun e => !seen.contains e.born := List.mem_filter.2 ⟨hx, by rw [hc]; rfl⟩
        unfold leftN at hl
        rw [List.length_eq_zero_iff.1 hl] at this
        cases this
    have := h.seen x hx hs k v hk hf'
    dsimp only
    rw [if_neg (by omega)]
theorem Way.start (f : Fcts) (rev : Int) (es : Array MapEntry) : Way f f rev es #[] := ⟨fun _ _ h => h, fun k v h1 h2 => (by rw [h1] at h2; cases h2), fun x _ h => absurd h (by simp)⟩
theorem born_one {es : Array MapEntry} {c : Nat} {f : Fcts} (hg : GMap Value.string factV es c f) {x e : MapEntry} (hx : x ∈ es.toList) (he : e ∈ es.toList) (h : x.born = e.born) : x = e := by
  obtain ⟨i, hi, rfl⟩ := List.getElem_of_mem hx
  obtain ⟨j, hj, rfl⟩ := List.getElem_of_mem he
  have h1 : (es.toList.map (·.born))[i]? = some es.toList[i].born := by rw [List.getElem?_map, List.getElem?_eq_getElem hi]; rfl
  have h2 : (es.toList.map (·.born))[j]? = some es.toList[i].born := by rw [List.getElem?_map, List.getElem?_eq_getElem hj, h]; rfl
  have := (List.getElem?_inj (List.getElem?_eq_some_iff.1 h1).1 hg.born).1 (h1.trans h2.symm)
  subst this
  rfl
theorem Way.stays {f f' : Fcts} {rev : Int} {es : Array MapEntry} {c : Nat} {seen : Array Nat} (h : Way f f' rev es seen) (hg : GMap Value.string factV es c f') {e : MapEntry} (he : e ∈ es.toList) {k : ByteArray} {v : Fct} (hk : e.key = .string k) (hv : f' k = some v) (hlt : rev < v.asof) : Way f f' rev es (seen.push e.born) := ⟨h.sub, h.gone, fun x hx hs k2 v2 hk2 hv2 => by
  rw [contains_push, Bool.or_eq_true] at hs
  rcases hs with hs | hs
  · exact h.seen x hx hs k2 v2 hk2 hv2
  · have := born_one hg hx he (by simpa using hs)
    subst this
    rw [hk] at hk2
    cases hk2
    rw [hv] at hv2
    cases hv2
    exact hlt⟩
theorem Way.struck {f f' : Fcts} {rev : Int} {es es' : Array MapEntry} {c : Nat} {seen : Array Nat} (h : Way f f' rev es seen) (hg : GMap Value.string factV es c f') {e : MapEntry} (he : e ∈ es.toList) {k : ByteArray} {v : Fct} (hk : e.key = .string k) (hv : f' k = some v) (hle : v.asof ≤ rev) (hsub : es'.toList.Sublist es.toList) : Way f (upd f' k none) rev es' (seen.push e.born) := by
  have hne : ∀ k2 v2, (upd f' k none) k2 = some v2 → k2 ≠ k ∧ f' k2 = some v2 := fun k2 v2 h2 => by
    by_cases e1 : k2 = k
    · subst e1; rw [upd_same] at h2; cases h2
    · rw [upd_other _ _ e1] at h2; exact ⟨e1, h2⟩
  refine ⟨fun k2 v2 h2 => h.sub k2 v2 (hne k2 v2 h2).2, fun k2 v2 h1 h2 => ?_, fun x hx hs k2 v2 hk2 hv2 => ?_⟩
  · by_cases e1 : k2 = k
    · subst e1
      have := h.sub k2 v hv
      rw [this] at h1
      cases h1
      exact hle
    · rw [upd_other _ _ e1] at h2
      exact h.gone k2 v2 h1 h2
  · obtain ⟨e1, h3⟩ := hne k2 v2 hv2
    rw [contains_push, Bool.or_eq_true] at hs
    rcases hs with hs | hs
    · exact h.seen x (hsub.subset hx) hs k2 v2 hk2 h3
    · have := born_one hg (hsub.subset hx) he (by simpa using hs)
      subst this
      rw [hk] at hk2
      cases hk2
      exact absurd rfl e1
theorem leftN_push {es : Array MapEntry} {seen : Array Nat} {e : MapEntry} (he : e ∈ es.toList) (hn : seen.contains e.born = false) : leftN es (seen.push e.born) < leftN es seen := by
  unfold leftN
  refine filter_lt _ _ (fun x h => ?_) he (by rw [hn]; rfl) (by rw [contains_push]; simp)
  rw [contains_push] at h
  cases hs : seen.contains x.born with
  | true => rw [hs] at h; simp at h
  | false => rfl
theorem leftN_sub {es es' : Array MapEntry} {seen : Array Nat} (h : es'.toList.Sublist es.toList) : leftN es' seen ≤ leftN es seen := (h.filter _).length_le
set_option maxHeartbeats 2000000 in
set_option maxRecDepth 100000 in
theorem dl1_calls (k : ByteArray) (v : Fct) (R : Nat) (rev : Int) (w : World) (hR : w.heap[R]? = some (.cells #[.int .i64 rev] 2 (0, 0))) : Calls Try.prog 48 #[.string k, .agg #[.int .i64 v.asof, .bool v.there, .string v.x.key, .string v.x.val, .int .i64 v.x.made, .int .i64 v.x.mod], .pointer (some ⟨R, 0, none⟩)] w fun e w' => e = .returned (.bool (decide (v.asof ≤ rev))) ∧ Below w.heap.size w w' := by
  have t0 : w.cell? ⟨R, 0, none⟩ = some (.int .i64 rev) := cell_at hR 0
  have h1 := lt_of_block hR
  have h2 : ¬ R = w.heap.size := by omega
  clear hR
  go_enter Try.func48, Try.ntmps48
  go_wp2_with fail
  go_ret
  exact ⟨rfl, (Below.refl _ _).alloc (Nat.le_refl _) _⟩
set_option maxHeartbeats 4000000 in
set_option maxRecDepth 100000 in
theorem delf_calls (M c : Nat) (es : Array MapEntry) (f : Fcts) (R : Nat) (rev : Int) (w : World) (hm : w.heap[M]? = some (.map es c)) (hg : GMap Value.string factV es c f) (hR : w.heap[R]? = some (.cells #[.int .i64 rev] 2 (0, 0))) :
    Calls Try.prog 47 #[.map (some M), .func (Fn.func 48) #[] #[.pointer (some ⟨R, 0, none⟩)]] w fun e w' => e = .returned (.tuple #[]) ∧ (∃ es', w'.heap[M]? = some (.map es' c) ∧ GMap Value.string factV es' c (dropM f rev)) ∧ Fr (fun k => k = M) w w' := by
  have hrg := run_range_map (P := Try.prog) w 77 _ _ M es c Try.underlying77 hm
  have hr0 := heap_alloc_new w (.mapIter (some M) c #[] c)
  have hm0 := blk_al hm (.mapIter (some M) c #[] c)
  have hR0 := blk_al hR (.mapIter (some M) c #[] c)
  have hF0 := (Fr.refl (fun k => k = M) w).alloc (.mapIter (some M) c #[] c)
  have hMR : M ≠ R := fun e => by rw [e, hR] at hm; cases hm
  have hMl := lt_of_block hm
  have hRl := lt_of_block hR
  obtain ⟨r, hr⟩ : ∃ r, w.heap.size = r := ⟨_, rfl⟩
  rw [hr] at hr0 hMl hRl hrg
  have H0 := Aside.mk (And.intro hr0 (And.intro hm0 (And.intro hR0 (And.intro hF0 hg))))
  clear hr0 hm0 hR0 hF0 hg hm hR
  go_enter Try.func47, Try.ntmps47
  go_wp2_with fail
  go_loopw [8] (fun _ wr => ∃ es1 f1 seen, Aside (wr.heap[M]? = some (.map es1 c) ∧ GMap Value.string factV es1 c f1 ∧ wr.heap[r]? = some (.mapIter (some M) c seen c) ∧ Way f f1 rev es1 seen ∧ wr.heap[R]? = some (.cells #[.int .i64 rev] 2 (0, 0)) ∧ Fr (fun k => k = M) w wr)) (fun _ wr => leftW M r wr)
  case atStart => exact ⟨es, f, #[], ⟨H0.out.2.1, H0.out.2.2.2.2, H0.out.1, Way.start _ _ _, H0.out.2.2.1, H0.out.2.2.2.1⟩⟩
  case round =>
    rename_i wr
    obtain ⟨es1, f1, seen, HI⟩ := hrel
    obtain ⟨hm1, hg1, hr1, hw1, hR1, hF1⟩ := HI.out
    rcases run_next_at (P := Try.prog) wr 0 r M c c seen es1 c hr1 hm1 hg1.old (Nat.le_refl _) with ⟨hz, hrun⟩ | ⟨e, he, w1, hw, hrun⟩
    · clear hm1 hg1 hr1 hw1 hR1 hF1
      go_wp2_with fail
      go_returns
      exact ⟨rfl, ⟨es1, HI.out.1, by rw [← HI.out.2.2.2.1.done HI.out.2.1 (by rw [← leftN_of]; exact hz)]; exact HI.out.2.1⟩, HI.out.2.2.2.2.2⟩
    · obtain ⟨heM, hes⟩ := mem_left he
      obtain ⟨k, v, hk, hv, hf1⟩ := hg1.ent e heM
      have hne : r ≠ M := fun q => by rw [q, hm1] at hr1; cases hr1
      have hnR : r ≠ R := by omega
      have hw1h : w1.heap = wr.heap := by rcases hw with rfl | rfl <;> rfl
      have hFw : Fr (fun k => k = M) w w1 := by rcases hw with rfl | rfl; exact hF1; exact hF1.drew
      obtain ⟨o, ho⟩ : ∃ o, Obj.mapIter (some M) c (seen.push e.born) c = o := ⟨_, rfl⟩
      rw [ho] at hrun
      have hm2 : (setBlock w1 r o).heap[M]? = some (.map es1 c) := by rw [heap_setBlock_ne _ _ hne, hw1h]; exact hm1
      have hR2 : (setBlock w1 r o).heap[R]? = some (.cells #[.int .i64 rev] 2 (0, 0)) := by rw [heap_setBlock_ne _ _ hnR, hw1h]; exact hR1
      have hr2 : (setBlock w1 r o).heap[r]? = some o := heap_setBlock_eq _ (by rw [hw1h]; exact hr1)
      have hF2 : Fr (fun k => k = M) w (setBlock w1 r o) := hFw.setBlock (.inr (by omega)) _
      have hen := run_entry_at (P := Try.prog) (setBlock w1 r o) r M c seen es1 c e (by rw [ho]; exact hr2) hm2 heM hg1.born
      rw [hk, hv] at hrun hen
      unfold factV factC at hrun hen
      have hls := leftN_push heM hes
      have HLS := Aside.mk (And.intro hls (leftW_is hm1 hr1))
      generalize (setBlock w1 r o) = w2 at *
      obtain ⟨va, vt, vx⟩ := v
      dsimp only at hrun hen
      have XF := heap_alloc_new w2 (Obj.cells #[Value.int IntKind.i64 va, Value.bool vt, Value.string vx.key, Value.string vx.val, Value.int IntKind.i64 vx.made, Value.int IntKind.i64 vx.mod] 87 (0, 0))
      have hm3 := blk_al hm2 (Obj.cells #[Value.int IntKind.i64 va, Value.bool vt, Value.string vx.key, Value.string vx.val, Value.int IntKind.i64 vx.made, Value.int IntKind.i64 vx.mod] 87 (0, 0))
      have hr3 := blk_al hr2 (Obj.cells #[Value.int IntKind.i64 va, Value.bool vt, Value.string vx.key, Value.string vx.val, Value.int IntKind.i64 vx.made, Value.int IntKind.i64 vx.mod] 87 (0, 0))
      have hR3 := blk_al hR2 (Obj.cells #[Value.int IntKind.i64 va, Value.bool vt, Value.string vx.key, Value.string vx.val, Value.int IntKind.i64 vx.made, Value.int IntKind.i64 vx.mod] 87 (0, 0))
      have hF3 := hF2.alloc (Obj.cells #[Value.int IntKind.i64 va, Value.bool vt, Value.string vx.key, Value.string vx.val, Value.int IntKind.i64 vx.made, Value.int IntKind.i64 vx.mod] 87 (0, 0))
      have hcl := dl1_calls k ⟨va, vt, vx⟩ R rev _ hR3
      dsimp only at hcl
      have HW := Aside.mk (And.intro hw1 (And.intro hg1 (And.intro heM (And.intro hk hf1))))
      clear hm1 hg1 hr1 hw1 hR1 hF1 hm2 hr2 hR2 hF2 hFw HI he hes hw hw1h hls hv hf1 heM
      go_wp2_with fail
      refine hcl.mono ?_
      generalize (w2.alloc (Obj.cells #[Value.int IntKind.i64 va, Value.bool vt, Value.string vx.key, Value.string vx.val, Value.int IntKind.i64 vx.made, Value.int IntKind.i64 vx.mod] 87 (0, 0))) = w3 at *
      rintro e4 w4 ⟨rfl, hb⟩
      have hm4 := (hb.block _ (lt_of_block hm3)).trans hm3
      have hr4 := (hb.block _ (lt_of_block hr3)).trans hr3
      have hR4 := (hb.block _ (lt_of_block hR3)).trans hR3
      have hF4 := hF3.trans (Fr.of_new (F := fun k => k = M) hb) (fun _ _ h => h)
      clear hb hF3 hm3 hr3 hR3 XF hrun hen
      by_cases hle : va ≤ rev
      · obtain ⟨es4, hd, hg4, hsub⟩ := CAdel hm4 HW.out.2.1 k 0
        have hw4 := HW.out.1.struck HW.out.2.1 HW.out.2.2.1 HW.out.2.2.2.1 HW.out.2.2.2.2 hle hsub
        have hm5 := heap_setBlock_eq (.map es4 c) hm4
        have hr5 : (setBlock w4 M (.map es4 c)).heap[r]? = some o := by rw [heap_setBlock_ne _ _ (fun q => hne q.symm)]; exact hr4
        have hR5 : (setBlock w4 M (.map es4 c)).heap[R]? = _ := (heap_setBlock_ne _ _ hMR).trans hR4
        have HN := Aside.mk (And.intro hm5 (And.intro hg4 (And.intro hr5 (And.intro hw4 (And.intro hR5 (And.intro (hF4.setBlock (.inl rfl) (.map es4 c)) hsub))))))
        have hled : decide (va ≤ rev) = true := decide_eq_true hle
        clear hm5 hg4 hr5 hw4 hR5 hsub hm4 hr4 hR4 hF4
        go_wp2_with fail
        go_roundw
        case rel => exact ⟨es4, _, seen.push e.born, ⟨HN.out.1, HN.out.2.1, by rw [ho]; exact HN.out.2.2.1, HN.out.2.2.2.1, HN.out.2.2.2.2.1, HN.out.2.2.2.2.2.1⟩⟩
        case measure =>
          rw [HLS.out.2, leftW_is HN.out.1 (by rw [← ho] at HN; exact HN.out.2.2.1)]
          exact Nat.lt_of_le_of_lt (leftN_sub HN.out.2.2.2.2.2.2) HLS.out.1
      · have hled : decide (va ≤ rev) = false := decide_eq_false hle
        have hw4 := HW.out.1.stays HW.out.2.1 HW.out.2.2.1 HW.out.2.2.2.1 HW.out.2.2.2.2 (show rev < va by omega)
        have HN := Aside.mk (And.intro hm4 (And.intro hr4 (And.intro hw4 (And.intro hR4 hF4))))
        have hlt : rev < va := by omega
        clear hm4 hr4 hw4 hR4 hF4
        go_wp2_with fail
        go_roundw
        case rel => exact ⟨es1, f1, seen.push e.born, ⟨HN.out.1, HW.out.2.1, by rw [ho]; exact HN.out.2.1, HN.out.2.2.1, HN.out.2.2.2.1, HN.out.2.2.2.2⟩⟩
        case measure =>
          rw [HLS.out.2, leftW_is HN.out.1 (by rw [← ho] at HN; exact HN.out.2.1)]
          exact HLS.out.1
end Go.Proofs.Ytagkobpbhfkmdaa.C
