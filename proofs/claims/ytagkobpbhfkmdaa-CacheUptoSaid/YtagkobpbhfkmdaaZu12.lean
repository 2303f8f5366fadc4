/- Zu: texts of this claim, laid together. -/
import Derived.Maps.RangeRun
import Derived.Maps.Range
import Derived.Test.YtagkobpbhfkmdaaZu4
import Derived.Test.YtagkobpbhfkmdaaZu7
import Derived.Test.YtagkobpbhfkmdaaZu9
import Derived.Test.YtagkobpbhfkmdaaZu11
/-! from DF -/
namespace Go.Proofs.Ytagkobpbhfkmdaa.C
open Go.RowKit Go.ChangeMaps Go.Proofs.Ytagkobpbhfkmdaa.Q Go.Proofs.YtagkobpbhfkmdaaW.PrintLast Go.Proofs.YtagkobpbhfkmdaaW.PrintWords
set_option linter.unusedVariables false
set_option linter.unusedSimpArgs false
theorem CAdel {w : World} {M c : Nat} {es : Array MapEntry} {f : Fcts} (hm : w.heap[M]? = some (.map es c)) (hg : GMap Value.string factV es c f) (k : ByteArray) (ty : TypeId) :
    ∃ es', (Builtin.delete_ #[77, 9] ty #[.map (some M), .string k]).run Try.prog w = .ok (.tuple #[]) (setBlock w M (.map es' c)) ∧ GMap Value.string factV es' c (upd f k none) ∧ es'.toList.Sublist es.toList := by
  cases hf : f k with
  | none =>
    obtain ⟨h1, h2⟩ := hg.find_none strK hf w
    refine ⟨es, by simp [Builtin.delete_, run_underlying Try.underlying77, MapKept.run_getObj_map hm, strK.check, h1, MapKept.run_setObj_map _ hm, Result.andThen, setBlock], ?_, List.Sublist.refl _⟩
    have : upd f k none = f := funext fun i => by
      by_cases e : i = k
      · subst e; rw [upd_same, hf]
      · rw [upd_other _ _ e]
    rw [this]
    exact hg
  | some v0 =>
    obtain ⟨j, e, h1, h2, h3, h4⟩ := hg.find_some strK hf w
    have hlt := (List.getElem?_eq_some_iff.1 h2).1
    have hl : (es.eraseIdxIfInBounds j).toList = es.toList.eraseIdx j := by
      rw [Array.eraseIdxIfInBounds, dif_pos (by simpa using hlt), Array.toList_eraseIdx]
    exact ⟨_, by simp [Builtin.delete_, run_underlying Try.underlying77, MapKept.run_getObj_map hm, strK.check, h1, MapKept.run_setObj_map _ hm, Result.andThen, setBlock], hg.erased strK h2 h3, by rw [hl]; exact List.eraseIdx_sublist _ _⟩
theorem filter_lt {α : Type} (p q : α → Bool) (hpq : ∀ x, q x = true → p x = true) : ∀ {l : List α} {e : α}, e ∈ l → p e = true → q e = false → (l.filter q).length < (l.filter p).length
  | x :: l, e, he, h1, h2 => by
    have hle : (l.filter q).length ≤ (l.filter p).length := by
      rw [← List.countP_eq_length_filter, ← List.countP_eq_length_filter]
      exact List.countP_mono_left (fun y _ h => hpq y h)
    rcases List.mem_cons.1 he with rfl | he
    · rw [List.filter_cons, List.filter_cons, h1, h2]
      simp
      omega
    · have := filter_lt p q hpq he h1 h2
      rw [List.filter_cons, List.filter_cons]
      cases hq : q x with
      | true => rw [hpq x hq]; simpa using this
      | false =>
        cases hp : p x with
        | true => simp; omega
        | false => simpa using this
def leftN (es : Array MapEntry) (seen : Array Nat) : Nat := (es.toList.filter fun e => !seen.contains e.born).length
theorem leftN_of (es : Array MapEntry) (seen : Array Nat) : (leftOf es seen).size = leftN es seen := by
  unfold leftOf leftN
  rw [← Array.length_toList, Array.toList_filter]
theorem contains_push (seen : Array Nat) (a b : Nat) : (seen.push a).contains b = (seen.contains b || b == a) := by
  rw [Array.contains_push]
def leftW (M r : Nat) (w : World) : Nat := match w.heap[M]?, w.heap[r]? with
  | some (.map es _), some (.mapIter _ _ seen _) => leftN es seen
  | _, _ => 0
theorem leftW_is {M r c a b : Nat} {m : Option Nat} {w : World} {es : Array MapEntry} {seen : Array Nat} (h1 : w.heap[M]? = some (.map es c)) (h2 : w.heap[r]? = some (.mapIter m a seen b)) : leftW M r w = leftN es seen := by
  unfold leftW
  rw [h1, h2]
def dropM (f : Fcts) (rev : Int) : Fcts := fun k => match f k with | none => none | some v => if v.asof ≤ rev then none else some v
/-- On the way: f' is what is left of f. -/
structure Way (f f' : Fcts) (rev : Int) (es : Array MapEntry) (seen : Array Nat) : Prop where
  sub : ∀ k v, f' k = some v → f k = some v
  gone : ∀ k v, f k = some v → f' k = none → v.asof ≤ rev
  seen : ∀ x ∈ es.toList, seen.contains x.born = true → ∀ k v, x.key = .string k → f' k = some v → rev < v.asof
theorem Way.done {f f' : Fcts} {rev : Int} {es : Array MapEntry} {c : Nat} {seen : Array Nat} (h : Way f f' rev es seen) (hg : GMap Value.string factV es c f') (hl : leftN es seen = 0) : f' = dropM f rev := by
  funext k
  unfold dropM
  cases hf' : f' k with
  | none =>
    cases hf : f k with
    | none => rfl
    | some v => dsimp only; rw [if_pos (h.gone k v hf hf')]
  | some v =>
    rw [h.sub k v hf']
    obtain ⟨x, hx, hk⟩ := hg.has k v hf'
    have hs : seen.contains x.born = true := by
      cases hc : seen.contains x.born with
      | true => rfl
      | false =>
        have : x ∈ es.toList.filter fun e => !seen.contains e.born := List.mem_filter.2 ⟨hx, by rw [hc]; rfl⟩
        unfold leftN at hl
        rw [List.length_eq_zero_iff.1 hl] at this
        cases this
    have := h.seen x hx hs k v hk hf'
    dsimp only
    rw [if_neg (by omega)]
theorem Way.start (f : Fcts) (rev : Int) (es : Array MapEntry) : Way f f rev es #[] := ⟨fun _ _ h => h, fun k v h1 h2 => (by rw [h1] at h2; cases h2), fun x _ h => absurd h (by simp)⟩
theorem born_one {es : Array MapEntry} {c : Nat} {f : Fcts} (hg : GMap Value.string factV es c f) {x e : MapEntry} (hx : x ∈ es.toList) (he : e ∈ es.toList) (h : x.born = e.born) : x = e := by
  obtain ⟨i, hi, rfl⟩ := List.getElem_of_mem hx
  obtain ⟨j, hj, rfl⟩ := List.getElem_of_mem he
  have h1 : (es.toList.map (·.born))[i]? = some es.toList[i].born := by rw [List.getElem?_map, List.getElem?_eq_getElem hi]; rfl
  have h2 : (es.toList.map (·.born))[j]? = some es.toList[i].born := by rw [List.getElem?_map, List.getElem?_eq_getElem hj, h]; rfl
  have := (List.getElem?_inj (List.getElem?_eq_some_iff.1 h1).1 hg.born).1 (h1.trans h2.symm)
  subst this
  rfl
theorem Way.stays {f f' : Fcts} {rev : Int} {es : Array MapEntry} {c : Nat} {seen : Array Nat} (h : Way f f' rev es seen) (hg : GMap Value.string factV es c f') {e : MapEntry} (he : e ∈ es.toList) {k : ByteArray} {v : Fct} (hk : e.key = .string k) (hv : f' k = some v) (hlt : rev < v.asof) : Way f f' rev es (seen.push e.born) := ⟨h.sub, h.gone, fun x hx hs k2 v2 hk2 hv2 => by
  rw [contains_push, Bool.or_eq_true] at hs
  rcases hs with hs | hs
  · exact h.seen x hx hs k2 v2 hk2 hv2
  · have := born_one hg hx he (by simpa using hs)
    subst this
    rw [hk] at hk2
    cases hk2
    rw [hv] at hv2
    cases hv2
    exact hlt⟩
theorem Way.struck {f f' : Fcts} {rev : Int} {es es' : Array MapEntry} {c : Nat} {seen : Array Nat} (h : Way f f' rev es seen) (hg : GMap Value.string factV es c f') {e : MapEntry} (he : e ∈ es.toList) {k : ByteArray} {v : Fct} (hk : e.key = .string k) (hv : f' k = some v) (hle : v.asof ≤ rev) (hsub : es'.toList.Sublist es.toList) : Way f (upd f' k none) rev es' (seen.push e.born) := by
  have hne : ∀ k2 v2, (upd f' k none) k2 = some v2 → k2 ≠ k ∧ f' k2 = some v2 := fun k2 v2 h2 => by
    by_cases e1 : k2 = k
    · subst e1; rw [upd_same] at h2; cases h2
    · rw [upd_other _ _ e1] at h2; exact ⟨e1, h2⟩
  refine ⟨fun k2 v2 h2 => h.sub k2 v2 (hne k2 v2 h2).2, fun k2 v2 h1 h2 => ?_, fun x hx hs k2 v2 hk2 hv2 => ?_⟩
  · by_cases e1 : k2 = k
    · subst e1
      have := h.sub k2 v hv
      rw [this] at h1
      cases h1
      exact hle
    · rw [upd_other _ _ e1] at h2
      exact h.gone k2 v2 h1 h2
  · obtain ⟨e1, h3⟩ := hne k2 v2 hv2
    rw [contains_push, Bool.or_eq_true] at hs
    rcases hs with hs | hs
    · exact h.seen x (hsub.subset hx) hs k2 v2 hk2 h3
    · have := born_one hg (hsub.subset hx) he (by simpa using hs)
      subst this
      rw [hk] at hk2
      cases hk2
      exact absurd rfl e1
theorem leftN_push {es : Array MapEntry} {seen : Array Nat} {e : MapEntry} (he : e ∈ es.toList) (hn : seen.contains e.born = false) : leftN es (seen.push e.born) < leftN es seen := by
  unfold leftN
  refine filter_lt _ _ (fun x h => ?_) he (by rw [hn]; rfl) (by rw [contains_push]; simp)
  rw [contains_push] at h
  cases hs : seen.contains x.born with
  | true => rw [hs] at h; simp at h
  | false => rfl
theorem leftN_sub {es es' : Array MapEntry} {seen : Array Nat} (h : es'.toList.Sublist es.toList) : leftN es' seen ≤ leftN es seen := (h.filter _).length_le
set_option maxHeartbeats 2000000 in
set_option maxRecDepth 100000 in
theorem dl1_calls (k : ByteArray) (v : Fct) (R : Nat) (rev : Int) (w : World) (hR : w.heap[R]? = some (.cells #[.int .i64 rev] 2 (0, 0))) : Calls Try.prog 48 #[.string k, .agg #[.int .i64 v.asof, .bool v.there, .string v.x.key, .string v.x.val, .int .i64 v.x.made, .int .i64 v.x.mod], .pointer (some ⟨R, 0, none⟩)] w fun e w' => e = .returned (.bool (decide (v.asof ≤ rev))) ∧ Below w.heap.size w w' := by
  have t0 : w.cell? ⟨R, 0, none⟩ = some (.int .i64 rev) := cell_at hR 0
  have h1 := lt_of_block hR
  have h2 : ¬ R = w.heap.size := by omega
  clear hR
  go_enter Try.func48, Try.ntmps48
  go_wp2_with fail
  go_ret
  exact ⟨rfl, (Below.refl _ _).alloc (Nat.le_refl _) _⟩
set_option maxHeartbeats 4000000 in
set_option maxRecDepth 100000 in
theorem delf_calls (M c : Nat) (es : Array MapEntry) (f : Fcts) (R : Nat) (rev : Int) (w : World) (hm : w.heap[M]? = some (.map es c)) (hg : GMap Value.string factV es c f) (hR : w.heap[R]? = some (.cells #[.int .i64 rev] 2 (0, 0))) :
    Calls Try.prog 47 #[.map (some M), .func (Fn.func 48) #[] #[.pointer (some ⟨R, 0, none⟩)]] w fun e w' => e = .returned (.tuple #[]) ∧ (∃ es', w'.heap[M]? = some (.map es' c) ∧ GMap Value.string factV es' c (dropM f rev)) ∧ Fr (fun k => k = M) w w' := by
  have hrg := run_range_map (P := Try.prog) w 77 _ _ M es c Try.underlying77 hm
  have hr0 := heap_alloc_new w (.mapIter (some M) c #[] c)
  have hm0 := blk_al hm (.mapIter (some M) c #[] c)
  have hR0 := blk_al hR (.mapIter (some M) c #[] c)
  have hF0 := (Fr.refl (fun k => k = M) w).alloc (.mapIter (some M) c #[] c)
  have hMR : M ≠ R := fun e => by rw [e, hR] at hm; cases hm
  have hMl := lt_of_block hm
  have hRl := lt_of_block hR
  obtain ⟨r, hr⟩ : ∃ r, w.heap.size = r := ⟨_, rfl⟩
  rw [hr] at hr0 hMl hRl hrg
  have H0 := Aside.mk (And.intro hr0 (And.intro hm0 (And.intro hR0 (And.intro hF0 hg))))
  clear hr0 hm0 hR0 hF0 hg hm hR
  go_enter Try.func47, Try.ntmps47
  go_wp2_with fail
  go_loopw [8] (fun _ wr => ∃ es1 f1 seen, Aside (wr.heap[M]? = some (.map es1 c) ∧ GMap Value.string factV es1 c f1 ∧ wr.heap[r]? = some (.mapIter (some M) c seen c) ∧ Way f f1 rev es1 seen ∧ wr.heap[R]? = some (.cells #[.int .i64 rev] 2 (0, 0)) ∧ Fr (fun k => k = M) w wr)) (fun _ wr => leftW M r wr)
  case atStart => exact ⟨es, f, #[], ⟨H0.out.2.1, H0.out.2.2.2.2, H0.out.1, Way.start _ _ _, H0.out.2.2.1, H0.out.2.2.2.1⟩⟩
  case round =>
    rename_i wr
    obtain ⟨es1, f1, seen, HI⟩ := hrel
    obtain ⟨hm1, hg1, hr1, hw1, hR1, hF1⟩ := HI.out
    rcases run_next_at (P := Try.prog) wr 0 r M c c seen es1 c hr1 hm1 hg1.old (Nat.le_refl _) with ⟨hz, hrun⟩ | ⟨e, he, w1, hw, hrun⟩
    · clear hm1 hg1 hr1 hw1 hR1 hF1
      go_wp2_with fail
      go_returns
      exact ⟨rfl, ⟨es1, HI.out.1, by rw [← HI.out.2.2.2.1.done HI.out.2.1 (by rw [← leftN_of]; exact hz)]; exact HI.out.2.1⟩, HI.out.2.2.2.2.2⟩
    · obtain ⟨heM, hes⟩ := mem_left he
      obtain ⟨k, v, hk, hv, hf1⟩ := hg1.ent e heM
      have hne : r ≠ M := fun q => by rw [q, hm1] at hr1; cases hr1
      have hnR : r ≠ R := by omega
      have hw1h : w1.heap = wr.heap := by rcases hw with rfl | rfl <;> rfl
      have hFw : Fr (fun k => k = M) w w1 := by rcases hw with rfl | rfl; exact hF1; exact hF1.drew
      obtain ⟨o, ho⟩ : ∃ o, Obj.mapIter (some M) c (seen.push e.born) c = o := ⟨_, rfl⟩
      rw [ho] at hrun
      have hm2 : (setBlock w1 r o).heap[M]? = some (.map es1 c) := by rw [heap_setBlock_ne _ _ hne, hw1h]; exact hm1
      have hR2 : (setBlock w1 r o).heap[R]? = some (.cells #[.int .i64 rev] 2 (0, 0)) := by rw [heap_setBlock_ne _ _ hnR, hw1h]; exact hR1
      have hr2 : (setBlock w1 r o).heap[r]? = some o := heap_setBlock_eq _ (by rw [hw1h]; exact hr1)
      have hF2 : Fr (fun k => k = M) w (setBlock w1 r o) := hFw.setBlock (.inr (by omega)) _
      have hen := run_entry_at (P := Try.prog) (setBlock w1 r o) r M c seen es1 c e (by rw [ho]; exact hr2) hm2 heM hg1.born
      rw [hk, hv] at hrun hen
      unfold factV factC at hrun hen
      have hls := leftN_push heM hes
      have HLS := Aside.mk (And.intro hls (leftW_is hm1 hr1))
      generalize (setBlock w1 r o) = w2 at *
      obtain ⟨va, vt, vx⟩ := v
      dsimp only at hrun hen
      have XF := heap_alloc_new w2 (Obj.cells #[Value.int IntKind.i64 va, Value.bool vt, Value.string vx.key, Value.string vx.val, Value.int IntKind.i64 vx.made, Value.int IntKind.i64 vx.mod] 87 (0, 0))
      have hm3 := blk_al hm2 (Obj.cells #[Value.int IntKind.i64 va, Value.bool vt, Value.string vx.key, Value.string vx.val, Value.int IntKind.i64 vx.made, Value.int IntKind.i64 vx.mod] 87 (0, 0))
      have hr3 := blk_al hr2 (Obj.cells #[Value.int IntKind.i64 va, Value.bool vt, Value.string vx.key, Value.string vx.val, Value.int IntKind.i64 vx.made, Value.int IntKind.i64 vx.mod] 87 (0, 0))
      have hR3 := blk_al hR2 (Obj.cells #[Value.int IntKind.i64 va, Value.bool vt, Value.string vx.key, Value.string vx.val, Value.int IntKind.i64 vx.made, Value.int IntKind.i64 vx.mod] 87 (0, 0))
      have hF3 := hF2.alloc (Obj.cells #[Value.int IntKind.i64 va, Value.bool vt, Value.string vx.key, Value.string vx.val, Value.int IntKind.i64 vx.made, Value.int IntKind.i64 vx.mod] 87 (0, 0))
      have hcl := dl1_calls k ⟨va, vt, vx⟩ R rev _ hR3
      dsimp only at hcl
      have HW := Aside.mk (And.intro hw1 (And.intro hg1 (And.intro heM (And.intro hk hf1))))
      clear hm1 hg1 hr1 hw1 hR1 hF1 hm2 hr2 hR2 hF2 hFw HI he hes hw hw1h hls hv hf1 heM
      go_wp2_with fail
      refine hcl.mono ?_
      generalize (w2.alloc (Obj.cells #[Value.int IntKind.i64 va, Value.bool vt, Value.string vx.key, Value.string vx.val, Value.int IntKind.i64 vx.made, Value.int IntKind.i64 vx.mod] 87 (0, 0))) = w3 at *
      rintro e4 w4 ⟨rfl, hb⟩
      have hm4 := (hb.block _ (lt_of_block hm3)).trans hm3
      have hr4 := (hb.block _ (lt_of_block hr3)).trans hr3
      have hR4 := (hb.block _ (lt_of_block hR3)).trans hR3
      have hF4 := hF3.trans (Fr.of_new (F := fun k => k = M) hb) (fun _ _ h => h)
      clear hb hF3 hm3 hr3 hR3 XF hrun hen
      by_cases hle : va ≤ rev
      · obtain ⟨es4, hd, hg4, hsub⟩ := CAdel hm4 HW.out.2.1 k 0
        have hw4 := HW.out.1.struck HW.out.2.1 HW.out.2.2.1 HW.out.2.2.2.1 HW.out.2.2.2.2 hle hsub
        have hm5 := heap_setBlock_eq (.map es4 c) hm4
        have hr5 : (setBlock w4 M (.map es4 c)).heap[r]? = some o := by rw [heap_setBlock_ne _ _ (fun q => hne q.symm)]; exact hr4
        have hR5 : (setBlock w4 M (.map es4 c)).heap[R]? = _ := (heap_setBlock_ne _ _ hMR).trans hR4
        have HN := Aside.mk (And.intro hm5 (And.intro hg4 (And.intro hr5 (And.intro hw4 (And.intro hR5 (And.intro (hF4.setBlock (.inl rfl) (.map es4 c)) hsub))))))
        have hled : decide (va ≤ rev) = true := decide_eq_true hle
        clear hm5 hg4 hr5 hw4 hR5 hsub hm4 hr4 hR4 hF4
        go_wp2_with fail
        go_roundw
        case rel => exact ⟨es4, _, seen.push e.born, ⟨HN.out.1, HN.out.2.1, by rw [ho]; exact HN.out.2.2.1, HN.out.2.2.2.1, HN.out.2.2.2.2.1, HN.out.2.2.2.2.2.1⟩⟩
        case measure =>
          rw [HLS.out.2, leftW_is HN.out.1 (by rw [← ho] at HN; exact HN.out.2.2.1)]
          exact Nat.lt_of_le_of_lt (leftN_sub HN.out.2.2.2.2.2.2) HLS.out.1
      · have hled : decide (va ≤ rev) = false := decide_eq_false hle
        have hw4 := HW.out.1.stays HW.out.2.1 HW.out.2.2.1 HW.out.2.2.2.1 HW.out.2.2.2.2 (show rev < va by omega)
        have HN := Aside.mk (And.intro hm4 (And.intro hr4 (And.intro hw4 (And.intro hR4 hF4))))
        have hlt : rev < va := by omega
        clear hm4 hr4 hw4 hR4 hF4
        go_wp2_with fail
        go_roundw
        case rel => exact ⟨es1, f1, seen.push e.born, ⟨HN.out.1, HW.out.2.1, by rw [ho]; exact HN.out.2.1, HN.out.2.2.1, HN.out.2.2.2.1, HN.out.2.2.2.2⟩⟩
        case measure =>
          rw [HLS.out.2, leftW_is HN.out.1 (by rw [← ho] at HN; exact HN.out.2.1)]
          exact HLS.out.1
end Go.Proofs.Ytagkobpbhfkmdaa.C
/-! from CL -/
namespace Go.Proofs.Ytagkobpbhfkmdaa.C
open Go.RowKit Go.ChangeMaps Go.Proofs.Ytagkobpbhfkmdaa.Q Go.Proofs.YtagkobpbhfkmdaaW.PrintLast Go.Proofs.YtagkobpbhfkmdaaW.PrintWords
set_option linter.unusedVariables false
set_option linter.unusedSimpArgs false
abbrev En := S46
def addL (rev : Int) (f : Fcts) (x : En) : Fcts := if (f x.f0).isSome then f else upd f x.f0 (some ⟨rev, true, ⟨x.f0, x.f1, x.f2, x.f3⟩⟩)
def listM (f : Fcts) (u rev : Int) (l : List En) : (Fcts × Int) × Int :=
  if ofOK l rev = true then (if rev ≤ u then ((f, u), 0) else ((l.foldl (addL rev) (dropM f rev), rev), 0)) else ((f, u), 4)
theorem rd_getE {l : List En} {k : Nat} {x : En} (h : l[k]? = some x) : rd_T46 l (k : Int) = x := by
  unfold rd_T46
  rw [Int.toNat_natCast, List.getD_eq_getElem?_getD, h]
  rfl
theorem Fr.set6 {F : Nat → Prop} {a w : World} (h : Fr F a w) {b : Nat} (hb : F b ∨ a.heap.size ≤ b) (v0 v1 v2 v3 v4 v5 : Value) : Fr F a ((((((w.setCell ⟨b, 0, none⟩ v0).setCell ⟨b, 1, none⟩ v1).setCell ⟨b, 2, none⟩ v2).setCell ⟨b, 3, none⟩ v3).setCell ⟨b, 4, none⟩ v4).setCell ⟨b, 5, none⟩ v5) := (((((h.setCell (p := ⟨b, 0, none⟩) hb _).setCell (p := ⟨b, 1, none⟩) hb _).setCell (p := ⟨b, 2, none⟩) hb _).setCell (p := ⟨b, 3, none⟩) hb _).setCell (p := ⟨b, 4, none⟩) hb _).setCell (p := ⟨b, 5, none⟩) hb _
def cl12T : Bool × List (List Nat × List Nat) := (true, [([], []), ([0], [0]), ([1], [1]), ([2], [2]), ([], []), ([4], [4]), ([3, 5], [3, 5]), ([6], [6]), ([7], [7]), ([7], [7]), ([], []), ([10, 8, 0, 1, 2, 3, 4, 5, 6, 7, 8, 10], [8, 10]), ([9, 11, 0, 1, 2, 3, 4, 5, 6, 7, 8, 9, 10, 11], [9])])
def cl12B : List Nat := [0, 1, 3, 7, 0, 16, 63, 127, 255, 255, 0, 1535, 4095]
theorem cl12_tab : rtab .any (opsOf Try.f24 12) = cl12T := by kernel_rfl
theorem cl12_bits : waitsOk cl12T.2 cl12B = true := by kernel_rfl
set_option maxHeartbeats 4000000 in
set_option maxRecDepth 100000 in
theorem list_calls (C M : Nat) (f : Fcts) (u rev : Int) (A : Option Addr) (c : Nat) (l : List En) (w : World) (h : CA w C M f u) (g : Kd.C k46 w A l.length l) (hlc : l.length ≤ c) (hl : l.length ≤ 1000000000) (hsz : ∀ x ∈ l, x.f0.size ≤ 100000) (hA : ∀ ad, A = some ad → ad.block ≠ C ∧ ad.block ≠ M) :
    Calls Try.prog 24 #[.pointer (some ⟨C, 0, none⟩), .slice A l.length c, .int .i64 rev] w fun e w' => e = .returned (.int .i64 (listM f u rev l).2) ∧ CA w' C M (listM f u rev l).1.1 (listM f u rev l).1.2 ∧ Fr (fun k => k = C ∨ k = M) w w' := by
  have hbA : Below w.heap.size w (w.alloc (Obj.cells #[Value.int IntKind.i64 rev] 2 (0, 0))) := (Below.refl _ _).alloc (Nat.le_refl _) _
  have hof := of_calls A c l rev _ (Kd.C_below g hbA) hlc hl (fun y hy => by have := hsz y hy; omega)
  have hR := heap_alloc_new w (Obj.cells #[Value.int IntKind.i64 rev] 2 (0, 0))
  have hA1 : (w.alloc (Obj.cells #[Value.int IntKind.i64 rev] 2 (0, 0))).heap.size = w.heap.size + 1 := by simp
  have HH := Aside.mk (And.intro h (And.intro g hA))
  obtain ⟨X, hX⟩ : ∃ X, listM f u rev l = X := ⟨_, rfl⟩
  rw [hX]
  unfold listM at hX
  have HX := Aside.mk hX
  obtain ⟨R, hRR⟩ : ∃ R, w.heap.size = R := ⟨_, rfl⟩
  rw [hRR] at hR hA1
  have hlC := h.ltC
  have hlM := h.ltM
  rw [hRR] at hlC hlM
  obtain ⟨n, hn⟩ : ∃ n, l.length = n := ⟨_, rfl⟩
  have HN := Aside.mk hn
  rw [hn] at hof hlc hl ⊢
  have HA := Aside.mk (And.intro hbA hR)
  have HS := Aside.mk hsz
  clear h g hA hX hn hsz
  go_enter Try.func24, Try.ntmps24
  go_wp2_with fail
  refine hof.mono ?_
  rintro e w1 ⟨hres, hb⟩
  have hb1 := HA.out.1.trans (hb.mono (by rw [hA1, hRR]; omega))
  have hR1 := (hb.block R (by rw [hA1]; omega)).trans HA.out.2
  have hC1 := HH.out.1.below hb1
  clear hof hb
  rcases hres with ⟨hok, Tb, v, rfl, -, -, -⟩ | ⟨hok, rfl⟩
  · have hx := HX.out
    rw [if_pos hok] at hx
    have r0 : w1.cell? ⟨C, 0, none⟩ = some (.map (some M)) := cell_at hC1.box 0
    have r1 : w1.cell? ⟨C, 1, none⟩ = some (.int .i64 u) := cell_at hC1.box 1
    have r2 : w1.cell? ⟨R, 0, none⟩ = some (.int .i64 rev) := cell_at hR1 0
    have H1 := Aside.mk (And.intro hC1 (And.intro hR1 hb1))
    clear hC1 hR1 hb1 HA
    by_cases hru : rev ≤ u
    · rw [if_pos hru] at hx
      have HX := Aside.mk hx
      clear hx
      go_upto_region 6 with fail
      go_quiet (fail)
      go_wp2_with fail
      go_ret
      rw [← HX.out]
      exact ⟨rfl, H1.out.1.keep rfl rfl, (Fr.of_new (F := fun k => k = C ∨ k = M) H1.out.2.2).drewN nq⟩
    · rw [if_neg hru] at hx
      have HX := Aside.mk hx
      have hru' : u < rev := by omega
      clear hx
      go_upto_region 6 with fail
      go_quiet (fail)
      have hC2 : CA (w1.drewN nq) C M f u := H1.out.1.keep rfl rfl
      obtain ⟨es, cc, hm, hg⟩ := hC2.map
      have hdl := delf_calls M cc es f R rev (w1.drewN nq) hm hg H1.out.2.1
      have hF2 := (Fr.of_new (F := fun k => k = C ∨ k = M) H1.out.2.2).drewN nq
      have H2 := Aside.mk (And.intro hC2 hF2)
      have hneCM := hC2.ne
      clear hC2 hm hg hF2
      go_wp2_with fail
      refine hdl.mono ?_
      rintro e w2 ⟨rfl, ⟨es2, hm2, hg2⟩, hFd⟩
      have hC3 : CA w2 C M (dropM f rev) u := ⟨hFd.heap H2.out.1.box hneCM, es2, cc, hm2, hg2⟩
      have hR3 := hFd.heap (show (w1.drewN nq).heap[R]? = _ from H1.out.2.1) (fun e => by omega)
      have hF3 := H2.out.2.trans (hFd.mono (G := fun k => k = C ∨ k = M) (fun _ h => .inr h)) (fun _ _ h => h)
      have H3 := Aside.mk (And.intro hC3 (And.intro hR3 hF3))
      clear hC3 hR3 hF3 hFd hm2 hg2 hdl H2 H1 r0 r1 r2
      go_wp2_with fail
      go_loopw [38] (fun v38 w' => ∃ k : Nat, k ≤ n ∧ v38 = .int .i64 k ∧ Aside (CA w' C M ((l.take k).foldl (addL rev) (dropM f rev)) u ∧ w'.heap[R]? = some (.cells #[.int .i64 rev] 2 (0, 0)) ∧ Fr (fun k => k = C ∨ k = M) w w')) (fun v38 _ => n - (intOf v38).toNat)
      case atStart => exact ⟨0, by omega, rfl, H3⟩
      case round =>
        rename_i v38 wr
        obtain ⟨k, hk, rfl, HI⟩ := hrel
        obtain ⟨F, hF⟩ : ∃ F, (l.take k).foldl (addL rev) (dropM f rev) = F := ⟨_, rfl⟩
        rw [hF] at HI
        have HFK := Aside.mk hF
        clear hF
        have hIC := HI.out.1
        have hIR := HI.out.2.1
        have r0 : wr.cell? ⟨C, 0, none⟩ = some (.map (some M)) := cell_at hIC.box 0
        have r1 : wr.cell? ⟨C, 1, none⟩ = some (.int .i64 u) := cell_at hIC.box 1
        have r2 : wr.cell? ⟨R, 0, none⟩ = some (.int .i64 rev) := cell_at hIR 0
        by_cases hkn : k < n
        · have hrow : Kd.C k46 wr A l.length l := row_fr (F := fun k => k = C ∨ k = M) (fun h => h) HH.out.2.1 HI.out.2.2 (fun ad e h => by have := HH.out.2.2 ad e; rcases h with h | h; exact this.1 h; exact this.2 h)
          obtain ⟨x, hx⟩ : ∃ x, l[k]? = some x := ⟨_, List.getElem?_eq_getElem (by rw [HN.out]; exact hkn)⟩
          obtain ⟨ad, he, hf0, hf1, hf2, hf3⟩ := at_T46 hrow (k : Int) (by omega) (by rw [HN.out]; omega)
          rw [rd_getE hx] at hf0 hf1 hf2 hf3
          simp only [Int.toNat_natCast] at hf0 hf1 hf2 hf3
          have HX' := Aside.mk (foldl_take_succ (addL rev) (dropM f rev) hx)
          rw [HFK.out] at HX'
          obtain ⟨x0, x1, x2, x3⟩ := x
          dsimp only at hf0 hf1 hf2 hf3
          have hE := heap_alloc_new wr (Obj.cells #[Value.string x0, Value.string x1, Value.int IntKind.i64 x2, Value.int IntKind.i64 x3] 46 (0, 0))
          have hC1 := hIC.below ((Below.refl wr.heap.size wr).alloc (Nat.le_refl _) (Obj.cells #[Value.string x0, Value.string x1, Value.int IntKind.i64 x2, Value.int IntKind.i64 x3] 46 (0, 0)))
          have hR1 := blk_al hIR (Obj.cells #[Value.string x0, Value.string x1, Value.int IntKind.i64 x2, Value.int IntKind.i64 x3] 46 (0, 0))
          have hF1 := HI.out.2.2.alloc (Obj.cells #[Value.string x0, Value.string x1, Value.int IntKind.i64 x2, Value.int IntKind.i64 x3] 46 (0, 0))
          obtain ⟨b0, hb0⟩ : ∃ b0, wr.heap.size = b0 := ⟨_, rfl⟩
          have hs1 : (wr.alloc (Obj.cells #[Value.string x0, Value.string x1, Value.int IntKind.i64 x2, Value.int IntKind.i64 x3] 46 (0, 0))).heap.size = b0 + 1 := by simp [hb0]
          have hkC := hIC.ltC
          have hkM := hIC.ltM
          have hkR := lt_of_block hIR
          rw [hb0] at hE hkC hkM hkR
          subst he
          clear hrow hx hIC hIR
          go_upto_region 12 with fail
          generalize (wr.alloc (Obj.cells #[Value.string x0, Value.string x1, Value.int IntKind.i64 x2, Value.int IntKind.i64 x3] 46 (0, 0))) = w2 at *
          have HE2 := Aside.mk (And.intro hC1 (And.intro hR1 (And.intro hF1 hE)))
          have hlk : ∀ W : World, CA W C M F u → (Instr.lookup 77 (.map (some M)) (.string x0) true).run Try.prog W = .ok (.tuple #[factV ((F x0).getD fctZ), .bool (F x0).isSome]) W := fun W hW => look_fact hW x0 true
          obtain ⟨v, hv⟩ : ∃ v, (F x0).getD fctZ = v := ⟨_, rfl⟩
          rw [hv] at hlk
          obtain ⟨va, vt, vx⟩ := v
          obtain ⟨S, hS⟩ : ∃ S, (F x0).isSome = S := ⟨_, rfl⟩
          rw [hS] at hlk
          have HSv := Aside.mk hS
          replace hlk : ∀ W : World, CA W C M F u → (Instr.lookup 77 (.map (some M)) (.string x0) true).run Try.prog W = .ok (.tuple #[.agg #[.int .i64 va, .bool vt, .string vx.key, .string vx.val, .int .i64 vx.made, .int .i64 vx.mod], .bool S]) W := hlk
          have HLK := Aside.mk hlk
          have t0 : (w2.drew.cell? ⟨C, 0, none⟩ = some (.map (some M)) ∧ w2.drew.cell? ⟨b0, 0, none⟩ = some (.string x0)) ∧ (Instr.lookup 77 (.map (some M)) (.string x0) true).run Try.prog w2.drew = .ok (.tuple #[.agg #[.int .i64 va, .bool vt, .string vx.key, .string vx.val, .int .i64 vx.made, .int .i64 vx.mod], .bool S]) w2.drew := ⟨⟨cell_at hC1.box 0, cell_at hE 0⟩, hlk _ (hC1.keep rfl rfl)⟩
          have hs2 : w2.drew.heap.size = b0 + 1 := hs1
          have q0 : w2.drew.cell? ⟨C, 0, none⟩ = some (.map (some M)) := t0.1.1
          have q1 : w2.drew.cell? ⟨b0, 0, none⟩ = some (.string x0) := t0.1.2
          clear hC1 hR1 hF1 hE r0 r1 r2 hf0 hf1 hf2 hf3 hv hS hs1 hlk
          refine start_ (n := 13) (S := (fun w' => (w'.cell? ⟨C, 0, none⟩ = some (.map (some M)) ∧ w'.cell? ⟨b0, 0, none⟩ = some (.string x0)) ∧ (Instr.lookup 77 (.map (some M)) (.string x0) true).run Try.prog w' = .ok (.tuple #[.agg #[.int .i64 va, .bool vt, .string vx.key, .string vx.val, .int .i64 vx.made, .int .i64 vx.mod], .bool S]) w')) (ds := []) #[false, false, false, false, false, false, false, false, false, false, false, false, false] (by kernel_rfl) rfl rfl t0 (fun hHeld => ?_); refine with_tabW cl12_tab cl12_bits (fun HT_ HW_ => ?_)
          refine pure_ (i := 0) (N := (some 43)) (v := ?_) (a' := ?_) #[true, false, false, false, false, false, false, false, false, false, false, false, false] rfl rfl (any_of HT_.out (by kernel_rfl)) (fun _ _ _ h => h) (Or.inl ⟨by rfl, ?_⟩) ?_ ?_
          rotate_left
          · intro w'
            go_simp
            with_reducible rfl
          rotate_left
          · simp only [Act.put, List.setIfInBounds_toArray, List.set_cons_zero, List.set_cons_succ, i64_w, i32_w]
            rfl
          refine pure_ (i := 1) (N := (some 44)) (v := ?_) (a' := ?_) #[true, true, false, false, false, false, false, false, false, false, false, false, false] rfl rfl (any_of HT_.out (by kernel_rfl)) (fun _ _ _ h => h) (Or.inl ⟨by rfl, ?_⟩) ?_ ?_
          rotate_left
          · intro w'
            go_simp
            with_reducible rfl
          rotate_left
          · simp only [Act.put, List.setIfInBounds_toArray, List.set_cons_zero, List.set_cons_succ, i64_w, i32_w]
            rfl
          refine pure_ (i := 2) (N := (some 45)) (v := ?_) (a' := ?_) #[true, true, true, false, false, false, false, false, false, false, false, false, false] rfl rfl (any_of HT_.out (by kernel_rfl)) (fun _ _ _ h => h) (Or.inl ⟨by rfl, ?_⟩) ?_ ?_
          rotate_left
          · intro w'
            go_simp
            with_reducible rfl
          rotate_left
          · simp only [Act.put, List.setIfInBounds_toArray, List.set_cons_zero, List.set_cons_succ, i64_w, i32_w]
            rfl
          refine take_ (i := 3) (N := (some 46)) (v := ?_) (a' := ?_) #[true, true, true, true, false, false, false, false, false, false, false, false, false] rfl rfl (take_ofW HT_.out HW_.out (by kernel_rfl)) (fun _ _ _ h => h) (Or.inl ⟨by rfl, ?_⟩) hHeld ?_ ?_
          rotate_left
          · rintro w' ⟨⟨s1, _⟩, _⟩
            go_simp
            with_reducible rfl
          rotate_left
          · simp only [Act.put, List.setIfInBounds_toArray, List.set_cons_zero, List.set_cons_succ, i64_w, i32_w]
            rfl
          refine pure_ (i := 4) (N := (some 47)) (v := ?_) (a' := ?_) #[true, true, true, true, true, false, false, false, false, false, false, false, false] rfl rfl (any_of HT_.out (by kernel_rfl)) (fun _ _ _ h => h) (Or.inl ⟨by rfl, ?_⟩) ?_ ?_
          rotate_left
          · intro w'
            go_simp
            with_reducible rfl
          rotate_left
          · simp only [Act.put, List.setIfInBounds_toArray, List.set_cons_zero, List.set_cons_succ, i64_w, i32_w]
            rfl
          refine take_ (i := 5) (N := (some 48)) (v := ?_) (a' := ?_) #[true, true, true, true, true, true, false, false, false, false, false, false, false] rfl rfl (take_ofW HT_.out HW_.out (by kernel_rfl)) (fun _ _ _ h => h) (Or.inl ⟨by rfl, ?_⟩) hHeld ?_ ?_
          rotate_left
          · rintro w' ⟨⟨_, s1⟩, _⟩
            go_simp
            with_reducible rfl
          rotate_left
          · simp only [Act.put, List.setIfInBounds_toArray, List.set_cons_zero, List.set_cons_succ, i64_w, i32_w]
            rfl
          refine take_ (i := 6) (N := (some 49)) (v := ?_) (a' := ?_) #[true, true, true, true, true, true, true, false, false, false, false, false, false] rfl rfl (take_ofW HT_.out HW_.out (by kernel_rfl)) (fun _ _ _ h => h) (Or.inl ⟨by rfl, ?_⟩) hHeld ?_ ?_
          rotate_left
          · rintro w' ⟨_, s1⟩
            go_simp
            with_reducible rfl
          rotate_left
          · simp only [Act.put, List.setIfInBounds_toArray, List.set_cons_zero, List.set_cons_succ, i64_w, i32_w]
            rfl
          refine pure_ (i := 7) (N := (some 42)) (v := ?_) (a' := ?_) #[true, true, true, true, true, true, true, true, false, false, false, false, false] rfl rfl (any_of HT_.out (by kernel_rfl)) (fun _ _ _ h => h) (Or.inl ⟨by rfl, ?_⟩) ?_ ?_
          rotate_left
          · intro w'
            go_simp
            with_reducible rfl
          rotate_left
          · simp only [Act.put, List.setIfInBounds_toArray, List.set_cons_zero, List.set_cons_succ, i64_w, i32_w]
            rfl
          refine pure_ (i := 8) (N := (some 50)) (v := ?_) (a' := ?_) #[true, true, true, true, true, true, true, true, true, false, false, false, false] rfl rfl (any_of HT_.out (by kernel_rfl)) (fun _ _ _ h => h) (Or.inl ⟨by rfl, ?_⟩) ?_ ?_
          rotate_left
          · intro w'
            go_simp
            with_reducible rfl
          rotate_left
          · simp only [Act.put, List.setIfInBounds_toArray, List.set_cons_zero, List.set_cons_succ, i64_w, i32_w]
            rfl
          refine pure_ (i := 9) (N := (some 51)) (v := ?_) (a' := ?_) #[true, true, true, true, true, true, true, true, true, true, false, false, false] rfl rfl (any_of HT_.out (by kernel_rfl)) (fun _ _ _ h => h) (Or.inl ⟨by rfl, ?_⟩) ?_ ?_
          rotate_left
          · intro w'
            go_simp
            with_reducible rfl
          rotate_left
          · simp only [Act.put, List.setIfInBounds_toArray, List.set_cons_zero, List.set_cons_succ, i64_w, i32_w]
            rfl
          refine one_ (i := 10) (N := (some 11)) #[true, true, true, true, true, true, true, true, true, true, true, false, false] rfl rfl (one_of HT_.out (by kernel_rfl)) (by decide) (fun K9 hK => ?_)
          have hAF := (Fr.refl (fun _ => False) w2.drew).alloc (.cells #[.int .i64 0, .bool false, .string (ByteArray.mk #[]), .string (ByteArray.mk #[]), .int .i64 0, .int .i64 0] 87 (0, 0))
          have hAN : (w2.drew.alloc (.cells #[.int .i64 0, .bool false, .string (ByteArray.mk #[]), .string (ByteArray.mk #[]), .int .i64 0, .int .i64 0] 87 (0, 0))).heap[b0 + 1]? = some (.cells #[.int .i64 0, .bool false, .string (ByteArray.mk #[]), .string (ByteArray.mk #[]), .int .i64 0, .int .i64 0] 87 (0, 0)) := by rw [← hs2]; exact heap_alloc_new _ _
          have hp0 : (w2.drew.alloc (.cells #[.int .i64 0, .bool false, .string (ByteArray.mk #[]), .string (ByteArray.mk #[]), .int .i64 0, .int .i64 0] 87 (0, 0))).cell? ⟨C, 0, none⟩ = some (.map (some M)) := cell_at (blk_al (show w2.drew.heap[C]? = _ from HE2.out.1.box) _) 0
          have hp1 : (w2.drew.alloc (.cells #[.int .i64 0, .bool false, .string (ByteArray.mk #[]), .string (ByteArray.mk #[]), .int .i64 0, .int .i64 0] 87 (0, 0))).cell? ⟨b0, 0, none⟩ = some (.string x0) := cell_at (blk_al (show w2.drew.heap[b0]? = _ from HE2.out.2.2.2) _) 0
          refine value_ (v := .pointer (some ⟨b0 + 1, 0, none⟩)) (w1 := (w2.drew.alloc (.cells #[.int .i64 0, .bool false, .string (ByteArray.mk #[]), .string (ByteArray.mk #[]), .int .i64 0, .int .i64 0] 87 (0, 0)))) (by rfl) rfl (by unfold execOp; go_simp) ?_
          refine hK.out _ _ ⟨⟨hp0, hp1⟩, HLK.out _ ((HE2.out.1.keep (w' := w2.drew) rfl rfl).fr hAF (fun h => h) (fun h => h))⟩ (fun hHeld => ?_)
          clear hK K9
          refine norm_ (a' := ?_) ?_ ?_
          rotate_left
          · show Act.put _ (some 11) _ = _
            simp only [Act.put, List.setIfInBounds_toArray, List.set_cons_zero, List.set_cons_succ]
            rfl
          refine one_ (i := 11) (N := none) #[true, true, true, true, true, true, true, true, true, true, true, true, false] rfl rfl (one_of HT_.out (by kernel_rfl)) (by decide) (fun K9 hK => ?_)
          have z0 := cell_at hAN 0
          have z1 := cell_at hAN 1
          have z2 := cell_at hAN 2
          have z3 := cell_at hAN 3
          have z4 := cell_at hAN 4
          have z5 := cell_at hAN 5
          have y0 := free_at hAN 0
          have y1 := free_at hAN 1
          have y2 := free_at hAN 2
          have y3 := free_at hAN 3
          have y4 := free_at hAN 4
          have y5 := free_at hAN 5
          have hF4 := hAF.set6 (b := b0 + 1) (.inr (by rw [hs2]; omega)) (.int .i64 va) (.bool vt) (.string vx.key) (.string vx.val) (.int .i64 vx.made) (.int .i64 vx.mod)
          generalize hw3 : (w2.drew.alloc (.cells #[.int .i64 0, .bool false, .string (ByteArray.mk #[]), .string (ByteArray.mk #[]), .int .i64 0, .int .i64 0] 87 (0, 0))) = w3 at *
          refine skip_ (w1 := ((((((w3.setCell ⟨b0 + 1, 0, none⟩ (.int .i64 va)).setCell ⟨b0 + 1, 1, none⟩ (.bool vt)).setCell ⟨b0 + 1, 2, none⟩ (.string vx.key)).setCell ⟨b0 + 1, 3, none⟩ (.string vx.val)).setCell ⟨b0 + 1, 4, none⟩ (.int .i64 vx.made)).setCell ⟨b0 + 1, 5, none⟩ (.int .i64 vx.mod))) (by rfl) rfl (by unfold execOp; go_simp) ?_
          generalize hw4 : ((((((w3.setCell ⟨b0 + 1, 0, none⟩ (.int .i64 va)).setCell ⟨b0 + 1, 1, none⟩ (.bool vt)).setCell ⟨b0 + 1, 2, none⟩ (.string vx.key)).setCell ⟨b0 + 1, 3, none⟩ (.string vx.val)).setCell ⟨b0 + 1, 4, none⟩ (.int .i64 vx.made)).setCell ⟨b0 + 1, 5, none⟩ (.int .i64 vx.mod)) = w4 at *
          have HF4 := Aside.mk hF4
          have hD4 : CA w4 C M F u := (HE2.out.1.keep (w' := w2.drew) rfl rfl).fr hF4 (fun h => h) (fun h => h)
          have hE4 := hF4.heap (show w2.drew.heap[b0]? = _ from HE2.out.2.2.2) (fun h => h)
          refine hK.out _ _ ⟨⟨cell_at hD4.box 0, cell_at hE4 0⟩, HLK.out _ hD4⟩ (fun hHeld => ?_)
          clear hK K9 hF4 z0 z1 z2 z3 z4 z5 y0 y1 y2 y3 y4 y5 hAN hAF hp0 hp1
          refine pure_ (i := 12) (N := (some 12)) (v := ?_) (a' := ?_) #[true, true, true, true, true, true, true, true, true, true, true, true, true] rfl rfl (any_of HT_.out (by kernel_rfl)) (fun _ _ _ h => h) (Or.inl ⟨by rfl, ?_⟩) ?_ ?_
          rotate_left
          · intro w'
            go_simp
            with_reducible rfl
          rotate_left
          · simp only [Act.put, List.setIfInBounds_toArray, List.set_cons_zero, List.set_cons_succ, i64_w, i32_w]
            rfl
          refine done_ (done_of HT_.out (by kernel_rfl)) ?_
          clear HT_ HW_ hHeld
          clear t0 q0 q1
          have hE4 := HF4.out.heap (show w2.drew.heap[b0]? = _ from HE2.out.2.2.2) (fun h => h)
          have hR4 := HF4.out.heap (show w2.drew.heap[R]? = _ from HE2.out.2.1) (fun h => h)
          have hC4 : CA w4 C M F u := (HE2.out.1.keep (w' := w2.drew) rfl rfl).fr HF4.out (fun h => h) (fun h => h)
          have hF4 := HE2.out.2.2.1.drew.trans (HF4.out.mono (G := fun k => k = C ∨ k = M) (fun _ h => h.elim)) (fun _ _ h => h)
          have H4 := Aside.mk (And.intro hC4 (And.intro hR4 hF4))
          have p0 : w4.cell? ⟨C, 0, none⟩ = some (.map (some M)) := cell_at hC4.box 0
          have p2 : w4.cell? ⟨R, 0, none⟩ = some (.int .i64 rev) := cell_at hR4 0
          have e0 : w4.cell? ⟨b0, 0, none⟩ = some (.string x0) := cell_at hE4 0
          have e1 : w4.cell? ⟨b0, 1, none⟩ = some (.string x1) := cell_at hE4 1
          have e2 : w4.cell? ⟨b0, 2, none⟩ = some (.int .i64 x2) := cell_at hE4 2
          have e3 : w4.cell? ⟨b0, 3, none⟩ = some (.int .i64 x3) := cell_at hE4 3
          clear hC4 hR4 hF4 hE4 HF4 HE2
          cases S with
          | true =>
            have HZ : Aside ((l.take (k + 1)).foldl (addL rev) (dropM f rev) = F) := ⟨by rw [HX'.out]; unfold addL; dsimp only; rw [if_pos HSv.out]⟩
            have HI5 : Aside (CA w4 C M ((l.take (k + 1)).foldl (addL rev) (dropM f rev)) u ∧ w4.heap[R]? = some (.cells #[.int .i64 rev] 2 (0, 0)) ∧ Fr (fun k => k = C ∨ k = M) w w4) := ⟨by rw [HZ.out]; exact H4.out.1, H4.out.2.1, H4.out.2.2⟩
            clear HI HFK HX' H4 HZ
            go_wp2_with fail
            go_roundw
            case rel => exact ⟨k + 1, by omega, by go_num, HI5⟩
            case measure => simp [intOf]; omega
          | false =>
            have HZ : Aside ((l.take (k + 1)).foldl (addL rev) (dropM f rev) = upd F x0 (some ⟨rev, true, ⟨x0, x1, x2, x3⟩⟩)) := ⟨by rw [HX'.out]; unfold addL; dsimp only; rw [if_neg (by rw [HSv.out]; decide)]⟩
            obtain ⟨o2, hr2, hC5, hF5⟩ := (show CA w4.drew C M F u from H4.out.1.keep rfl rfl).stored x0 ⟨rev, true, ⟨x0, x1, x2, x3⟩⟩
            replace hr2 : (Instr.mapUpdate 77 (.map (some M)) (.string x0) (.agg #[.int .i64 rev, .bool true, .string x0, .string x1, .int .i64 x2, .int .i64 x3])).run Try.prog w4.drew = .ok () (setBlock w4.drew M o2) := hr2
            have hMR : R ≠ M := fun e => by
              obtain ⟨es, cc, hm, hg⟩ := H4.out.1.map
              have := H4.out.2.1
              rw [e, hm] at this
              cases this
            have hR5 := hF5.heap (show w4.drew.heap[R]? = _ from H4.out.2.1) hMR
            have HI5 : Aside (CA (setBlock w4.drew M o2) C M ((l.take (k + 1)).foldl (addL rev) (dropM f rev)) u ∧ (setBlock w4.drew M o2).heap[R]? = some (.cells #[.int .i64 rev] 2 (0, 0)) ∧ Fr (fun k => k = C ∨ k = M) w (setBlock w4.drew M o2)) := ⟨by rw [HZ.out]; exact hC5, hR5, H4.out.2.2.drew.trans (hF5.mono (G := fun k => k = C ∨ k = M) (fun _ h => .inr h)) (fun _ _ h => h)⟩
            clear HI HFK HX' HZ hC5 hF5 hR5
            go_upto_region 14 with fail
            go_still_tail 9, (by kernel_rfl)
            go_wp2_with fail
            go_roundw
            case rel => exact ⟨k + 1, by omega, by go_num, HI5⟩
            case measure => simp [intOf]; omega
        · obtain rfl : k = n := by omega
          have hfl : F = l.foldl (addL rev) (dropM f rev) := by rw [← HFK.out, List.take_of_length_le (by rw [HN.out]; exact Nat.le_refl _)]
          have f1 : wr.frozen? ⟨C, 1, none⟩ = false := free_at hIC.box 1
          have HX2 : Aside (((F, rev), 0) = X) := ⟨by rw [hfl]; exact HX.out⟩
          have HE := Aside.mk (heap_setCell_eq (j := 1) (.int .i64 rev) hIC.box)
          have hne := hIC.ne
          clear hfl HX hIC hIR
          go_wp2_with fail
          go_ret
          rw [← HX2.out]
          obtain ⟨es, cc, hm, hg⟩ := HI.out.1.map
          exact ⟨rfl, ⟨HE.out, es, cc, by rw [Below.heap_setCell _ _ _ _ (fun e => hne e.symm)]; exact hm, hg⟩, HI.out.2.2.setCell (p := ⟨C, 1, none⟩) (.inl (.inl rfl)) _⟩
  · have hx := HX.out
    rw [if_neg (by rw [hok]; decide)] at hx
    have HX := Aside.mk hx
    have H1 := Aside.mk (And.intro hC1 hb1)
    clear hx hC1 hR1 hb1 HA
    go_wp2_with fail
    go_ret
    rw [← HX.out]
    exact ⟨rfl, H1.out.1, Fr.of_new H1.out.2⟩
end Go.Proofs.Ytagkobpbhfkmdaa.C
/-! from SL -/
namespace Go.Proofs.Ytagkobpbhfkmdaa.C
open Go.RowKit Go.ChangeMaps Go.Proofs.Ytagkobpbhfkmdaa.Q Go.Proofs.YtagkobpbhfkmdaaW.PrintLast Go.Proofs.YtagkobpbhfkmdaaW.PrintWords
set_option linter.unusedVariables false
set_option linter.unusedSimpArgs false
def idxFrom {α : Type} (p : α → Bool) : List α → Nat → Int
  | [], _ => -1
  | x :: l, i => if p x = true then (i : Int) else idxFrom p l (i + 1)
def idxI {α : Type} (p : α → Bool) (l : List α) : Int := idxFrom p l 0
theorem idxFrom_step {α : Type} (p : α → Bool) {l : List α} {k : Nat} {x : α} (h : l[k]? = some x) : idxFrom p (l.drop k) k = if p x = true then (k : Int) else idxFrom p (l.drop (k + 1)) (k + 1) := by
  have hlt := (List.getElem?_eq_some_iff.1 h).1
  rw [List.drop_eq_getElem_cons hlt]
  have : l[k] = x := (List.getElem?_eq_some_iff.1 h).2
  rw [this]
  rfl
theorem idxFrom_any {α : Type} (p : α → Bool) : ∀ (l : List α) (i : Nat), (l.any p = false ∧ idxFrom p l i = -1) ∨ (l.any p = true ∧ ∃ j x, l[j]? = some x ∧ p x = true ∧ idxFrom p l i = ((i + j : Nat) : Int) ∧ l.find? p = some x)
  | [], i => .inl ⟨rfl, rfl⟩
  | x :: l, i => by
    cases hp : p x with
    | true => exact .inr ⟨by simp [hp], 0, x, rfl, hp, by unfold idxFrom; rw [if_pos hp]; simp, by simp [hp]⟩
    | false =>
      have hu : idxFrom p (x :: l) i = idxFrom p l (i + 1) := by show (if p x = true then _ else _) = _; rw [hp, if_neg (by decide)]
      rcases idxFrom_any p l (i + 1) with ⟨h1, h2⟩ | ⟨h1, j, y, h2, h3, h4, h5⟩
      · exact .inl ⟨by simp [hp, h1], by rw [hu, h2]⟩
      · exact .inr ⟨by simp [hp, h1], j + 1, y, by simpa using h2, h3, by rw [hu, h4]; congr 1; omega, by simp [hp, h5]⟩
theorem idxI_any {α : Type} (p : α → Bool) (l : List α) : (l.any p = false ∧ idxI p l = -1) ∨ (l.any p = true ∧ ∃ (j : Nat) (x : α), l[j]? = some x ∧ p x = true ∧ idxI p l = (j : Int) ∧ l.find? p = some x) := by
  rcases idxFrom_any p l 0 with h | ⟨h1, j, x, h2, h3, h4, h5⟩
  · exact .inl h
  · exact .inr ⟨h1, j, x, h2, h3, by unfold idxI; simpa using h4, h5⟩
def eqT (a b : ByteArray) : Bool := a.toList == b.toList
theorem eqT_iff {a b : ByteArray} : eqT a b = true ↔ a = b := by
  unfold eqT
  rw [beq_iff_eq]
  constructor
  · intro h
    rw [ByteArray.toList_eq, ByteArray.toList_eq] at h
    have : a.data = b.data := Array.ext' h
    cases a; cases b; cases this; rfl
  · intro h; rw [h]
set_option maxHeartbeats 2000000 in
set_option maxRecDepth 100000 in
theorem index_calls (A : Option Addr) (c : Nat) (l : List ByteArray) (v : ByteArray) (w : World) (g : Kd.string.C w A l.length l) (hlc : l.length ≤ c) (hl : l.length ≤ 1000000000) : Calls Try.prog 70 #[.slice A l.length c, .string v] w fun e w' => e = .returned (.int .i64 (idxI (eqT v) l)) ∧ w = w' := by
  have hr := Kd.reads_of_C (d := (ByteArray.mk #[])) g
  obtain ⟨X, hX⟩ : ∃ X, idxI (eqT v) l = X := ⟨_, rfl⟩
  rw [hX]
  have HX : Aside (idxFrom (eqT v) (l.drop 0) 0 = X) := ⟨hX⟩
  obtain ⟨n, hn⟩ : ∃ n, l.length = n := ⟨_, rfl⟩
  have HR := Aside.mk (And.intro hr.2.2 hn)
  rw [hn] at hlc hl ⊢
  clear hr g hX hn
  go_enter Try.func70, Try.ntmps70
  go_wp2_with fail
  go_loop [8] (fun v8 => ∃ k : Nat, k ≤ n ∧ v8 = .int .i64 k ∧ Aside (idxFrom (eqT v) (l.drop k) k = X)) (fun v8 => n - (intOf v8).toNat)
  case atStart => exact ⟨0, by omega, rfl, HX⟩
  case round =>
    obtain ⟨k, hk, rfl, HI⟩ := hrel
    by_cases hkn : k < n
    · obtain ⟨x, hx⟩ : ∃ x, l[k]? = some x := ⟨_, List.getElem?_eq_getElem (by rw [HR.out.2]; exact hkn)⟩
      obtain ⟨ad, rfl, hc⟩ := HR.out.1 (by rw [HR.out.2]; omega)
      have c0 : w.cell? (ad.add k) = some (.string x) := by rw [hc k (by rw [HR.out.2]; exact hkn), List.getD_eq_getElem?_getD, hx]; rfl
      have HS := Aside.mk (idxFrom_step (eqT v) hx)
      rw [HI.out] at HS
      cases he : eqT v x with
      | true =>
        have hE : Aside (X = (k : Int)) := ⟨by rw [HS.out, if_pos he]⟩
        have hb : (v.toList == x.toList) = true := he
        clear hc hx he HI HS
        go_wp2_with fail
        go_ret
        rw [hE.out]
        exact ⟨rfl, rfl⟩
      | false =>
        have hE : Aside (idxFrom (eqT v) (l.drop (k + 1)) (k + 1) = X) := ⟨by rw [HS.out, if_neg (by rw [he]; decide)]⟩
        have hb : (v.toList == x.toList) = false := he
        clear hc hx he HI HS
        go_wp2_with fail
        go_round
        case rel => exact ⟨k + 1, by omega, by go_num, hE⟩
        case measure => simp [intOf]; omega
    · obtain rfl : k = n := by omega
      have hE : Aside (X = -1) := ⟨by rw [← HI.out, List.drop_of_length_le (by rw [HR.out.2]; exact Nat.le_refl _)]; rfl⟩
      clear HI
      go_wp2_with fail
      go_ret
      rw [hE.out]
      exact ⟨rfl, rfl⟩
set_option maxHeartbeats 1000000 in
set_option maxRecDepth 100000 in
theorem contains_calls (A : Option Addr) (c : Nat) (l : List ByteArray) (v : ByteArray) (w : World) (g : Kd.string.C w A l.length l) (hlc : l.length ≤ c) (hl : l.length ≤ 1000000000) : Calls Try.prog 40 #[.slice A l.length c, .string v] w fun e w' => e = .returned (.bool (l.any (eqT v))) ∧ w = w' := by
  have hi := index_calls A c l v w g hlc hl
  obtain ⟨n, hn⟩ : ∃ n, l.length = n := ⟨_, rfl⟩
  rw [hn] at hi ⊢
  rcases idxI_any (eqT v) l with ⟨h1, h2⟩ | ⟨h1, j, x, -, -, h2, -⟩
  · rw [h2] at hi
    rw [h1]
    clear g h1 h2 hn hl hlc
    go_enter Try.func40, Try.ntmps40
    go_wp2_with fail
    refine hi.mono ?_
    rintro e w1 ⟨rfl, rfl⟩
    go_wp2_with fail
    go_ret
    exact ⟨rfl, rfl⟩
  · rw [h2] at hi
    rw [h1]
    clear g h1 h2 hn hl hlc
    go_enter Try.func40, Try.ntmps40
    go_wp2_with fail
    refine hi.mono ?_
    rintro e w1 ⟨rfl, rfl⟩
    have hj : decide ((j : Int) ≥ 0) = true := by simp
    go_wp2_with fail
    go_ret
    exact ⟨by simp, rfl⟩
set_option maxHeartbeats 2000000 in
set_option maxRecDepth 100000 in
theorem indexf_calls (A : Option Addr) (c : Nat) (l : List En) (G K : Nat) (p : En → Bool) (w : World) (g : Kd.C k46 w A l.length l) (hlc : l.length ≤ c) (hl : l.length ≤ 1000000000) (hcl : ∀ (W : World) (x : En), Below w.heap.size w W → Calls Try.prog G #[.agg #[.string x.f0, .string x.f1, .int .i64 x.f2, .int .i64 x.f3], .pointer (some ⟨K, 0, none⟩)] W fun e w' => e = .returned (.bool (p x)) ∧ Below W.heap.size W w')
    (eg : ∀ args (w : World), (callFunc G args).run Try.prog w = .ok (.enter G args) w) : Calls Try.prog 41 #[.slice A l.length c, .func (Fn.func G) #[] #[.pointer (some ⟨K, 0, none⟩)]] w fun e w' => e = .returned (.int .i64 (idxI p l)) ∧ Below w.heap.size w w' := by
  obtain ⟨X, hX⟩ : ∃ X, idxI p l = X := ⟨_, rfl⟩
  rw [hX]
  have HX : Aside (idxFrom p (l.drop 0) 0 = X) := ⟨hX⟩
  obtain ⟨n, hn⟩ : ∃ n, l.length = n := ⟨_, rfl⟩
  have HR := Aside.mk (And.intro g (And.intro hn hcl))
  rw [hn] at hlc hl ⊢
  clear g hX hn hcl
  go_enter Try.func41, Try.ntmps41
  go_wp2_with fail
  go_loopw [8] (fun v8 w' => ∃ k : Nat, k ≤ n ∧ v8 = .int .i64 k ∧ Aside (idxFrom p (l.drop k) k = X ∧ Below w.heap.size w w')) (fun v8 _ => n - (intOf v8).toNat)
  case atStart => exact ⟨0, by omega, rfl, ⟨HX.out, Below.refl _ _⟩⟩
  case round =>
    rename_i v8 wr
    obtain ⟨k, hk, rfl, HI⟩ := hrel
    by_cases hkn : k < n
    · obtain ⟨x, hx⟩ : ∃ x, l[k]? = some x := ⟨_, List.getElem?_eq_getElem (by rw [HR.out.2.1]; exact hkn)⟩
      obtain ⟨ad, rfl, hf0, hf1, hf2, hf3⟩ := at_T46 (Kd.C_below HR.out.1 HI.out.2) (k : Int) (by omega) (by rw [HR.out.2.1]; omega)
      rw [rd_getE hx] at hf0 hf1 hf2 hf3
      simp only [Int.toNat_natCast] at hf0 hf1 hf2 hf3
      have HS := Aside.mk (idxFrom_step p hx)
      rw [HI.out.1] at HS
      have hc := HR.out.2.2 wr x HI.out.2
      cases he : p x with
      | true =>
        rw [he] at hc
        have hE : Aside (X = (k : Int)) := ⟨by rw [HS.out, if_pos he]⟩
        clear hx he HS
        go_wp2_with fail
        refine hc.mono ?_
        rintro e w1 ⟨rfl, hb⟩
        have HB := Aside.mk (HI.out.2.trans (hb.mono HI.out.2.size))
        clear hb HI
        go_wp2_with fail
        go_ret
        rw [hE.out]
        exact ⟨rfl, HB.out⟩
      | false =>
        rw [he] at hc
        have hE : Aside (idxFrom p (l.drop (k + 1)) (k + 1) = X) := ⟨by rw [HS.out, if_neg (by rw [he]; decide)]⟩
        clear hx he HS
        go_wp2_with fail
        refine hc.mono ?_
        rintro e w1 ⟨rfl, hb⟩
        have HB := Aside.mk (And.intro hE.out (HI.out.2.trans (hb.mono HI.out.2.size)))
        clear hb HI
        go_wp2_with fail
        go_roundw
        case rel => exact ⟨k + 1, by omega, by go_num, HB⟩
        case measure => simp [intOf]; omega
    · obtain rfl : k = n := by omega
      have hE : Aside (X = -1) := ⟨by rw [← HI.out.1, List.drop_of_length_le (by rw [HR.out.2.1]; exact Nat.le_refl _)]; rfl⟩
      go_wp2_with fail
      go_ret
      rw [hE.out]
      exact ⟨rfl, HI.out.2⟩
set_option maxHeartbeats 1000000 in
set_option maxRecDepth 100000 in
theorem containsf_calls (A : Option Addr) (c : Nat) (l : List En) (G K : Nat) (p : En → Bool) (w : World) (g : Kd.C k46 w A l.length l) (hlc : l.length ≤ c) (hl : l.length ≤ 1000000000) (hcl : ∀ (W : World) (x : En), Below w.heap.size w W → Calls Try.prog G #[.agg #[.string x.f0, .string x.f1, .int .i64 x.f2, .int .i64 x.f3], .pointer (some ⟨K, 0, none⟩)] W fun e w' => e = .returned (.bool (p x)) ∧ Below W.heap.size W w')
    (eg : ∀ args (w : World), (callFunc G args).run Try.prog w = .ok (.enter G args) w) : Calls Try.prog 38 #[.slice A l.length c, .func (Fn.func G) #[] #[.pointer (some ⟨K, 0, none⟩)]] w fun e w' => e = .returned (.bool (l.any p)) ∧ Below w.heap.size w w' := by
  have hi := indexf_calls A c l G K p w g hlc hl hcl eg
  obtain ⟨n, hn⟩ : ∃ n, l.length = n := ⟨_, rfl⟩
  rw [hn] at hi ⊢
  rcases idxI_any p l with ⟨h1, h2⟩ | ⟨h1, j, x, -, -, h2, -⟩
  · rw [h2] at hi
    rw [h1]
    clear g h1 h2 hn hl hlc hcl
    go_enter Try.func38, Try.ntmps38
    go_wp2_with fail
    refine hi.mono ?_
    rintro e w1 ⟨rfl, hb⟩
    have HB := Aside.mk hb
    clear hb
    go_wp2_with fail
    go_ret
    exact ⟨rfl, HB.out⟩
  · rw [h2] at hi
    rw [h1]
    clear g h1 h2 hn hl hlc hcl
    go_enter Try.func38, Try.ntmps38
    go_wp2_with fail
    refine hi.mono ?_
    rintro e w1 ⟨rfl, hb⟩
    have HB := Aside.mk hb
    clear hb
    go_wp2_with fail
    go_ret
    exact ⟨by simp, HB.out⟩
set_option maxHeartbeats 1000000 in
set_option maxRecDepth 100000 in
theorem learn1_calls (A : Option Addr) (c : Nat) (names : List ByteArray) (x : En) (K : Nat) (w : World) (g : Kd.string.C w A names.length names) (hlc : names.length ≤ c) (hl : names.length ≤ 1000000000) (hK : w.heap[K]? = some (.cells #[.slice A names.length c] 29 (0, 0))) : Calls Try.prog 39 #[.agg #[.string x.f0, .string x.f1, .int .i64 x.f2, .int .i64 x.f3], .pointer (some ⟨K, 0, none⟩)] w fun e w' => e = .returned (.bool (!names.any (eqT x.f0))) ∧ Below w.heap.size w w' := by
  obtain ⟨x0, x1, x2, x3⟩ := x
  dsimp only
  have hA := (Below.refl w.heap.size w).alloc (Nat.le_refl _) (Obj.cells #[Value.string x0, Value.string x1, Value.int IntKind.i64 x2, Value.int IntKind.i64 x3] 46 (0, 0))
  have hc := contains_calls A c names x0 _ (Kd.C_below g hA) hlc hl
  have t0 : w.cell? ⟨K, 0, none⟩ = some (.slice A names.length c) := cell_at hK 0
  have h1 := lt_of_block hK
  have h2 : ¬ K = w.heap.size := by omega
  have HA := Aside.mk hA
  obtain ⟨n, hn⟩ : ∃ n, names.length = n := ⟨_, rfl⟩
  rw [hn] at hc t0 hlc hl
  obtain ⟨b, hb⟩ : ∃ b, names.any (eqT x0) = b := ⟨_, rfl⟩
  rw [hb] at hc ⊢
  clear hK g hA hn hb
  go_enter Try.func39, Try.ntmps39
  go_wp2_with fail
  refine hc.mono ?_
  rintro e w1 ⟨rfl, rfl⟩
  go_wp2_with fail
  go_ret
  exact ⟨rfl, HA.out⟩
set_option maxHeartbeats 1000000 in
set_option maxRecDepth 100000 in
theorem learn2_calls (k : ByteArray) (x : En) (K : Nat) (w : World) (hK : w.heap[K]? = some (.cells #[.string k] 9 (0, 0))) : Calls Try.prog 42 #[.agg #[.string x.f0, .string x.f1, .int .i64 x.f2, .int .i64 x.f3], .pointer (some ⟨K, 0, none⟩)] w fun e w' => e = .returned (.bool (eqT x.f0 k)) ∧ Below w.heap.size w w' := by
  obtain ⟨x0, x1, x2, x3⟩ := x
  dsimp only
  have t0 : w.cell? ⟨K, 0, none⟩ = some (.string k) := cell_at hK 0
  have h1 := lt_of_block hK
  have h2 : ¬ K = w.heap.size := by omega
  clear hK
  go_enter Try.func42, Try.ntmps42
  go_wp2_with fail
  go_ret
  exact ⟨rfl, (Below.refl _ _).alloc (Nat.le_refl _) _⟩
end Go.Proofs.Ytagkobpbhfkmdaa.C
/-! from CE -/
namespace Go.Proofs.Ytagkobpbhfkmdaa.C
open Go.RowKit Go.ChangeMaps Go.Proofs.Ytagkobpbhfkmdaa.Q Go.Proofs.YtagkobpbhfkmdaaW.PrintLast Go.Proofs.YtagkobpbhfkmdaaW.PrintWords
set_option linter.unusedVariables false
set_option linter.unusedSimpArgs false
def entOfE (x : En) : Ent := ⟨x.f0, x.f1, x.f2, x.f3⟩
def fndF (rev : Int) (l : List En) (k : ByteArray) : Fct := match l.find? (fun x => eqT x.f0 k) with | some x => ⟨rev, true, entOfE x⟩ | none => ⟨rev, false, entZ⟩
def addN (u rev : Int) (l : List En) (f : Fcts) (k : ByteArray) : Fcts := if rev ≤ asofM f u k then f else upd f k (some (fndF rev l k))
def learnM (f : Fcts) (u rev : Int) (names : List ByteArray) (l : List En) : Fcts × Int :=
  if ofOK l rev = true then (if l.any (fun x => !names.any (eqT x.f0)) = true then (f, 4) else (names.foldl (addN u rev l) f, 0)) else (f, 4)
theorem cell_blk {w w' : World} {q : Addr} (h : w'.heap[q.block]? = w.heap[q.block]?) : w'.cell? q = w.cell? q := by simp [World.cell?, h]
def ce15T : Bool × List (List Nat × List Nat) := (true, [([], []), ([], []), ([0, 1], [0, 1]), ([2], [2]), ([], []), ([4], [4]), ([0, 1, 2, 3, 4, 5], []), ([6, 3, 5, 0, 1, 2, 3, 4, 5], [3, 6])])
def ce15B : List Nat := [0, 0, 3, 7, 0, 16, 63, 127]
theorem ce15_tab : rtab .any (opsOf Try.f18 15) = ce15T := by kernel_rfl
theorem ce15_bits : waitsOk ce15T.2 ce15B = true := by kernel_rfl
set_option maxHeartbeats 8000000 in
set_option maxRecDepth 100000 in
theorem learn_calls0 (C M : Nat) (f : Fcts) (u rev : Int) (A B : Option Addr) (c d : Nat) (names : List ByteArray) (l : List En) (w : World) (h : CA w C M f u) (gn : Kd.string.C w A names.length names) (hnc : names.length ≤ c) (hnl : names.length ≤ 1000000000) (g : Kd.C k46 w B l.length l) (hlc : l.length ≤ d) (hl : l.length ≤ 1000000000) (hsz : ∀ x ∈ l, x.f0.size ≤ 100000) (hA : 0 < names.length → ∀ ad, A = some ad → ad.block ≠ C ∧ ad.block ≠ M) (hB : ∀ ad, B = some ad → ad.block ≠ C ∧ ad.block ≠ M) :
    Calls Try.prog 18 #[.pointer (some ⟨C, 0, none⟩), .slice A names.length c, .slice B l.length d, .int .i64 rev] w fun e w' => e = .returned (.int .i64 (learnM f u rev names l).2) ∧ CA w' C M (learnM f u rev names l).1 u ∧ Fr (fun k => k = C ∨ k = M) w w' := by
  have hbA : Below w.heap.size w (w.alloc (Obj.cells #[.slice A names.length c] 29 (0, 0))) := (Below.refl _ _).alloc (Nat.le_refl _) _
  have hof := of_calls B d l rev _ (Kd.C_below g hbA) hlc hl (fun y hy => by have := hsz y hy; omega)
  have hK := heap_alloc_new w (Obj.cells #[.slice A names.length c] 29 (0, 0))
  have hA1 : (w.alloc (Obj.cells #[.slice A names.length c] 29 (0, 0))).heap.size = w.heap.size + 1 := by simp
  have HH := Aside.mk (And.intro h (And.intro gn (And.intro g (And.intro hA hB))))
  obtain ⟨X, hX⟩ : ∃ X, learnM f u rev names l = X := ⟨_, rfl⟩
  rw [hX]
  unfold learnM at hX
  have HX := Aside.mk hX
  obtain ⟨K, hKK⟩ : ∃ K, w.heap.size = K := ⟨_, rfl⟩
  rw [hKK] at hK hA1
  have hlC := h.ltC
  have hlM := h.ltM
  rw [hKK] at hlC hlM
  obtain ⟨m, hm⟩ : ∃ m, l.length = m := ⟨_, rfl⟩
  obtain ⟨n, hn⟩ : ∃ n, names.length = n := ⟨_, rfl⟩
  have HN := Aside.mk (And.intro hm hn)
  have HL := Aside.mk (And.intro hnc (And.intro hnl (And.intro hlc hl)))
  have HA := Aside.mk (And.intro hbA hK)
  rw [hm] at hof hlc hl ⊢
  rw [hn] at hof hnc hnl hK hA1 ⊢
  clear h g gn hA hB hX hm hn hsz hK hbA
  go_enter Try.func18, Try.ntmps18
  go_wp2_with fail
  refine hof.mono ?_
  rintro e w1 ⟨hres, hb⟩
  have hbb : Below (w.alloc (Obj.cells #[.slice A names.length c] 29 (0, 0))).heap.size (w.alloc (Obj.cells #[.slice A names.length c] 29 (0, 0))) w1 := by rw [HN.out.2]; exact hb
  have hb1 := HA.out.1.trans (hbb.mono (by simp))
  have hK1 := (hbb.block K (by simp [hKK])).trans HA.out.2
  have hC1 := HH.out.1.below hb1
  clear hof hb hbb
  rcases hres with ⟨hok, Tb, v, rfl, -, -, -⟩ | ⟨hok, rfl⟩
  · have hx := HX.out
    rw [if_pos hok] at hx
    have HX1 := Aside.mk hx
    have hcf := containsf_calls B d l 39 K (fun x => !names.any (eqT x.f0)) w1 (Kd.C_below HH.out.2.2.1 hb1) HL.out.2.2.1 HL.out.2.2.2 (fun W x hW => learn1_calls A c names x K W (Kd.C_below (Kd.C_below HH.out.2.1 hb1) hW) HL.out.1 HL.out.2.1 ((hW.block K (lt_of_block hK1)).trans hK1)) (fun _ _ => rfl)
    rw [HN.out.1] at hcf
    have H1 := Aside.mk (And.intro hC1 (And.intro hK1 hb1))
    cases hany : l.any (fun x => !names.any (eqT x.f0)) with
    | true =>
      rw [hany] at hcf
      have HX2 : Aside ((f, (4 : Int)) = X) := ⟨by rw [← HX1.out, if_pos hany]⟩
      clear hC1 hK1 hb1 hx hany
      go_wp2_with fail
      refine hcf.mono ?_
      rintro e w2 ⟨rfl, hb2⟩
      have H2 := Aside.mk (And.intro (H1.out.1.below hb2) ((Fr.of_new (F := fun k => k = C ∨ k = M) H1.out.2.2).trans (Fr.of_new hb2) (fun _ _ h => h)))
      clear hb2
      go_wp2_with fail
      go_ret
      rw [← HX2.out]
      exact ⟨rfl, H2.out.1, H2.out.2⟩
    | false =>
      rw [hany] at hcf
      have HX2 : Aside ((names.foldl (addN u rev l) f, (0 : Int)) = X) := ⟨by rw [← HX1.out, if_neg (by rw [hany]; decide)]⟩
      clear hC1 hK1 hb1 hx hany HX1 HX
      go_wp2_with fail
      refine hcf.mono ?_
      rintro e w2 ⟨rfl, hb2⟩
      have hK2 := (hb2.block K (lt_of_block H1.out.2.1)).trans H1.out.2.1
      rw [HN.out.2] at hK2
      have H2 := Aside.mk (And.intro (H1.out.1.below hb2) (And.intro hK2 ((Fr.of_new (F := fun k => k = C ∨ k = M) H1.out.2.2).trans (Fr.of_new hb2) (fun _ _ h => h))))
      have q0 : w2.cell? ⟨K, 0, none⟩ = some (.slice A n c) := cell_at hK2 0
      clear hb2 hK2 hcf H1
      go_wp2_with fail
      go_loopw [31] (fun v31 w' => ∃ k : Nat, k ≤ n ∧ v31 = .int .i64 k ∧ Aside (CA w' C M ((names.take k).foldl (addN u rev l) f) u ∧ Fr (fun k => k = C ∨ k = M) w w')) (fun v31 _ => n - (intOf v31).toNat)
      case atStart => exact ⟨0, by omega, rfl, ⟨H2.out.1, H2.out.2.2⟩⟩
      case round =>
        rename_i v31 wr
        obtain ⟨k, hk, rfl, HI⟩ := hrel
        obtain ⟨F, hF⟩ : ∃ F, (names.take k).foldl (addN u rev l) f = F := ⟨_, rfl⟩
        rw [hF] at HI
        have HFK := Aside.mk hF
        clear hF
        by_cases hkn : k < n
        · have hrowN : Kd.string.C wr A names.length names := row_fr (F := fun k => k = C ∨ k = M) (fun h => h) HH.out.2.1 HI.out.2 (fun ad e h => by have := HH.out.2.2.2.1 (by rw [HN.out.2]; omega) ad e; rcases h with h | h; exact this.1 h; exact this.2 h)
          have hrowL : Kd.C k46 wr B l.length l := row_fr (F := fun k => k = C ∨ k = M) (fun h => h) HH.out.2.2.1 HI.out.2 (fun ad e h => by have := HH.out.2.2.2.2 ad e; rcases h with h | h; exact this.1 h; exact this.2 h)
          obtain ⟨x, hx⟩ : ∃ x, names[k]? = some x := ⟨_, List.getElem?_eq_getElem (by rw [HN.out.2]; exact hkn)⟩
          obtain ⟨ad, he, hc0⟩ := (Kd.reads_of_C (d := (ByteArray.mk #[])) hrowN).2.2 (by rw [HN.out.2]; omega)
          have c0 : wr.cell? (ad.add k) = some (.string x) := by rw [hc0 k (by rw [HN.out.2]; exact hkn), List.getD_eq_getElem?_getD, hx]; rfl
          have HX' := Aside.mk (foldl_take_succ (addN u rev l) f hx)
          rw [HFK.out] at HX'
          have hE := heap_alloc_new wr (Obj.cells #[Value.string x] 9 (0, 0))
          have hbE : Below wr.heap.size wr (wr.alloc (Obj.cells #[Value.string x] 9 (0, 0))) := (Below.refl wr.heap.size wr).alloc (Nat.le_refl _) (Obj.cells #[Value.string x] 9 (0, 0))
          have hC1 := HI.out.1.below hbE
          have hF1 := HI.out.2.alloc (Obj.cells #[Value.string x] 9 (0, 0))
          have hL1 := Kd.C_below hrowL hbE
          obtain ⟨b0, hb0⟩ : ∃ b0, wr.heap.size = b0 := ⟨_, rfl⟩
          rw [hb0] at hE
          have hs1 : (wr.alloc (Obj.cells #[Value.string x] 9 (0, 0))).heap.size = b0 + 1 := by simp [hb0]
          have has := casof_calls C M F u x _ hC1
          obtain ⟨a, ha⟩ : ∃ a, asofM F u x = a := ⟨_, rfl⟩
          rw [ha] at has
          have HAS := Aside.mk ha
          have HE1 := Aside.mk (And.intro hC1 (And.intro hE (And.intro hF1 hL1)))
          subst he
          have HHA := Aside.mk HH
          clear hrowN hrowL hc0 hx hE hbE hC1 hF1 hL1 ha
          go_wp2_with fail
          refine has.mono ?_
          generalize (wr.alloc (Obj.cells #[Value.string x] 9 (0, 0))) = w3 at *
          rintro e w4 ⟨rfl, hb4⟩
          have hE4 := (hb4.block b0 (by omega)).trans HE1.out.2.1
          have hC4 := HE1.out.1.below hb4
          have hF4 := HE1.out.2.2.1.trans (Fr.of_new (F := fun k => k = C ∨ k = M) hb4) (fun _ _ h => h)
          have hL4 := Kd.C_below HE1.out.2.2.2 hb4
          have hs4 := hb4.size
          rw [hs1] at hs4
          clear has hb4 HE1 c0
          by_cases hra : rev ≤ a
          · have HZ : Aside ((names.take (k + 1)).foldl (addN u rev l) f = F) := ⟨by rw [HX'.out]; unfold addN; rw [HAS.out, if_pos hra]⟩
            have HI5 : Aside (CA w4 C M ((names.take (k + 1)).foldl (addN u rev l) f) u ∧ Fr (fun k => k = C ∨ k = M) w w4) := ⟨by rw [HZ.out]; exact hC4, hF4⟩
            clear HI HFK HX' HZ hE4 hC4 hF4 hL4
            go_wp2_with fail
            go_roundw
            case rel => exact ⟨k + 1, by omega, by go_num, HI5⟩
            case measure => simp [intOf]; omega
          · have hra' : a < rev := by omega
            have HZ : Aside ((names.take (k + 1)).foldl (addN u rev l) f = upd F x (some (fndF rev l x))) := ⟨by rw [HX'.out]; unfold addN; rw [HAS.out, if_neg hra]⟩
            have hG := heap_alloc_new w4 (Obj.cells #[Value.int IntKind.i64 rev, Value.bool false, Value.string (ByteArray.mk #[]), Value.string (ByteArray.mk #[]), Value.int IntKind.i64 0, Value.int IntKind.i64 0] 87 (0, 0))
            have hbG : Below w4.heap.size w4 (w4.alloc (Obj.cells #[Value.int IntKind.i64 rev, Value.bool false, Value.string (ByteArray.mk #[]), Value.string (ByteArray.mk #[]), Value.int IntKind.i64 0, Value.int IntKind.i64 0] 87 (0, 0))) := (Below.refl w4.heap.size w4).alloc (Nat.le_refl _) (Obj.cells #[Value.int IntKind.i64 rev, Value.bool false, Value.string (ByteArray.mk #[]), Value.string (ByteArray.mk #[]), Value.int IntKind.i64 0, Value.int IntKind.i64 0] 87 (0, 0))
            have hE5 := blk_al hE4 (Obj.cells #[Value.int IntKind.i64 rev, Value.bool false, Value.string (ByteArray.mk #[]), Value.string (ByteArray.mk #[]), Value.int IntKind.i64 0, Value.int IntKind.i64 0] 87 (0, 0))
            have hC5 := hC4.below hbG
            have hF5 := hF4.alloc (Obj.cells #[Value.int IntKind.i64 rev, Value.bool false, Value.string (ByteArray.mk #[]), Value.string (ByteArray.mk #[]), Value.int IntKind.i64 0, Value.int IntKind.i64 0] 87 (0, 0))
            have hL5 := Kd.C_below hL4 hbG
            obtain ⟨b1, hb1⟩ : ∃ b1, w4.heap.size = b1 := ⟨_, rfl⟩
            rw [hb1] at hG hs4
            have hwb1 : w.heap.size ≤ b1 := by rw [← hb1]; exact hF4.size
            have hs5 : (w4.alloc (Obj.cells #[Value.int IntKind.i64 rev, Value.bool false, Value.string (ByteArray.mk #[]), Value.string (ByteArray.mk #[]), Value.int IntKind.i64 0, Value.int IntKind.i64 0] 87 (0, 0))).heap.size = b1 + 1 := by simp [hb1]
            have hix := indexf_calls B d l 42 b0 (fun y => eqT y.f0 x) _ hL5 HL.out.2.2.1 HL.out.2.2.2 (fun W y hW => learn2_calls x y b0 W ((hW.block b0 (lt_of_block hE5)).trans hE5)) (fun _ _ => rfl)
            rw [HN.out.1] at hix
            have H5 := Aside.mk (And.intro hC5 (And.intro hE5 (And.intro hF5 (And.intro hL5 hG))))
            clear hE4 hC4 hF4 hL4 hbG hE5 hC5 hF5 hL5 hG HI
            go_wp2_with fail
            refine hix.mono ?_
            generalize (w4.alloc (Obj.cells #[Value.int IntKind.i64 rev, Value.bool false, Value.string (ByteArray.mk #[]), Value.string (ByteArray.mk #[]), Value.int IntKind.i64 0, Value.int IntKind.i64 0] 87 (0, 0))) = w5 at *
            rintro e w6 ⟨rfl, hb6⟩
            have hE6 := (hb6.block b0 (by omega)).trans H5.out.2.1
            have hG6 := (hb6.block b1 (by omega)).trans H5.out.2.2.2.2
            have hC6 := H5.out.1.below hb6
            have hF6 := H5.out.2.2.1.trans (Fr.of_new (F := fun k => k = C ∨ k = M) hb6) (fun _ _ h => h)
            have hL6 := Kd.C_below H5.out.2.2.2.1 hb6
            have hs6 := hb6.size
            rw [hs5] at hs6
            have hb1C : b1 ≠ C := fun e => by
              have h1 := hC6.box
              rw [← e, hG6] at h1
              have := (Obj.cells.injEq _ _ _ _ _ _).mp (Option.some.inj h1)
              exact absurd this.2.1 (by decide)
            have hb1M : b1 ≠ M := fun e => by
              obtain ⟨es, cc, hm, hg⟩ := hC6.map
              rw [← e, hG6] at hm
              cases hm
            clear hb6 hix H5
            have p0 : w6.cell? ⟨C, 0, none⟩ = some (.map (some M)) := cell_at hC6.box 0
            have p1 : w6.cell? ⟨b0, 0, none⟩ = some (.string x) := cell_at hE6 0
            rcases idxI_any (fun y : En => eqT y.f0 x) l with ⟨hno, hi⟩ | ⟨hyes, j, y, hj, hpy, hi, hfd⟩
            · rw [hi]
              have hfn : fndF rev l x = ⟨rev, false, entZ⟩ := by
                have : l.find? (fun y => eqT y.f0 x) = none := by
                  rw [List.find?_eq_none]
                  intro y hy hp
                  rw [List.any_eq_false] at hno
                  exact hno y hy hp
                unfold fndF
                rw [this]
              obtain ⟨o2, hr2, hC7, hF7⟩ := (show CA w6.drew C M F u from hC6.keep rfl rfl).stored x ⟨rev, false, entZ⟩
              replace hr2 : (Instr.mapUpdate 77 (.map (some M)) (.string x) (.agg #[.int .i64 rev, .bool false, .string (ByteArray.mk #[]), .string (ByteArray.mk #[]), .int .i64 0, .int .i64 0])).run Try.prog w6.drew = .ok () (setBlock w6.drew M o2) := hr2
              have HI7 : Aside (CA (setBlock w6.drew M o2) C M ((names.take (k + 1)).foldl (addN u rev l) f) u ∧ Fr (fun k => k = C ∨ k = M) w (setBlock w6.drew M o2)) := ⟨by rw [HZ.out, hfn]; exact hC7, hF6.drew.trans (hF7.mono (G := fun k => k = C ∨ k = M) (fun _ h => .inr h)) (fun _ _ h => h)⟩
              have v0 : w6.cell? ⟨b1, 0, none⟩ = some (.int .i64 rev) := cell_at hG6 0
              have v1 : w6.cell? ⟨b1, 1, none⟩ = some (.bool false) := cell_at hG6 1
              have v2 : w6.cell? ⟨b1, 2, none⟩ = some (.string (ByteArray.mk #[])) := cell_at hG6 2
              have v3 : w6.cell? ⟨b1, 3, none⟩ = some (.string (ByteArray.mk #[])) := cell_at hG6 3
              have v4 : w6.cell? ⟨b1, 4, none⟩ = some (.int .i64 0) := cell_at hG6 4
              have v5 : w6.cell? ⟨b1, 5, none⟩ = some (.int .i64 0) := cell_at hG6 5
              clear hE6 hG6 hC6 hF6 hL6 hC7 hF7 hi hno hfn HZ HX' HFK
              go_upto_region 16 with fail
              go_still_tail 6, (by kernel_rfl)
              go_wp2_with fail
              go_roundw
              case rel => exact ⟨k + 1, by omega, by go_num, HI7⟩
              case measure => simp [intOf]; omega
            · rw [hi]
              have hfn : fndF rev l x = ⟨rev, true, entOfE y⟩ := by unfold fndF; rw [hfd]
              obtain ⟨bd, hBe, hf0, hf1, hf2, hf3⟩ := at_T46 hL6 (j : Int) (by omega) (by have := (List.getElem?_eq_some_iff.1 hj).1; omega)
              rw [rd_getE hj] at hf0 hf1 hf2 hf3
              simp only [Int.toNat_natCast] at hf0 hf1 hf2 hf3
              have hjm : j < m := by rw [← HN.out.1]; exact (List.getElem?_eq_some_iff.1 hj).1
              obtain ⟨y0, y1, y2, y3⟩ := y
              dsimp only at hf0 hf1 hf2 hf3 hfn
              have hbd : (bd.add (j * 4)).block ≠ b1 := fun e => by
                have h1 := Kd.C_lt (by rw [hBe] at HH; exact HH.out.2.2.1) (by rw [HN.out.1]; omega) (by decide)
                have h2 : (bd.add (j * 4)).block = bd.block := by first | exact add_block _ _ | exact Kd.add_block _ _ | simp
                omega
              have hL7 := Aside.mk (And.intro hC6 (And.intro hE6 (And.intro hF6 hG6)))
              have t0 : w6.drew.cell? (bd.add (j * 4)) = some (.string y0) ∧ w6.drew.cell? ⟨(bd.add (j * 4)).block, (bd.add (j * 4)).off + 1, none⟩ = some (.string y1) ∧ w6.drew.cell? ⟨(bd.add (j * 4)).block, (bd.add (j * 4)).off + 2, none⟩ = some (.int .i64 y2) ∧ w6.drew.cell? ⟨(bd.add (j * 4)).block, (bd.add (j * 4)).off + 3, none⟩ = some (.int .i64 y3) := ⟨hf0, hf1, hf2, hf3⟩
              have hG6' : w6.drew.heap[b1]? = some (Obj.cells #[Value.int IntKind.i64 rev, Value.bool false, Value.string (ByteArray.mk #[]), Value.string (ByteArray.mk #[]), Value.int IntKind.i64 0, Value.int IntKind.i64 0] 87 (0, 0)) := hG6
              have z1 : w6.drew.cell? ⟨b1, 1, none⟩ = some (.bool false) := cell_at hG6' 1
              have u1 : w6.drew.frozen? ⟨b1, 1, none⟩ = false := free_at hG6' 1
              subst hBe
              clear hE6 hG6 hC6 hF6 hL6 hi hf0 hf1 hf2 hf3 hpy hyes hfd hj p0 p1
              go_upto_region 15 with fail
              refine start_ (n := 8) (S := (fun w' => w'.cell? (bd.add (j * 4)) = some (.string y0) ∧ w'.cell? ⟨(bd.add (j * 4)).block, (bd.add (j * 4)).off + 1, none⟩ = some (.string y1) ∧ w'.cell? ⟨(bd.add (j * 4)).block, (bd.add (j * 4)).off + 2, none⟩ = some (.int .i64 y2) ∧ w'.cell? ⟨(bd.add (j * 4)).block, (bd.add (j * 4)).off + 3, none⟩ = some (.int .i64 y3))) (ds := [7]) #[false, false, false, false, false, false, false, false] (by kernel_rfl) rfl rfl t0 (fun hHeld => ?_); refine with_tabW ce15_tab ce15_bits (fun HT_ HW_ => ?_)
              refine pure_ (i := 0) (N := (some 47)) (v := ?_) (a' := ?_) #[true, false, false, false, false, false, false, false] rfl rfl (any_of HT_.out (by kernel_rfl)) (fun _ _ _ h => h) (Or.inl ⟨by rfl, ?_⟩) ?_ ?_
              rotate_left
              · intro w'
                go_simp
                with_reducible rfl
              rotate_left
              · simp only [Act.put, List.setIfInBounds_toArray, List.set_cons_zero, List.set_cons_succ, i64_w, i32_w]
                rfl
              refine pure_ (i := 1) (N := (some 48)) (v := ?_) (a' := ?_) #[true, true, false, false, false, false, false, false] rfl rfl (any_of HT_.out (by kernel_rfl)) (fun _ _ _ h => h) (Or.inl ⟨by rfl, ?_⟩) ?_ ?_
              rotate_left
              · intro w'
                go_simp
                with_reducible rfl
              rotate_left
              · simp only [Act.put, List.setIfInBounds_toArray, List.set_cons_zero, List.set_cons_succ, i64_w, i32_w]
                rfl
              refine pure_ (i := 2) (N := (some 49)) (v := ?_) (a' := ?_) #[true, true, true, false, false, false, false, false] rfl rfl (any_of HT_.out (by kernel_rfl)) (fun _ _ _ h => h) (Or.inl ⟨by rfl, ?_⟩) ?_ ?_
              rotate_left
              · intro w'
                go_simp
                with_reducible rfl
              rotate_left
              · simp only [Act.put, List.setIfInBounds_toArray, List.set_cons_zero, List.set_cons_succ, i64_w, i32_w]
                rfl
              refine take_ (i := 3) (N := (some 50)) (v := ?_) (a' := ?_) #[true, true, true, true, false, false, false, false] rfl rfl (take_ofW HT_.out HW_.out (by kernel_rfl)) (fun _ _ _ h => h) (Or.inl ⟨by rfl, ?_⟩) hHeld ?_ ?_
              rotate_left
              · rintro w' ⟨s1, s2, s3, s4⟩
                go_simp
                with_reducible rfl
              rotate_left
              · simp only [Act.put, List.setIfInBounds_toArray, List.set_cons_zero, List.set_cons_succ, i64_w, i32_w]
                rfl
              refine pure_ (i := 4) (N := (some 51)) (v := ?_) (a' := ?_) #[true, true, true, true, true, false, false, false] rfl rfl (any_of HT_.out (by kernel_rfl)) (fun _ _ _ h => h) (Or.inl ⟨by rfl, ?_⟩) ?_ ?_
              rotate_left
              · intro w'
                go_simp
                with_reducible rfl
              rotate_left
              · simp only [Act.put, List.setIfInBounds_toArray, List.set_cons_zero, List.set_cons_succ, i64_w, i32_w]
                rfl
              refine one_ (i := 5) (N := none) #[true, true, true, true, true, true, false, false] rfl rfl (one_of HT_.out (by kernel_rfl)) (by decide) (fun K9 hK => ?_)
              have hw7 : (w6.drew.setCell ⟨b1, 1, none⟩ (.bool true)).heap[b1]? = some (Obj.cells #[Value.int IntKind.i64 rev, Value.bool true, Value.string (ByteArray.mk #[]), Value.string (ByteArray.mk #[]), Value.int IntKind.i64 0, Value.int IntKind.i64 0] 87 (0, 0)) := by rw [heap_setCell_eq _ hG6']; rfl
              have hF7 := (Fr.refl (fun k => k = b1) w6.drew).setCell (p := ⟨b1, 1, none⟩) (.inl rfl) (.bool true)
              have hk7 : ∀ q : Addr, q.block ≠ b1 → (w6.drew.setCell ⟨b1, 1, none⟩ (.bool true)).cell? q = w6.drew.cell? q := fun q hq => cell_blk (Below.heap_setCell _ _ _ _ hq)
              refine skip_ (w1 := w6.drew.setCell ⟨b1, 1, none⟩ (.bool true)) (by rfl) rfl (by unfold execOp; go_simp) ?_
              have t7 := And.intro ((hk7 _ hbd).trans t0.1) (And.intro ((hk7 ⟨(bd.add (j * 4)).block, (bd.add (j * 4)).off + 1, none⟩ hbd).trans t0.2.1) (And.intro ((hk7 ⟨(bd.add (j * 4)).block, (bd.add (j * 4)).off + 2, none⟩ hbd).trans t0.2.2.1) ((hk7 ⟨(bd.add (j * 4)).block, (bd.add (j * 4)).off + 3, none⟩ hbd).trans t0.2.2.2)))
              refine hK.out _ _ t7 (fun hHeld => ?_)
              clear hK K9 hk7 t7 z1 u1
              generalize (w6.drew.setCell ⟨b1, 1, none⟩ (.bool true)) = w7 at *
              have z2 : w7.cell? ⟨b1, 2, none⟩ = some (.string (ByteArray.mk #[])) := cell_at hw7 2
              have z3 : w7.cell? ⟨b1, 3, none⟩ = some (.string (ByteArray.mk #[])) := cell_at hw7 3
              have z4 : w7.cell? ⟨b1, 4, none⟩ = some (.int .i64 0) := cell_at hw7 4
              have z5 : w7.cell? ⟨b1, 5, none⟩ = some (.int .i64 0) := cell_at hw7 5
              have u2 := free_at hw7 2
              have u3 := free_at hw7 3
              have u4 := free_at hw7 4
              have u5 := free_at hw7 5
              refine pure_ (i := 6) (N := (some 52)) (v := ?_) (a' := ?_) #[true, true, true, true, true, true, true, false] rfl rfl (any_of HT_.out (by kernel_rfl)) (fun _ _ _ h => h) (Or.inl ⟨by rfl, ?_⟩) ?_ ?_
              rotate_left
              · intro w'
                go_simp
                with_reducible rfl
              rotate_left
              · simp only [Act.put, List.setIfInBounds_toArray, List.set_cons_zero, List.set_cons_succ, i64_w, i32_w]
                rfl
              refine last_ (i := 7) (N := none) #[true, true, true, true, true, true, true, true] rfl rfl (one_of HT_.out (by kernel_rfl)) (by decide) (fun K9 hK => ?_)
              refine skip_ (w1 := ((((w7.setCell ⟨b1, 2, none⟩ (.string y0)).setCell ⟨b1, 3, none⟩ (.string y1)).setCell ⟨b1, 4, none⟩ (.int .i64 y2)).setCell ⟨b1, 5, none⟩ (.int .i64 y3))) (by rfl) rfl (by unfold execOp; go_simp) ?_
              have H8 : Aside (Fr (fun k => k = b1) w6.drew ((((w7.setCell ⟨b1, 2, none⟩ (.string y0)).setCell ⟨b1, 3, none⟩ (.string y1)).setCell ⟨b1, 4, none⟩ (.int .i64 y2)).setCell ⟨b1, 5, none⟩ (.int .i64 y3)) ∧ (((((w7.setCell ⟨b1, 2, none⟩ (.string y0)).setCell ⟨b1, 3, none⟩ (.string y1)).setCell ⟨b1, 4, none⟩ (.int .i64 y2)).setCell ⟨b1, 5, none⟩ (.int .i64 y3))).heap[b1]? = some (Obj.cells #[Value.int IntKind.i64 rev, Value.bool true, Value.string y0, Value.string y1, Value.int IntKind.i64 y2, Value.int IntKind.i64 y3] 87 (0, 0))) := ⟨(((hF7.setCell (p := ⟨b1, 2, none⟩) (.inl rfl) _).setCell (p := ⟨b1, 3, none⟩) (.inl rfl) _).setCell (p := ⟨b1, 4, none⟩) (.inl rfl) _).setCell (p := ⟨b1, 5, none⟩) (.inl rfl) _, by rw [heap_setCell_eq _ (heap_setCell_eq _ (heap_setCell_eq _ (heap_setCell_eq _ hw7)))]; rfl⟩
              generalize ((((w7.setCell ⟨b1, 2, none⟩ (.string y0)).setCell ⟨b1, 3, none⟩ (.string y1)).setCell ⟨b1, 4, none⟩ (.int .i64 y2)).setCell ⟨b1, 5, none⟩ (.int .i64 y3)) = w8 at *
              refine hK.out _ _ ?_
              clear hK K9 hF7 hw7 z2 z3 z4 z5 u2 u3 u4 u5
              refine done_ (done_of HT_.out (by kernel_rfl)) ?_
              clear HT_ HW_ hHeld
              clear t0
              have hEw : w8.heap[b0]? = some (Obj.cells #[Value.string x] 9 (0, 0)) := H8.out.1.heap (show w6.drew.heap[b0]? = _ from hL7.out.2.1) (fun e => by omega)
              have hCw : CA w8 C M F u := (hL7.out.1.keep (w' := w6.drew) rfl rfl).fr H8.out.1 (fun e => hb1C e.symm) (fun e => hb1M e.symm)
              have hFw : Fr (fun k => k = C ∨ k = M) w w8 := hL7.out.2.2.1.drew.then H8.out.1 (fun i e => .inr (by omega))
              have p0 : w8.cell? ⟨C, 0, none⟩ = some (.map (some M)) := cell_at hCw.box 0
              have p1 : w8.cell? ⟨b0, 0, none⟩ = some (.string x) := cell_at hEw 0
              have v0 : w8.cell? ⟨b1, 0, none⟩ = some (.int .i64 rev) := cell_at H8.out.2 0
              have v1 : w8.cell? ⟨b1, 1, none⟩ = some (.bool true) := cell_at H8.out.2 1
              have v2 : w8.cell? ⟨b1, 2, none⟩ = some (.string y0) := cell_at H8.out.2 2
              have v3 : w8.cell? ⟨b1, 3, none⟩ = some (.string y1) := cell_at H8.out.2 3
              have v4 : w8.cell? ⟨b1, 4, none⟩ = some (.int .i64 y2) := cell_at H8.out.2 4
              have v5 : w8.cell? ⟨b1, 5, none⟩ = some (.int .i64 y3) := cell_at H8.out.2 5
              obtain ⟨o2, hr2, hC7, hF7⟩ := (show CA w8.drew C M F u from hCw.keep rfl rfl).stored x ⟨rev, true, ⟨y0, y1, y2, y3⟩⟩
              replace hr2 : (Instr.mapUpdate 77 (.map (some M)) (.string x) (.agg #[.int .i64 rev, .bool true, .string y0, .string y1, .int .i64 y2, .int .i64 y3])).run Try.prog w8.drew = .ok () (setBlock w8.drew M o2) := hr2
              have HI7 : Aside (CA (setBlock w8.drew M o2) C M ((names.take (k + 1)).foldl (addN u rev l) f) u ∧ Fr (fun k => k = C ∨ k = M) w (setBlock w8.drew M o2)) := ⟨by rw [HZ.out, hfn]; exact hC7, hFw.drew.trans (hF7.mono (G := fun k => k = C ∨ k = M) (fun _ h => .inr h)) (fun _ _ h => h)⟩
              clear hEw hCw hFw hC7 hF7 hfn HZ HX' HFK hL7 H8
              go_upto_region 16 with fail
              go_still_tail 6, (by kernel_rfl)
              go_wp2_with fail
              go_roundw
              case rel => exact ⟨k + 1, by omega, by go_num, HI7⟩
              case measure => simp [intOf]; omega
        · obtain rfl : k = n := by omega
          have hfl : F = names.foldl (addN u rev l) f := by rw [← HFK.out, List.take_of_length_le (by rw [HN.out.2]; exact Nat.le_refl _)]
          have HX3 : Aside ((F, (0 : Int)) = X) := ⟨by rw [hfl]; exact HX2.out⟩
          clear hfl HX2
          go_wp2_with fail
          go_ret
          rw [← HX3.out]
          exact ⟨rfl, HI.out.1, HI.out.2⟩
  · have hx := HX.out
    rw [if_neg (by rw [hok]; decide)] at hx
    have HX := Aside.mk hx
    have H1 := Aside.mk (And.intro hC1 hb1)
    clear hx hC1 hK1 hb1 HA
    go_wp2_with fail
    go_ret
    rw [← HX.out]
    exact ⟨rfl, H1.out.1, Fr.of_new H1.out.2⟩
theorem learn_calls (C M : Nat) (f : Fcts) (u rev : Int) (A B : Option Addr) (c d : Nat) (names : List ByteArray) (l : List En) (w : World) (h : CA w C M f u) (gn : Kd.string.C w A names.length names) (hnc : names.length ≤ c) (hnl : names.length ≤ 1000000000) (g : Kd.C k46 w B l.length l) (hlc : l.length ≤ d) (hl : l.length ≤ 1000000000) (hsz : ∀ x ∈ l, x.f0.size ≤ 100000) (hA : ∀ ad, A = some ad → ad.block ≠ C ∧ ad.block ≠ M) (hB : ∀ ad, B = some ad → ad.block ≠ C ∧ ad.block ≠ M) :
    Calls Try.prog 18 #[.pointer (some ⟨C, 0, none⟩), .slice A names.length c, .slice B l.length d, .int .i64 rev] w fun e w' => e = .returned (.int .i64 (learnM f u rev names l).2) ∧ CA w' C M (learnM f u rev names l).1 u ∧ Fr (fun k => k = C ∨ k = M) w w' := by
  exact learn_calls0 C M f u rev A B c d names l w h gn hnc hnl g hlc hl hsz (fun _ => hA) hB
end Go.Proofs.Ytagkobpbhfkmdaa.C
/-! from CT -/
namespace Go.Proofs.Ytagkobpbhfkmdaa.C
open Go.RowKit Go.ChangeMaps Go.Proofs.Ytagkobpbhfkmdaa.Q Go.Proofs.YtagkobpbhfkmdaaW.PrintLast Go.Proofs.YtagkobpbhfkmdaaW.PrintWords
set_option linter.unusedVariables false
set_option linter.unusedSimpArgs false
theorem ent_info : (Try.prog.info? 46).map (fun i => (i.zero, i.size, i.bytes)) = some (some (.agg #[.string (ByteArray.mk #[]), .string (ByteArray.mk #[]), .int .i64 0, .int .i64 0]), 4, 48) := by kernel_rfl
end Go.Proofs.Ytagkobpbhfkmdaa.C
/-! from TO -/
namespace Go.Proofs.Ytagkobpbhfkmdaa.C
open Go.RowKit Go.Proofs.Ytagkobpbhfkmdaa.Q Go.Proofs.YtagkobpbhfkmdaaW.PrintLast Go.Proofs.YtagkobpbhfkmdaaW.PrintWords
set_option linter.unusedVariables false
end Go.Proofs.Ytagkobpbhfkmdaa.C
/-! from LG -/
namespace Go.Proofs.Ytagkobpbhfkmdaa.C
open Go.RowKit Go.Proofs.Ytagkobpbhfkmdaa.Q Go.Proofs.YtagkobpbhfkmdaaW.PrintLast Go.Proofs.YtagkobpbhfkmdaaW.PrintWords
set_option linter.unusedVariables false
theorem w64 {x : Int} (h : -9223372036854775808 ≤ x ∧ x < 9223372036854775808) : wrap64 x = x := by unfold wrap64; omega
end Go.Proofs.Ytagkobpbhfkmdaa.C
/-! from IF -/
namespace Go.Proofs.Ytagkobpbhfkmdaa.C
open Go.RowKit Go.Proofs.Ytagkobpbhfkmdaa.Q Go.Proofs.YtagkobpbhfkmdaaW.PrintLast Go.Proofs.YtagkobpbhfkmdaaW.PrintWords
set_option linter.unusedVariables false
set_option linter.unusedSimpArgs false
theorem rd_getC {l : List S158} {k : Nat} {x : S158} (h : l[k]? = some x) : rd_T158 l (k : Int) = x := by
  unfold rd_T158
  rw [Int.toNat_natCast, List.getD_eq_getElem?_getD, h]
  rfl
theorem rd_getO {l : List S117} {k : Nat} {x : S117} (h : l[k]? = some x) : rd_T117 l (k : Int) = x := by
  unfold rd_T117
  rw [Int.toNat_natCast, List.getD_eq_getElem?_getD, h]
  rfl
set_option maxHeartbeats 2000000 in
set_option maxRecDepth 100000 in
theorem indexfC0_calls (A : Option Addr) (c : Nat) (l : List S158) (G : Nat) (p : S158 → Bool) (w : World) (g : Kd.C k158 w A l.length l) (hlc : l.length ≤ c) (hl : l.length ≤ 1000000000) (hcl : ∀ (W : World) (x : S158), x ∈ l → Below w.heap.size w W → Calls Try.prog G #[.agg #[.string x.f0, .int .i64 x.f1]] W fun e w' => e = .returned (.bool (p x)) ∧ Below W.heap.size W w')
    (eg : ∀ args (w : World), (callFunc G args).run Try.prog w = .ok (.enter G args) w) : Calls Try.prog 106 #[.slice A l.length c, .func (Fn.func G) #[] #[]] w fun e w' => e = .returned (.int .i64 (idxI p l)) ∧ Below w.heap.size w w' := by
  obtain ⟨X, hX⟩ : ∃ X, idxI p l = X := ⟨_, rfl⟩
  rw [hX]
  have HX : Aside (idxFrom p (l.drop 0) 0 = X) := ⟨hX⟩
  obtain ⟨n, hn⟩ : ∃ n, l.length = n := ⟨_, rfl⟩
  have HR := Aside.mk (And.intro g (And.intro hn hcl))
  rw [hn] at hlc hl ⊢
  clear g hX hn hcl
  go_enter Try.func106, Try.ntmps106
  go_wp2_with fail
  go_loopw [8] (fun v8 w' => ∃ k : Nat, k ≤ n ∧ v8 = .int .i64 k ∧ Aside (idxFrom p (l.drop k) k = X ∧ Below w.heap.size w w')) (fun v8 _ => n - (intOf v8).toNat)
  case atStart => exact ⟨0, by omega, rfl, ⟨HX.out, Below.refl _ _⟩⟩
  case round =>
    rename_i v8 wr
    obtain ⟨k, hk, rfl, HI⟩ := hrel
    by_cases hkn : k < n
    · obtain ⟨x, hx⟩ : ∃ x, l[k]? = some x := ⟨_, List.getElem?_eq_getElem (by rw [HR.out.2.1]; exact hkn)⟩
      obtain ⟨ad, rfl, hf0, hf1⟩ := at_T158 (Kd.C_below HR.out.1 HI.out.2) (k : Int) (by omega) (by rw [HR.out.2.1]; omega)
      rw [rd_getC hx] at hf0 hf1
      simp only [Int.toNat_natCast] at hf0 hf1
      have HS := Aside.mk (idxFrom_step p hx)
      rw [HI.out.1] at HS
      have hc := HR.out.2.2 wr x (List.mem_of_getElem? hx) HI.out.2
      cases he : p x with
      | true =>
        rw [he] at hc
        have hE : Aside (X = (k : Int)) := ⟨by rw [HS.out, if_pos he]⟩
        clear hx he HS
        go_wp2_with fail
        refine hc.mono ?_
        rintro e w1 ⟨rfl, hb⟩
        have HB := Aside.mk (HI.out.2.trans (hb.mono HI.out.2.size))
        clear hb HI
        go_wp2_with fail
        go_ret
        rw [hE.out]
        exact ⟨rfl, HB.out⟩
      | false =>
        rw [he] at hc
        have hE : Aside (idxFrom p (l.drop (k + 1)) (k + 1) = X) := ⟨by rw [HS.out, if_neg (by rw [he]; decide)]⟩
        clear hx he HS
        go_wp2_with fail
        refine hc.mono ?_
        rintro e w1 ⟨rfl, hb⟩
        have HB := Aside.mk (And.intro hE.out (HI.out.2.trans (hb.mono HI.out.2.size)))
        clear hb HI
        go_wp2_with fail
        go_roundw
        case rel => exact ⟨k + 1, by omega, by go_num, HB⟩
        case measure => simp [intOf]; omega
    · obtain rfl : k = n := by omega
      have hE : Aside (X = -1) := ⟨by rw [← HI.out.1, List.drop_of_length_le (by rw [HR.out.2.1]; exact Nat.le_refl _)]; rfl⟩
      go_wp2_with fail
      go_ret
      rw [hE.out]
      exact ⟨rfl, HI.out.2⟩
set_option maxHeartbeats 1000000 in
set_option maxRecDepth 100000 in
theorem containsfC0_calls (A : Option Addr) (c : Nat) (l : List S158) (G : Nat) (p : S158 → Bool) (w : World) (g : Kd.C k158 w A l.length l) (hlc : l.length ≤ c) (hl : l.length ≤ 1000000000) (hcl : ∀ (W : World) (x : S158), x ∈ l → Below w.heap.size w W → Calls Try.prog G #[.agg #[.string x.f0, .int .i64 x.f1]] W fun e w' => e = .returned (.bool (p x)) ∧ Below W.heap.size W w')
    (eg : ∀ args (w : World), (callFunc G args).run Try.prog w = .ok (.enter G args) w) : Calls Try.prog 94 #[.slice A l.length c, .func (Fn.func G) #[] #[]] w fun e w' => e = .returned (.bool (l.any p)) ∧ Below w.heap.size w w' := by
  have hi := indexfC0_calls A c l G p w g hlc hl hcl eg
  obtain ⟨n, hn⟩ : ∃ n, l.length = n := ⟨_, rfl⟩
  rw [hn] at hi ⊢
  rcases idxI_any p l with ⟨h1, h2⟩ | ⟨h1, j, x, -, -, h2, -⟩
  · rw [h2] at hi
    rw [h1]
    clear g h1 h2 hn hl hlc hcl
    go_enter Try.func94, Try.ntmps94
    go_wp2_with fail
    refine hi.mono ?_
    rintro e w1 ⟨rfl, hb⟩
    have HB := Aside.mk hb
    clear hb
    go_wp2_with fail
    go_ret
    exact ⟨rfl, HB.out⟩
  · rw [h2] at hi
    rw [h1]
    clear g h1 h2 hn hl hlc hcl
    go_enter Try.func94, Try.ntmps94
    go_wp2_with fail
    refine hi.mono ?_
    rintro e w1 ⟨rfl, hb⟩
    have HB := Aside.mk hb
    clear hb
    go_wp2_with fail
    go_ret
    exact ⟨by simp, HB.out⟩
set_option maxHeartbeats 2000000 in
set_option maxRecDepth 100000 in
theorem indexfC1_calls (A : Option Addr) (c : Nat) (l : List S158) (G K : Nat) (p : S158 → Bool) (w : World) (g : Kd.C k158 w A l.length l) (hlc : l.length ≤ c) (hl : l.length ≤ 1000000000) (hcl : ∀ (W : World) (x : S158), x ∈ l → Below w.heap.size w W → Calls Try.prog G #[.agg #[.string x.f0, .int .i64 x.f1], .pointer (some ⟨K, 0, none⟩)] W fun e w' => e = .returned (.bool (p x)) ∧ Below W.heap.size W w')
    (eg : ∀ args (w : World), (callFunc G args).run Try.prog w = .ok (.enter G args) w) : Calls Try.prog 106 #[.slice A l.length c, .func (Fn.func G) #[] #[.pointer (some ⟨K, 0, none⟩)]] w fun e w' => e = .returned (.int .i64 (idxI p l)) ∧ Below w.heap.size w w' := by
  obtain ⟨X, hX⟩ : ∃ X, idxI p l = X := ⟨_, rfl⟩
  rw [hX]
  have HX : Aside (idxFrom p (l.drop 0) 0 = X) := ⟨hX⟩
  obtain ⟨n, hn⟩ : ∃ n, l.length = n := ⟨_, rfl⟩
  have HR := Aside.mk (And.intro g (And.intro hn hcl))
  rw [hn] at hlc hl ⊢
  clear g hX hn hcl
  go_enter Try.func106, Try.ntmps106
  go_wp2_with fail
  go_loopw [8] (fun v8 w' => ∃ k : Nat, k ≤ n ∧ v8 = .int .i64 k ∧ Aside (idxFrom p (l.drop k) k = X ∧ Below w.heap.size w w')) (fun v8 _ => n - (intOf v8).toNat)
  case atStart => exact ⟨0, by omega, rfl, ⟨HX.out, Below.refl _ _⟩⟩
  case round =>
    rename_i v8 wr
    obtain ⟨k, hk, rfl, HI⟩ := hrel
    by_cases hkn : k < n
    · obtain ⟨x, hx⟩ : ∃ x, l[k]? = some x := ⟨_, List.getElem?_eq_getElem (by rw [HR.out.2.1]; exact hkn)⟩
      obtain ⟨ad, rfl, hf0, hf1⟩ := at_T158 (Kd.C_below HR.out.1 HI.out.2) (k : Int) (by omega) (by rw [HR.out.2.1]; omega)
      rw [rd_getC hx] at hf0 hf1
      simp only [Int.toNat_natCast] at hf0 hf1
      have HS := Aside.mk (idxFrom_step p hx)
      rw [HI.out.1] at HS
      have hc := HR.out.2.2 wr x (List.mem_of_getElem? hx) HI.out.2
      cases he : p x with
      | true =>
        rw [he] at hc
        have hE : Aside (X = (k : Int)) := ⟨by rw [HS.out, if_pos he]⟩
        clear hx he HS
        go_wp2_with fail
        refine hc.mono ?_
        rintro e w1 ⟨rfl, hb⟩
        have HB := Aside.mk (HI.out.2.trans (hb.mono HI.out.2.size))
        clear hb HI
        go_wp2_with fail
        go_ret
        rw [hE.out]
        exact ⟨rfl, HB.out⟩
      | false =>
        rw [he] at hc
        have hE : Aside (idxFrom p (l.drop (k + 1)) (k + 1) = X) := ⟨by rw [HS.out, if_neg (by rw [he]; decide)]⟩
        clear hx he HS
        go_wp2_with fail
        refine hc.mono ?_
        rintro e w1 ⟨rfl, hb⟩
        have HB := Aside.mk (And.intro hE.out (HI.out.2.trans (hb.mono HI.out.2.size)))
        clear hb HI
        go_wp2_with fail
        go_roundw
        case rel => exact ⟨k + 1, by omega, by go_num, HB⟩
        case measure => simp [intOf]; omega
    · obtain rfl : k = n := by omega
      have hE : Aside (X = -1) := ⟨by rw [← HI.out.1, List.drop_of_length_le (by rw [HR.out.2.1]; exact Nat.le_refl _)]; rfl⟩
      go_wp2_with fail
      go_ret
      rw [hE.out]
      exact ⟨rfl, HI.out.2⟩
set_option maxHeartbeats 1000000 in
set_option maxRecDepth 100000 in
theorem containsfC1_calls (A : Option Addr) (c : Nat) (l : List S158) (G K : Nat) (p : S158 → Bool) (w : World) (g : Kd.C k158 w A l.length l) (hlc : l.length ≤ c) (hl : l.length ≤ 1000000000) (hcl : ∀ (W : World) (x : S158), x ∈ l → Below w.heap.size w W → Calls Try.prog G #[.agg #[.string x.f0, .int .i64 x.f1], .pointer (some ⟨K, 0, none⟩)] W fun e w' => e = .returned (.bool (p x)) ∧ Below W.heap.size W w')
    (eg : ∀ args (w : World), (callFunc G args).run Try.prog w = .ok (.enter G args) w) : Calls Try.prog 94 #[.slice A l.length c, .func (Fn.func G) #[] #[.pointer (some ⟨K, 0, none⟩)]] w fun e w' => e = .returned (.bool (l.any p)) ∧ Below w.heap.size w w' := by
  have hi := indexfC1_calls A c l G K p w g hlc hl hcl eg
  obtain ⟨n, hn⟩ : ∃ n, l.length = n := ⟨_, rfl⟩
  rw [hn] at hi ⊢
  rcases idxI_any p l with ⟨h1, h2⟩ | ⟨h1, j, x, -, -, h2, -⟩
  · rw [h2] at hi
    rw [h1]
    clear g h1 h2 hn hl hlc hcl
    go_enter Try.func94, Try.ntmps94
    go_wp2_with fail
    refine hi.mono ?_
    rintro e w1 ⟨rfl, hb⟩
    have HB := Aside.mk hb
    clear hb
    go_wp2_with fail
    go_ret
    exact ⟨rfl, HB.out⟩
  · rw [h2] at hi
    rw [h1]
    clear g h1 h2 hn hl hlc hcl
    go_enter Try.func94, Try.ntmps94
    go_wp2_with fail
    refine hi.mono ?_
    rintro e w1 ⟨rfl, hb⟩
    have HB := Aside.mk hb
    clear hb
    go_wp2_with fail
    go_ret
    exact ⟨by simp, HB.out⟩
set_option maxHeartbeats 2000000 in
set_option maxRecDepth 100000 in
theorem indexfO1_calls (A : Option Addr) (c : Nat) (l : List S117) (G K : Nat) (p : S117 → Bool) (w : World) (g : Kd.C k117 w A l.length l) (hlc : l.length ≤ c) (hl : l.length ≤ 1000000000) (hcl : ∀ (W : World) (x : S117), x ∈ l → Below w.heap.size w W → Calls Try.prog G #[.agg #[.bool x.f0, .string x.f1, .string x.f2], .pointer (some ⟨K, 0, none⟩)] W fun e w' => e = .returned (.bool (p x)) ∧ Below W.heap.size W w')
    (eg : ∀ args (w : World), (callFunc G args).run Try.prog w = .ok (.enter G args) w) : Calls Try.prog 107 #[.slice A l.length c, .func (Fn.func G) #[] #[.pointer (some ⟨K, 0, none⟩)]] w fun e w' => e = .returned (.int .i64 (idxI p l)) ∧ Below w.heap.size w w' := by
  obtain ⟨X, hX⟩ : ∃ X, idxI p l = X := ⟨_, rfl⟩
  rw [hX]
  have HX : Aside (idxFrom p (l.drop 0) 0 = X) := ⟨hX⟩
  obtain ⟨n, hn⟩ : ∃ n, l.length = n := ⟨_, rfl⟩
  have HR := Aside.mk (And.intro g (And.intro hn hcl))
  rw [hn] at hlc hl ⊢
  clear g hX hn hcl
  go_enter Try.func107, Try.ntmps107
  go_wp2_with fail
  go_loopw [8] (fun v8 w' => ∃ k : Nat, k ≤ n ∧ v8 = .int .i64 k ∧ Aside (idxFrom p (l.drop k) k = X ∧ Below w.heap.size w w')) (fun v8 _ => n - (intOf v8).toNat)
  case atStart => exact ⟨0, by omega, rfl, ⟨HX.out, Below.refl _ _⟩⟩
  case round =>
    rename_i v8 wr
    obtain ⟨k, hk, rfl, HI⟩ := hrel
    by_cases hkn : k < n
    · obtain ⟨x, hx⟩ : ∃ x, l[k]? = some x := ⟨_, List.getElem?_eq_getElem (by rw [HR.out.2.1]; exact hkn)⟩
      obtain ⟨ad, rfl, hf0, hf1, hf2⟩ := at_T117 (Kd.C_below HR.out.1 HI.out.2) (k : Int) (by omega) (by rw [HR.out.2.1]; omega)
      rw [rd_getO hx] at hf0 hf1 hf2
      simp only [Int.toNat_natCast] at hf0 hf1 hf2
      have HS := Aside.mk (idxFrom_step p hx)
      rw [HI.out.1] at HS
      have hc := HR.out.2.2 wr x (List.mem_of_getElem? hx) HI.out.2
      cases he : p x with
      | true =>
        rw [he] at hc
        have hE : Aside (X = (k : Int)) := ⟨by rw [HS.out, if_pos he]⟩
        clear hx he HS
        go_wp2_with fail
        refine hc.mono ?_
        rintro e w1 ⟨rfl, hb⟩
        have HB := Aside.mk (HI.out.2.trans (hb.mono HI.out.2.size))
        clear hb HI
        go_wp2_with fail
        go_ret
        rw [hE.out]
        exact ⟨rfl, HB.out⟩
      | false =>
        rw [he] at hc
        have hE : Aside (idxFrom p (l.drop (k + 1)) (k + 1) = X) := ⟨by rw [HS.out, if_neg (by rw [he]; decide)]⟩
        clear hx he HS
        go_wp2_with fail
        refine hc.mono ?_
        rintro e w1 ⟨rfl, hb⟩
        have HB := Aside.mk (And.intro hE.out (HI.out.2.trans (hb.mono HI.out.2.size)))
        clear hb HI
        go_wp2_with fail
        go_roundw
        case rel => exact ⟨k + 1, by omega, by go_num, HB⟩
        case measure => simp [intOf]; omega
    · obtain rfl : k = n := by omega
      have hE : Aside (X = -1) := ⟨by rw [← HI.out.1, List.drop_of_length_le (by rw [HR.out.2.1]; exact Nat.le_refl _)]; rfl⟩
      go_wp2_with fail
      go_ret
      rw [hE.out]
      exact ⟨rfl, HI.out.2⟩
set_option maxHeartbeats 1000000 in
set_option maxRecDepth 100000 in
theorem containsfO1_calls (A : Option Addr) (c : Nat) (l : List S117) (G K : Nat) (p : S117 → Bool) (w : World) (g : Kd.C k117 w A l.length l) (hlc : l.length ≤ c) (hl : l.length ≤ 1000000000) (hcl : ∀ (W : World) (x : S117), x ∈ l → Below w.heap.size w W → Calls Try.prog G #[.agg #[.bool x.f0, .string x.f1, .string x.f2], .pointer (some ⟨K, 0, none⟩)] W fun e w' => e = .returned (.bool (p x)) ∧ Below W.heap.size W w')
    (eg : ∀ args (w : World), (callFunc G args).run Try.prog w = .ok (.enter G args) w) : Calls Try.prog 96 #[.slice A l.length c, .func (Fn.func G) #[] #[.pointer (some ⟨K, 0, none⟩)]] w fun e w' => e = .returned (.bool (l.any p)) ∧ Below w.heap.size w w' := by
  have hi := indexfO1_calls A c l G K p w g hlc hl hcl eg
  obtain ⟨n, hn⟩ : ∃ n, l.length = n := ⟨_, rfl⟩
  rw [hn] at hi ⊢
  rcases idxI_any p l with ⟨h1, h2⟩ | ⟨h1, j, x, -, -, h2, -⟩
  · rw [h2] at hi
    rw [h1]
    clear g h1 h2 hn hl hlc hcl
    go_enter Try.func96, Try.ntmps96
    go_wp2_with fail
    refine hi.mono ?_
    rintro e w1 ⟨rfl, hb⟩
    have HB := Aside.mk hb
    clear hb
    go_wp2_with fail
    go_ret
    exact ⟨rfl, HB.out⟩
  · rw [h2] at hi
    rw [h1]
    clear g h1 h2 hn hl hlc hcl
    go_enter Try.func96, Try.ntmps96
    go_wp2_with fail
    refine hi.mono ?_
    rintro e w1 ⟨rfl, hb⟩
    have HB := Aside.mk hb
    clear hb
    go_wp2_with fail
    go_ret
    exact ⟨by simp, HB.out⟩
end Go.Proofs.Ytagkobpbhfkmdaa.C
/-! from AWP -/
namespace Go.Proofs.Ytagkobpbhfkmdaa.C
open Go.RowKit Go.ChangeMaps Go.Proofs.Ytagkobpbhfkmdaa.Q Go.Proofs.YtagkobpbhfkmdaaW.PrintLast Go.Proofs.YtagkobpbhfkmdaaW.PrintWords
set_option linter.unusedVariables false
def kA : ByteArray := ⟨#[97]⟩
def kB : ByteArray := ⟨#[98]⟩
def awL1 : List En := [⟨⟨#[97]⟩, ⟨#[120]⟩, 1, 3⟩]
def awE2 : List Ev := [⟨6, true, ⟨#[97]⟩, ⟨#[]⟩⟩, ⟨7, false, ⟨#[98]⟩, ⟨#[121]⟩⟩]
def awN3 : List ByteArray := [⟨#[98]⟩]
def awL3 : List En := [⟨⟨#[98]⟩, ⟨#[122]⟩, 7, 9⟩]
def awE4 : List Ev := [⟨8, true, ⟨#[98]⟩, ⟨#[]⟩⟩]
def aw1 : (Fcts × Int) × Int := listM (fun _ => none) (-1) 5 awL1
def aw2 : (Fcts × Int) × Int := watchM aw1.1.1 aw1.1.2 6 7 awE2
def aw3 : Fcts × Int := learnM aw2.1.1 aw2.1.2 9 awN3 awL3
def aw4 : (Fcts × Int) × Int := watchM aw3.1 aw2.1.2 8 8 awE4
theorem aw_f1 : aw1.2 = 0 ∧ aw1.1.2 = 5 := by decide +kernel
theorem aw_f2 : aw2.2 = 0 ∧ aw2.1.2 = 7 ∧ getM aw2.1.1 kA = (entZ, false) ∧ getM aw2.1.1 kB = (⟨⟨#[98]⟩, ⟨#[121]⟩, 7, 7⟩, true) ∧ asofM aw2.1.1 aw2.1.2 kA = 7 ∧ asofM aw2.1.1 aw2.1.2 kB = 7 := by decide +kernel
theorem aw_f3 : aw3.2 = 0 ∧ asofM aw3.1 aw2.1.2 kB = 9 ∧ asofM aw3.1 aw2.1.2 kA = 7 := by decide +kernel
theorem aw_f4 : aw4.2 = 0 ∧ aw4.1.2 = 8 ∧ getM aw4.1.1 kB = (⟨⟨#[98]⟩, ⟨#[122]⟩, 7, 9⟩, true) := by decide +kernel
theorem aw_f5 : (watchM aw4.1.1 aw4.1.2 11 12 []).2 = 46 := by decide +kernel
theorem add0 (g i : Nat) : (⟨g, 0, none⟩ : Addr).add i = ⟨g, i, none⟩ := by simp [Addr.add]; try (intro h; omega)
theorem row_one {α : Type} {d : Kd α} {w : World} {g : Nat} {e : TypeId} {x : α} {cs : List Value} (h : w.heap[g]? = some (.cells cs.toArray e (0, 0))) (hK : d.K w x cs) (hl : cs.length = d.sz) : d.C w (some ⟨g, 0, none⟩) 1 [x] :=
  ⟨rfl, by omega, fun _ => ⟨⟨g, 0, none⟩, rfl, fun j p hj => by
    rcases j with _ | j
    · simp only [List.getElem?_cons_zero, Option.some.injEq] at hj
      subst hj
      refine ⟨cs, hl, hK, fun i u hu => ?_⟩
      rw [Nat.zero_mul, Nat.zero_add, add0, cell_at h]
      simpa using hu
    · simp at hj⟩⟩
theorem row_two {α : Type} {d : Kd α} {w : World} {g : Nat} {e : TypeId} {x y : α} {cs ds : List Value} (h : w.heap[g]? = some (.cells (cs ++ ds).toArray e (0, 0))) (hK : d.K w x cs) (hL : d.K w y ds) (hl : cs.length = d.sz) (hm : ds.length = d.sz) : d.C w (some ⟨g, 0, none⟩) 2 [x, y] :=
  ⟨rfl, by omega, fun _ => ⟨⟨g, 0, none⟩, rfl, fun j p hj => by
    rcases j with _ | _ | j
    · simp only [List.getElem?_cons_zero, Option.some.injEq] at hj
      subst hj
      refine ⟨cs, hl, hK, fun i u hu => ?_⟩
      rw [Nat.zero_mul, Nat.zero_add, add0, cell_at h]
      have hlt := (List.getElem?_eq_some_iff.1 hu).1
      simpa [List.getElem?_append_left hlt] using hu
    · simp only [Nat.zero_add, List.getElem?_cons_succ, List.getElem?_cons_zero, Option.some.injEq] at hj
      subst hj
      refine ⟨ds, hm, hL, fun i u hu => ?_⟩
      rw [Nat.zero_add, Nat.one_mul, add0, cell_at h, ← hl]
      simpa [List.getElem?_append_right] using hu
    · simp at hj⟩⟩
end Go.Proofs.Ytagkobpbhfkmdaa.C
/-! from AW -/
namespace Go.Proofs.Ytagkobpbhfkmdaa.C
open Go.RowKit Go.ChangeMaps Go.Proofs.Ytagkobpbhfkmdaa.Q Go.Proofs.YtagkobpbhfkmdaaW.PrintLast Go.Proofs.YtagkobpbhfkmdaaW.PrintWords
set_option linter.unusedVariables false
set_option linter.unusedSimpArgs false
/-- A cache of the call's own. -/
structure OC (B : Nat) (w0 w : World) (C M : Nat) (f : Fcts) (u : Int) : Prop where
  ca : CA w C M f u
  c : B ≤ C
  m : B ≤ M
  bel : Below B w0 w
  size : B ≤ w.heap.size
theorem OC.below {B : Nat} {w0 w w' : World} {C M : Nat} {f : Fcts} {u : Int} (h : OC B w0 w C M f u) (hb : Below w.heap.size w w') : OC B w0 w' C M f u := ⟨h.ca.below hb, h.c, h.m, h.bel.trans (hb.mono h.size), Nat.le_trans h.size hb.size⟩
theorem OC.step {B : Nat} {w0 w w' : World} {C M : Nat} {f f' : Fcts} {u u' : Int} (h : OC B w0 w C M f u) (hc : CA w' C M f' u') (hf : Fr (fun k => k = C ∨ k = M) w w') : OC B w0 w' C M f' u' := ⟨hc, h.c, h.m, h.bel.trans (hf.below h.size (fun k hk => by have := h.c; have := h.m; omega)), Nat.le_trans h.size hf.size⟩
set_option maxHeartbeats 8000000 in
set_option maxRecDepth 100000 in
theorem awake_calls (w : World) : Calls Try.prog 9 #[] w fun e w' => e = .returned (.bool true) ∧ Below w.heap.size w w' := by
  go_enter Try.func9, Try.ntmps9
  go_wp2_with fail
  refine (cnew_calls w).mono ?_
  rintro e w1 ⟨C, M, rfl, hc1, hC, hM, hb1⟩
  have H1 : Aside (OC w.heap.size w w1 C M (fun _ => none) (-1)) := ⟨⟨hc1, hC, hM, hb1, hb1.size⟩⟩
  clear hc1 hb1
  go_wp2_with fail
  have hR := heap_alloc_new w1 (Obj.cells #[Value.string (ByteArray.mk #[97]), Value.string (ByteArray.mk #[120]), Value.int IntKind.i64 1, Value.int IntKind.i64 3] 46 (0, 0))
  have H2 := Aside.mk (H1.out.below ((Below.refl w1.heap.size w1).alloc (Nat.le_refl _) (Obj.cells #[Value.string (ByteArray.mk #[97]), Value.string (ByteArray.mk #[120]), Value.int IntKind.i64 1, Value.int IntKind.i64 3] 46 (0, 0))))
  have hlt1 := And.intro H1.out.ca.ltC H1.out.ca.ltM
  have g1 : k46.C (w1.alloc (Obj.cells #[Value.string (ByteArray.mk #[97]), Value.string (ByteArray.mk #[120]), Value.int IntKind.i64 1, Value.int IntKind.i64 3] 46 (0, 0))) (some ⟨w1.heap.size, 0, none⟩) awL1.length awL1 := row_one (cs := [.string (ByteArray.mk #[97]), .string (ByteArray.mk #[120]), .int .i64 1, .int .i64 3]) hR (k46_mk _ _) rfl
  have c1 := list_calls C M (fun _ => none) (-1) 5 (some ⟨w1.heap.size, 0, none⟩) 1 awL1 _ H2.out.ca g1 (by decide) (by decide) (by decide) (fun ad h => by cases h; exact ⟨by show w1.heap.size ≠ C; omega, by show w1.heap.size ≠ M; omega⟩)
  rw [show (listM (fun _ => none) (-1) 5 awL1) = aw1 from rfl, aw_f1.1] at c1
  refine c1.mono ?_
  generalize (w1.alloc (Obj.cells #[Value.string (ByteArray.mk #[97]), Value.string (ByteArray.mk #[120]), Value.int IntKind.i64 1, Value.int IntKind.i64 3] 46 (0, 0))) = w2 at *
  rintro e w3 ⟨rfl, hC3, hF3⟩
  have H3 := Aside.mk (H2.out.step hC3 hF3)
  clear c1 g1 hR hC3 hF3 H2 H1 hlt1
  go_wp2_with fail
  have hR := heap_alloc_new w3 (Obj.cells #[Value.int IntKind.i64 6, Value.bool true, Value.string (ByteArray.mk #[97]), Value.string (ByteArray.mk #[]), Value.int IntKind.i64 7, Value.bool false, Value.string (ByteArray.mk #[98]), Value.string (ByteArray.mk #[121])] 75 (0, 0))
  have H4 := Aside.mk (H3.out.below ((Below.refl w3.heap.size w3).alloc (Nat.le_refl _) (Obj.cells #[Value.int IntKind.i64 6, Value.bool true, Value.string (ByteArray.mk #[97]), Value.string (ByteArray.mk #[]), Value.int IntKind.i64 7, Value.bool false, Value.string (ByteArray.mk #[98]), Value.string (ByteArray.mk #[121])] 75 (0, 0))))
  have hlt1 := And.intro H3.out.ca.ltC H3.out.ca.ltM
  have g1 : k75.C (w3.alloc (Obj.cells #[Value.int IntKind.i64 6, Value.bool true, Value.string (ByteArray.mk #[97]), Value.string (ByteArray.mk #[]), Value.int IntKind.i64 7, Value.bool false, Value.string (ByteArray.mk #[98]), Value.string (ByteArray.mk #[121])] 75 (0, 0))) (some ⟨w3.heap.size, 0, none⟩) awE2.length awE2 := row_two (cs := [.int .i64 6, .bool true, .string (ByteArray.mk #[97]), .string (ByteArray.mk #[])]) (ds := [.int .i64 7, .bool false, .string (ByteArray.mk #[98]), .string (ByteArray.mk #[121])]) hR (k75_mk _ _) (k75_mk _ _) rfl rfl
  have c1 := watch_calls C M aw1.1.1 aw1.1.2 6 7 (some ⟨w3.heap.size, 0, none⟩) 2 awE2 _ H4.out.ca g1 (by decide) (by decide) (by decide) (by rw [aw_f1.2]; decide) (fun ad h => by cases h; exact ⟨by show w3.heap.size ≠ C; omega, by show w3.heap.size ≠ M; omega⟩)
  rw [show (watchM aw1.1.1 aw1.1.2 6 7 awE2) = aw2 from rfl, aw_f2.1] at c1
  refine c1.mono ?_
  generalize (w3.alloc (Obj.cells #[Value.int IntKind.i64 6, Value.bool true, Value.string (ByteArray.mk #[97]), Value.string (ByteArray.mk #[]), Value.int IntKind.i64 7, Value.bool false, Value.string (ByteArray.mk #[98]), Value.string (ByteArray.mk #[121])] 75 (0, 0))) = w4 at *
  rintro e w5 ⟨rfl, hC5, hF5⟩
  have H5 := Aside.mk (H4.out.step hC5 hF5)
  clear c1 g1 hR hC5 hF5 H4 H3 hlt1
  go_wp2_with fail
  have c1 := cget_calls C M aw2.1.1 aw2.1.2 kA w5 H5.out.ca
  rw [aw_f2.2.2.1] at c1
  refine c1.mono ?_
  rintro e w6 ⟨rfl, hb6⟩
  have H6 := Aside.mk ((H5.out.below hb6).below ((Below.refl w6.heap.size w6).alloc (Nat.le_refl _) (Obj.cells #[Value.string (ByteArray.mk #[]), Value.string (ByteArray.mk #[]), Value.int IntKind.i64 0, Value.int IntKind.i64 0] 46 (0, 0))))
  clear c1 hb6 H5
  unfold entZ
  go_wp2_with fail
  generalize (w6.alloc (Obj.cells #[Value.string (ByteArray.mk #[]), Value.string (ByteArray.mk #[]), Value.int IntKind.i64 0, Value.int IntKind.i64 0] 46 (0, 0))) = w7 at *
  have c1 := cget_calls C M aw2.1.1 aw2.1.2 kB w7 H6.out.ca
  rw [aw_f2.2.2.2.1] at c1
  refine c1.mono ?_
  rintro e w8 ⟨rfl, hb8⟩
  have H8 := Aside.mk ((H6.out.below hb8).below ((Below.refl w8.heap.size w8).alloc (Nat.le_refl _) (Obj.cells #[Value.string (ByteArray.mk #[98]), Value.string (ByteArray.mk #[121]), Value.int IntKind.i64 7, Value.int IntKind.i64 7] 46 (0, 0))))
  have hB := heap_alloc_new w8 (Obj.cells #[Value.string (ByteArray.mk #[98]), Value.string (ByteArray.mk #[121]), Value.int IntKind.i64 7, Value.int IntKind.i64 7] 46 (0, 0))
  have hBne : w8.heap.size ≠ C ∧ w8.heap.size ≠ M := by
    have h1 := ((H6.out.below hb8).ca).ltC
    have h2 := ((H6.out.below hb8).ca).ltM
    omega
  obtain ⟨b, hb⟩ : ∃ b, w8.heap.size = b := ⟨_, rfl⟩
  rw [hb] at hB hBne
  have hBw : w.heap.size ≤ b := by rw [← hb]; exact (H6.out.below hb8).size
  clear c1 hb8 H6
  go_upto_region 6 with fail
  generalize (w8.alloc (Obj.cells #[Value.string (ByteArray.mk #[98]), Value.string (ByteArray.mk #[121]), Value.int IntKind.i64 7, Value.int IntKind.i64 7] 46 (0, 0))) = w9 at *
  have y0 := cell_at hB 0
  have y1 := cell_at hB 1
  have y2 := cell_at hB 2
  have y3 := cell_at hB 3
  have c1 := casof_calls C M aw2.1.1 aw2.1.2 kA w9 H8.out.ca
  rw [aw_f2.2.2.2.2.1] at c1
  go_wp2_with fail
  refine c1.mono ?_
  rintro e w10 ⟨rfl, hb10⟩
  have H10 := Aside.mk (H8.out.below hb10)
  have hB10 := (hb10.block b (lt_of_block hB)).trans hB
  clear c1 hb10 H8 y0 y1 y2 y3 hB
  have c1 := casof_calls C M aw2.1.1 aw2.1.2 kB w10 H10.out.ca
  rw [aw_f2.2.2.2.2.2] at c1
  go_wp2_with fail
  refine c1.mono ?_
  rintro e w11 ⟨rfl, hb11⟩
  have H11 := Aside.mk (H10.out.below hb11)
  have hB11 := (hb11.block b (lt_of_block hB10)).trans hB10
  clear c1 hb11 H10 hB10
  have hS1 := heap_alloc_new w11 (Obj.cells #[Value.string (ByteArray.mk #[98])] 9 (0, 0))
  have hbS := (Below.refl w11.heap.size w11).alloc (Nat.le_refl _) (Obj.cells #[Value.string (ByteArray.mk #[98])] 9 (0, 0))
  have hs1 : (w11.alloc (Obj.cells #[Value.string (ByteArray.mk #[98])] 9 (0, 0))).heap.size = w11.heap.size + 1 := by simp
  have H12 := Aside.mk (H11.out.below hbS)
  have hL1 := heap_alloc_new (w11.alloc (Obj.cells #[Value.string (ByteArray.mk #[98])] 9 (0, 0))) (Obj.cells #[Value.string (ByteArray.mk #[98]), Value.string (ByteArray.mk #[122]), Value.int IntKind.i64 7, Value.int IntKind.i64 9] 46 (0, 0))
  have hbL := (Below.refl (w11.alloc (Obj.cells #[Value.string (ByteArray.mk #[98])] 9 (0, 0))).heap.size (w11.alloc (Obj.cells #[Value.string (ByteArray.mk #[98])] 9 (0, 0)))).alloc (Nat.le_refl _) (Obj.cells #[Value.string (ByteArray.mk #[98]), Value.string (ByteArray.mk #[122]), Value.int IntKind.i64 7, Value.int IntKind.i64 9] 46 (0, 0))
  have H13 := Aside.mk (H12.out.below hbL)
  have gn : Kd.string.C ((w11.alloc (Obj.cells #[Value.string (ByteArray.mk #[98])] 9 (0, 0))).alloc (Obj.cells #[Value.string (ByteArray.mk #[98]), Value.string (ByteArray.mk #[122]), Value.int IntKind.i64 7, Value.int IntKind.i64 9] 46 (0, 0))) (some ⟨w11.heap.size, 0, none⟩) awN3.length awN3 := Kd.C_below (row_one (d := Kd.string) (cs := [.string (ByteArray.mk #[98])]) hS1 rfl rfl) hbL
  have ge : k46.C ((w11.alloc (Obj.cells #[Value.string (ByteArray.mk #[98])] 9 (0, 0))).alloc (Obj.cells #[Value.string (ByteArray.mk #[98]), Value.string (ByteArray.mk #[122]), Value.int IntKind.i64 7, Value.int IntKind.i64 9] 46 (0, 0))) (some ⟨w11.heap.size + 1, 0, none⟩) awL3.length awL3 := row_one (cs := [.string (ByteArray.mk #[98]), .string (ByteArray.mk #[122]), .int .i64 7, .int .i64 9]) (by rw [← hs1]; exact hL1) (k46_mk _ _) rfl
  have hlt1 := And.intro H11.out.ca.ltC H11.out.ca.ltM
  have c1 := learn_calls C M aw2.1.1 aw2.1.2 9 (some ⟨w11.heap.size, 0, none⟩) (some ⟨w11.heap.size + 1, 0, none⟩) 1 1 awN3 awL3 _ H13.out.ca gn (by decide) (by decide) ge (by decide) (by decide) (by decide) (fun ad h => by cases h; exact ⟨by show w11.heap.size ≠ C; omega, by show w11.heap.size ≠ M; omega⟩) (fun ad h => by cases h; exact ⟨by show w11.heap.size + 1 ≠ C; omega, by show w11.heap.size + 1 ≠ M; omega⟩)
  rw [show (learnM aw2.1.1 aw2.1.2 9 awN3 awL3) = aw3 from rfl, aw_f3.1] at c1
  have hB13 := blk_al (blk_al hB11 (Obj.cells #[Value.string (ByteArray.mk #[98])] 9 (0, 0))) (Obj.cells #[Value.string (ByteArray.mk #[98]), Value.string (ByteArray.mk #[122]), Value.int IntKind.i64 7, Value.int IntKind.i64 9] 46 (0, 0))
  go_wp2_with fail
  refine c1.mono ?_
  generalize ((w11.alloc (Obj.cells #[Value.string (ByteArray.mk #[98])] 9 (0, 0))).alloc (Obj.cells #[Value.string (ByteArray.mk #[98]), Value.string (ByteArray.mk #[122]), Value.int IntKind.i64 7, Value.int IntKind.i64 9] 46 (0, 0))) = w13 at *
  rintro e w14 ⟨rfl, hC14, hF14⟩
  have H14 := Aside.mk (H13.out.step hC14 hF14)
  have hB14 := hF14.heap hB13 (fun h => by omega)
  clear c1 gn ge hS1 hbS hL1 hbL H11 H12 H13 hC14 hF14 hB11 hB13 hlt1 hs1
  have c1 := casof_calls C M aw3.1 aw2.1.2 kB w14 H14.out.ca
  rw [aw_f3.2.1] at c1
  go_wp2_with fail
  refine c1.mono ?_
  rintro e w15 ⟨rfl, hb15⟩
  have H15 := Aside.mk (H14.out.below hb15)
  have hB15 := (hb15.block b (lt_of_block hB14)).trans hB14
  clear c1 hb15 H14 hB14
  have c1 := casof_calls C M aw3.1 aw2.1.2 kA w15 H15.out.ca
  rw [aw_f3.2.2] at c1
  go_wp2_with fail
  refine c1.mono ?_
  rintro e w16 ⟨rfl, hb16⟩
  have H16 := Aside.mk (H15.out.below hb16)
  have hB16 := (hb16.block b (lt_of_block hB15)).trans hB15
  clear c1 hb16 H15 hB15
  have hR := heap_alloc_new w16 (Obj.cells #[Value.int IntKind.i64 8, Value.bool true, Value.string (ByteArray.mk #[98]), Value.string (ByteArray.mk #[])] 75 (0, 0))
  have H17 := Aside.mk (H16.out.below ((Below.refl w16.heap.size w16).alloc (Nat.le_refl _) (Obj.cells #[Value.int IntKind.i64 8, Value.bool true, Value.string (ByteArray.mk #[98]), Value.string (ByteArray.mk #[])] 75 (0, 0))))
  have hB17 := blk_al hB16 (Obj.cells #[Value.int IntKind.i64 8, Value.bool true, Value.string (ByteArray.mk #[98]), Value.string (ByteArray.mk #[])] 75 (0, 0))
  have hlt1 := And.intro H16.out.ca.ltC H16.out.ca.ltM
  have g1 : k75.C (w16.alloc (Obj.cells #[Value.int IntKind.i64 8, Value.bool true, Value.string (ByteArray.mk #[98]), Value.string (ByteArray.mk #[])] 75 (0, 0))) (some ⟨w16.heap.size, 0, none⟩) awE4.length awE4 := row_one (cs := [.int .i64 8, .bool true, .string (ByteArray.mk #[98]), .string (ByteArray.mk #[])]) hR (k75_mk _ _) rfl
  have c1 := watch_calls C M aw3.1 aw2.1.2 8 8 (some ⟨w16.heap.size, 0, none⟩) 1 awE4 _ H17.out.ca g1 (by decide) (by decide) (by decide) (by rw [aw_f2.2.1]; decide) (fun ad h => by cases h; exact ⟨by show w16.heap.size ≠ C; omega, by show w16.heap.size ≠ M; omega⟩)
  rw [show (watchM aw3.1 aw2.1.2 8 8 awE4) = aw4 from rfl, aw_f4.1] at c1
  go_wp2_with fail
  refine c1.mono ?_
  generalize (w16.alloc (Obj.cells #[Value.int IntKind.i64 8, Value.bool true, Value.string (ByteArray.mk #[98]), Value.string (ByteArray.mk #[])] 75 (0, 0))) = w17 at *
  rintro e w18 ⟨rfl, hC18, hF18⟩
  have H18 := Aside.mk (H17.out.step hC18 hF18)
  have hB18 := hF18.heap hB17 (fun h => by omega)
  clear c1 g1 hR H16 H17 hC18 hF18 hB16 hB17 hlt1
  have c1 := cget_calls C M aw4.1.1 aw4.1.2 kB w18 H18.out.ca
  rw [aw_f4.2.2] at c1
  go_wp2_with fail
  refine c1.mono ?_
  rintro e w19 ⟨rfl, hb19⟩
  have H19 := Aside.mk (H18.out.below hb19)
  have hB19 := (hb19.block b (lt_of_block hB18)).trans hB18
  clear c1 hb19 H18 hB18
  have y0 := cell_at hB19 0
  have y1 := cell_at hB19 1
  have y2 := cell_at hB19 2
  have y3 := cell_at hB19 3
  have v0 := free_at hB19 0
  have v1 := free_at hB19 1
  have v2 := free_at hB19 2
  have v3 := free_at hB19 3
  go_upto_region 11 with fail
  have hW := set4 (b := b) (T := 46) hB19 (.string (ByteArray.mk #[98])) (.string (ByteArray.mk #[122])) (.int .i64 7) (.int .i64 9)
  have hfz := ((((Fr.refl (fun k => k = b) w19).setCell (p := ⟨b, 0, none⟩) (.inl rfl) (.string (ByteArray.mk #[98]))).setCell (p := ⟨b, 1, none⟩) (.inl rfl) (.string (ByteArray.mk #[122]))).setCell (p := ⟨b, 2, none⟩) (.inl rfl) (.int .i64 7)).setCell (p := ⟨b, 3, none⟩) (.inl rfl) (.int .i64 9)
  generalize ((((w19.setCell ⟨b, 0, none⟩ (.string (ByteArray.mk #[98]))).setCell ⟨b, 1, none⟩ (.string (ByteArray.mk #[122]))).setCell ⟨b, 2, none⟩ (.int .i64 7)).setCell ⟨b, 3, none⟩ (.int .i64 9)) = w20 at *
  have H20 : Aside (OC w.heap.size w w20 C M aw4.1.1 aw4.1.2) := ⟨⟨H19.out.ca.fr hfz (fun e => hBne.1 e.symm) (fun e => hBne.2 e.symm), H19.out.c, H19.out.m, H19.out.bel.trans (hfz.below H19.out.size (fun k e => by omega)), Nat.le_trans H19.out.size hfz.size⟩⟩
  have z1 : w20.cell? ⟨b, 1, none⟩ = some (.string (ByteArray.mk #[122])) := cell_at hW 1
  clear y0 y1 y2 y3 v0 v1 v2 v3 hB19 H19 hfz hW
  have c1 := cupto_calls C M aw4.1.1 aw4.1.2 w20 H20.out.ca
  rw [aw_f4.2.1] at c1
  go_wp2_with fail
  refine c1.mono ?_
  rintro e w21 ⟨rfl, rfl⟩
  have c2 := watch_calls C M aw4.1.1 aw4.1.2 11 12 none 0 [] w20 H20.out.ca (Kd.C_nil _ _) (by decide) (by decide) (fun x h => by cases h) (by rw [aw_f4.2.1]; decide) (fun ad h => by cases h)
  rw [aw_f5] at c2
  go_wp2_with fail
  refine c2.mono ?_
  rintro e w22 ⟨rfl, hC22, hF22⟩
  have H22 := Aside.mk (H20.out.step hC22 hF22)
  clear c1 c2 hC22 hF22
  go_wp2_with fail
  go_ret
  exact ⟨rfl, H22.out.bel⟩
end Go.Proofs.Ytagkobpbhfkmdaa.C
