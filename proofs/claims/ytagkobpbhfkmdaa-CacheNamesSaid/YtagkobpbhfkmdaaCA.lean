/- The cache, as it lies: New, Upto, Asof, Get. -/
import Derived.Test.YtagkobpbhfkmdaaKN
import Derived.Test.YtagkobpbhfkmdaaPUT
namespace Go.Proofs.Ytagkobpbhfkmdaa.C
open Go.RowKit Go.Proofs.Ytagkobpbhfkmdaa.Q Go.Proofs.YtagkobpbhfkmdaaW.PrintLast Go.Proofs.YtagkobpbhfkmdaaW.PrintWords
set_option linter.unusedVariables false
set_option linter.unusedSimpArgs false
/-- What is known of a key. -/
structure Fct where
  asof : Int
  there : Bool
  x : Ent
def entZ : Ent := ⟨ByteArray.mk #[], ByteArray.mk #[], 0, 0⟩
def fctZ : Fct := ⟨0, false, entZ⟩
def factC (f : Fct) : Array Value := #[.int .i64 f.asof, .bool f.there, .string f.x.key, .string f.x.val, .int .i64 f.x.made, .int .i64 f.x.mod]
def factV (f : Fct) : Value := .agg (factC f)
abbrev Fcts := ByteArray → Option Fct
/-- A cache: block C, its map in block M. -/
structure CA (w : World) (C M : Nat) (f : Fcts) (u : Int) : Prop where
  box : w.heap[C]? = some (.cells #[.map (some M), .int .i64 u] 79 (0, 0))
  map : ∃ es c, w.heap[M]? = some (.map es c) ∧ GMap Value.string factV es c f
theorem CA.keep {w w' : World} {C M : Nat} {f : Fcts} {u : Int} (h : CA w C M f u) (e1 : w'.heap[C]? = w.heap[C]?) (e2 : w'.heap[M]? = w.heap[M]?) : CA w' C M f u := by
  obtain ⟨hb, es, c, hm, hg⟩ := h
  exact ⟨e1.trans hb, es, c, e2.trans hm, hg⟩
theorem CA.ltC {w : World} {C M : Nat} {f : Fcts} {u : Int} (h : CA w C M f u) : C < w.heap.size := lt_of_block h.box
theorem CA.ltM {w : World} {C M : Nat} {f : Fcts} {u : Int} (h : CA w C M f u) : M < w.heap.size := by
  obtain ⟨hb, es, c, hm, hg⟩ := h
  exact lt_of_block hm
theorem CA.ne {w : World} {C M : Nat} {f : Fcts} {u : Int} (h : CA w C M f u) : C ≠ M := fun e => by
  obtain ⟨hb, es, c, hm, hg⟩ := h
  rw [e, hm] at hb
  cases hb
theorem CA.fr {F : Nat → Prop} {w w' : World} {C M : Nat} {f : Fcts} {u : Int} (h : CA w C M f u) (hf : Fr F w w') (h1 : ¬ F C) (h2 : ¬ F M) : CA w' C M f u := h.keep (hf.block C h.ltC h1) (hf.block M h.ltM h2)
theorem CA.below {w w' : World} {C M : Nat} {f : Fcts} {u : Int} (h : CA w C M f u) (hf : Below w.heap.size w w') : CA w' C M f u := h.keep (hf.block C h.ltC) (hf.block M h.ltM)
theorem strK : KeyOK Try.prog 9 Value.string := strKey Try.underlying9
theorem zeroFact (u : World) : (zeroValue 87).run Try.prog u = .ok (factV fctZ) u := by kernel_rfl
theorem look_fact {w : World} {C M : Nat} {f : Fcts} {u : Int} (h : CA w C M f u) (k : ByteArray) (ok : Bool) : (Instr.lookup 77 (.map (some M)) (.string k) ok).run Try.prog w = .ok (if ok then .tuple #[factV ((f k).getD fctZ), .bool (f k).isSome] else factV ((f k).getD fctZ)) w := by
  obtain ⟨hb, es, c, hm, hg⟩ := h
  cases hf : f k with
  | none => exact hg.lookup_none strK Try.underlying77 zeroFact hm hf ok
  | some v => exact hg.lookup_some strK Try.underlying77 hm hf ok
def asofM (f : Fcts) (u : Int) (k : ByteArray) : Int := match f k with | none => u | some v => if v.asof < u then u else v.asof
def getM (f : Fcts) (k : ByteArray) : Ent × Bool := (((f k).getD fctZ).x, ((f k).getD fctZ).there)
set_option maxHeartbeats 1000000 in
set_option maxRecDepth 100000 in
theorem cnew_calls (w : World) : Calls Try.prog 10 #[] w fun e w' => ∃ C M, e = .returned (.pointer (some ⟨C, 0, none⟩)) ∧ CA w' C M (fun _ => none) (-1) ∧ w.heap.size ≤ C ∧ w.heap.size ≤ M ∧ Below w.heap.size w w' := by
  have hmk := run_makeMap (P := Try.prog) 77 w
  go_enter Try.func10, Try.ntmps10
  go_wp2_with fail
  go_ret
  refine ⟨w.heap.size + 1, w.heap.size, rfl, ⟨?_, #[], 0, blk_al (heap_alloc_new w _) _, GMap.empty _ _ _⟩, by omega, Nat.le_refl _, ((Below.refl _ _).alloc (Nat.le_refl _) _).alloc (by simp) _⟩
  have h1 := heap_alloc_new (w.alloc (.map #[] 0)) (.cells #[.map (some w.heap.size), .int .i64 (-1)] 79 (0, 0))
  rw [show (w.alloc (.map #[] 0)).heap.size = w.heap.size + 1 by simp] at h1
  exact h1
set_option maxHeartbeats 1000000 in
set_option maxRecDepth 100000 in
theorem cupto_calls (C M : Nat) (f : Fcts) (u : Int) (w : World) (h : CA w C M f u) : Calls Try.prog 20 #[.pointer (some ⟨C, 0, none⟩)] w fun e w' => e = .returned (.int .i64 u) ∧ w = w' := by
  have t1 := cell_at h.box 1
  clear h
  go_enter Try.func20, Try.ntmps20
  go_wp2_with fail
  go_ret
  exact ⟨rfl, rfl⟩
set_option maxHeartbeats 1000000 in
set_option maxRecDepth 100000 in
theorem casof_calls (C M : Nat) (f : Fcts) (u : Int) (k : ByteArray) (w : World) (h : CA w C M f u) : Calls Try.prog 17 #[.pointer (some ⟨C, 0, none⟩), .string k] w fun e w' => e = .returned (.int .i64 (asofM f u k)) ∧ Below w.heap.size w w' := by
  have t0 := cell_at h.box 0
  have t1 : w.cell? ⟨C, 1, none⟩ = some (.int .i64 u) := cell_at h.box 1
  have hlt := h.ltC
  have hne : ¬ C = w.heap.size := by omega
  have hl := look_fact h k true
  unfold asofM
  rw [if_pos rfl] at hl
  cases hf : f k with
  | none =>
    rw [hf] at hl
    replace hl : (Instr.lookup 77 (.map (some M)) (.string k) true).run Try.prog w = .ok (.tuple #[.agg #[.int .i64 0, .bool false, .string (ByteArray.mk #[]), .string (ByteArray.mk #[]), .int .i64 0, .int .i64 0], .bool false]) w := hl
    clear h hf
    go_enter Try.func17, Try.ntmps17
    go_wp2_with fail
    go_ret
    exact ⟨rfl, (Below.refl _ _).alloc (Nat.le_refl _) _⟩
  | some v =>
    obtain ⟨a, th, x⟩ := v
    rw [hf] at hl
    replace hl : (Instr.lookup 77 (.map (some M)) (.string k) true).run Try.prog w = .ok (.tuple #[.agg #[.int .i64 a, .bool th, .string x.key, .string x.val, .int .i64 x.made, .int .i64 x.mod], .bool true]) w := hl
    dsimp only
    clear h hf
    by_cases hau : a < u
    · rw [if_pos hau]
      go_enter Try.func17, Try.ntmps17
      go_wp2_with fail
      go_quiet (fail)
      go_wp2_with fail
      go_ret
      exact ⟨rfl, ((Below.refl _ _).alloc (Nat.le_refl _) _).trans ⟨rfl, rfl, rfl, Nat.le_refl _, fun _ _ => rfl⟩⟩
    · rw [if_neg hau]
      have hau' : u ≤ a := by omega
      go_enter Try.func17, Try.ntmps17
      go_wp2_with fail
      go_quiet (fail)
      go_wp2_with fail
      go_ret
      exact ⟨rfl, ((Below.refl _ _).alloc (Nat.le_refl _) _).trans ⟨rfl, rfl, rfl, Nat.le_refl _, fun _ _ => rfl⟩⟩
set_option maxHeartbeats 1000000 in
set_option maxRecDepth 100000 in
theorem cget_calls (C M : Nat) (f : Fcts) (u : Int) (k : ByteArray) (w : World) (h : CA w C M f u) : Calls Try.prog 16 #[.pointer (some ⟨C, 0, none⟩), .string k] w fun e w' => e = .returned (.tuple #[.agg #[.string (getM f k).1.key, .string (getM f k).1.val, .int .i64 (getM f k).1.made, .int .i64 (getM f k).1.mod], .bool (getM f k).2]) ∧ Below w.heap.size w w' := by
  have t0 : w.cell? ⟨C, 0, none⟩ = some (.map (some M)) := cell_at h.box 0
  have hlt := h.ltC
  have hne : ¬ C = w.heap.size := by omega
  have hl := look_fact (h.below ((Below.refl _ _).alloc (Nat.le_refl _) (Obj.cells #[Value.string (ByteArray.mk #[]), Value.string (ByteArray.mk #[]), Value.int IntKind.i64 0, Value.int IntKind.i64 0] 46 (0, 0)))) k false
  rw [if_neg (by decide)] at hl
  unfold getM
  obtain ⟨v, hv⟩ : ∃ v, (f k).getD fctZ = v := ⟨_, rfl⟩
  rw [hv] at hl ⊢
  obtain ⟨a, th, x⟩ := v
  dsimp only
  replace hl : (Instr.lookup 77 (.map (some M)) (.string k) false).run Try.prog (w.alloc (Obj.cells #[Value.string (ByteArray.mk #[]), Value.string (ByteArray.mk #[]), Value.int IntKind.i64 0, Value.int IntKind.i64 0] 46 (0, 0))) = .ok (.agg #[.int .i64 a, .bool th, .string x.key, .string x.val, .int .i64 x.made, .int .i64 x.mod]) (w.alloc (Obj.cells #[Value.string (ByteArray.mk #[]), Value.string (ByteArray.mk #[]), Value.int IntKind.i64 0, Value.int IntKind.i64 0] 46 (0, 0))) := hl
  clear h hv
  go_enter Try.func16, Try.ntmps16
  go_wp2_with fail
  have hz0 : ((w.alloc (Obj.cells #[Value.string (ByteArray.mk #[]), Value.string (ByteArray.mk #[]), Value.int IntKind.i64 0, Value.int IntKind.i64 0] 46 (0, 0))).alloc (Obj.cells #[Value.int IntKind.i64 a, Value.bool th, Value.string x.key, Value.string x.val, Value.int IntKind.i64 x.made, Value.int IntKind.i64 x.mod] 87 (0, 0))).heap[w.heap.size]? = some (Obj.cells #[Value.string (ByteArray.mk #[]), Value.string (ByteArray.mk #[]), Value.int IntKind.i64 0, Value.int IntKind.i64 0] 46 (0, 0)) := blk_al (heap_alloc_new w _) _
  have hz1 : ((w.alloc (Obj.cells #[Value.string (ByteArray.mk #[]), Value.string (ByteArray.mk #[]), Value.int IntKind.i64 0, Value.int IntKind.i64 0] 46 (0, 0))).alloc (Obj.cells #[Value.int IntKind.i64 a, Value.bool th, Value.string x.key, Value.string x.val, Value.int IntKind.i64 x.made, Value.int IntKind.i64 x.mod] 87 (0, 0))).heap[w.heap.size + 1]? = some (Obj.cells #[Value.int IntKind.i64 a, Value.bool th, Value.string x.key, Value.string x.val, Value.int IntKind.i64 x.made, Value.int IntKind.i64 x.mod] 87 (0, 0)) := by
    rw [show w.heap.size + 1 = (w.alloc (Obj.cells #[Value.string (ByteArray.mk #[]), Value.string (ByteArray.mk #[]), Value.int IntKind.i64 0, Value.int IntKind.i64 0] 46 (0, 0))).heap.size by simp]
    exact heap_alloc_new _ _
  have hzF := ((Fr.refl (fun _ => False) w).alloc (Obj.cells #[Value.string (ByteArray.mk #[]), Value.string (ByteArray.mk #[]), Value.int IntKind.i64 0, Value.int IntKind.i64 0] 46 (0, 0))).alloc (Obj.cells #[Value.int IntKind.i64 a, Value.bool th, Value.string x.key, Value.string x.val, Value.int IntKind.i64 x.made, Value.int IntKind.i64 x.mod] 87 (0, 0))
  generalize ((w.alloc (Obj.cells #[Value.string (ByteArray.mk #[]), Value.string (ByteArray.mk #[]), Value.int IntKind.i64 0, Value.int IntKind.i64 0] 46 (0, 0))).alloc (Obj.cells #[Value.int IntKind.i64 a, Value.bool th, Value.string x.key, Value.string x.val, Value.int IntKind.i64 x.made, Value.int IntKind.i64 x.mod] 87 (0, 0))) = wx at *
  obtain ⟨b0, hb0⟩ : ∃ b0, w.heap.size = b0 := ⟨_, rfl⟩
  rw [hb0] at hz0 hz1 hne ⊢
  have HZ := Aside.mk (And.intro (show wx.drew.heap[b0]? = _ from hz0) hzF.drew)
  have y0 := cell_at hz0 0
  have y1 := cell_at hz0 1
  have y2 := cell_at hz0 2
  have y3 := cell_at hz0 3
  have v0 := free_at hz0 0
  have v1 := free_at hz0 1
  have v2 := free_at hz0 2
  have v3 := free_at hz0 3
  have x1 := cell_at hz1 1
  have x2 := cell_at hz1 2
  have x3 := cell_at hz1 3
  have x4 := cell_at hz1 4
  have x5 := cell_at hz1 5
  clear hz0 hz1 hzF
  go_region_with (fail)
  all_goals (
    go_wp2_with fail
    refine at_world (fun W hW => ?_)
    have hw0 : W.heap[b0]? = some (Obj.cells #[Value.string x.key, Value.string x.val, Value.int IntKind.i64 x.made, Value.int IntKind.i64 x.mod] 46 (0, 0)) := by
      rw [hW]
      exact set4 (T := 46) HZ.out.1 _ _ _ _
    have z0 := cell_at hw0 0
    have z1 := cell_at hw0 1
    have z2 := cell_at hw0 2
    have z3 := cell_at hw0 3
    refine bodyPost_ret (by simp [results, Try.results16, go_sem, z0, z1, z2, z3]; try rfl) rfl ?_
    subst hW
    exact ⟨rfl, (Fr.below (F := fun _ => False) ((((HZ.out.2.setCell (p := ⟨b0, 0, none⟩) (.inr (by show w.heap.size ≤ b0; omega)) _).setCell (p := ⟨b0, 1, none⟩) (.inr (by show w.heap.size ≤ b0; omega)) _).setCell (p := ⟨b0, 2, none⟩) (.inr (by show w.heap.size ≤ b0; omega)) _).setCell (p := ⟨b0, 3, none⟩) (.inr (by show w.heap.size ≤ b0; omega)) _) (by omega) (fun k h => h.elim))⟩)
end Go.Proofs.Ytagkobpbhfkmdaa.C
