/- Zu: texts of this claim, laid together. -/
import Derived.Shelf.Abstract
import Derived.Test.YtagkobpbhfkmdaaZu7
import Derived.Test.YtagkobpbhfkmdaaZu9
import Derived.Test.YtagkobpbhfkmdaaZu11
import Derived.Test.YtagkobpbhfkmdaaZu12
/-! from TM -/
namespace Go.Proofs.Ytagkobpbhfkmdaa.C
open Go.RowKit Go.Proofs.Ytagkobpbhfkmdaa.Q Go.Proofs.YtagkobpbhfkmdaaW.PrintLast Go.Proofs.YtagkobpbhfkmdaaW.PrintWords
set_option linter.unusedVariables false
set_option linter.unusedSimpArgs false
/-- A tree as it is kept. -/
structure Tre where
  t : Shf
  rev : Int
  low : Int
  hap : List S75
def treZ : Tre := ⟨.nil, 0, 0, []⟩
def TRx (w : World) (T : Nat) (X : Tre) (A : Option Addr) (c : Nat) : Prop := ∃ v m, w.heap[T]? = some (.cells #[.pointer v, .int .i64 m, .int .i64 X.rev, .int .i64 X.low, .slice A X.hap.length c] 111 (0, 0)) ∧ SH w v X.t ∧ k75.C w A X.hap.length X.hap ∧ X.hap.length ≤ c ∧ ∀ ad, A = some ad → ad.block < w.heap.size ∧ ad.block ≠ T
def TR (w : World) (T : Nat) (X : Tre) : Prop := ∃ A c, TRx w T X A c
theorem TRx.below {w w' : World} {T : Nat} {X : Tre} {A : Option Addr} {c : Nat} (h : TRx w T X A c) (hb : Below w.heap.size w w') : TRx w' T X A c := by
  obtain ⟨v, m, h1, h2, h3, h4, h5⟩ := h
  exact ⟨v, m, (hb.block T (lt_of_block h1)).trans h1, h2.below hb, Kd.C_below h3 hb, h4, fun ad e => ⟨Nat.lt_of_lt_of_le (h5 ad e).1 hb.size, (h5 ad e).2⟩⟩
theorem TR.below {w w' : World} {T : Nat} {X : Tre} (h : TR w T X) (hb : Below w.heap.size w w') : TR w' T X := by
  obtain ⟨A, c, v, m, h1, h2, h3, h4, h5⟩ := h
  exact ⟨A, c, v, m, (hb.block T (lt_of_block h1)).trans h1, h2.below hb, Kd.C_below h3 hb, h4, fun ad e => ⟨Nat.lt_of_lt_of_le (h5 ad e).1 hb.size, (h5 ad e).2⟩⟩
theorem TR.lt {w : World} {T : Nat} {X : Tre} (h : TR w T X) : T < w.heap.size := by
  obtain ⟨A, c, v, m, h1, _⟩ := h
  exact lt_of_block h1
set_option maxHeartbeats 1000000 in
set_option maxRecDepth 100000 in
theorem tnew_calls (w : World) : Calls Try.prog 44 #[] w fun e w' => ∃ T, e = .returned (.pointer (some ⟨T, 0, none⟩)) ∧ TR w' T treZ ∧ w.heap.size ≤ T ∧ Below w.heap.size w w' := by
  go_enter Try.func44, Try.ntmps44
  go_wp2_with fail
  go_ret
  exact ⟨_, rfl, ⟨none, 0, none, 0, heap_alloc_new _ _, rfl, Kd.C_nil _ _, Nat.le_refl _, fun ad e => by cases e⟩, Nat.le_refl _, (Below.refl _ _).alloc (Nat.le_refl _) _⟩
set_option maxHeartbeats 1000000 in
set_option maxRecDepth 100000 in
theorem tcopyx_calls (T : Nat) (X : Tre) (A : Option Addr) (c : Nat) (w : World) (h : TRx w T X A c) : Calls Try.prog 45 #[.pointer (some ⟨T, 0, none⟩)] w fun e w' => ∃ T', e = .returned (.pointer (some ⟨T', 0, none⟩)) ∧ TRx w' T' X A c ∧ w.heap.size ≤ T' ∧ Below w.heap.size w w' := by
  obtain ⟨v, m, h1, h2, h3, h4, h5⟩ := h
  have t0 := cell_at h1 0
  have t1 := cell_at h1 1
  have t2 := cell_at h1 2
  have t3 := cell_at h1 3
  have t4 := cell_at h1 4
  have H := Aside.mk (And.intro h2 (And.intro h3 (And.intro h4 h5)))
  clear h1 h2 h3 h4 h5
  go_enter Try.func45, Try.ntmps45
  go_wp2_with fail
  go_ret
  have hb : Below w.heap.size w (w.alloc (.cells #[.pointer v, .int .i64 m, .int .i64 X.rev, .int .i64 X.low, .slice A X.hap.length c] 111)) := (Below.refl _ _).alloc (Nat.le_refl _) _
  exact ⟨_, rfl, ⟨v, m, heap_alloc_new _ _, H.out.1.below hb, Kd.C_below H.out.2.1 hb, H.out.2.2.1, fun ad e => ⟨Nat.lt_of_lt_of_le (H.out.2.2.2 ad e).1 hb.size, Nat.ne_of_lt (H.out.2.2.2 ad e).1⟩⟩, Nat.le_refl _, hb⟩
set_option maxHeartbeats 1000000 in
set_option maxRecDepth 100000 in
theorem trev_calls (T : Nat) (X : Tre) (w : World) (h : TR w T X) : Calls Try.prog 31 #[.pointer (some ⟨T, 0, none⟩)] w fun e w' => e = .returned (.int .i64 X.rev) ∧ w = w' := by
  obtain ⟨A, c, v, m, h1, h2, h3, h4, h5⟩ := h
  have t2 := cell_at h1 2
  clear h1 h2 h3 h4 h5
  go_enter Try.func31, Try.ntmps31
  go_wp2_with fail
  go_ret
  exact ⟨rfl, rfl⟩
set_option maxHeartbeats 2000000 in
set_option maxRecDepth 100000 in
theorem tget_calls (T : Nat) (X : Tre) (key : ByteArray) (w : World) (h : TR w T X) : Calls Try.prog 55 #[.pointer (some ⟨T, 0, none⟩), .string key] w fun e w' => e = .returned (.tuple #[.agg #[.string (Shf.get key X.t).1.key, .string (Shf.get key X.t).1.val, .int .i64 (Shf.get key X.t).1.made, .int .i64 (Shf.get key X.t).1.mod], .bool (Shf.get key X.t).2]) ∧ Below w.heap.size w w' := by
  have hTl := h.lt
  obtain ⟨A, c, v, m, h1, h2, h3, h4, h5⟩ := h
  have hz := heap_alloc_new w (Obj.cells #[Value.string (ByteArray.mk #[]), Value.string (ByteArray.mk #[]), Value.int IntKind.i64 0, Value.int IntKind.i64 0] 46 (0, 0))
  have hb := (Below.refl w.heap.size w).alloc (Nat.le_refl _) (Obj.cells #[Value.string (ByteArray.mk #[]), Value.string (ByteArray.mk #[]), Value.int IntKind.i64 0, Value.int IntKind.i64 0] 46 (0, 0))
  have hg := sget_calls X.t v key _ (h2.below hb)
  obtain ⟨R, hR⟩ : ∃ R, Shf.get key X.t = R := ⟨_, rfl⟩
  rw [hR] at hg ⊢
  obtain ⟨⟨rk, rv, rm, rd⟩, ri⟩ := R
  dsimp only at hg ⊢
  have t0 : (w.alloc (Obj.cells #[Value.string (ByteArray.mk #[]), Value.string (ByteArray.mk #[]), Value.int IntKind.i64 0, Value.int IntKind.i64 0] 46 (0, 0))).cell? ⟨T, 0, none⟩ = some (.pointer v) := cell_at (blk_al h1 _) 0
  obtain ⟨b0, hb0⟩ : ∃ b0, w.heap.size = b0 := ⟨_, rfl⟩
  rw [hb0] at hz
  have HZ := Aside.mk (And.intro hz (And.intro hb hb0))
  clear h1 h2 h3 h4 h5 hz hb hR
  go_enter Try.func55, Try.ntmps55
  go_upto_region 1 with fail
  try rw [hb0]
  clear hb0
  generalize w.alloc (Obj.cells #[Value.string (ByteArray.mk #[]), Value.string (ByteArray.mk #[]), Value.int IntKind.i64 0, Value.int IntKind.i64 0] 46 (0, 0)) = w1 at *
  go_wp2_with fail
  refine hg.mono ?_
  rintro e w2 ⟨rfl, hb2⟩
  have hz2 := (hb2.block b0 (lt_of_block HZ.out.1)).trans HZ.out.1
  have HZ2 : Aside (w2.heap[b0]? = some (Obj.cells #[Value.string (ByteArray.mk #[]), Value.string (ByteArray.mk #[]), Value.int IntKind.i64 0, Value.int IntKind.i64 0] 46 (0, 0)) ∧ Fr (fun _ => False) w w2 ∧ w.heap.size = b0) := ⟨hz2, Fr.of_new (HZ.out.2.1.trans (hb2.mono HZ.out.2.1.size)), HZ.out.2.2⟩
  have y0 := cell_at hz2 0
  have y1 := cell_at hz2 1
  have y2 := cell_at hz2 2
  have y3 := cell_at hz2 3
  have f0 := free_at hz2 0
  have f1 := free_at hz2 1
  have f2 := free_at hz2 2
  have f3 := free_at hz2 3
  clear hg hb2 hz2 HZ t0
  go_wp2_with fail
  refine at_world (fun W hW => ?_)
  have hw0 : W.heap[b0]? = some (Obj.cells #[Value.string rk, Value.string rv, Value.int IntKind.i64 rm, Value.int IntKind.i64 rd] 46 (0, 0)) := by
    rw [hW]
    exact set4 (T := 46) HZ2.out.1 _ _ _ _
  have z0 := cell_at hw0 0
  have z1 := cell_at hw0 1
  have z2 := cell_at hw0 2
  have z3 := cell_at hw0 3
  refine bodyPost_ret (by simp [results, Try.results55, go_sem, z0, z1, z2, z3]; try rfl) rfl ?_
  subst hW
  have hb0 := HZ2.out.2.2
  exact ⟨rfl, (Fr.below (F := fun _ => False) ((((HZ2.out.2.1.setCell (p := ⟨b0, 0, none⟩) (.inr (by show w.heap.size ≤ b0; omega)) _).setCell (p := ⟨b0, 1, none⟩) (.inr (by show w.heap.size ≤ b0; omega)) _).setCell (p := ⟨b0, 2, none⟩) (.inr (by show w.heap.size ≤ b0; omega)) _).setCell (p := ⟨b0, 3, none⟩) (.inr (by show w.heap.size ≤ b0; omega)) _) (by omega) (fun k h => h.elim))⟩
abbrev Cd := S158
abbrev Opn := S117
/-- A condition that does not hold. -/
def offB (t : Shf) (c : Cd) : Bool := (Shf.get c.f0 t).1.mod != c.f1
set_option maxHeartbeats 2000000 in
set_option maxRecDepth 100000 in
theorem holds1_calls (T K : Nat) (X : Tre) (c : Cd) (w : World) (h : TR w T X) (hK : w.heap[K]? = some (.cells #[.pointer (some ⟨T, 0, none⟩)] 62 (0, 0))) :
    Calls Try.prog 98 #[.agg #[.string c.f0, .int .i64 c.f1], .pointer (some ⟨K, 0, none⟩)] w fun e w' => e = .returned (.bool (offB X.t c)) ∧ Below w.heap.size w w' := by
  obtain ⟨c0, c1⟩ := c
  have hb := (Below.refl w.heap.size w).alloc (Nat.le_refl _) (Obj.cells #[Value.string c0, Value.int IntKind.i64 c1] 158 (0, 0))
  have hg := tget_calls T X c0 _ (h.below hb)
  unfold offB
  dsimp only
  obtain ⟨R, hR⟩ : ∃ R, Shf.get c0 X.t = R := ⟨_, rfl⟩
  rw [hR] at hg ⊢
  obtain ⟨⟨rk, rv, rm, rd⟩, ri⟩ := R
  dsimp only at hg ⊢
  have hE := heap_alloc_new w (Obj.cells #[Value.string c0, Value.int IntKind.i64 c1] 158 (0, 0))
  have t0 : (w.alloc (Obj.cells #[Value.string c0, Value.int IntKind.i64 c1] 158 (0, 0))).cell? ⟨K, 0, none⟩ = some (.pointer (some ⟨T, 0, none⟩)) := cell_at (blk_al hK _) 0
  obtain ⟨b0, hb0⟩ : ∃ b0, w.heap.size = b0 := ⟨_, rfl⟩
  rw [hb0] at hE
  have HB := Aside.mk (And.intro hb hE)
  clear h hK hR hb
  go_enter Try.func98, Try.ntmps98
  go_upto_region 1 with fail
  try rw [hb0]
  clear hb0
  generalize w.alloc (Obj.cells #[Value.string c0, Value.int IntKind.i64 c1] 158 (0, 0)) = w1 at *
  have y0 := cell_at HB.out.2 0
  go_wp2_with fail
  refine hg.mono ?_
  rintro e w2 ⟨rfl, hb2⟩
  have hE2 := (hb2.block b0 (lt_of_block HB.out.2)).trans HB.out.2
  have y1 := cell_at (blk_al hE2 (Obj.cells #[Value.string rk, Value.string rv, Value.int IntKind.i64 rm, Value.int IntKind.i64 rd] 46 (0, 0))) 1
  have HB2 := Aside.mk ((HB.out.1.trans (hb2.mono HB.out.1.size)))
  have hlt := lt_of_block hE2
  have hsz := Aside.mk (Nat.le_trans HB.out.1.size hb2.size)
  clear hb2 hg hE2 hE t0
  have hne : b0 ≠ w2.heap.size := by omega
  go_wp2_with fail
  go_ret
  exact ⟨rfl, HB2.out.alloc hsz.out _⟩
set_option maxHeartbeats 2000000 in
set_option maxRecDepth 100000 in
theorem holds_calls (T : Nat) (X : Tre) (A : Option Addr) (c : Nat) (l : List Cd) (w : World) (h : TR w T X) (g : k158.C w A l.length l) (hlc : l.length ≤ c) (hl : l.length ≤ 1000000000) :
    Calls Try.prog 75 #[.pointer (some ⟨T, 0, none⟩), .slice A l.length c] w fun e w' => e = .returned (.bool (!(l.any (offB X.t)))) ∧ Below w.heap.size w w' := by
  have hb := (Below.refl w.heap.size w).alloc (Nat.le_refl _) (Obj.cells #[Value.pointer (some ⟨T, 0, none⟩)] 62 (0, 0))
  have hE := heap_alloc_new w (Obj.cells #[Value.pointer (some ⟨T, 0, none⟩)] 62 (0, 0))
  have hc := containsfC1_calls A c l 98 w.heap.size (offB X.t) (w.alloc (Obj.cells #[Value.pointer (some ⟨T, 0, none⟩)] 62 (0, 0))) (Kd.C_below g hb) hlc hl (fun W x _ hW => holds1_calls T w.heap.size X x W ((h.below hb).below hW) ((hW.block _ (lt_of_block hE)).trans hE)) (enters_of Try.func98 (by kernel_rfl) rfl)
  obtain ⟨n, hn⟩ : ∃ n, l.length = n := ⟨_, rfl⟩
  rw [hn] at hc ⊢
  obtain ⟨B, hB⟩ : ∃ B, l.any (offB X.t) = B := ⟨_, rfl⟩
  rw [hB] at hc ⊢
  have HB := Aside.mk hb
  clear h g hlc hl hb hE hn hB
  go_enter Try.func75, Try.ntmps75
  go_wp2_with fail
  refine hc.mono ?_
  rintro e w1 ⟨rfl, hb1⟩
  have HB1 := Aside.mk (HB.out.trans (hb1.mono HB.out.size))
  clear hb1 hc
  go_wp2_with fail
  go_ret
  exact ⟨rfl, HB1.out⟩
end Go.Proofs.Ytagkobpbhfkmdaa.C
/-! from OP -/
namespace Go.Proofs.Ytagkobpbhfkmdaa.C
open Go.RowKit Go.Proofs.Ytagkobpbhfkmdaa.Q Go.Proofs.YtagkobpbhfkmdaaW.PrintLast Go.Proofs.YtagkobpbhfkmdaaW.PrintWords
set_option linter.unusedVariables false
set_option linter.unusedSimpArgs false
/-- What an operation comes to. -/
def opM (X : Tre) (o : Opn) : Tre × Bool :=
  if o.f0 = true then (if (Shf.get o.f1 X.t).2 = true then ({ X with t := Shf.drop o.f1 X.t }, true) else (X, false))
  else ({ X with t := Shf.put o.f1 ⟨o.f1, o.f2, if (Shf.get o.f1 X.t).2 = true then (Shf.get o.f1 X.t).1.made else X.rev, X.rev⟩ X.t }, true)
def op1T : Bool × List (List Nat × List Nat) := (true, [([], []), ([0], [0]), ([1], [1]), ([2], [2]), ([], []), ([4], [4]), ([3, 5], [3, 5]), ([6], [6]), ([7], [7]), ([7], [7]), ([], []), ([10, 8, 6, 0, 1, 2, 3, 4, 5, 6, 7, 8, 10], [8, 10]), ([9, 11, 0, 1, 2, 3, 4, 5, 6, 7, 8, 9, 10, 11], [9])])
def op1B : List Nat := [0, 1, 3, 7, 0, 16, 63, 127, 255, 255, 0, 1535, 4095]
theorem op1_tab : rtab .any (opsOf Try.f76 1) = op1T := by kernel_rfl
theorem op1_bits : waitsOk op1T.2 op1B = true := by kernel_rfl
def op5T : Bool × List (List Nat × List Nat) := (true, [([], []), ([], []), ([1], [1]), ([2], [2]), ([3], [3]), ([], []), ([5], [5]), ([4, 6], [4, 6]), ([0, 0, 1, 2, 3, 4, 5, 6, 7], [0]), ([8, 0, 1, 2, 3, 4, 5, 6, 7], [8]), ([9, 7, 7, 0, 1, 2, 3, 4, 5, 6, 7], [7, 9])])
def op5B : List Nat := [0, 0, 2, 6, 14, 0, 32, 126, 255, 511, 1023]
theorem op5_tab : rtab .any (opsOf Try.f76 5) = op5T := by kernel_rfl
theorem op5_bits : waitsOk op5T.2 op5B = true := by kernel_rfl
def op11T : Bool × List (List Nat × List Nat) := (true, [([], []), ([], []), ([1], [1]), ([2], [2]), ([3], [3]), ([], []), ([5], [5]), ([], []), ([7], [7]), ([], []), ([9], [9]), ([], []), ([11], [11]), ([], []), ([13], [13]), ([14], [14]), ([15], [15]), ([8, 10, 12, 16], [8, 10, 12, 16]), ([4, 6, 17], [4, 6, 17]), ([0, 0, 1, 2, 3, 4, 5, 6, 7, 8, 9, 10, 11, 12, 13, 14, 15, 16, 17, 18], [0]), ([19, 0, 1, 2, 3, 4, 5, 6, 7, 8, 9, 10, 11, 12, 13, 14, 15, 16, 17, 18], [19]), ([20, 18, 18, 0, 1, 2, 3, 4, 5, 6, 7, 8, 9, 10, 11, 12, 13, 14, 15, 16, 17, 18], [18, 20])])
def op11B : List Nat := [0, 0, 2, 6, 14, 0, 32, 0, 128, 0, 512, 0, 2048, 0, 8192, 24576, 57344, 130944, 262142, 524287, 1048575, 2097151]
theorem op11_tab : rtab .any (opsOf Try.f76 11) = op11T := by kernel_rfl
theorem op11_bits : waitsOk op11T.2 op11B = true := by kernel_rfl
set_option maxHeartbeats 8000000 in
set_option maxRecDepth 100000 in
theorem op_calls (T : Nat) (X : Tre) (o : Opn) (A : Option Addr) (c : Nat) (w : World) (h : TRx w T X A c) (ho : X.t.ok) (hn : X.t.cnt ≤ 10000000000) :
    Calls Try.prog 76 #[.pointer (some ⟨T, 0, none⟩), .agg #[.bool o.f0, .string o.f1, .string o.f2]] w fun e w' => e = .returned (.bool (opM X o).2) ∧ TRx w' T (opM X o).1 A c ∧ Fr (fun k => k = T) w w' := by
  obtain ⟨del, key, val⟩ := o
  obtain ⟨Y, hY⟩ : ∃ Y, opM X ⟨del, key, val⟩ = Y := ⟨_, rfl⟩
  rw [hY]
  unfold opM at hY
  dsimp only at hY ⊢
  obtain ⟨v, m, h1, h2, h3, h4, h5⟩ := h
  have hTl := lt_of_block h1
  obtain ⟨Wa, hWa⟩ : ∃ W, w.alloc (Obj.cells #[Value.bool del, Value.string key, Value.string val] 117 (0, 0)) = W := ⟨_, rfl⟩
  have hbo := heap_alloc_new w (Obj.cells #[Value.bool del, Value.string key, Value.string val] 117 (0, 0))
  have hbw : Below w.heap.size w Wa := by rw [← hWa]; exact (Below.refl _ _).alloc (Nat.le_refl _) _
  rw [hWa] at hbo
  have hsa : Wa.heap.size = w.heap.size + 1 := by rw [← hWa]; simp
  obtain ⟨bo, hbo0⟩ : ∃ b, w.heap.size = b := ⟨_, rfl⟩
  rw [hbo0] at hbo
  obtain ⟨Wb, hWb⟩ : ∃ W, Wa.drew = W := ⟨_, rfl⟩
  have hbb : Below w.heap.size w Wb := by rw [← hWb]; exact below_drew1 hbw
  have hsb : Wb.heap.size = bo + 1 := by rw [← hWb, ← hbo0]; exact hsa
  have h1b : Wb.heap[T]? = _ := (hbb.block T hTl).trans h1
  have hob : Wb.heap[bo]? = some (Obj.cells #[Value.bool del, Value.string key, Value.string val] 117 (0, 0)) := by rw [← hWb]; exact hbo
  have h2b := h2.below hbb
  have HS : Aside (∀ W, Below Wb.heap.size Wb W → (W.cell? ⟨T, 0, none⟩ = some (.pointer v) ∧ W.cell? ⟨bo, 1, none⟩ = some (.string key))) := ⟨fun W hW => ⟨cell_at ((hW.block T (lt_of_block h1b)).trans h1b) 0, cell_at ((hW.block bo (lt_of_block hob)).trans hob) 1⟩⟩
  obtain ⟨G, hG⟩ : ∃ G, Shf.get key X.t = G := ⟨_, rfl⟩
  rw [hG] at hY
  have HG0 : ∀ W, Below Wb.heap.size Wb W → Calls Try.prog 82 #[.pointer v, .string key] W fun e w' => e = .returned (.tuple #[.agg #[.string G.1.key, .string G.1.val, .int .i64 G.1.made, .int .i64 G.1.mod], .bool G.2]) ∧ Below W.heap.size W w' := fun W hW => by
    have := sget_calls X.t v key W (h2b.below hW)
    rw [hG] at this
    exact this
  obtain ⟨⟨rk, rv, rm, rd⟩, ri⟩ := G
  dsimp only at HG0 hY
  have HG := Aside.mk HG0
  have HY := Aside.mk hY
  have H0 := Aside.mk (And.intro hbb (And.intro h1b (And.intro hob (And.intro h2b (And.intro (Kd.C_below h3 hbb) (And.intro h4 (And.intro hsb (And.intro hTl h5))))))))
  have HBO := Aside.mk hbo0
  have HSE0 := Aside.mk trivial
  have HOK := Aside.mk (And.intro ho hn)
  clear h1 h2 h3 h4 h5 hbo hbw hsa hbb hsb h1b hob h2b hG HG0 hY ho hn
  go_enter Try.func76, Try.ntmps76
  go_upto_region 1 with fail
  try rw [hWa]
  try rw [hbo0]
  have HW0 := Aside.mk hWb
  clear hWa hbo0 hWb
  refine start_ (n := 13) (S := (fun w' => w'.cell? ⟨T, 0, none⟩ = some (.pointer v) ∧ w'.cell? ⟨bo, 1, none⟩ = some (.string key))) (ds := []) #[false, false, false, false, false, false, false, false, false, false, false, false, false] (by kernel_rfl) rfl rfl (by rw [HW0.out]; exact HS.out Wb (Below.refl _ _)) (fun hHeld => ?_); refine with_tabW op1_tab op1_bits (fun HT_ HW_ => ?_)
  rw [HW0.out] at hHeld ⊢
  refine pure_ (i := 0) (N := (some 8)) (v := ?_) (a' := ?_) #[true, false, false, false, false, false, false, false, false, false, false, false, false] rfl rfl (any_of HT_.out (by kernel_rfl)) (fun _ _ _ h => h) (Or.inl ⟨by rfl, ?_⟩) ?_ ?_
  rotate_left
  · intro w'
    go_simp
    with_reducible rfl
  rotate_left
  · simp only [Act.put, List.setIfInBounds_toArray, List.set_cons_zero, List.set_cons_succ, i64_w, i32_w]
    rfl
  refine pure_ (i := 1) (N := (some 9)) (v := ?_) (a' := ?_) #[true, true, false, false, false, false, false, false, false, false, false, false, false] rfl rfl (any_of HT_.out (by kernel_rfl)) (fun _ _ _ h => h) (Or.inl ⟨by rfl, ?_⟩) ?_ ?_
  rotate_left
  · intro w'
    go_simp
    with_reducible rfl
  rotate_left
  · simp only [Act.put, List.setIfInBounds_toArray, List.set_cons_zero, List.set_cons_succ, i64_w, i32_w]
    rfl
  refine pure_ (i := 2) (N := (some 10)) (v := ?_) (a' := ?_) #[true, true, true, false, false, false, false, false, false, false, false, false, false] rfl rfl (any_of HT_.out (by kernel_rfl)) (fun _ _ _ h => h) (Or.inl ⟨by rfl, ?_⟩) ?_ ?_
  rotate_left
  · intro w'
    go_simp
    with_reducible rfl
  rotate_left
  · simp only [Act.put, List.setIfInBounds_toArray, List.set_cons_zero, List.set_cons_succ, i64_w, i32_w]
    rfl
  refine take_ (i := 3) (N := (some 11)) (v := ?_) (a' := ?_) #[true, true, true, true, false, false, false, false, false, false, false, false, false] rfl rfl (take_ofW HT_.out HW_.out (by kernel_rfl)) (fun _ _ _ h => h) (Or.inl ⟨by rfl, ?_⟩) hHeld ?_ ?_
  rotate_left
  · rintro w' ⟨s1, _⟩
    go_simp
    with_reducible rfl
  rotate_left
  · simp only [Act.put, List.setIfInBounds_toArray, List.set_cons_zero, List.set_cons_succ, i64_w, i32_w]
    rfl
  refine pure_ (i := 4) (N := (some 12)) (v := ?_) (a' := ?_) #[true, true, true, true, true, false, false, false, false, false, false, false, false] rfl rfl (any_of HT_.out (by kernel_rfl)) (fun _ _ _ h => h) (Or.inl ⟨by rfl, ?_⟩) ?_ ?_
  rotate_left
  · intro w'
    go_simp
    with_reducible rfl
  rotate_left
  · simp only [Act.put, List.setIfInBounds_toArray, List.set_cons_zero, List.set_cons_succ, i64_w, i32_w]
    rfl
  refine take_ (i := 5) (N := (some 13)) (v := ?_) (a' := ?_) #[true, true, true, true, true, true, false, false, false, false, false, false, false] rfl rfl (take_ofW HT_.out HW_.out (by kernel_rfl)) (fun _ _ _ h => h) (Or.inl ⟨by rfl, ?_⟩) hHeld ?_ ?_
  rotate_left
  · rintro w' ⟨_, s1⟩
    go_simp
    with_reducible rfl
  rotate_left
  · simp only [Act.put, List.setIfInBounds_toArray, List.set_cons_zero, List.set_cons_succ, i64_w, i32_w]
    rfl
  refine join_ (σ := Nat) 2 #[true, true, true, true, true, true, true, true, true, true, true, false, false] (fun s => [(14, .tuple #[.agg #[.string rk, .string rv, .int .i64 rm, .int .i64 rd], .bool ri]), (5, .pointer (some ⟨s, 0, none⟩)), (7, .tuple #[.agg #[.string rk, .string rv, .int .i64 rm, .int .i64 rd], .bool ri]), (15, .agg #[.string rk, .string rv, .int .i64 rm, .int .i64 rd]), (16, .bool ri)]) (fun s w' => Below Wb.heap.size Wb w' ∧ w'.heap[s]? = some (.cells #[Value.string (ByteArray.mk #[]), Value.string (ByteArray.mk #[]), Value.int IntKind.i64 0, Value.int IntKind.i64 0] 46 (0, 0)) ∧ Wb.heap.size ≤ s) ?_ ?_
  rotate_left
  · intro hCont
    refine two_ (i := 6) (j := 10) (Ni := (some 14)) (Nj := (some 5)) #[true, true, true, true, true, true, true, false, false, false, false, false, false] #[true, true, true, true, true, true, false, false, false, false, true, false, false] rfl rfl rfl rfl (two_of HT_.out (by kernel_rfl)) (by decide) (by decide) (fun K9 hK => ?_) (fun K9 hK => ?_)
    · skip
      have HQ := Aside.mk (Below.refl Wb.heap.size Wb)
      refine goes_ Try.func82 (by kernel_rfl) rfl #[.pointer v, .string key] (by rfl) rfl rfl (by (try simp only [List.map_toArray, List.map_cons, List.map_nil]); first | done | rfl) ?_
      refine (HG.out Wb HQ.out).mono ?_
      rintro e W1 ⟨rfl, hb⟩
      refine ⟨_, rfl, ?_⟩
      have hq := HQ.out.trans (hb.mono HQ.out.size)
      have HQ := Aside.mk hq
      clear hb hq
      refine hK.out _ _ (HS.out W1 HQ.out) (fun hHeld => ?_)
      clear hK K9
      refine norm_ (a' := ?_) ?_ ?_
      rotate_left
      · show Act.put _ (some 14) _ = _
        simp only [Act.put, List.setIfInBounds_toArray, List.set_cons_zero, List.set_cons_succ]
        rfl
      refine pure_ (i := 7) (N := (some 7)) (v := ?_) (a' := ?_) #[true, true, true, true, true, true, true, true, false, false, false, false, false] rfl rfl (any_of HT_.out (by kernel_rfl)) (fun _ _ _ h => h) (Or.inl ⟨by rfl, ?_⟩) ?_ ?_
      rotate_left
      · intro w'
        go_simp
        with_reducible rfl
      rotate_left
      · simp only [Act.put, List.setIfInBounds_toArray, List.set_cons_zero, List.set_cons_succ, i64_w, i32_w]
        rfl
      refine pure_ (i := 8) (N := (some 15)) (v := ?_) (a' := ?_) #[true, true, true, true, true, true, true, true, true, false, false, false, false] rfl rfl (any_of HT_.out (by kernel_rfl)) (fun _ _ _ h => h) (Or.inl ⟨by rfl, ?_⟩) ?_ ?_
      rotate_left
      · intro w'
        go_simp
        with_reducible rfl
      rotate_left
      · simp only [Act.put, List.setIfInBounds_toArray, List.set_cons_zero, List.set_cons_succ, i64_w, i32_w]
        rfl
      refine pure_ (i := 9) (N := (some 16)) (v := ?_) (a' := ?_) #[true, true, true, true, true, true, true, true, true, true, false, false, false] rfl rfl (any_of HT_.out (by kernel_rfl)) (fun _ _ _ h => h) (Or.inl ⟨by rfl, ?_⟩) ?_ ?_
      rotate_left
      · intro w'
        go_simp
        with_reducible rfl
      rotate_left
      · simp only [Act.put, List.setIfInBounds_toArray, List.set_cons_zero, List.set_cons_succ, i64_w, i32_w]
        rfl
      refine one_ (i := 10) (N := (some 5)) #[true, true, true, true, true, true, true, true, true, true, true, false, false] rfl rfl (one_of HT_.out (by kernel_rfl)) (by decide) (fun K9 hK => ?_)
      have hz := heap_alloc_new W1 (.cells #[Value.string (ByteArray.mk #[]), Value.string (ByteArray.mk #[]), Value.int IntKind.i64 0, Value.int IntKind.i64 0] 46 (0, 0))
      refine value_ (v := .pointer (some ⟨W1.heap.size, 0, none⟩)) (w1 := W1.alloc (.cells #[Value.string (ByteArray.mk #[]), Value.string (ByteArray.mk #[]), Value.int IntKind.i64 0, Value.int IntKind.i64 0] 46 (0, 0))) (by rfl) rfl (by unfold execOp; go_simp) ?_
      have hq := HQ.out.alloc HQ.out.size (.cells #[Value.string (ByteArray.mk #[]), Value.string (ByteArray.mk #[]), Value.int IntKind.i64 0, Value.int IntKind.i64 0] 46 (0, 0))
      obtain ⟨sE, hsE⟩ : ∃ sE, W1.heap.size = sE := ⟨_, rfl⟩
      rw [hsE] at hz ⊢
      have hs1 : Wb.heap.size ≤ sE := by rw [← hsE]; exact HQ.out.size
      have HSE := Aside.mk hs1
      clear hsE hs1
      generalize W1.alloc (.cells #[Value.string (ByteArray.mk #[]), Value.string (ByteArray.mk #[]), Value.int IntKind.i64 0, Value.int IntKind.i64 0] 46 (0, 0)) = W2 at *
      have HQ := Aside.mk (And.intro hq hz)
      clear hq hz
      refine hK.out _ _ (HS.out W2 HQ.out.1) (fun hHeld => ?_)
      clear hK K9
      refine norm_ (a' := ?_) ?_ ?_
      rotate_left
      · show Act.put _ (some 5) _ = _
        simp only [Act.put, List.setIfInBounds_toArray, List.set_cons_zero, List.set_cons_succ]
        rfl
      exact norm_ (by first | (simp only [putAll, Act.put, List.setIfInBounds_toArray, List.set_cons_zero, List.set_cons_succ]; done) | (simp only [putAll, Act.put, List.setIfInBounds_toArray, List.set_cons_zero, List.set_cons_succ]; rfl)) (hCont sE _ ⟨HQ.out.1, HQ.out.2, HSE.out⟩)
    · skip
      have HQ := Aside.mk (Below.refl Wb.heap.size Wb)
      have hz := heap_alloc_new Wb (.cells #[Value.string (ByteArray.mk #[]), Value.string (ByteArray.mk #[]), Value.int IntKind.i64 0, Value.int IntKind.i64 0] 46 (0, 0))
      refine value_ (v := .pointer (some ⟨Wb.heap.size, 0, none⟩)) (w1 := Wb.alloc (.cells #[Value.string (ByteArray.mk #[]), Value.string (ByteArray.mk #[]), Value.int IntKind.i64 0, Value.int IntKind.i64 0] 46 (0, 0))) (by rfl) rfl (by unfold execOp; go_simp) ?_
      have hq := HQ.out.alloc HQ.out.size (.cells #[Value.string (ByteArray.mk #[]), Value.string (ByteArray.mk #[]), Value.int IntKind.i64 0, Value.int IntKind.i64 0] 46 (0, 0))
      obtain ⟨sE, hsE⟩ : ∃ sE, Wb.heap.size = sE := ⟨_, rfl⟩
      rw [hsE] at hz ⊢
      have hs1 : Wb.heap.size ≤ sE := by rw [← hsE]; exact HQ.out.size
      have HSE := Aside.mk hs1
      clear hsE hs1
      generalize Wb.alloc (.cells #[Value.string (ByteArray.mk #[]), Value.string (ByteArray.mk #[]), Value.int IntKind.i64 0, Value.int IntKind.i64 0] 46 (0, 0)) = W1 at *
      have HQ := Aside.mk (And.intro hq hz)
      clear hq hz
      refine hK.out _ _ (HS.out W1 HQ.out.1) (fun hHeld => ?_)
      clear hK K9
      refine norm_ (a' := ?_) ?_ ?_
      rotate_left
      · show Act.put _ (some 5) _ = _
        simp only [Act.put, List.setIfInBounds_toArray, List.set_cons_zero, List.set_cons_succ]
        rfl
      refine one_ (i := 6) (N := (some 14)) #[true, true, true, true, true, true, true, false, false, false, true, false, false] rfl rfl (one_of HT_.out (by kernel_rfl)) (by decide) (fun K9 hK => ?_)
      refine goes_ Try.func82 (by kernel_rfl) rfl #[.pointer v, .string key] (by rfl) rfl rfl (by (try simp only [List.map_toArray, List.map_cons, List.map_nil]); first | done | rfl) ?_
      refine (HG.out W1 HQ.out.1).mono ?_
      rintro e W2 ⟨rfl, hb⟩
      refine ⟨_, rfl, ?_⟩
      have hq := HQ.out.1.trans (hb.mono HQ.out.1.size)
      have hz := (hb.block sE (lt_of_block HQ.out.2)).trans HQ.out.2
      have hq := And.intro hq hz
      clear hz
      have HQ := Aside.mk hq
      clear hb hq
      refine hK.out _ _ (HS.out W2 HQ.out.1) (fun hHeld => ?_)
      clear hK K9
      refine norm_ (a' := ?_) ?_ ?_
      rotate_left
      · show Act.put _ (some 14) _ = _
        simp only [Act.put, List.setIfInBounds_toArray, List.set_cons_zero, List.set_cons_succ]
        rfl
      refine pure_ (i := 7) (N := (some 7)) (v := ?_) (a' := ?_) #[true, true, true, true, true, true, true, true, false, false, true, false, false] rfl rfl (any_of HT_.out (by kernel_rfl)) (fun _ _ _ h => h) (Or.inl ⟨by rfl, ?_⟩) ?_ ?_
      rotate_left
      · intro w'
        go_simp
        with_reducible rfl
      rotate_left
      · simp only [Act.put, List.setIfInBounds_toArray, List.set_cons_zero, List.set_cons_succ, i64_w, i32_w]
        rfl
      refine pure_ (i := 8) (N := (some 15)) (v := ?_) (a' := ?_) #[true, true, true, true, true, true, true, true, true, false, true, false, false] rfl rfl (any_of HT_.out (by kernel_rfl)) (fun _ _ _ h => h) (Or.inl ⟨by rfl, ?_⟩) ?_ ?_
      rotate_left
      · intro w'
        go_simp
        with_reducible rfl
      rotate_left
      · simp only [Act.put, List.setIfInBounds_toArray, List.set_cons_zero, List.set_cons_succ, i64_w, i32_w]
        rfl
      refine pure_ (i := 9) (N := (some 16)) (v := ?_) (a' := ?_) #[true, true, true, true, true, true, true, true, true, true, true, false, false] rfl rfl (any_of HT_.out (by kernel_rfl)) (fun _ _ _ h => h) (Or.inl ⟨by rfl, ?_⟩) ?_ ?_
      rotate_left
      · intro w'
        go_simp
        with_reducible rfl
      rotate_left
      · simp only [Act.put, List.setIfInBounds_toArray, List.set_cons_zero, List.set_cons_succ, i64_w, i32_w]
        rfl
      exact norm_ (by first | (simp only [putAll, Act.put, List.setIfInBounds_toArray, List.set_cons_zero, List.set_cons_succ]; done) | (simp only [putAll, Act.put, List.setIfInBounds_toArray, List.set_cons_zero, List.set_cons_succ]; rfl)) (hCont sE _ ⟨HQ.out.1, HQ.out.2, HSE.out⟩)
  rintro sE W2 ⟨hq1, hq2, hq3⟩
  have hHeld := HS.out W2 hq1
  refine norm_ (a' := ?_) ?_ ?_
  rotate_left
  · simp only [putAll, Act.put, List.setIfInBounds_toArray, List.set_cons_zero, List.set_cons_succ]
    rfl
  refine one_ (i := 11) (N := none) #[true, true, true, true, true, true, true, true, true, true, true, true, false] rfl rfl (one_of HT_.out (by kernel_rfl)) (by decide) (fun K9 hK => ?_)
  have y0 := cell_at hq2 0
  have y1 := cell_at hq2 1
  have y2 := cell_at hq2 2
  have y3 := cell_at hq2 3
  have f0 := free_at hq2 0
  have f1 := free_at hq2 1
  have f2 := free_at hq2 2
  have f3 := free_at hq2 3
  refine skip_ (w1 := ((((W2.setCell ⟨sE, 0, none⟩ (.string rk)).setCell ⟨sE, 1, none⟩ (.string rv)).setCell ⟨sE, 2, none⟩ (.int .i64 rm)).setCell ⟨sE, 3, none⟩ (.int .i64 rd))) (by rfl) rfl (by unfold execOp; go_simp) ?_
  have hq4 : ((((W2.setCell ⟨sE, 0, none⟩ (.string rk)).setCell ⟨sE, 1, none⟩ (.string rv)).setCell ⟨sE, 2, none⟩ (.int .i64 rm)).setCell ⟨sE, 3, none⟩ (.int .i64 rd)).heap[sE]? = some (.cells #[.string rk, .string rv, .int .i64 rm, .int .i64 rd] 46 (0, 0)) := set4 hq2 _ _ _ _
  have hq5 : Below Wb.heap.size Wb ((((W2.setCell ⟨sE, 0, none⟩ (.string rk)).setCell ⟨sE, 1, none⟩ (.string rv)).setCell ⟨sE, 2, none⟩ (.int .i64 rm)).setCell ⟨sE, 3, none⟩ (.int .i64 rd)) := (((hq1.setCell (p := ⟨sE, 0, none⟩) hq3 _).setCell (p := ⟨sE, 1, none⟩) hq3 _).setCell (p := ⟨sE, 2, none⟩) hq3 _).setCell (p := ⟨sE, 3, none⟩) hq3 _
  generalize ((((W2.setCell ⟨sE, 0, none⟩ (.string rk)).setCell ⟨sE, 1, none⟩ (.string rv)).setCell ⟨sE, 2, none⟩ (.int .i64 rm)).setCell ⟨sE, 3, none⟩ (.int .i64 rd)) = W3 at *
  clear y0 y1 y2 y3 f0 f1 f2 f3
  refine hK.out _ _ (HS.out W3 hq5) (fun hHeld => ?_)
  clear hK K9
  refine pure_ (i := 12) (N := (some 6)) (v := ?_) (a' := ?_) #[true, true, true, true, true, true, true, true, true, true, true, true, true] rfl rfl (any_of HT_.out (by kernel_rfl)) (fun _ _ _ h => h) (Or.inl ⟨by rfl, ?_⟩) ?_ ?_
  rotate_left
  · intro w'
    go_simp
    with_reducible rfl
  rotate_left
  · simp only [Act.put, List.setIfInBounds_toArray, List.set_cons_zero, List.set_cons_succ, i64_w, i32_w]
    rfl
  refine done_ (done_of HT_.out (by kernel_rfl)) ?_
  clear HT_ HW_ hHeld
  have H3 : Aside (Below w.heap.size w W3 ∧ W3.heap[T]? = some (.cells #[.pointer v, .int .i64 m, .int .i64 X.rev, .int .i64 X.low, .slice A X.hap.length c] 111 (0, 0)) ∧ W3.heap[bo]? = some (Obj.cells #[Value.bool del, Value.string key, Value.string val] 117 (0, 0)) ∧ W3.heap[sE]? = some (.cells #[.string rk, .string rv, .int .i64 rm, .int .i64 rd] 46 (0, 0)) ∧ SH W3 v X.t ∧ k75.C W3 A X.hap.length X.hap ∧ X.hap.length ≤ c ∧ T < bo ∧ bo < sE ∧ w.heap.size = bo ∧ ∀ ad, A = some ad → ad.block < w.heap.size ∧ ad.block ≠ T) := ⟨by
    obtain ⟨a1, a2, a3, a4, a5, a6, a7, a8, a9⟩ := H0.out
    exact ⟨a1.trans (hq5.mono a1.size), (hq5.block T (lt_of_block a2)).trans a2, (hq5.block bo (lt_of_block a3)).trans a3, hq4, a4.below hq5, Kd.C_below a5 hq5, a6, by rw [HBO.out] at a8; exact a8, by omega, HBO.out, a9⟩⟩
  clear hq1 hq2 hq3 hq4 hq5 H0 HG HS HSE0
  have d0 : W3.cell? ⟨bo, 0, none⟩ = some (.bool del) := cell_at H3.out.2.2.1 0
  cases del with
  | true =>
    cases ri with
    | false =>
      have HY1 := HY.out
      rw [if_pos rfl, if_neg (by decide)] at HY1
      go_wp2_with fail
      go_ret
      rw [← HY1]
      obtain ⟨a1, a2, a3, a4, a5, a6, a7, a8, a9, a10, a11⟩ := H3.out
      exact ⟨rfl, ⟨v, m, a2, a5, a6, a7, fun ad e => ⟨Nat.lt_of_lt_of_le (a11 ad e).1 a1.size, (a11 ad e).2⟩⟩, Fr.of_new a1⟩
    | true =>
      have HY1 := HY.out
      rw [if_pos rfl, if_pos rfl] at HY1
      have HD : Aside (∀ W, Below W3.drew.heap.size W3.drew W → (W.cell? ⟨T, 0, none⟩ = some (.pointer v) ∧ W.cell? ⟨bo, 1, none⟩ = some (.string key))) := ⟨fun W hW => ⟨cell_at ((hW.block T (show T < W3.drew.heap.size from lt_of_block H3.out.2.1)).trans H3.out.2.1) 0, cell_at ((hW.block bo (show bo < W3.drew.heap.size from lt_of_block H3.out.2.2.1)).trans H3.out.2.2.1) 1⟩⟩
      have HFZ : Aside (∀ W, Below W3.drew.heap.size W3.drew W → W.frozen? ⟨T, 0, none⟩ = false) := ⟨fun W hW => free_at ((hW.block T (show T < W3.drew.heap.size from lt_of_block H3.out.2.1)).trans H3.out.2.1) 0⟩
      have HSH : Aside (SH W3.drew v X.t) := ⟨H3.out.2.2.2.2.1.below (below_drew1 (Below.refl _ _))⟩
      have HYY := Aside.mk HY1
      clear HY1
      go_upto_region 5 with fail
      obtain ⟨Wd, hWd⟩ : ∃ W, W3 = W := ⟨_, rfl⟩
      rw [hWd] at HD HFZ HSH H3 ⊢
      clear d0 hWd
      refine start_ (n := 11) (S := (fun w' => w'.cell? ⟨T, 0, none⟩ = some (.pointer v) ∧ w'.cell? ⟨bo, 1, none⟩ = some (.string key))) (ds := [10]) #[false, false, false, false, false, false, false, false, false, false, false] (by kernel_rfl) rfl rfl (HD.out Wd.drew (Below.refl _ _)) (fun hHeld => ?_); refine with_tabW op5_tab op5_bits (fun HT_ HW_ => ?_)
      refine pure_ (i := 0) (N := (some 27)) (v := ?_) (a' := ?_) #[true, false, false, false, false, false, false, false, false, false, false] rfl rfl (any_of HT_.out (by kernel_rfl)) (fun _ _ _ h => h) (Or.inl ⟨by rfl, ?_⟩) ?_ ?_
      rotate_left
      · intro w'
        go_simp
        with_reducible rfl
      rotate_left
      · simp only [Act.put, List.setIfInBounds_toArray, List.set_cons_zero, List.set_cons_succ, i64_w, i32_w]
        rfl
      refine pure_ (i := 1) (N := (some 28)) (v := ?_) (a' := ?_) #[true, true, false, false, false, false, false, false, false, false, false] rfl rfl (any_of HT_.out (by kernel_rfl)) (fun _ _ _ h => h) (Or.inl ⟨by rfl, ?_⟩) ?_ ?_
      rotate_left
      · intro w'
        go_simp
        with_reducible rfl
      rotate_left
      · simp only [Act.put, List.setIfInBounds_toArray, List.set_cons_zero, List.set_cons_succ, i64_w, i32_w]
        rfl
      refine pure_ (i := 2) (N := (some 29)) (v := ?_) (a' := ?_) #[true, true, true, false, false, false, false, false, false, false, false] rfl rfl (any_of HT_.out (by kernel_rfl)) (fun _ _ _ h => h) (Or.inl ⟨by rfl, ?_⟩) ?_ ?_
      rotate_left
      · intro w'
        go_simp
        with_reducible rfl
      rotate_left
      · simp only [Act.put, List.setIfInBounds_toArray, List.set_cons_zero, List.set_cons_succ, i64_w, i32_w]
        rfl
      refine pure_ (i := 3) (N := (some 30)) (v := ?_) (a' := ?_) #[true, true, true, true, false, false, false, false, false, false, false] rfl rfl (any_of HT_.out (by kernel_rfl)) (fun _ _ _ h => h) (Or.inl ⟨by rfl, ?_⟩) ?_ ?_
      rotate_left
      · intro w'
        go_simp
        with_reducible rfl
      rotate_left
      · simp only [Act.put, List.setIfInBounds_toArray, List.set_cons_zero, List.set_cons_succ, i64_w, i32_w]
        rfl
      refine take_ (i := 4) (N := (some 31)) (v := ?_) (a' := ?_) #[true, true, true, true, true, false, false, false, false, false, false] rfl rfl (take_ofW HT_.out HW_.out (by kernel_rfl)) (fun _ _ _ h => h) (Or.inl ⟨by rfl, ?_⟩) hHeld ?_ ?_
      rotate_left
      · rintro w' ⟨s1, _⟩
        go_simp
        with_reducible rfl
      rotate_left
      · simp only [Act.put, List.setIfInBounds_toArray, List.set_cons_zero, List.set_cons_succ, i64_w, i32_w]
        rfl
      refine pure_ (i := 5) (N := (some 32)) (v := ?_) (a' := ?_) #[true, true, true, true, true, true, false, false, false, false, false] rfl rfl (any_of HT_.out (by kernel_rfl)) (fun _ _ _ h => h) (Or.inl ⟨by rfl, ?_⟩) ?_ ?_
      rotate_left
      · intro w'
        go_simp
        with_reducible rfl
      rotate_left
      · simp only [Act.put, List.setIfInBounds_toArray, List.set_cons_zero, List.set_cons_succ, i64_w, i32_w]
        rfl
      refine take_ (i := 6) (N := (some 33)) (v := ?_) (a' := ?_) #[true, true, true, true, true, true, true, false, false, false, false] rfl rfl (take_ofW HT_.out HW_.out (by kernel_rfl)) (fun _ _ _ h => h) (Or.inl ⟨by rfl, ?_⟩) hHeld ?_ ?_
      rotate_left
      · rintro w' ⟨_, s1⟩
        go_simp
        with_reducible rfl
      rotate_left
      · simp only [Act.put, List.setIfInBounds_toArray, List.set_cons_zero, List.set_cons_succ, i64_w, i32_w]
        rfl
      refine one_ (i := 7) (N := (some 34)) #[true, true, true, true, true, true, true, true, false, false, false] rfl rfl (one_of HT_.out (by kernel_rfl)) (by decide) (fun K9 hK => ?_)
      refine goes_ Try.func99 (by kernel_rfl) rfl #[.pointer v, .string key] (by rfl) rfl rfl (by (try simp only [List.map_toArray, List.map_cons, List.map_nil]); first | done | rfl) ?_
      refine (sdrop_calls X.t v key Wd.drew HSH.out HOK.out.1 HOK.out.2).mono ?_
      rintro e w7 ⟨v7, rfl, hS7, hb7⟩
      refine ⟨_, rfl, ?_⟩
      have HB7 := Aside.mk hb7
      have HS7 := Aside.mk hS7
      clear hb7 hS7
      refine hK.out _ _ (HD.out w7 HB7.out) (fun hHeld => ?_)
      clear hK K9
      refine norm_ (a' := ?_) ?_ ?_
      rotate_left
      · show Act.put _ (some 34) _ = _
        simp only [Act.put, List.setIfInBounds_toArray, List.set_cons_zero, List.set_cons_succ]
        rfl
      refine pure_ (i := 8) (N := (some 35)) (v := ?_) (a' := ?_) #[true, true, true, true, true, true, true, true, true, false, false] rfl rfl (any_of HT_.out (by kernel_rfl)) (fun _ _ _ h => h) (Or.inl ⟨by rfl, ?_⟩) ?_ ?_
      rotate_left
      · intro w'
        go_simp
        with_reducible rfl
      rotate_left
      · simp only [Act.put, List.setIfInBounds_toArray, List.set_cons_zero, List.set_cons_succ, i64_w, i32_w]
        rfl
      refine pure_ (i := 9) (N := (some 36)) (v := ?_) (a' := ?_) #[true, true, true, true, true, true, true, true, true, true, false] rfl rfl (any_of HT_.out (by kernel_rfl)) (fun _ _ _ h => h) (Or.inl ⟨by rfl, ?_⟩) ?_ ?_
      rotate_left
      · intro w'
        go_simp
        with_reducible rfl
      rotate_left
      · simp only [Act.put, List.setIfInBounds_toArray, List.set_cons_zero, List.set_cons_succ, i64_w, i32_w]
        rfl
      refine last_ (i := 10) (N := none) #[true, true, true, true, true, true, true, true, true, true, true] rfl rfl (one_of HT_.out (by kernel_rfl)) (by decide) (fun K9 hK => ?_)
      have q1 : w7.cell? ⟨T, 0, none⟩ = some (.pointer v) := (HD.out _ HB7.out).1
      have q2 : w7.frozen? ⟨T, 0, none⟩ = false := HFZ.out _ HB7.out
      refine skip_ (w1 := w7.setCell ⟨T, 0, none⟩ (.pointer v7)) (by rfl) rfl (by unfold execOp; go_simp) ?_
      refine hK.out _ _ ?_
      clear hK K9
      refine done_ (done_of HT_.out (by kernel_rfl)) ?_
      clear HT_ HW_ hHeld
      have hT7 : w7.heap[T]? = _ := (HB7.out.block T (show T < Wd.drew.heap.size from lt_of_block H3.out.2.1)).trans H3.out.2.1
      have hT8 := heap_setCell_eq (j := 0) (.pointer v7) hT7
      simp only [List.setIfInBounds_toArray, List.set_cons_zero] at hT8
      have HF8 : Aside (Fr (fun k => k = T) w7 (w7.setCell ⟨T, 0, none⟩ (.pointer v7))) := ⟨(Fr.refl (fun k => k = T) _).setCell (p := ⟨T, 0, none⟩) (.inl rfl) _⟩
      have HT8 := Aside.mk (And.intro hT7 hT8)
      have e1 := cell_at hT8 1
      have z1 := free_at hT8 1
      clear hT7
      generalize (w7.setCell ⟨T, 0, none⟩ (.pointer v7)) = w8 at *
      clear hT8
      go_wp2_with fail
      go_ret
      rw [← HYY.out]
      have hT9 := fun (x : Value) => heap_setCell_eq (j := 1) x HT8.out.2
      simp only [List.setIfInBounds_toArray, List.set_cons_zero, List.set_cons_succ] at hT9
      obtain ⟨a1, a2, a3, a4, a5, a6, a7, a8, a9, a10, a11⟩ := H3.out
      have hF9 := fun (x : Value) => HF8.out.setCell (p := ⟨T, 1, none⟩) (.inl rfl) x
      have hC7 := Kd.C_below (Kd.C_below a6 (below_drew1 (Below.refl _ _))) HB7.out
      exact ⟨rfl, ⟨v7, _, hT9 _, HS7.out.fr (hF9 _) (fun k cs t hk hc => by subst hk; rw [HT8.out.1] at hc; cases hc; decide), row_fr (F := fun k => k = T) (fun h => h) hC7 (hF9 _) (fun ad e => (a11 ad e).2), a7, fun ad e => ⟨Nat.lt_of_lt_of_le (a11 ad e).1 (Nat.le_trans a1.size (Nat.le_trans HB7.out.size (hF9 _).size)), (a11 ad e).2⟩⟩, ((Fr.of_new (F := fun k => k = T) a1).drew.trans (Fr.of_new HB7.out) (fun _ _ h => h)).trans (hF9 _) (fun _ _ h => h)⟩
  | false =>
    cases ri with
    | true =>
      have HY1 := HY.out
      rw [if_neg (by decide), if_pos rfl] at HY1
      have HYY := Aside.mk HY1
      clear HY1
      go_upto_region 11 with fail
      obtain ⟨Wd, hWd⟩ : ∃ W, W3 = W := ⟨_, rfl⟩
      rw [hWd] at H3 ⊢
      clear d0 hWd
      obtain ⟨md, hmd⟩ : ∃ x, rm = x := ⟨_, rfl⟩
      obtain ⟨m', hm'⟩ : ∃ x, m = x := ⟨_, rfl⟩
      rw [hmd] at HYY
      have HE : Aside (Wd.heap[T]? = some (.cells #[.pointer v, .int .i64 m', .int .i64 X.rev, .int .i64 X.low, .slice A X.hap.length c] 111 (0, 0)) ∧ Wd.heap[bo]? = some (Obj.cells #[Value.bool false, Value.string key, Value.string val] 117 (0, 0)) ∧ Wd.heap[sE]? = some (.cells #[.string rk, .string rv, .int .i64 md, .int .i64 rd] 46 (0, 0)) ∧ SH Wd v X.t ∧ k75.C Wd A X.hap.length X.hap ∧ X.hap.length ≤ c ∧ (∀ ad, A = some ad → ad.block < Wd.heap.size ∧ ad.block ≠ T) ∧ Fr (fun k => k = T) w Wd) := ⟨by
        obtain ⟨a1, a2, a3, a4, a5, a6, a7, a8, a9, a10, a11⟩ := H3.out
        rw [hmd] at a4
        rw [hm'] at a2
        exact ⟨a2, a3, a4, a5, a6, a7, fun ad e => ⟨Nat.lt_of_lt_of_le (a11 ad e).1 a1.size, (a11 ad e).2⟩, Fr.of_new a1⟩⟩
      clear hmd hm' H3
      have HD : Aside (∀ W, Below Wd.drew.heap.size Wd.drew W → (W.cell? ⟨T, 0, none⟩ = some (.pointer v) ∧ W.cell? ⟨T, 2, none⟩ = some (.int .i64 X.rev) ∧ W.cell? ⟨bo, 1, none⟩ = some (.string key) ∧ W.cell? ⟨bo, 2, none⟩ = some (.string val) ∧ W.cell? ⟨sE, 2, none⟩ = some (.int .i64 md))) := ⟨fun W hW => by
        have k1 := (hW.block T (show T < Wd.drew.heap.size from lt_of_block HE.out.1)).trans HE.out.1
        have k2 := (hW.block bo (show bo < Wd.drew.heap.size from lt_of_block HE.out.2.1)).trans HE.out.2.1
        have k3 := (hW.block sE (show sE < Wd.drew.heap.size from lt_of_block HE.out.2.2.1)).trans HE.out.2.2.1
        exact ⟨cell_at k1 0, cell_at k1 2, cell_at k2 1, cell_at k2 2, cell_at k3 2⟩⟩
      have HFZ : Aside (∀ W, Below Wd.drew.heap.size Wd.drew W → W.frozen? ⟨T, 0, none⟩ = false) := ⟨fun W hW => free_at ((hW.block T (show T < Wd.drew.heap.size from lt_of_block HE.out.1)).trans HE.out.1) 0⟩
      have HSH : Aside (SH Wd.drew v X.t) := ⟨HE.out.2.2.2.1.below (below_drew1 (Below.refl _ _))⟩
      refine start_ (n := 22) (S := (fun w' => w'.cell? ⟨T, 0, none⟩ = some (.pointer v) ∧ w'.cell? ⟨T, 2, none⟩ = some (.int .i64 X.rev) ∧ w'.cell? ⟨bo, 1, none⟩ = some (.string key) ∧ w'.cell? ⟨bo, 2, none⟩ = some (.string val) ∧ w'.cell? ⟨sE, 2, none⟩ = some (.int .i64 md))) (ds := [21]) #[false, false, false, false, false, false, false, false, false, false, false, false, false, false, false, false, false, false, false, false, false, false] (by kernel_rfl) rfl rfl (HD.out Wd.drew (Below.refl _ _)) (fun hHeld => ?_); refine with_tabW op11_tab op11_bits (fun HT_ HW_ => ?_)
      refine pure_ (i := 0) (N := (some 59)) (v := ?_) (a' := ?_) #[true, false, false, false, false, false, false, false, false, false, false, false, false, false, false, false, false, false, false, false, false, false] rfl rfl (any_of HT_.out (by kernel_rfl)) (fun _ _ _ h => h) (Or.inl ⟨by rfl, ?_⟩) ?_ ?_
      rotate_left
      · intro w'
        go_simp
        with_reducible rfl
      rotate_left
      · simp only [Act.put, List.setIfInBounds_toArray, List.set_cons_zero, List.set_cons_succ, i64_w, i32_w]
        rfl
      refine pure_ (i := 1) (N := (some 60)) (v := ?_) (a' := ?_) #[true, true, false, false, false, false, false, false, false, false, false, false, false, false, false, false, false, false, false, false, false, false] rfl rfl (any_of HT_.out (by kernel_rfl)) (fun _ _ _ h => h) (Or.inl ⟨by rfl, ?_⟩) ?_ ?_
      rotate_left
      · intro w'
        go_simp
        with_reducible rfl
      rotate_left
      · simp only [Act.put, List.setIfInBounds_toArray, List.set_cons_zero, List.set_cons_succ, i64_w, i32_w]
        rfl
      refine pure_ (i := 2) (N := (some 61)) (v := ?_) (a' := ?_) #[true, true, true, false, false, false, false, false, false, false, false, false, false, false, false, false, false, false, false, false, false, false] rfl rfl (any_of HT_.out (by kernel_rfl)) (fun _ _ _ h => h) (Or.inl ⟨by rfl, ?_⟩) ?_ ?_
      rotate_left
      · intro w'
        go_simp
        with_reducible rfl
      rotate_left
      · simp only [Act.put, List.setIfInBounds_toArray, List.set_cons_zero, List.set_cons_succ, i64_w, i32_w]
        rfl
      refine pure_ (i := 3) (N := (some 62)) (v := ?_) (a' := ?_) #[true, true, true, true, false, false, false, false, false, false, false, false, false, false, false, false, false, false, false, false, false, false] rfl rfl (any_of HT_.out (by kernel_rfl)) (fun _ _ _ h => h) (Or.inl ⟨by rfl, ?_⟩) ?_ ?_
      rotate_left
      · intro w'
        go_simp
        with_reducible rfl
      rotate_left
      · simp only [Act.put, List.setIfInBounds_toArray, List.set_cons_zero, List.set_cons_succ, i64_w, i32_w]
        rfl
      refine take_ (i := 4) (N := (some 63)) (v := ?_) (a' := ?_) #[true, true, true, true, true, false, false, false, false, false, false, false, false, false, false, false, false, false, false, false, false, false] rfl rfl (take_ofW HT_.out HW_.out (by kernel_rfl)) (fun _ _ _ h => h) (Or.inl ⟨by rfl, ?_⟩) hHeld ?_ ?_
      rotate_left
      · rintro w' ⟨s1, _⟩
        go_simp
        with_reducible rfl
      rotate_left
      · simp only [Act.put, List.setIfInBounds_toArray, List.set_cons_zero, List.set_cons_succ, i64_w, i32_w]
        rfl
      refine pure_ (i := 5) (N := (some 64)) (v := ?_) (a' := ?_) #[true, true, true, true, true, true, false, false, false, false, false, false, false, false, false, false, false, false, false, false, false, false] rfl rfl (any_of HT_.out (by kernel_rfl)) (fun _ _ _ h => h) (Or.inl ⟨by rfl, ?_⟩) ?_ ?_
      rotate_left
      · intro w'
        go_simp
        with_reducible rfl
      rotate_left
      · simp only [Act.put, List.setIfInBounds_toArray, List.set_cons_zero, List.set_cons_succ, i64_w, i32_w]
        rfl
      refine take_ (i := 6) (N := (some 65)) (v := ?_) (a' := ?_) #[true, true, true, true, true, true, true, false, false, false, false, false, false, false, false, false, false, false, false, false, false, false] rfl rfl (take_ofW HT_.out HW_.out (by kernel_rfl)) (fun _ _ _ h => h) (Or.inl ⟨by rfl, ?_⟩) hHeld ?_ ?_
      rotate_left
      · rintro w' ⟨_, _, s1, _⟩
        go_simp
        with_reducible rfl
      rotate_left
      · simp only [Act.put, List.setIfInBounds_toArray, List.set_cons_zero, List.set_cons_succ, i64_w, i32_w]
        rfl
      refine pure_ (i := 7) (N := (some 66)) (v := ?_) (a' := ?_) #[true, true, true, true, true, true, true, true, false, false, false, false, false, false, false, false, false, false, false, false, false, false] rfl rfl (any_of HT_.out (by kernel_rfl)) (fun _ _ _ h => h) (Or.inl ⟨by rfl, ?_⟩) ?_ ?_
      rotate_left
      · intro w'
        go_simp
        with_reducible rfl
      rotate_left
      · simp only [Act.put, List.setIfInBounds_toArray, List.set_cons_zero, List.set_cons_succ, i64_w, i32_w]
        rfl
      refine take_ (i := 8) (N := (some 67)) (v := ?_) (a' := ?_) #[true, true, true, true, true, true, true, true, true, false, false, false, false, false, false, false, false, false, false, false, false, false] rfl rfl (take_ofW HT_.out HW_.out (by kernel_rfl)) (fun _ _ _ h => h) (Or.inl ⟨by rfl, ?_⟩) hHeld ?_ ?_
      rotate_left
      · rintro w' ⟨_, _, s1, _⟩
        go_simp
        with_reducible rfl
      rotate_left
      · simp only [Act.put, List.setIfInBounds_toArray, List.set_cons_zero, List.set_cons_succ, i64_w, i32_w]
        rfl
      refine pure_ (i := 9) (N := (some 68)) (v := ?_) (a' := ?_) #[true, true, true, true, true, true, true, true, true, true, false, false, false, false, false, false, false, false, false, false, false, false] rfl rfl (any_of HT_.out (by kernel_rfl)) (fun _ _ _ h => h) (Or.inl ⟨by rfl, ?_⟩) ?_ ?_
      rotate_left
      · intro w'
        go_simp
        with_reducible rfl
      rotate_left
      · simp only [Act.put, List.setIfInBounds_toArray, List.set_cons_zero, List.set_cons_succ, i64_w, i32_w]
        rfl
      refine take_ (i := 10) (N := (some 69)) (v := ?_) (a' := ?_) #[true, true, true, true, true, true, true, true, true, true, true, false, false, false, false, false, false, false, false, false, false, false] rfl rfl (take_ofW HT_.out HW_.out (by kernel_rfl)) (fun _ _ _ h => h) (Or.inl ⟨by rfl, ?_⟩) hHeld ?_ ?_
      rotate_left
      · rintro w' ⟨_, _, _, s1, _⟩
        go_simp
        with_reducible rfl
      rotate_left
      · simp only [Act.put, List.setIfInBounds_toArray, List.set_cons_zero, List.set_cons_succ, i64_w, i32_w]
        rfl
      refine pure_ (i := 11) (N := (some 70)) (v := ?_) (a' := ?_) #[true, true, true, true, true, true, true, true, true, true, true, true, false, false, false, false, false, false, false, false, false, false] rfl rfl (any_of HT_.out (by kernel_rfl)) (fun _ _ _ h => h) (Or.inl ⟨by rfl, ?_⟩) ?_ ?_
      rotate_left
      · intro w'
        go_simp
        with_reducible rfl
      rotate_left
      · simp only [Act.put, List.setIfInBounds_toArray, List.set_cons_zero, List.set_cons_succ, i64_w, i32_w]
        rfl
      refine take_ (i := 12) (N := (some 71)) (v := ?_) (a' := ?_) #[true, true, true, true, true, true, true, true, true, true, true, true, true, false, false, false, false, false, false, false, false, false] rfl rfl (take_ofW HT_.out HW_.out (by kernel_rfl)) (fun _ _ _ h => h) (Or.inl ⟨by rfl, ?_⟩) hHeld ?_ ?_
      rotate_left
      · rintro w' ⟨_, _, _, _, s1⟩
        go_simp
        with_reducible rfl
      rotate_left
      · simp only [Act.put, List.setIfInBounds_toArray, List.set_cons_zero, List.set_cons_succ, i64_w, i32_w]
        rfl
      refine pure_ (i := 13) (N := (some 72)) (v := ?_) (a' := ?_) #[true, true, true, true, true, true, true, true, true, true, true, true, true, true, false, false, false, false, false, false, false, false] rfl rfl (any_of HT_.out (by kernel_rfl)) (fun _ _ _ h => h) (Or.inl ⟨by rfl, ?_⟩) ?_ ?_
      rotate_left
      · intro w'
        go_simp
        with_reducible rfl
      rotate_left
      · simp only [Act.put, List.setIfInBounds_toArray, List.set_cons_zero, List.set_cons_succ, i64_w, i32_w]
        rfl
      refine pure_ (i := 14) (N := (some 73)) (v := ?_) (a' := ?_) #[true, true, true, true, true, true, true, true, true, true, true, true, true, true, true, false, false, false, false, false, false, false] rfl rfl (any_of HT_.out (by kernel_rfl)) (fun _ _ _ h => h) (Or.inl ⟨by rfl, ?_⟩) ?_ ?_
      rotate_left
      · intro w'
        go_simp
        with_reducible rfl
      rotate_left
      · simp only [Act.put, List.setIfInBounds_toArray, List.set_cons_zero, List.set_cons_succ, i64_w, i32_w]
        rfl
      refine pure_ (i := 15) (N := (some 74)) (v := ?_) (a' := ?_) #[true, true, true, true, true, true, true, true, true, true, true, true, true, true, true, true, false, false, false, false, false, false] rfl rfl (any_of HT_.out (by kernel_rfl)) (fun _ _ _ h => h) (Or.inl ⟨by rfl, ?_⟩) ?_ ?_
      rotate_left
      · intro w'
        go_simp
        with_reducible rfl
      rotate_left
      · simp only [Act.put, List.setIfInBounds_toArray, List.set_cons_zero, List.set_cons_succ, i64_w, i32_w]
        rfl
      refine take_ (i := 16) (N := (some 75)) (v := ?_) (a' := ?_) #[true, true, true, true, true, true, true, true, true, true, true, true, true, true, true, true, true, false, false, false, false, false] rfl rfl (take_ofW HT_.out HW_.out (by kernel_rfl)) (fun _ _ _ h => h) (Or.inl ⟨by rfl, ?_⟩) hHeld ?_ ?_
      rotate_left
      · rintro w' ⟨_, s1, _⟩
        go_simp
        with_reducible rfl
      rotate_left
      · simp only [Act.put, List.setIfInBounds_toArray, List.set_cons_zero, List.set_cons_succ, i64_w, i32_w]
        rfl
      refine pure_ (i := 17) (N := (some 76)) (v := ?_) (a' := ?_) #[true, true, true, true, true, true, true, true, true, true, true, true, true, true, true, true, true, true, false, false, false, false] rfl rfl (any_of HT_.out (by kernel_rfl)) (fun _ _ _ h => h) (Or.inl ⟨by rfl, ?_⟩) ?_ ?_
      rotate_left
      · intro w'
        go_simp
        with_reducible rfl
      rotate_left
      · simp only [Act.put, List.setIfInBounds_toArray, List.set_cons_zero, List.set_cons_succ, i64_w, i32_w]
        rfl
      refine one_ (i := 18) (N := (some 77)) #[true, true, true, true, true, true, true, true, true, true, true, true, true, true, true, true, true, true, true, false, false, false] rfl rfl (one_of HT_.out (by kernel_rfl)) (by decide) (fun K9 hK => ?_)
      refine goes_ Try.func69 (by kernel_rfl) rfl #[.pointer v, .string key, .agg #[.string key, .string val, .int .i64 md, .int .i64 X.rev]] (by rfl) rfl rfl (by (try simp only [List.map_toArray, List.map_cons, List.map_nil]); first | done | rfl) ?_
      refine (put_calls X.t v key ⟨key, val, md, X.rev⟩ Wd.drew HSH.out HOK.out.1 HOK.out.2).mono ?_
      rintro e w7 ⟨v7, rfl, hS7, hb7⟩
      refine ⟨_, rfl, ?_⟩
      have HB7 := Aside.mk hb7
      have HS7 := Aside.mk hS7
      clear hb7 hS7
      refine hK.out _ _ (HD.out w7 HB7.out) (fun hHeld => ?_)
      clear hK K9
      refine norm_ (a' := ?_) ?_ ?_
      rotate_left
      · show Act.put _ (some 77) _ = _
        simp only [Act.put, List.setIfInBounds_toArray, List.set_cons_zero, List.set_cons_succ]
        rfl
      refine pure_ (i := 19) (N := (some 78)) (v := ?_) (a' := ?_) #[true, true, true, true, true, true, true, true, true, true, true, true, true, true, true, true, true, true, true, true, false, false] rfl rfl (any_of HT_.out (by kernel_rfl)) (fun _ _ _ h => h) (Or.inl ⟨by rfl, ?_⟩) ?_ ?_
      rotate_left
      · intro w'
        go_simp
        with_reducible rfl
      rotate_left
      · simp only [Act.put, List.setIfInBounds_toArray, List.set_cons_zero, List.set_cons_succ, i64_w, i32_w]
        rfl
      refine pure_ (i := 20) (N := (some 79)) (v := ?_) (a' := ?_) #[true, true, true, true, true, true, true, true, true, true, true, true, true, true, true, true, true, true, true, true, true, false] rfl rfl (any_of HT_.out (by kernel_rfl)) (fun _ _ _ h => h) (Or.inl ⟨by rfl, ?_⟩) ?_ ?_
      rotate_left
      · intro w'
        go_simp
        with_reducible rfl
      rotate_left
      · simp only [Act.put, List.setIfInBounds_toArray, List.set_cons_zero, List.set_cons_succ, i64_w, i32_w]
        rfl
      refine last_ (i := 21) (N := none) #[true, true, true, true, true, true, true, true, true, true, true, true, true, true, true, true, true, true, true, true, true, true] rfl rfl (one_of HT_.out (by kernel_rfl)) (by decide) (fun K9 hK => ?_)
      have q1 : w7.cell? ⟨T, 0, none⟩ = some (.pointer v) := (HD.out _ HB7.out).1
      have q2 : w7.frozen? ⟨T, 0, none⟩ = false := HFZ.out _ HB7.out
      refine skip_ (w1 := w7.setCell ⟨T, 0, none⟩ (.pointer v7)) (by rfl) rfl (by unfold execOp; go_simp) ?_
      refine hK.out _ _ ?_
      clear hK K9
      refine done_ (done_of HT_.out (by kernel_rfl)) ?_
      clear HT_ HW_ hHeld
      have hT7 : w7.heap[T]? = _ := (HB7.out.block T (show T < Wd.drew.heap.size from lt_of_block HE.out.1)).trans HE.out.1
      have hT8 := heap_setCell_eq (j := 0) (.pointer v7) hT7
      simp only [List.setIfInBounds_toArray, List.set_cons_zero] at hT8
      have HF8 : Aside (Fr (fun k => k = T) w7 (w7.setCell ⟨T, 0, none⟩ (.pointer v7))) := ⟨(Fr.refl (fun k => k = T) _).setCell (p := ⟨T, 0, none⟩) (.inl rfl) _⟩
      have HT8 := Aside.mk (And.intro hT7 hT8)
      clear hT7 hT8
      generalize (w7.setCell ⟨T, 0, none⟩ (.pointer v7)) = w8 at *
      go_wp2_with fail
      go_ret
      rw [← HYY.out]
      obtain ⟨a1, a2, a3, a4, a5, a6, a7, a8⟩ := HE.out
      have hC7 := Kd.C_below (Kd.C_below a5 (below_drew1 (Below.refl _ _))) HB7.out
      exact ⟨rfl, ⟨v7, _, HT8.out.2, HS7.out.fr HF8.out (fun k cs t hk hc => by subst hk; rw [HT8.out.1] at hc; cases hc; decide), row_fr (F := fun k => k = T) (fun h => h) hC7 HF8.out (fun ad e => (a7 ad e).2), a6, fun ad e => ⟨Nat.lt_of_lt_of_le (a7 ad e).1 (Nat.le_trans HB7.out.size HF8.out.size), (a7 ad e).2⟩⟩, (a8.drew.trans (Fr.of_new HB7.out) (fun _ _ h => h)).trans HF8.out (fun _ _ h => h)⟩
    | false =>
      have HY1 := HY.out
      rw [if_neg (by decide), if_neg (by decide)] at HY1
      have HYY := Aside.mk HY1
      clear HY1
      have e1 := cell_at H3.out.2.1 1
      have e2 := cell_at H3.out.2.1 2
      have g2 := cell_at H3.out.2.2.2.1 2
      have z1 := free_at H3.out.2.1 1
      have z2 := free_at H3.out.2.2.2.1 2
      have hTs : ¬ T = sE := by have := H3.out.2.2.2.2.2.2.2; omega
      have hsT : ¬ sE = T := fun e => hTs e.symm
      go_upto_region 10 with fail
      have e1' : (W3.setCell ⟨sE, 2, none⟩ (.int .i64 X.rev)).heap[T]? = W3.heap[T]? := Below.heap_setCell W3 ⟨sE, 2, none⟩ _ T hTs
      have e1' := cell_at (e1'.trans H3.out.2.1) 1
      go_upto_region 11 with fail
      have HW : Aside (W3.setCell ⟨sE, 2, none⟩ (.int .i64 X.rev) = W3.setCell ⟨sE, 2, none⟩ (.int .i64 X.rev)) := ⟨rfl⟩
      obtain ⟨Wd, hWd⟩ : ∃ W, (W3.setCell ⟨sE, 2, none⟩ (.int .i64 X.rev)).setCell ⟨T, 1, none⟩ (.int .i64 (wrap64 (m + 1))) = W := ⟨_, rfl⟩
      obtain ⟨md, hmd⟩ : ∃ x, X.rev = x := ⟨_, rfl⟩
      obtain ⟨m', hm'⟩ : ∃ x, wrap64 (m + 1) = x := ⟨_, rfl⟩
      have HE0 : Aside (Wd.heap[T]? = some (.cells #[.pointer v, .int .i64 m', .int .i64 X.rev, .int .i64 X.low, .slice A X.hap.length c] 111 (0, 0)) ∧ Wd.heap[bo]? = some (Obj.cells #[Value.bool false, Value.string key, Value.string val] 117 (0, 0)) ∧ Wd.heap[sE]? = some (.cells #[.string rk, .string rv, .int .i64 md, .int .i64 rd] 46 (0, 0)) ∧ SH Wd v X.t ∧ k75.C Wd A X.hap.length X.hap ∧ X.hap.length ≤ c ∧ (∀ ad, A = some ad → ad.block < Wd.heap.size ∧ ad.block ≠ T) ∧ Fr (fun k => k = T) w Wd) := ⟨by
        obtain ⟨a1, a2, a3, a4, a5, a6, a7, a8, a9, a10, a11⟩ := H3.out
        have hf0 : Fr (fun k => k = T) w (W3.setCell ⟨sE, 2, none⟩ (.int .i64 X.rev)) := (Fr.of_new a1).setCell (p := ⟨sE, 2, none⟩) (.inr (by show w.heap.size ≤ sE; omega)) _
        have hf1 : Fr (fun k => k = T) w Wd := by rw [← hWd]; exact hf0.setCell (p := ⟨T, 1, none⟩) (.inl rfl) _
        have hf2 : Fr (fun k => k = sE ∨ k = T) W3 Wd := by rw [← hWd]; exact ((Fr.refl _ _).setCell (p := ⟨sE, 2, none⟩) (.inl (.inl rfl)) _).setCell (p := ⟨T, 1, none⟩) (.inl (.inr rfl)) _
        have hT : Wd.heap[T]? = some (.cells #[.pointer v, .int .i64 m', .int .i64 X.rev, .int .i64 X.low, .slice A X.hap.length c] 111 (0, 0)) := by
          have hx : (W3.setCell ⟨sE, 2, none⟩ (.int .i64 X.rev)).heap[T]? = W3.heap[T]? := Below.heap_setCell W3 ⟨sE, 2, none⟩ _ T hTs
          have := heap_setCell_eq (j := 1) (.int .i64 m') (hx.trans a2)
          simp only [List.setIfInBounds_toArray, List.set_cons_zero, List.set_cons_succ] at this
          rw [← hWd, hm']
          exact this
        have hS : Wd.heap[sE]? = some (.cells #[.string rk, .string rv, .int .i64 md, .int .i64 rd] 46 (0, 0)) := by
          have := heap_setCell_eq (j := 2) (.int .i64 X.rev) a4
          simp only [List.setIfInBounds_toArray, List.set_cons_zero, List.set_cons_succ] at this
          rw [← hWd, ← hmd]
          exact (Below.heap_setCell _ ⟨T, 1, none⟩ _ sE hsT).trans this
        have hob : Wd.heap[bo]? = _ := (hf2.block bo (lt_of_block a3) (fun e => by rcases e with e | e <;> omega)).trans a3
        have hne : ∀ ad, A = some ad → 0 < X.hap.length → ¬ (ad.block = sE ∨ ad.block = T) := fun ad e hl hh => by
          rcases hh with hh | hh
          · have := (a11 ad e).1; omega
          · exact (a11 ad e).2 hh
        exact ⟨hT, hob, hS, a5.fr hf2 (fun k cs t hk hc => by rcases hk with rfl | rfl; rw [a4] at hc; cases hc; decide; rw [a2] at hc; cases hc; decide), Kd.C_foot_neS (S := fun k => k = sE ∨ k = T) (fun h => h) a6 hne Wd ⟨hf2.size, hf2.block⟩, a7, fun ad e => ⟨Nat.lt_of_lt_of_le (a11 ad e).1 (Nat.le_trans a1.size hf2.size), (a11 ad e).2⟩, hf1⟩⟩
      rw [hWd]
      have HMD := Aside.mk hmd
      have HE : Aside (Wd.heap[T]? = some (.cells #[.pointer v, .int .i64 m', .int .i64 X.rev, .int .i64 X.low, .slice A X.hap.length c] 111 (0, 0)) ∧ Wd.heap[bo]? = some (Obj.cells #[Value.bool false, Value.string key, Value.string val] 117 (0, 0)) ∧ Wd.heap[sE]? = some (.cells #[.string rk, .string rv, .int .i64 md, .int .i64 rd] 46 (0, 0)) ∧ SH Wd v X.t ∧ k75.C Wd A X.hap.length X.hap ∧ X.hap.length ≤ c ∧ (∀ ad, A = some ad → ad.block < Wd.heap.size ∧ ad.block ≠ T) ∧ Fr (fun k => k = T) w Wd) := HE0
      clear hmd hm' H3 hWd e1 e2 g2 z1 z2 hTs hsT e1' HE0 HW
      have HD : Aside (∀ W, Below Wd.drew.heap.size Wd.drew W → (W.cell? ⟨T, 0, none⟩ = some (.pointer v) ∧ W.cell? ⟨T, 2, none⟩ = some (.int .i64 X.rev) ∧ W.cell? ⟨bo, 1, none⟩ = some (.string key) ∧ W.cell? ⟨bo, 2, none⟩ = some (.string val) ∧ W.cell? ⟨sE, 2, none⟩ = some (.int .i64 md))) := ⟨fun W hW => by
        have k1 := (hW.block T (show T < Wd.drew.heap.size from lt_of_block HE.out.1)).trans HE.out.1
        have k2 := (hW.block bo (show bo < Wd.drew.heap.size from lt_of_block HE.out.2.1)).trans HE.out.2.1
        have k3 := (hW.block sE (show sE < Wd.drew.heap.size from lt_of_block HE.out.2.2.1)).trans HE.out.2.2.1
        exact ⟨cell_at k1 0, cell_at k1 2, cell_at k2 1, cell_at k2 2, cell_at k3 2⟩⟩
      have HFZ : Aside (∀ W, Below Wd.drew.heap.size Wd.drew W → W.frozen? ⟨T, 0, none⟩ = false) := ⟨fun W hW => free_at ((hW.block T (show T < Wd.drew.heap.size from lt_of_block HE.out.1)).trans HE.out.1) 0⟩
      have HSH : Aside (SH Wd.drew v X.t) := ⟨HE.out.2.2.2.1.below (below_drew1 (Below.refl _ _))⟩
      refine start_ (n := 22) (S := (fun w' => w'.cell? ⟨T, 0, none⟩ = some (.pointer v) ∧ w'.cell? ⟨T, 2, none⟩ = some (.int .i64 X.rev) ∧ w'.cell? ⟨bo, 1, none⟩ = some (.string key) ∧ w'.cell? ⟨bo, 2, none⟩ = some (.string val) ∧ w'.cell? ⟨sE, 2, none⟩ = some (.int .i64 md))) (ds := [21]) #[false, false, false, false, false, false, false, false, false, false, false, false, false, false, false, false, false, false, false, false, false, false] (by kernel_rfl) rfl rfl (HD.out Wd.drew (Below.refl _ _)) (fun hHeld => ?_); refine with_tabW op11_tab op11_bits (fun HT_ HW_ => ?_)
      refine pure_ (i := 0) (N := (some 59)) (v := ?_) (a' := ?_) #[true, false, false, false, false, false, false, false, false, false, false, false, false, false, false, false, false, false, false, false, false, false] rfl rfl (any_of HT_.out (by kernel_rfl)) (fun _ _ _ h => h) (Or.inl ⟨by rfl, ?_⟩) ?_ ?_
      rotate_left
      · intro w'
        go_simp
        with_reducible rfl
      rotate_left
      · simp only [Act.put, List.setIfInBounds_toArray, List.set_cons_zero, List.set_cons_succ, i64_w, i32_w]
        rfl
      refine pure_ (i := 1) (N := (some 60)) (v := ?_) (a' := ?_) #[true, true, false, false, false, false, false, false, false, false, false, false, false, false, false, false, false, false, false, false, false, false] rfl rfl (any_of HT_.out (by kernel_rfl)) (fun _ _ _ h => h) (Or.inl ⟨by rfl, ?_⟩) ?_ ?_
      rotate_left
      · intro w'
        go_simp
        with_reducible rfl
      rotate_left
      · simp only [Act.put, List.setIfInBounds_toArray, List.set_cons_zero, List.set_cons_succ, i64_w, i32_w]
        rfl
      refine pure_ (i := 2) (N := (some 61)) (v := ?_) (a' := ?_) #[true, true, true, false, false, false, false, false, false, false, false, false, false, false, false, false, false, false, false, false, false, false] rfl rfl (any_of HT_.out (by kernel_rfl)) (fun _ _ _ h => h) (Or.inl ⟨by rfl, ?_⟩) ?_ ?_
      rotate_left
      · intro w'
        go_simp
        with_reducible rfl
      rotate_left
      · simp only [Act.put, List.setIfInBounds_toArray, List.set_cons_zero, List.set_cons_succ, i64_w, i32_w]
        rfl
      refine pure_ (i := 3) (N := (some 62)) (v := ?_) (a' := ?_) #[true, true, true, true, false, false, false, false, false, false, false, false, false, false, false, false, false, false, false, false, false, false] rfl rfl (any_of HT_.out (by kernel_rfl)) (fun _ _ _ h => h) (Or.inl ⟨by rfl, ?_⟩) ?_ ?_
      rotate_left
      · intro w'
        go_simp
        with_reducible rfl
      rotate_left
      · simp only [Act.put, List.setIfInBounds_toArray, List.set_cons_zero, List.set_cons_succ, i64_w, i32_w]
        rfl
      refine take_ (i := 4) (N := (some 63)) (v := ?_) (a' := ?_) #[true, true, true, true, true, false, false, false, false, false, false, false, false, false, false, false, false, false, false, false, false, false] rfl rfl (take_ofW HT_.out HW_.out (by kernel_rfl)) (fun _ _ _ h => h) (Or.inl ⟨by rfl, ?_⟩) hHeld ?_ ?_
      rotate_left
      · rintro w' ⟨s1, _⟩
        go_simp
        with_reducible rfl
      rotate_left
      · simp only [Act.put, List.setIfInBounds_toArray, List.set_cons_zero, List.set_cons_succ, i64_w, i32_w]
        rfl
      refine pure_ (i := 5) (N := (some 64)) (v := ?_) (a' := ?_) #[true, true, true, true, true, true, false, false, false, false, false, false, false, false, false, false, false, false, false, false, false, false] rfl rfl (any_of HT_.out (by kernel_rfl)) (fun _ _ _ h => h) (Or.inl ⟨by rfl, ?_⟩) ?_ ?_
      rotate_left
      · intro w'
        go_simp
        with_reducible rfl
      rotate_left
      · simp only [Act.put, List.setIfInBounds_toArray, List.set_cons_zero, List.set_cons_succ, i64_w, i32_w]
        rfl
      refine take_ (i := 6) (N := (some 65)) (v := ?_) (a' := ?_) #[true, true, true, true, true, true, true, false, false, false, false, false, false, false, false, false, false, false, false, false, false, false] rfl rfl (take_ofW HT_.out HW_.out (by kernel_rfl)) (fun _ _ _ h => h) (Or.inl ⟨by rfl, ?_⟩) hHeld ?_ ?_
      rotate_left
      · rintro w' ⟨_, _, s1, _⟩
        go_simp
        with_reducible rfl
      rotate_left
      · simp only [Act.put, List.setIfInBounds_toArray, List.set_cons_zero, List.set_cons_succ, i64_w, i32_w]
        rfl
      refine pure_ (i := 7) (N := (some 66)) (v := ?_) (a' := ?_) #[true, true, true, true, true, true, true, true, false, false, false, false, false, false, false, false, false, false, false, false, false, false] rfl rfl (any_of HT_.out (by kernel_rfl)) (fun _ _ _ h => h) (Or.inl ⟨by rfl, ?_⟩) ?_ ?_
      rotate_left
      · intro w'
        go_simp
        with_reducible rfl
      rotate_left
      · simp only [Act.put, List.setIfInBounds_toArray, List.set_cons_zero, List.set_cons_succ, i64_w, i32_w]
        rfl
      refine take_ (i := 8) (N := (some 67)) (v := ?_) (a' := ?_) #[true, true, true, true, true, true, true, true, true, false, false, false, false, false, false, false, false, false, false, false, false, false] rfl rfl (take_ofW HT_.out HW_.out (by kernel_rfl)) (fun _ _ _ h => h) (Or.inl ⟨by rfl, ?_⟩) hHeld ?_ ?_
      rotate_left
      · rintro w' ⟨_, _, s1, _⟩
        go_simp
        with_reducible rfl
      rotate_left
      · simp only [Act.put, List.setIfInBounds_toArray, List.set_cons_zero, List.set_cons_succ, i64_w, i32_w]
        rfl
      refine pure_ (i := 9) (N := (some 68)) (v := ?_) (a' := ?_) #[true, true, true, true, true, true, true, true, true, true, false, false, false, false, false, false, false, false, false, false, false, false] rfl rfl (any_of HT_.out (by kernel_rfl)) (fun _ _ _ h => h) (Or.inl ⟨by rfl, ?_⟩) ?_ ?_
      rotate_left
      · intro w'
        go_simp
        with_reducible rfl
      rotate_left
      · simp only [Act.put, List.setIfInBounds_toArray, List.set_cons_zero, List.set_cons_succ, i64_w, i32_w]
        rfl
      refine take_ (i := 10) (N := (some 69)) (v := ?_) (a' := ?_) #[true, true, true, true, true, true, true, true, true, true, true, false, false, false, false, false, false, false, false, false, false, false] rfl rfl (take_ofW HT_.out HW_.out (by kernel_rfl)) (fun _ _ _ h => h) (Or.inl ⟨by rfl, ?_⟩) hHeld ?_ ?_
      rotate_left
      · rintro w' ⟨_, _, _, s1, _⟩
        go_simp
        with_reducible rfl
      rotate_left
      · simp only [Act.put, List.setIfInBounds_toArray, List.set_cons_zero, List.set_cons_succ, i64_w, i32_w]
        rfl
      refine pure_ (i := 11) (N := (some 70)) (v := ?_) (a' := ?_) #[true, true, true, true, true, true, true, true, true, true, true, true, false, false, false, false, false, false, false, false, false, false] rfl rfl (any_of HT_.out (by kernel_rfl)) (fun _ _ _ h => h) (Or.inl ⟨by rfl, ?_⟩) ?_ ?_
      rotate_left
      · intro w'
        go_simp
        with_reducible rfl
      rotate_left
      · simp only [Act.put, List.setIfInBounds_toArray, List.set_cons_zero, List.set_cons_succ, i64_w, i32_w]
        rfl
      refine take_ (i := 12) (N := (some 71)) (v := ?_) (a' := ?_) #[true, true, true, true, true, true, true, true, true, true, true, true, true, false, false, false, false, false, false, false, false, false] rfl rfl (take_ofW HT_.out HW_.out (by kernel_rfl)) (fun _ _ _ h => h) (Or.inl ⟨by rfl, ?_⟩) hHeld ?_ ?_
      rotate_left
      · rintro w' ⟨_, _, _, _, s1⟩
        go_simp
        with_reducible rfl
      rotate_left
      · simp only [Act.put, List.setIfInBounds_toArray, List.set_cons_zero, List.set_cons_succ, i64_w, i32_w]
        rfl
      refine pure_ (i := 13) (N := (some 72)) (v := ?_) (a' := ?_) #[true, true, true, true, true, true, true, true, true, true, true, true, true, true, false, false, false, false, false, false, false, false] rfl rfl (any_of HT_.out (by kernel_rfl)) (fun _ _ _ h => h) (Or.inl ⟨by rfl, ?_⟩) ?_ ?_
      rotate_left
      · intro w'
        go_simp
        with_reducible rfl
      rotate_left
      · simp only [Act.put, List.setIfInBounds_toArray, List.set_cons_zero, List.set_cons_succ, i64_w, i32_w]
        rfl
      refine pure_ (i := 14) (N := (some 73)) (v := ?_) (a' := ?_) #[true, true, true, true, true, true, true, true, true, true, true, true, true, true, true, false, false, false, false, false, false, false] rfl rfl (any_of HT_.out (by kernel_rfl)) (fun _ _ _ h => h) (Or.inl ⟨by rfl, ?_⟩) ?_ ?_
      rotate_left
      · intro w'
        go_simp
        with_reducible rfl
      rotate_left
      · simp only [Act.put, List.setIfInBounds_toArray, List.set_cons_zero, List.set_cons_succ, i64_w, i32_w]
        rfl
      refine pure_ (i := 15) (N := (some 74)) (v := ?_) (a' := ?_) #[true, true, true, true, true, true, true, true, true, true, true, true, true, true, true, true, false, false, false, false, false, false] rfl rfl (any_of HT_.out (by kernel_rfl)) (fun _ _ _ h => h) (Or.inl ⟨by rfl, ?_⟩) ?_ ?_
      rotate_left
      · intro w'
        go_simp
        with_reducible rfl
      rotate_left
      · simp only [Act.put, List.setIfInBounds_toArray, List.set_cons_zero, List.set_cons_succ, i64_w, i32_w]
        rfl
      refine take_ (i := 16) (N := (some 75)) (v := ?_) (a' := ?_) #[true, true, true, true, true, true, true, true, true, true, true, true, true, true, true, true, true, false, false, false, false, false] rfl rfl (take_ofW HT_.out HW_.out (by kernel_rfl)) (fun _ _ _ h => h) (Or.inl ⟨by rfl, ?_⟩) hHeld ?_ ?_
      rotate_left
      · rintro w' ⟨_, s1, _⟩
        go_simp
        with_reducible rfl
      rotate_left
      · simp only [Act.put, List.setIfInBounds_toArray, List.set_cons_zero, List.set_cons_succ, i64_w, i32_w]
        rfl
      refine pure_ (i := 17) (N := (some 76)) (v := ?_) (a' := ?_) #[true, true, true, true, true, true, true, true, true, true, true, true, true, true, true, true, true, true, false, false, false, false] rfl rfl (any_of HT_.out (by kernel_rfl)) (fun _ _ _ h => h) (Or.inl ⟨by rfl, ?_⟩) ?_ ?_
      rotate_left
      · intro w'
        go_simp
        with_reducible rfl
      rotate_left
      · simp only [Act.put, List.setIfInBounds_toArray, List.set_cons_zero, List.set_cons_succ, i64_w, i32_w]
        rfl
      refine one_ (i := 18) (N := (some 77)) #[true, true, true, true, true, true, true, true, true, true, true, true, true, true, true, true, true, true, true, false, false, false] rfl rfl (one_of HT_.out (by kernel_rfl)) (by decide) (fun K9 hK => ?_)
      refine goes_ Try.func69 (by kernel_rfl) rfl #[.pointer v, .string key, .agg #[.string key, .string val, .int .i64 md, .int .i64 X.rev]] (by rfl) rfl rfl (by (try simp only [List.map_toArray, List.map_cons, List.map_nil]); first | done | rfl) ?_
      refine (put_calls X.t v key ⟨key, val, md, X.rev⟩ Wd.drew HSH.out HOK.out.1 HOK.out.2).mono ?_
      rintro e w7 ⟨v7, rfl, hS7, hb7⟩
      refine ⟨_, rfl, ?_⟩
      have HB7 := Aside.mk hb7
      have HS7 := Aside.mk hS7
      clear hb7 hS7
      refine hK.out _ _ (HD.out w7 HB7.out) (fun hHeld => ?_)
      clear hK K9
      refine norm_ (a' := ?_) ?_ ?_
      rotate_left
      · show Act.put _ (some 77) _ = _
        simp only [Act.put, List.setIfInBounds_toArray, List.set_cons_zero, List.set_cons_succ]
        rfl
      refine pure_ (i := 19) (N := (some 78)) (v := ?_) (a' := ?_) #[true, true, true, true, true, true, true, true, true, true, true, true, true, true, true, true, true, true, true, true, false, false] rfl rfl (any_of HT_.out (by kernel_rfl)) (fun _ _ _ h => h) (Or.inl ⟨by rfl, ?_⟩) ?_ ?_
      rotate_left
      · intro w'
        go_simp
        with_reducible rfl
      rotate_left
      · simp only [Act.put, List.setIfInBounds_toArray, List.set_cons_zero, List.set_cons_succ, i64_w, i32_w]
        rfl
      refine pure_ (i := 20) (N := (some 79)) (v := ?_) (a' := ?_) #[true, true, true, true, true, true, true, true, true, true, true, true, true, true, true, true, true, true, true, true, true, false] rfl rfl (any_of HT_.out (by kernel_rfl)) (fun _ _ _ h => h) (Or.inl ⟨by rfl, ?_⟩) ?_ ?_
      rotate_left
      · intro w'
        go_simp
        with_reducible rfl
      rotate_left
      · simp only [Act.put, List.setIfInBounds_toArray, List.set_cons_zero, List.set_cons_succ, i64_w, i32_w]
        rfl
      refine last_ (i := 21) (N := none) #[true, true, true, true, true, true, true, true, true, true, true, true, true, true, true, true, true, true, true, true, true, true] rfl rfl (one_of HT_.out (by kernel_rfl)) (by decide) (fun K9 hK => ?_)
      have q1 : w7.cell? ⟨T, 0, none⟩ = some (.pointer v) := (HD.out _ HB7.out).1
      have q2 : w7.frozen? ⟨T, 0, none⟩ = false := HFZ.out _ HB7.out
      refine skip_ (w1 := w7.setCell ⟨T, 0, none⟩ (.pointer v7)) (by rfl) rfl (by unfold execOp; go_simp) ?_
      refine hK.out _ _ ?_
      clear hK K9
      refine done_ (done_of HT_.out (by kernel_rfl)) ?_
      clear HT_ HW_ hHeld
      have hT7 : w7.heap[T]? = _ := (HB7.out.block T (show T < Wd.drew.heap.size from lt_of_block HE.out.1)).trans HE.out.1
      have hT8 := heap_setCell_eq (j := 0) (.pointer v7) hT7
      simp only [List.setIfInBounds_toArray, List.set_cons_zero] at hT8
      have HF8 : Aside (Fr (fun k => k = T) w7 (w7.setCell ⟨T, 0, none⟩ (.pointer v7))) := ⟨(Fr.refl (fun k => k = T) _).setCell (p := ⟨T, 0, none⟩) (.inl rfl) _⟩
      have HT8 := Aside.mk (And.intro hT7 hT8)
      clear hT7 hT8
      generalize (w7.setCell ⟨T, 0, none⟩ (.pointer v7)) = w8 at *
      go_wp2_with fail
      go_ret
      rw [← HYY.out]
      obtain ⟨a1, a2, a3, a4, a5, a6, a7, a8⟩ := HE.out
      have hC7 := Kd.C_below (Kd.C_below a5 (below_drew1 (Below.refl _ _))) HB7.out
      exact ⟨rfl, ⟨v7, _, HT8.out.2, (show SH w7 v7 (Shf.put key ⟨key, val, X.rev, X.rev⟩ X.t) from by have := HS7.out; rw [← HMD.out] at this; exact this).fr HF8.out (fun k cs t hk hc => by subst hk; rw [HT8.out.1] at hc; cases hc; decide), row_fr (F := fun k => k = T) (fun h => h) hC7 HF8.out (fun ad e => (a7 ad e).2), a6, fun ad e => ⟨Nat.lt_of_lt_of_le (a7 ad e).1 (Nat.le_trans HB7.out.size HF8.out.size), (a7 ad e).2⟩⟩, (a8.drew.trans (Fr.of_new HB7.out) (fun _ _ h => h)).trans HF8.out (fun _ _ h => h)⟩
end Go.Proofs.Ytagkobpbhfkmdaa.C
/-! from MX -/
namespace Go.Proofs.Ytagkobpbhfkmdaa.C
open Go.RowKit Go.Proofs.Ytagkobpbhfkmdaa.Q Go.Proofs.YtagkobpbhfkmdaaW.PrintLast Go.Proofs.YtagkobpbhfkmdaaW.PrintWords
set_option linter.unusedVariables false
set_option linter.unusedSimpArgs false
theorem key_calls (s : ByteArray) (hs : s.size ≤ 9000000000000000000) (w : World) : Calls Try.prog 80 #[.string s] w fun e w' => e = .returned (.bool (keyB s)) ∧ ∃ q, w' = w.drewN q :=
  (keys_Key.calls (s.size + 6) s _ w (key_is s hs _ (by omega))).mono fun e w' h => ⟨h.1, drawn_fr h.2⟩
/-- A condition that may not be. -/
def badC (c : Cd) : Bool := !keyB c.f0 || !(decide (0 ≤ c.f1) && decide (c.f1 ≤ 1099511627776))
set_option maxHeartbeats 2000000 in
set_option maxRecDepth 100000 in
theorem may1_calls (c : Cd) (hs : c.f0.size ≤ 9000000000000000000) (w : World) : Calls Try.prog 95 #[.agg #[.string c.f0, .int .i64 c.f1]] w fun e w' => e = .returned (.bool (badC c)) ∧ Below w.heap.size w w' := by
  obtain ⟨c0, c1⟩ := c
  unfold badC
  dsimp only at hs ⊢
  have hb := (Below.refl w.heap.size w).alloc (Nat.le_refl _) (Obj.cells #[Value.string c0, Value.int IntKind.i64 c1] 158 (0, 0))
  have hE := heap_alloc_new w (Obj.cells #[Value.string c0, Value.int IntKind.i64 c1] 158 (0, 0))
  obtain ⟨b0, hb0⟩ : ∃ b0, w.heap.size = b0 := ⟨_, rfl⟩
  rw [hb0] at hE
  have hk := fun v => key_calls c0 hs v
  obtain ⟨kb, hkb⟩ : ∃ b, keyB c0 = b := ⟨_, rfl⟩
  rw [hkb] at hk ⊢
  clear hkb
  have HB := Aside.mk (And.intro hb hE)
  clear hb hs
  go_enter Try.func95, Try.ntmps95
  go_upto_region 1 with fail
  try rw [hb0]
  clear hb0
  generalize w.alloc (Obj.cells #[Value.string c0, Value.int IntKind.i64 c1] 158 (0, 0)) = w1 at *
  have y0 := cell_at HB.out.2 0
  clear hE
  cases kb with
  | false =>
    go_wp2_with fail
    refine (hk _).mono ?_
    rintro e w2 ⟨rfl, q, rfl⟩
    go_wp2_with fail
    go_ret
    exact ⟨rfl, HB.out.1.trans ⟨rfl, rfl, rfl, Nat.le_refl _, fun _ _ => rfl⟩⟩
  | true =>
    go_wp2_with fail
    refine (hk _).mono ?_
    rintro e w2 ⟨rfl, q, rfl⟩
    have y1 : (w1.drewN q).cell? ⟨b0, 1, none⟩ = some (.int .i64 c1) := cell_at HB.out.2 1
    have hm := mayRev_calls c1 (w1.drewN q)
    clear hk
    go_wp2_with fail
    refine hm.mono ?_
    rintro e w3 ⟨rfl, hb3⟩
    have HB3 := Aside.mk hb3
    clear hb3 hm
    go_wp2_with fail
    go_ret
    exact ⟨by simp, (HB.out.1.trans (show Below w.heap.size w1 (w1.drewN q) from ⟨rfl, rfl, rfl, Nat.le_refl _, fun _ _ => rfl⟩)).trans (HB3.out.mono HB.out.1.size)⟩
/-- The same key. -/
def sameO (o p : Opn) : Bool := eqT p.f1 o.f1
set_option maxHeartbeats 2000000 in
set_option maxRecDepth 100000 in
theorem may2_calls (o p : Opn) (K : Nat) (w : World) (hK : w.heap[K]? = some (.cells #[.bool o.f0, .string o.f1, .string o.f2] 117 (0, 0))) : Calls Try.prog 97 #[.agg #[.bool p.f0, .string p.f1, .string p.f2], .pointer (some ⟨K, 0, none⟩)] w fun e w' => e = .returned (.bool (sameO o p)) ∧ Below w.heap.size w w' := by
  obtain ⟨p0, p1, p2⟩ := p
  obtain ⟨o0, o1, o2⟩ := o
  unfold sameO eqT
  dsimp only at hK ⊢
  have hb := (Below.refl w.heap.size w).alloc (Nat.le_refl _) (Obj.cells #[Value.bool p0, Value.string p1, Value.string p2] 117 (0, 0))
  have k1 : (w.alloc (Obj.cells #[Value.bool p0, Value.string p1, Value.string p2] 117 (0, 0))).cell? ⟨K, 1, none⟩ = some (.string o1) := cell_at (blk_al hK _) 1
  have hlt := lt_of_block hK
  have hne : ¬ K = w.heap.size := by omega
  have HB := Aside.mk hb
  clear hb hK
  go_enter Try.func97, Try.ntmps97
  go_wp2_with fail
  go_ret
  exact ⟨rfl, HB.out⟩
/-- So many operations may be. -/
def opsTo (l : List Opn) : Nat → Bool
  | 0 => true
  | k + 1 => opsTo l k && (match l[k]? with | none => true | some o => mayOpB o.f0 o.f1 o.f2 && !((l.take k).any (sameO o)))
theorem opsTo_mono {l : List Opn} : ∀ {k n : Nat}, k ≤ n → opsTo l k = false → opsTo l n = false
  | k, 0, hk, h => by have : k = 0 := by omega
                      subst this; exact h
  | k, n + 1, hk, h => by
    by_cases e : k = n + 1
    · subst e; exact h
    · show (opsTo l n && _) = false
      rw [opsTo_mono (k := k) (by omega) h]
      rfl
def mayTxnB (x : S101) : Bool := decide (x.f0.length ≤ 8) && (decide (x.f1.length ≤ 8) && (!x.f0.any badC && opsTo x.f1 x.f1.length))
set_option maxHeartbeats 4000000 in
set_option maxRecDepth 100000 in
theorem mayTxn_calls (x : S101) (A0 A1 : Option Addr) (c0 c1 : Nat) (w : World) (g0 : k158.C w A0 x.f0.length x.f0) (g1 : k117.C w A1 x.f1.length x.f1) (h0 : x.f0.length ≤ c0) (h1 : x.f1.length ≤ c1) (hl0 : x.f0.length ≤ 1000000) (hl1 : x.f1.length ≤ 1000000) (hs0 : ∀ c ∈ x.f0, c.f0.size ≤ 9000000000000000000) (hs1 : ∀ o ∈ x.f1, o.f1.size ≤ 9000000000000000000) :
    Calls Try.prog 74 #[.agg #[.slice A0 x.f0.length c0, .slice A1 x.f1.length c1]] w fun e w' => e = .returned (.bool (mayTxnB x)) ∧ Below w.heap.size w w' := by
  obtain ⟨l0, l1⟩ := x
  dsimp only at g0 g1 h0 h1 hl0 hl1 hs0 hs1 ⊢
  obtain ⟨R, hR⟩ : ∃ R, mayTxnB ⟨l0, l1⟩ = R := ⟨_, rfl⟩
  rw [hR]
  unfold mayTxnB at hR
  dsimp only at hR
  obtain ⟨n0, hn0⟩ : ∃ n, l0.length = n := ⟨_, rfl⟩
  obtain ⟨n1, hn1⟩ : ∃ n, l1.length = n := ⟨_, rfl⟩
  have hb := (Below.refl w.heap.size w).alloc (Nat.le_refl _) (Obj.cells #[Value.slice A0 n0 c0, Value.slice A1 n1 c1] 101 (0, 0))
  have hE := heap_alloc_new w (Obj.cells #[Value.slice A0 n0 c0, Value.slice A1 n1 c1] 101 (0, 0))
  have hc := containsfC0_calls A0 c0 l0 95 badC (w.alloc (Obj.cells #[Value.slice A0 n0 c0, Value.slice A1 n1 c1] 101 (0, 0))) (Kd.C_below g0 hb) h0 (by omega) (fun W x hx hW => may1_calls x (hs0 x hx) W) (enters_of Try.func95 (by kernel_rfl) rfl)
  obtain ⟨b0, hb0⟩ : ∃ b0, w.heap.size = b0 := ⟨_, rfl⟩
  rw [hb0] at hE
  rw [hn0] at hc hR h0 hl0 ⊢
  rw [hn1] at hR h1 hl1 ⊢
  obtain ⟨B, hB⟩ : ∃ B, l0.any badC = B := ⟨_, rfl⟩
  rw [hB] at hc hR
  have HR := Aside.mk hR
  have HB := Aside.mk (And.intro hb hE)
  have HG := Aside.mk (And.intro g1 hn1)
  clear g0 g1 hn0 hn1 hR hB hb hs0
  go_enter Try.func74, Try.ntmps74
  go_upto_region 1 with fail
  try rw [hb0]
  clear hb0
  generalize w.alloc (Obj.cells #[Value.slice A0 n0 c0, Value.slice A1 n1 c1] 101 (0, 0)) = w1 at *
  have y0 := cell_at hE 0
  have y1 := cell_at hE 1
  clear hE
  by_cases h8 : n0 ≤ 8
  · by_cases h9 : n1 ≤ 8
    · have HR1 := HR.out
      rw [decide_eq_true h8, decide_eq_true h9, Bool.true_and, Bool.true_and] at HR1
      have HR := Aside.mk HR1
      clear HR1
      cases B with
      | true =>
        go_wp2_with fail
        refine hc.mono ?_
        rintro e w2 ⟨rfl, hb2⟩
        have HB2 := Aside.mk (HB.out.1.trans (hb2.mono HB.out.1.size))
        clear hb2 hc
        go_wp2_with fail
        go_ret
        rw [← HR.out]
        exact ⟨rfl, HB2.out⟩
      | false =>
        have HR2 := HR.out
        rw [show (!false) = true from rfl, Bool.true_and] at HR2
        have HR := Aside.mk HR2
        clear HR2
        go_wp2_with fail
        refine hc.mono ?_
        rintro e w2 ⟨rfl, hb2⟩
        have hE2 := (hb2.block b0 (lt_of_block HB.out.2)).trans HB.out.2
        have HB2 := Aside.mk (And.intro (HB.out.1.trans (hb2.mono HB.out.1.size)) hE2)
        have y1 : w2.cell? ⟨b0, 1, none⟩ = some (.slice A1 n1 c1) := cell_at hE2 1
        clear hb2 hc hE2 y0
        go_wp2_with fail
        go_loopw [21] (fun v21 wr => ∃ k : Nat, k ≤ n1 ∧ v21 = .int .i64 k ∧ Aside (opsTo l1 k = true ∧ Below w.heap.size w wr ∧ wr.heap[b0]? = some (Obj.cells #[Value.slice A0 n0 c0, Value.slice A1 n1 c1] 101 (0, 0)))) (fun v21 _ => n1 - (intOf v21).toNat)
        case atStart => exact ⟨0, by omega, rfl, ⟨rfl, HB2.out⟩⟩
        case round =>
          rename_i v21 wr
          obtain ⟨k, hk, rfl, HI⟩ := hrel
          by_cases hkn : k < n1
          · obtain ⟨o, ho⟩ : ∃ o, l1[k]? = some o := ⟨_, List.getElem?_eq_getElem (by rw [HG.out.2]; exact hkn)⟩
            have hrow := Kd.C_below HG.out.1 HI.out.2.1
            obtain ⟨ad, he, f0, f1, f2⟩ := at_T117 hrow (k : Int) (by omega) (by rw [HG.out.2]; omega)
            rw [rd_getO ho] at f0 f1 f2
            simp only [Int.toNat_natCast] at f0 f1 f2
            have hso := hs1 o (List.mem_of_getElem? ho)
            obtain ⟨R1, hR1⟩ : ∃ R, mayOpB o.f0 o.f1 o.f2 = R := ⟨_, rfl⟩
            obtain ⟨R2, hR2⟩ : ∃ R, (l1.take k).any (sameO o) = R := ⟨_, rfl⟩
            have hst : opsTo l1 (k + 1) = (R1 && !R2) := by
              show (opsTo l1 k && (match l1[k]? with | none => true | some o => mayOpB o.f0 o.f1 o.f2 && !((l1.take k).any (sameO o)))) = _
              rw [HI.out.1, ho]
              dsimp only
              rw [hR1, hR2, Bool.true_and]
            obtain ⟨o0, o1, o2⟩ := o
            dsimp only at f0 f1 f2 hso hR1
            have hbo := heap_alloc_new wr (Obj.cells #[Value.bool o0, Value.string o1, Value.string o2] 117 (0, 0))
            have hbb := (Below.refl wr.heap.size wr).alloc (Nat.le_refl _) (Obj.cells #[Value.bool o0, Value.string o1, Value.string o2] 117 (0, 0))
            have hm := fun v => mayOp_calls o0 o1 o2 R1 v hso hR1
            have htk := Kd.C_take hrow (m := k) (by rw [HG.out.2]; omega)
            have hlk : (l1.take k).length = k := by rw [List.length_take, HG.out.2]; omega
            have hcc := fun W (hW : Below (wr.alloc (Obj.cells #[Value.bool o0, Value.string o1, Value.string o2] 117 (0, 0))).heap.size (wr.alloc (Obj.cells #[Value.bool o0, Value.string o1, Value.string o2] 117 (0, 0))) W) => containsfO1_calls (some ad) c1 (l1.take k) 97 wr.heap.size (sameO ⟨o0, o1, o2⟩) W (Kd.C_below (Kd.C_below (by rw [he] at htk; exact htk) hbb) hW) (by rw [hlk]; omega) (by rw [hlk]; omega) (fun W' p _ hW' => may2_calls ⟨o0, o1, o2⟩ p wr.heap.size W' ((hW'.block _ (lt_of_block ((hW.block _ (lt_of_block hbo)).trans hbo))).trans ((hW.block _ (lt_of_block hbo)).trans hbo))) (enters_of Try.func97 (by kernel_rfl) rfl)
            rw [hlk, hR2] at hcc
            have HCC := Aside.mk hcc
            have HBW := Aside.mk (And.intro hbb hbo)
            have HST := Aside.mk hst
            have y1 : (wr.alloc (Obj.cells #[Value.bool o0, Value.string o1, Value.string o2] 117 (0, 0))).cell? ⟨b0, 1, none⟩ = some (.slice (some ad) n1 c1) := by rw [← he]; exact cell_at (blk_al HI.out.2.2 _) 1
            subst he
            clear hrow ho hR1 hR2 hst hbo hbb htk hlk hcc hso
            cases R1 with
            | false =>
              have hz : R = false := by rw [← HR.out]; exact opsTo_mono (k := k + 1) (by omega) (by rw [HST.out]; rfl)
              have HZ := Aside.mk hz
              clear hz
              go_wp2_with fail
              refine (hm _).mono ?_
              rintro e w4 ⟨rfl, hb4⟩
              have HB4 := Aside.mk ((HI.out.2.1.trans (HBW.out.1.mono HI.out.2.1.size)).trans (hb4.mono (Nat.le_trans HI.out.2.1.size HBW.out.1.size)))
              clear hb4 hm
              go_wp2_with fail
              go_ret
              rw [HZ.out]
              exact ⟨rfl, HB4.out⟩
            | true =>
              go_wp2_with fail
              refine (hm _).mono ?_
              rintro e w4 ⟨rfl, hb4⟩
              have hcc := HCC.out w4 hb4
              have hE4 := (hb4.block b0 (by show b0 < _; exact lt_of_block (blk_al HI.out.2.2 _))).trans (blk_al HI.out.2.2 _)
              have y2 : w4.cell? ⟨b0, 1, none⟩ = some (.slice (some ad) n1 c1) := cell_at hE4 1
              have HB4 := Aside.mk (And.intro ((HI.out.2.1.trans (HBW.out.1.mono HI.out.2.1.size)).trans (hb4.mono (Nat.le_trans HI.out.2.1.size HBW.out.1.size))) hE4)
              clear hb4 hm y1 hE4 HCC
              have hk1 : k ≤ c1 := by omega
              go_wp2_with fail
              refine hcc.mono ?_
              rintro e w5 ⟨rfl, hb5⟩
              have HB5 := Aside.mk (And.intro (HB4.out.1.trans (hb5.mono HB4.out.1.size)) ((hb5.block b0 (lt_of_block HB4.out.2)).trans HB4.out.2))
              clear hb5 hcc y2
              cases R2 with
              | true =>
                have hz : R = false := by rw [← HR.out]; exact opsTo_mono (k := k + 1) (by omega) (by rw [HST.out]; rfl)
                have HZ := Aside.mk hz
                clear hz
                go_wp2_with fail
                go_ret
                rw [HZ.out]
                exact ⟨rfl, HB5.out.1⟩
              | false =>
                go_wp2_with fail
                go_roundw
                case rel => exact ⟨k + 1, by omega, by go_num, ⟨by rw [HST.out]; rfl, HB5.out⟩⟩
                case measure => simp [intOf]; omega
          · obtain rfl : n1 = k := by omega
            have hz : R = true := by rw [← HR.out]; exact HI.out.1
            go_wp2_with fail
            go_ret
            rw [hz]
            exact ⟨rfl, HI.out.2.1⟩
    · have HR1 := HR.out
      rw [decide_eq_true h8, decide_eq_false h9, Bool.true_and, Bool.false_and] at HR1
      have HR := Aside.mk HR1
      have h9' : 8 < n1 := by omega
      clear HR1 hc
      go_wp2_with fail
      go_ret
      rw [← HR.out]
      exact ⟨rfl, HB.out.1⟩
  · have HR1 := HR.out
    rw [decide_eq_false h8, Bool.false_and] at HR1
    have HR := Aside.mk HR1
    have h8' : 8 < n0 := by omega
    clear HR1 hc
    go_wp2_with fail
    go_ret
    rw [← HR.out]
    exact ⟨rfl, HB.out.1⟩
end Go.Proofs.Ytagkobpbhfkmdaa.C
