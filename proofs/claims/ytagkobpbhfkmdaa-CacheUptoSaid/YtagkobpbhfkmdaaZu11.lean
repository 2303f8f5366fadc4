/- Zu: texts of this claim, laid together. -/
import Derived.StillTailTactics
import Derived.Handy
import Derived.WalkMore
import Derived.WalkSpells
import Derived.Laws.Externs
import Derived.Test.YtagkobpbhfkmdaaZu9
/-! from CW -/
namespace Go.Proofs.Ytagkobpbhfkmdaa.C
open Go.RowKit Go.ChangeMaps Go.Proofs.Ytagkobpbhfkmdaa.Q Go.Proofs.YtagkobpbhfkmdaaW.PrintLast Go.Proofs.YtagkobpbhfkmdaaW.PrintWords
set_option linter.unusedVariables false
set_option linter.unusedSimpArgs false
theorem row_fr {α : Type} {d : Kd α} {F : Nat → Prop} {w w' : World} {A : Option Addr} {n : Nat} {xs : List α} (hd : ∀ {W W' : World} {x : α} {cs : List Value}, d.K W x cs → d.K W' x cs) (h : d.C w A n xs) (hf : Fr F w w') (hA : ∀ ad, A = some ad → ¬ F ad.block) : d.C w' A n xs := Kd.C_foot_neS (S := F) hd h (fun ad e _ => hA ad e) w' ⟨hf.size, hf.block⟩
def happM (f : Fcts) (x : Ev) : Fcts := upd f x.f2 (some (if x.f1 then ⟨x.f0, false, entZ⟩ else ⟨x.f0, true, ⟨x.f2, x.f3, if (getM f x.f2).2 then (getM f x.f2).1.made else x.f0, x.f0⟩⟩))
theorem upd_upd {κ ν : Type} [DecidableEq κ] (f : κ → Option ν) (k : κ) (a b : Option ν) : upd (upd f k a) k b = upd f k b := by
  funext i
  unfold upd
  by_cases h : i = k
  · rw [if_pos h, if_pos h]
  · rw [if_neg h, if_neg h, if_neg h]
theorem CA.stored {w : World} {C M : Nat} {f : Fcts} {u : Int} (h : CA w C M f u) (k : ByteArray) (v : Fct) : ∃ o, (Instr.mapUpdate 77 (.map (some M)) (.string k) (factV v)).run Try.prog w = .ok () (setBlock w M o) ∧ CA (setBlock w M o) C M (upd f k (some v)) u ∧ Fr (fun i => i = M) w (setBlock w M o) := by
  have hne := h.ne
  obtain ⟨hb, es, c, hm, hg⟩ := h
  obtain ⟨es', c', hr, hg'⟩ := hg.update strK Try.underlying77 hm k v
  exact ⟨.map es' c', hr, ⟨by rw [heap_setBlock_ne _ _ (fun e => hne e.symm)]; exact hb, es', c', heap_setBlock_eq _ hm, hg'⟩, (Fr.refl (fun i => i = M) w).setBlock (.inl rfl) _⟩
theorem CA.struck {w : World} {C M : Nat} {f : Fcts} {u : Int} (h : CA w C M f u) (k : ByteArray) (ty : TypeId) : ∃ o, (Builtin.delete_ #[77, 9] ty #[.map (some M), .string k]).run Try.prog w = .ok (.tuple #[]) (setBlock w M o) ∧ CA (setBlock w M o) C M (upd f k none) u ∧ Fr (fun i => i = M) w (setBlock w M o) := by
  have hne := h.ne
  obtain ⟨hb, es, c, hm, hg⟩ := h
  obtain ⟨es', hr, hg'⟩ := hg.delete strK Try.underlying77 hm k ty
  exact ⟨.map es' c, hr, ⟨by rw [heap_setBlock_ne _ _ (fun e => hne e.symm)]; exact hb, es', c, heap_setBlock_eq _ hm, hg'⟩, (Fr.refl (fun i => i = M) w).setBlock (.inl rfl) _⟩
set_option maxHeartbeats 2000000 in
set_option maxRecDepth 100000 in
theorem happens_calls (C M : Nat) (f : Fcts) (u : Int) (x : Ev) (w : World) (h : CA w C M f u) : Calls Try.prog 53 #[.pointer (some ⟨C, 0, none⟩), .agg #[.int .i64 x.f0, .bool x.f1, .string x.f2, .string x.f3]] w fun e w' => e = .returned (.tuple #[]) ∧ CA w' C M (happM f x) u ∧ Fr (fun k => k = M) w w' := by
  obtain ⟨rev, del, key, val⟩ := x
  unfold happM
  dsimp only
  have hB := heap_alloc_new w (Obj.cells #[Value.int IntKind.i64 rev, Value.bool del, Value.string key, Value.string val] 75 (0, 0))
  have hh := h.below ((Below.refl w.heap.size w).alloc (Nat.le_refl _) (Obj.cells #[Value.int IntKind.i64 rev, Value.bool del, Value.string key, Value.string val] 75 (0, 0)))
  have hF := (Fr.refl (fun k => k = M) w).alloc (Obj.cells #[Value.int IntKind.i64 rev, Value.bool del, Value.string key, Value.string val] 75 (0, 0))
  obtain ⟨b0, hb0⟩ : ∃ b0, w.heap.size = b0 := ⟨_, rfl⟩
  have hM := h.ltM
  have hC := h.ltC
  rw [hb0] at hB hM hC
  clear h
  cases del with
  | true =>
    rw [if_pos rfl]
    go_enter Try.func53, Try.ntmps53
    go_upto_region 1 with fail
    generalize (w.alloc (Obj.cells #[Value.int IntKind.i64 rev, Value.bool true, Value.string key, Value.string val] 75 (0, 0))) = w0 at *
    have c0 := cell_at hB 0
    have c1 := cell_at hB 1
    have c2 := cell_at hB 2
    have t0 := cell_at hh.box 0
    go_upto_region 2 with fail
    go_still_tail 6, (by kernel_rfl)
    have h1 : CA w0.drew C M f u := hh.keep rfl rfl
    obtain ⟨o1, hr1, hC1, hF1⟩ := h1.struck key 0
    have hB1 : (setBlock w0.drew M o1).heap[b0]? = _ := (hF1.block b0 (by show b0 < w0.heap.size; exact lt_of_block hB) (fun e => by omega)).trans hB
    have HF1 := Aside.mk ((hF.drew).trans hF1 (fun _ _ h => h))
    have d0 := cell_at hB1 0
    have d2 := cell_at hB1 2
    have s0 := cell_at hC1.box 0
    go_upto_region 3 with fail
    generalize (setBlock w0.drew M o1) = w1 at *
    obtain ⟨o2, hr2, hC2, hF2⟩ := (show CA w1.drew C M (upd f key none) u from hC1.keep rfl rfl).stored key ⟨rev, false, entZ⟩
    replace hr2 : (Instr.mapUpdate 77 (.map (some M)) (.string key) (.agg #[.int .i64 rev, .bool false, .string (ByteArray.mk #[]), .string (ByteArray.mk #[]), .int .i64 0, .int .i64 0])).run Try.prog w1.drew = .ok () (setBlock w1.drew M o2) := hr2
    have HF2 := Aside.mk (And.intro (HF1.out.drew.trans hF2 (fun _ _ h => h)) (by rw [upd_upd] at hC2; exact hC2))
    clear hC1 hF1 hC2 hF2 HF1 h1
    go_still_tail 9, (by kernel_rfl)
    go_wp2_with fail
    go_returns
    exact ⟨rfl, HF2.out.2, HF2.out.1⟩
  | false =>
    rw [if_neg (by decide)]
    have hget := cget_calls C M f u key
    obtain ⟨g, hg⟩ : ∃ g, getM f key = g := ⟨_, rfl⟩
    rw [hg] at hget ⊢
    obtain ⟨gx, gis⟩ := g
    dsimp only at hget ⊢
    have HG := Aside.mk hget
    obtain ⟨md, hmd⟩ : ∃ md, (if gis = true then gx.made else rev) = md := ⟨_, rfl⟩
    rw [hmd]
    have HMD := Aside.mk hmd
    clear hg hget hmd
    go_enter Try.func53, Try.ntmps53
    go_upto_region 1 with fail
    generalize (w.alloc (Obj.cells #[Value.int IntKind.i64 rev, Value.bool false, Value.string key, Value.string val] 75 (0, 0))) = w0 at *
    have c0 := cell_at hB 0
    have c1 := cell_at hB 1
    have c2 := cell_at hB 2
    have t0 := cell_at hh.box 0
    go_wp2_with fail
    refine (HG.out w0 hh).mono ?_
    rintro e w1 ⟨rfl, hb⟩
    have hB1 := (hb.block b0 (lt_of_block hB)).trans hB
    have hC1 := hh.below hb
    have hF1 := hF.trans (Fr.of_new (F := fun k => k = M) hb) (fun _ _ h => h)
    have hs1 := lt_of_block hB1
    have hs2 := hC1.ltC
    clear c0 c1 c2 t0 hB hh hF hb HG
    have c0 : w1.cell? ⟨b0, 0, none⟩ = some (.int .i64 rev) := cell_at hB1 0
    have c1 : w1.cell? ⟨b0, 1, none⟩ = some (.bool false) := cell_at hB1 1
    have c2 : w1.cell? ⟨b0, 2, none⟩ = some (.string key) := cell_at hB1 2
    have c3 : w1.cell? ⟨b0, 3, none⟩ = some (.string val) := cell_at hB1 3
    have t0 : w1.cell? ⟨C, 0, none⟩ = some (.map (some M)) := cell_at hC1.box 0
    have hn1 : ¬ b0 = w1.heap.size := by omega
    have hn2 : ¬ C = w1.heap.size := by omega
    have hC2 := hC1.below ((Below.refl w1.heap.size w1).alloc (Nat.le_refl _) (Obj.cells #[Value.string gx.key, Value.string gx.val, Value.int IntKind.i64 gx.made, Value.int IntKind.i64 gx.mod] 46 (0, 0)))
    have hF2 := hF1.alloc (Obj.cells #[Value.string gx.key, Value.string gx.val, Value.int IntKind.i64 gx.made, Value.int IntKind.i64 gx.mod] 46 (0, 0))
    have HC := Aside.mk (And.intro hC2 hF2)
    clear hC1 hF1 hC2 hF2
    have c0' : (w1.alloc (Obj.cells #[Value.string gx.key, Value.string gx.val, Value.int IntKind.i64 gx.made, Value.int IntKind.i64 gx.mod] 46 (0, 0))).cell? ⟨b0, 0, none⟩ = some (.int .i64 rev) := cell_at (blk_al hB1 _) 0
    have c2' : (w1.alloc (Obj.cells #[Value.string gx.key, Value.string gx.val, Value.int IntKind.i64 gx.made, Value.int IntKind.i64 gx.mod] 46 (0, 0))).cell? ⟨b0, 2, none⟩ = some (.string key) := cell_at (blk_al hB1 _) 2
    have c3' : (w1.alloc (Obj.cells #[Value.string gx.key, Value.string gx.val, Value.int IntKind.i64 gx.made, Value.int IntKind.i64 gx.mod] 46 (0, 0))).cell? ⟨b0, 3, none⟩ = some (.string val) := cell_at (blk_al hB1 _) 3
    have t0' : (w1.alloc (Obj.cells #[Value.string gx.key, Value.string gx.val, Value.int IntKind.i64 gx.made, Value.int IntKind.i64 gx.mod] 46 (0, 0))).cell? ⟨C, 0, none⟩ = some (.map (some M)) := cell_at HC.out.1.box 0
    cases gis with
    | true =>
      go_upto_region 8 with fail
      generalize (w1.alloc (Obj.cells #[Value.string gx.key, Value.string gx.val, Value.int IntKind.i64 gx.made, Value.int IntKind.i64 gx.mod] 46 (0, 0))) = w2 at *
      obtain ⟨o2, hr2, hC2, hF2⟩ := (show CA w2.drew C M f u from HC.out.1.keep rfl rfl).stored key ⟨rev, true, ⟨key, val, gx.made, rev⟩⟩
      replace hr2 : (Instr.mapUpdate 77 (.map (some M)) (.string key) (.agg #[.int .i64 rev, .bool true, .string key, .string val, .int .i64 gx.made, .int .i64 rev])).run Try.prog w2.drew = .ok () (setBlock w2.drew M o2) := hr2
      have HF2 := Aside.mk (And.intro (HC.out.2.drew.trans hF2 (fun _ _ h => h)) hC2)
      clear hC2 hF2
      go_still_tail 17, (by kernel_rfl)
      go_wp2_with fail
      go_returns
      have hm : gx.made = md := by simpa using HMD.out
      subst hm
      exact ⟨rfl, HF2.out.2, HF2.out.1⟩
    | false =>
      go_upto_region 8 with fail
      generalize (w1.alloc (Obj.cells #[Value.string gx.key, Value.string gx.val, Value.int IntKind.i64 gx.made, Value.int IntKind.i64 gx.mod] 46 (0, 0))) = w2 at *
      obtain ⟨o2, hr2, hC2, hF2⟩ := (show CA w2.drew C M f u from HC.out.1.keep rfl rfl).stored key ⟨rev, true, ⟨key, val, rev, rev⟩⟩
      replace hr2 : (Instr.mapUpdate 77 (.map (some M)) (.string key) (.agg #[.int .i64 rev, .bool true, .string key, .string val, .int .i64 rev, .int .i64 rev])).run Try.prog w2.drew = .ok () (setBlock w2.drew M o2) := hr2
      have HF2 := Aside.mk (And.intro (HC.out.2.drew.trans hF2 (fun _ _ h => h)) hC2)
      clear hC2 hF2
      go_still_tail 17, (by kernel_rfl)
      go_wp2_with fail
      go_returns
      have hm : rev = md := by simpa using HMD.out
      subst hm
      exact ⟨rfl, HF2.out.2, HF2.out.1⟩
end Go.Proofs.Ytagkobpbhfkmdaa.C
/-! from CX -/
namespace Go.Proofs.Ytagkobpbhfkmdaa.C
open Go.RowKit Go.ChangeMaps Go.Proofs.Ytagkobpbhfkmdaa.Q Go.Proofs.YtagkobpbhfkmdaaW.PrintLast Go.Proofs.YtagkobpbhfkmdaaW.PrintWords
set_option linter.unusedVariables false
set_option linter.unusedSimpArgs false
def stepW (u : Int) (f : Fcts) (x : Ev) : Fcts := if asofM f u x.f2 < x.f0 then happM f x else f
def maxI (a b : Int) : Int := if a < b then b else a
def watchM (f : Fcts) (u fr rev : Int) (l : List Ev) : (Fcts × Int) × Int :=
  if cmayB fr rev l = true then (if u = -1 ∨ u + 1 < fr then ((f, u), 46) else ((l.foldl (stepW u) f, maxI u rev), 0)) else ((f, u), 4)
theorem foldl_take_succ {α β : Type} (g : β → α → β) (b : β) {l : List α} {k : Nat} {x : α} (h : l[k]? = some x) : (l.take (k + 1)).foldl g b = g ((l.take k).foldl g b) x := by
  rw [List.take_add_one, h, List.foldl_append]
  rfl
theorem rd_get {l : List Ev} {k : Nat} {x : Ev} (h : l[k]? = some x) : rd_T75 l (k : Int) = x := by
  unfold rd_T75
  rw [Int.toNat_natCast, List.getD_eq_getElem?_getD, h]
  rfl
def cw10T : Bool × List (List Nat × List Nat) := (true, [([], []), ([0], [0]), ([], []), ([], []), ([3], [3]), ([2, 4], [2, 4]), ([1, 5], [1, 5])])
def cw10B : List Nat := [0, 1, 0, 0, 8, 28, 63]
theorem cw10_tab : rtab .any (opsOf Try.f27 10) = cw10T := by kernel_rfl
theorem cw10_bits : waitsOk cw10T.2 cw10B = true := by kernel_rfl
set_option maxHeartbeats 4000000 in
set_option maxRecDepth 100000 in
theorem watch_calls (C M : Nat) (f : Fcts) (u fr rev : Int) (A : Option Addr) (c : Nat) (l : List Ev) (w : World) (h : CA w C M f u) (g : Kd.C k75 w A l.length l) (hlc : l.length ≤ c) (hl : l.length ≤ 1000000000) (hsz : ∀ x ∈ l, x.f2.size ≤ 100000) (hu : -1 ≤ u ∧ u ≤ 1099511627776) (hA : ∀ ad, A = some ad → ad.block ≠ C ∧ ad.block ≠ M) :
    Calls Try.prog 27 #[.pointer (some ⟨C, 0, none⟩), .int .i64 fr, .int .i64 rev, .slice A l.length c] w fun e w' => e = .returned (.int .i64 (watchM f u fr rev l).2) ∧ CA w' C M (watchM f u fr rev l).1.1 (watchM f u fr rev l).1.2 ∧ Fr (fun k => k = C ∨ k = M) w w' := by
  have hmay := cache_may.calls (l.length + 100020) fr rev A c l _ w g hlc (cmay_is fr rev l hl hsz)
  have HH := Aside.mk (And.intro h (And.intro g hA))
  have t1 : w.cell? ⟨C, 1, none⟩ = some (.int .i64 u) := cell_at h.box 1
  obtain ⟨X, hX⟩ : ∃ X, watchM f u fr rev l = X := ⟨_, rfl⟩
  rw [hX]
  unfold watchM at hX
  cases hm : cmayB fr rev l with
  | false =>
    rw [hm] at hX hmay
    rw [if_neg (by decide)] at hX
    have HX := Aside.mk hX
    clear h g hA hsz hX hm
    go_enter Try.func27, Try.ntmps27
    go_wp2_with fail
    refine hmay.mono ?_
    rintro e w1 ⟨rfl, hb⟩
    have HB := Aside.mk hb
    clear hb
    go_wp2_with fail
    go_ret
    rw [← HX.out]
    exact ⟨rfl, HH.out.1.below HB.out, Fr.of_new HB.out⟩
  | true =>
    rw [hm] at hX hmay
    rw [if_pos rfl] at hX
    obtain ⟨n, hn⟩ : ∃ n, l.length = n := ⟨_, rfl⟩
    have HN := Aside.mk hn
    rw [hn] at hmay hlc hl ⊢
    have hwu : IntKind.i64.wrap (u + 1) = u + 1 := by simp [IntKind.wrap, IntKind.bits, IntKind.signed]; omega
    obtain ⟨hu0, hu1⟩ := hu
    have HX := Aside.mk hX
    clear h g hA hsz hX hm hn
    have HS : ∀ w1, Below w.heap.size w w1 → CA w1 C M f u ∧ w1.cell? ⟨C, 1, none⟩ = some (.int .i64 u) := fun w1 hb => ⟨HH.out.1.below hb, cell_at (HH.out.1.below hb).box 1⟩
    by_cases h1 : u = -1
    · have h1b : (u == -1) = true := by rw [h1]; rfl
      have hx := HX.out
      rw [if_pos (.inl h1)] at hx
      have HX := Aside.mk hx
      clear hx h1
      go_enter Try.func27, Try.ntmps27
      go_wp2_with fail
      refine hmay.mono ?_
      rintro e w1 ⟨rfl, hb⟩
      have HB := Aside.mk hb
      have t1 := (HS w1 hb).2
      clear hb
      go_wp2_with fail
      go_ret
      rw [← HX.out]
      exact ⟨rfl, HH.out.1.below HB.out, Fr.of_new HB.out⟩
    · have h1b : (u == -1) = false := by rw [beq_eq_false_iff_ne]; exact h1
      by_cases h2 : u + 1 < fr
      · have hx := HX.out
        rw [if_pos (.inr h2)] at hx
        have HX := Aside.mk hx
        clear hx h1
        go_enter Try.func27, Try.ntmps27
        go_wp2_with fail
        refine hmay.mono ?_
        rintro e w1 ⟨rfl, hb⟩
        have HB := Aside.mk hb
        have t1 := (HS w1 hb).2
        clear hb
        go_wp2_with fail
        go_ret
        rw [← HX.out]
        exact ⟨rfl, HH.out.1.below HB.out, Fr.of_new HB.out⟩
      · have hx := HX.out
        rw [if_neg (by omega)] at hx
        have HX := Aside.mk hx
        have h2' : fr ≤ u + 1 := by omega
        clear hx h1 h2
        go_enter Try.func27, Try.ntmps27
        go_wp2_with fail
        refine hmay.mono ?_
        rintro e w1 ⟨rfl, hb⟩
        have HB := Aside.mk hb
        have t1 := (HS w1 hb).2
        clear hb
        go_wp2_with fail
        go_loopw [37] (fun v37 w' => ∃ k : Nat, k ≤ n ∧ v37 = .int .i64 k ∧ Aside (CA w' C M ((l.take k).foldl (stepW u) f) u ∧ Fr (fun k => k = C ∨ k = M) w w')) (fun v37 _ => n - (intOf v37).toNat)
        case atStart => exact ⟨0, by omega, rfl, ⟨(HS w1 HB.out).1, Fr.of_new HB.out⟩⟩
        case round =>
          rename_i v37 wr
          obtain ⟨k, hk, rfl, HI⟩ := hrel
          obtain ⟨F, hF⟩ : ∃ F, (l.take k).foldl (stepW u) f = F := ⟨_, rfl⟩
          rw [hF] at HI
          have HFK := Aside.mk hF
          clear hF
          have hIC := HI.out.1
          have r0 : wr.cell? ⟨C, 0, none⟩ = some (.map (some M)) := cell_at hIC.box 0
          have r1 : wr.cell? ⟨C, 1, none⟩ = some (.int .i64 u) := cell_at hIC.box 1
          by_cases hkn : k < n
          · have hrow : Kd.C k75 wr A l.length l := row_fr (F := fun k => k = C ∨ k = M) (fun h => h) HH.out.2.1 HI.out.2 (fun ad e h => by have := HH.out.2.2 ad e; rcases h with h | h; exact this.1 h; exact this.2 h)
            obtain ⟨x, hx⟩ : ∃ x, l[k]? = some x := ⟨_, List.getElem?_eq_getElem (by rw [HN.out]; exact hkn)⟩
            obtain ⟨ad, he, hf0, hf1, hf2, hf3⟩ := at_T75 hrow (k : Int) (by omega) (by rw [HN.out]; omega)
            rw [rd_get hx] at hf0 hf1 hf2 hf3
            simp only [Int.toNat_natCast] at hf0 hf1 hf2 hf3
            have HX' := Aside.mk (foldl_take_succ (stepW u) f hx)
            rw [HFK.out] at HX'
            obtain ⟨x0, x1, x2, x3⟩ := x
            dsimp only at hf0 hf1 hf2 hf3
            have HR := Aside.mk he
            have hE := heap_alloc_new wr (Obj.cells #[Value.int IntKind.i64 x0, Value.bool x1, Value.string x2, Value.string x3] 75 (0, 0))
            have hC1 := hIC.below ((Below.refl wr.heap.size wr).alloc (Nat.le_refl _) (Obj.cells #[Value.int IntKind.i64 x0, Value.bool x1, Value.string x2, Value.string x3] 75 (0, 0)))
            have hF1 := HI.out.2.alloc (Obj.cells #[Value.int IntKind.i64 x0, Value.bool x1, Value.string x2, Value.string x3] 75 (0, 0))
            obtain ⟨b0, hb0⟩ : ∃ b0, wr.heap.size = b0 := ⟨_, rfl⟩
            have hlC := hIC.ltC
            have hlM := hIC.ltM
            rw [hb0] at hE hlC hlM
            subst he
            clear hrow hx hIC
            go_upto_region 10 with fail
            generalize (wr.alloc (Obj.cells #[Value.int IntKind.i64 x0, Value.bool x1, Value.string x2, Value.string x3] 75 (0, 0))) = w2 at *
            have e0 : w2.cell? ⟨b0, 0, none⟩ = some (.int .i64 x0) := cell_at hE 0
            have e2 : w2.cell? ⟨b0, 2, none⟩ = some (.string x2) := cell_at hE 2
            have hA := casof_calls C M F u x2 w2.drew (hC1.keep rfl rfl)
            obtain ⟨a, ha⟩ : ∃ a, asofM F u x2 = a := ⟨_, rfl⟩
            rw [ha] at hA
            have HAS := Aside.mk ha
            have HC1 := Aside.mk (And.intro hC1 (And.intro hF1 hE))
            have k0 := lt_of_block hE
            clear ha hC1 hF1 hE r0 r1 hf0 hf1 hf2 hf3
            have t0 : w2.drew.cell? ⟨b0, 0, none⟩ = some (.int .i64 x0) ∧ w2.drew.cell? ⟨b0, 2, none⟩ = some (.string x2) := ⟨e0, e2⟩
            refine start_ (n := 7) (S := (fun w' => w'.cell? ⟨b0, 0, none⟩ = some (.int .i64 x0) ∧ w'.cell? ⟨b0, 2, none⟩ = some (.string x2))) (ds := []) #[false, false, false, false, false, false, false] (by kernel_rfl) rfl rfl t0 (fun hHeld => ?_); refine with_tabW cw10_tab cw10_bits (fun HT_ HW_ => ?_)
            refine pure_ (i := 0) (N := (some 41)) (v := ?_) (a' := ?_) #[true, false, false, false, false, false, false] rfl rfl (any_of HT_.out (by kernel_rfl)) (fun _ _ _ h => h) (Or.inl ⟨by rfl, ?_⟩) ?_ ?_
            rotate_left
            · intro w'
              go_simp
              with_reducible rfl
            rotate_left
            · simp only [Act.put, List.setIfInBounds_toArray, List.set_cons_zero, List.set_cons_succ, i64_w, i32_w]
              rfl
            refine take_ (i := 1) (N := (some 42)) (v := ?_) (a' := ?_) #[true, true, false, false, false, false, false] rfl rfl (take_ofW HT_.out HW_.out (by kernel_rfl)) (fun _ _ _ h => h) (Or.inl ⟨by rfl, ?_⟩) hHeld ?_ ?_
            rotate_left
            · rintro w' ⟨s1, _⟩
              go_simp
              with_reducible rfl
            rotate_left
            · simp only [Act.put, List.setIfInBounds_toArray, List.set_cons_zero, List.set_cons_succ, i64_w, i32_w]
              rfl
            refine pure_ (i := 2) (N := (some 43)) (v := ?_) (a' := ?_) #[true, true, true, false, false, false, false] rfl rfl (any_of HT_.out (by kernel_rfl)) (fun _ _ _ h => h) (Or.inl ⟨by rfl, ?_⟩) ?_ ?_
            rotate_left
            · intro w'
              go_simp
              with_reducible rfl
            rotate_left
            · simp only [Act.put, List.setIfInBounds_toArray, List.set_cons_zero, List.set_cons_succ, i64_w, i32_w]
              rfl
            refine pure_ (i := 3) (N := (some 44)) (v := ?_) (a' := ?_) #[true, true, true, true, false, false, false] rfl rfl (any_of HT_.out (by kernel_rfl)) (fun _ _ _ h => h) (Or.inl ⟨by rfl, ?_⟩) ?_ ?_
            rotate_left
            · intro w'
              go_simp
              with_reducible rfl
            rotate_left
            · simp only [Act.put, List.setIfInBounds_toArray, List.set_cons_zero, List.set_cons_succ, i64_w, i32_w]
              rfl
            refine take_ (i := 4) (N := (some 45)) (v := ?_) (a' := ?_) #[true, true, true, true, true, false, false] rfl rfl (take_ofW HT_.out HW_.out (by kernel_rfl)) (fun _ _ _ h => h) (Or.inl ⟨by rfl, ?_⟩) hHeld ?_ ?_
            rotate_left
            · rintro w' ⟨_, s1⟩
              go_simp
              with_reducible rfl
            rotate_left
            · simp only [Act.put, List.setIfInBounds_toArray, List.set_cons_zero, List.set_cons_succ, i64_w, i32_w]
              rfl
            refine one_ (i := 5) (N := (some 46)) #[true, true, true, true, true, true, false] rfl rfl (one_of HT_.out (by kernel_rfl)) (by decide) (fun K9 hK => ?_)
            refine goes_ Try.func17 (by kernel_rfl) rfl #[.pointer (some ⟨C, 0, none⟩), .string x2] (by rfl) rfl rfl (by (try simp only [List.map_toArray, List.map_cons, List.map_nil]); first | done | rfl) ?_
            refine (hA).mono ?_
            rintro e w3 ⟨rfl, hb3⟩
            refine ⟨_, rfl, ?_⟩
            have hE3 := (hb3.block b0 k0).trans HC1.out.2.2
            have HC3 := Aside.mk (And.intro ((HC1.out.1.keep (w' := w2.drew) rfl rfl).below hb3) (HC1.out.2.1.drew.trans (Fr.of_new (F := fun k => k = C ∨ k = M) hb3) (fun _ _ h => h)))
            have g0 : w3.cell? ⟨b0, 0, none⟩ = some (.int .i64 x0) := cell_at hE3 0
            have g1 : w3.cell? ⟨b0, 1, none⟩ = some (.bool x1) := cell_at hE3 1
            have g2 : w3.cell? ⟨b0, 2, none⟩ = some (.string x2) := cell_at hE3 2
            have g3 : w3.cell? ⟨b0, 3, none⟩ = some (.string x3) := cell_at hE3 3
            clear hb3 hE3
            refine hK.out _ _ ⟨g0, g2⟩ (fun hHeld => ?_)
            clear hK K9
            refine norm_ (a' := ?_) ?_ ?_
            rotate_left
            · show Act.put _ (some 46) _ = _
              simp only [Act.put, List.setIfInBounds_toArray, List.set_cons_zero, List.set_cons_succ]
              rfl
            refine pure_ (i := 6) (N := (some 47)) (v := ?_) (a' := ?_) #[true, true, true, true, true, true, true] rfl rfl (any_of HT_.out (by kernel_rfl)) (fun _ _ _ h => h) (Or.inl ⟨by rfl, ?_⟩) ?_ ?_
            rotate_left
            · intro w'
              go_simp
              with_reducible rfl
            rotate_left
            · simp only [Act.put, List.setIfInBounds_toArray, List.set_cons_zero, List.set_cons_succ, i64_w, i32_w]
              rfl
            refine done_ (done_of HT_.out (by kernel_rfl)) ?_
            clear HT_ HW_ hHeld
            clear HC1 HR hA e0 e2 t0
            by_cases hax : a < x0
            · have HZ : Aside ((l.take (k + 1)).foldl (stepW u) f = happM F ⟨x0, x1, x2, x3⟩) := ⟨by rw [HX'.out]; unfold stepW; dsimp only; rw [HAS.out, if_pos hax]⟩
              go_wp2_with fail
              refine (happens_calls C M F u ⟨x0, x1, x2, x3⟩ w3 HC3.out.1).mono ?_
              rintro e w4 ⟨rfl, hC4, hF4⟩
              have HI4 : Aside (CA w4 C M ((l.take (k + 1)).foldl (stepW u) f) u ∧ Fr (fun k => k = C ∨ k = M) w w4) := ⟨by rw [HZ.out]; exact hC4, HC3.out.2.trans (hF4.mono (G := fun k => k = C ∨ k = M) (fun _ h => .inr h)) (fun _ _ h => h)⟩
              clear hC4 hF4
              go_wp2_with fail
              go_roundw
              case rel => exact ⟨k + 1, by omega, by go_num, HI4⟩
              case measure => simp [intOf]; omega
            · have hax' : x0 ≤ a := by omega
              have HZ : Aside ((l.take (k + 1)).foldl (stepW u) f = F) := ⟨by rw [HX'.out]; unfold stepW; dsimp only; rw [HAS.out, if_neg hax]⟩
              have HI4 : Aside (CA w3 C M ((l.take (k + 1)).foldl (stepW u) f) u ∧ Fr (fun k => k = C ∨ k = M) w w3) := ⟨by rw [HZ.out]; exact HC3.out.1, HC3.out.2⟩
              clear HI HFK HX' HC3
              go_wp2_with fail
              go_roundw
              case rel => exact ⟨k + 1, by omega, by go_num, HI4⟩
              case measure => simp [intOf]; omega
          · obtain rfl : k = n := by omega
            have hfl : F = l.foldl (stepW u) f := by rw [← HFK.out, List.take_of_length_le (by rw [HN.out]; exact Nat.le_refl _)]
            have f1 : wr.frozen? ⟨C, 1, none⟩ = false := free_at hIC.box 1
            have HX2 : Aside (((F, maxI u rev), 0) = X) := ⟨by rw [hfl]; exact HX.out⟩
            clear hfl HX
            by_cases hur : u < rev
            · have HMX : Aside (maxI u rev = rev) := ⟨if_pos hur⟩
              have HE := Aside.mk (heap_setCell_eq (j := 1) (.int .i64 rev) hIC.box)
              go_wp2_with fail
              go_ret
              rw [← HX2.out, HMX.out]
              obtain ⟨es, cc, hm, hg⟩ := HI.out.1.map
              exact ⟨rfl, ⟨HE.out, es, cc, by rw [Below.heap_setCell _ _ _ _ (fun e => hIC.ne e.symm)]; exact hm, hg⟩, HI.out.2.setCell (p := ⟨C, 1, none⟩) (.inl (.inl rfl)) _⟩
            · have hur' : rev ≤ u := by omega
              have HMX : Aside (maxI u rev = u) := ⟨if_neg hur⟩
              have HE := Aside.mk (heap_setCell_eq (j := 1) (.int .i64 u) hIC.box)
              go_wp2_with fail
              go_ret
              rw [← HX2.out, HMX.out]
              obtain ⟨es, cc, hm, hg⟩ := HI.out.1.map
              exact ⟨rfl, ⟨HE.out, es, cc, by rw [Below.heap_setCell _ _ _ _ (fun e => hIC.ne e.symm)]; exact hm, hg⟩, HI.out.2.setCell (p := ⟨C, 1, none⟩) (.inl (.inl rfl)) _⟩
end Go.Proofs.Ytagkobpbhfkmdaa.C
/-! from CY -/
namespace Go.Proofs.Ytagkobpbhfkmdaa.C
open Go.RowKit Go.Proofs.Ytagkobpbhfkmdaa.Q Go.Proofs.YtagkobpbhfkmdaaW.PrintLast Go.Proofs.YtagkobpbhfkmdaaW.PrintWords
set_option linter.unusedVariables false
set_option linter.unusedSimpArgs false
end Go.Proofs.Ytagkobpbhfkmdaa.C
