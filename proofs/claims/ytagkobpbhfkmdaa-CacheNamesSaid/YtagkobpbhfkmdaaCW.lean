/- The cache: happens, Watch. -/
import Derived.Test.YtagkobpbhfkmdaaCM
import Derived.StillTailTactics
import Derived.Handy
import Derived.WalkMore
namespace Go.Proofs.Ytagkobpbhfkmdaa.C
open Go.RowKit Go.ChangeMaps Go.Proofs.Ytagkobpbhfkmdaa.Q Go.Proofs.YtagkobpbhfkmdaaW.PrintLast Go.Proofs.YtagkobpbhfkmdaaW.PrintWords
set_option linter.unusedVariables false
set_option linter.unusedSimpArgs false
theorem row_fr {α : Type} {d : Kd α} {F : Nat → Prop} {w w' : World} {A : Option Addr} {n : Nat} {xs : List α} (hd : ∀ {W W' : World} {x : α} {cs : List Value}, d.K W x cs → d.K W' x cs) (h : d.C w A n xs) (hf : Fr F w w') (hA : ∀ ad, A = some ad → ¬ F ad.block) : d.C w' A n xs := Kd.C_foot_neS (S := F) hd h (fun ad e _ => hA ad e) w' ⟨hf.size, hf.block⟩
def happM (f : Fcts) (x : Ev) : Fcts := upd f x.f2 (some (if x.f1 then ⟨x.f0, false, entZ⟩ else ⟨x.f0, true, ⟨x.f2, x.f3, if (getM f x.f2).2 then (getM f x.f2).1.made else x.f0, x.f0⟩⟩))
theorem upd_upd {κ ν : Type} [DecidableEq κ] (f : κ → Option ν) (k : κ) (a b : Option ν) : upd (upd f k a) k b = upd f k b := by
  funext i
  unfold upd
  by_cases h : i = k
  · rw [if_pos h, if_pos h]
  · rw [if_neg h, if_neg h, if_neg h]
theorem CA.stored {w : World} {C M : Nat} {f : Fcts} {u : Int} (h : CA w C M f u) (k : ByteArray) (v : Fct) : ∃ o, (Instr.mapUpdate 77 (.map (some M)) (.string k) (factV v)).run Try.prog w = .ok () (setBlock w M o) ∧ CA (setBlock w M o) C M (upd f k (some v)) u ∧ Fr (fun i => i = M) w (setBlock w M o) := by
  have hne := h.ne
  obtain ⟨hb, es, c, hm, hg⟩ := h
  obtain ⟨es', c', hr, hg'⟩ := hg.update strK Try.underlying77 hm k v
  exact ⟨.map es' c', hr, ⟨by rw [heap_setBlock_ne _ _ (fun e => hne e.symm)]; exact hb, es', c', heap_setBlock_eq _ hm, hg'⟩, (Fr.refl (fun i => i = M) w).setBlock (.inl rfl) _⟩
theorem CA.struck {w : World} {C M : Nat} {f : Fcts} {u : Int} (h : CA w C M f u) (k : ByteArray) (ty : TypeId) : ∃ o, (Builtin.delete_ #[77, 9] ty #[.map (some M), .string k]).run Try.prog w = .ok (.tuple #[]) (setBlock w M o) ∧ CA (setBlock w M o) C M (upd f k none) u ∧ Fr (fun i => i = M) w (setBlock w M o) := by
  have hne := h.ne
  obtain ⟨hb, es, c, hm, hg⟩ := h
  obtain ⟨es', hr, hg'⟩ := hg.delete strK Try.underlying77 hm k ty
  exact ⟨.map es' c, hr, ⟨by rw [heap_setBlock_ne _ _ (fun e => hne e.symm)]; exact hb, es', c, heap_setBlock_eq _ hm, hg'⟩, (Fr.refl (fun i => i = M) w).setBlock (.inl rfl) _⟩
set_option maxHeartbeats 2000000 in
set_option maxRecDepth 100000 in
theorem happens_calls (C M : Nat) (f : Fcts) (u : Int) (x : Ev) (w : World) (h : CA w C M f u) : Calls Try.prog 53 #[.pointer (some ⟨C, 0, none⟩), .agg #[.int .i64 x.f0, .bool x.f1, .string x.f2, .string x.f3]] w fun e w' => e = .returned (.tuple #[]) ∧ CA w' C M (happM f x) u ∧ Fr (fun k => k = M) w w' := by
  obtain ⟨rev, del, key, val⟩ := x
  unfold happM
  dsimp only
  have hB := heap_alloc_new w (Obj.cells #[Value.int IntKind.i64 rev, Value.bool del, Value.string key, Value.string val] 75 (0, 0))
  have hh := h.below ((Below.refl w.heap.size w).alloc (Nat.le_refl _) (Obj.cells #[Value.int IntKind.i64 rev, Value.bool del, Value.string key, Value.string val] 75 (0, 0)))
  have hF := (Fr.refl (fun k => k = M) w).alloc (Obj.cells #[Value.int IntKind.i64 rev, Value.bool del, Value.string key, Value.string val] 75 (0, 0))
  obtain ⟨b0, hb0⟩ : ∃ b0, w.heap.size = b0 := ⟨_, rfl⟩
  have hM := h.ltM
  have hC := h.ltC
  rw [hb0] at hB hM hC
  clear h
  cases del with
  | true =>
    rw [if_pos rfl]
    go_enter Try.func53, Try.ntmps53
    go_upto_region 1 with fail
    generalize (w.alloc (Obj.cells #[Value.int IntKind.i64 rev, Value.bool true, Value.string key, Value.string val] 75 (0, 0))) = w0 at *
    have c0 := cell_at hB 0
    have c1 := cell_at hB 1
    have c2 := cell_at hB 2
    have t0 := cell_at hh.box 0
    go_upto_region 2 with fail
    go_still_tail 6, (by kernel_rfl)
    have h1 : CA w0.drew C M f u := hh.keep rfl rfl
    obtain ⟨o1, hr1, hC1, hF1⟩ := h1.struck key 0
    have hB1 : (setBlock w0.drew M o1).heap[b0]? = _ := (hF1.block b0 (by show b0 < w0.heap.size; exact lt_of_block hB) (fun e => by omega)).trans hB
    have HF1 := Aside.mk ((hF.drew).trans hF1 (fun _ _ h => h))
    have d0 := cell_at hB1 0
    have d2 := cell_at hB1 2
    have s0 := cell_at hC1.box 0
    go_upto_region 3 with fail
    generalize (setBlock w0.drew M o1) = w1 at *
    obtain ⟨o2, hr2, hC2, hF2⟩ := (show CA w1.drew C M (upd f key none) u from hC1.keep rfl rfl).stored key ⟨rev, false, entZ⟩
    replace hr2 : (Instr.mapUpdate 77 (.map (some M)) (.string key) (.agg #[.int .i64 rev, .bool false, .string (ByteArray.mk #[]), .string (ByteArray.mk #[]), .int .i64 0, .int .i64 0])).run Try.prog w1.drew = .ok () (setBlock w1.drew M o2) := hr2
    have HF2 := Aside.mk (And.intro (HF1.out.drew.trans hF2 (fun _ _ h => h)) (by rw [upd_upd] at hC2; exact hC2))
    clear hC1 hF1 hC2 hF2 HF1 h1
    go_still_tail 9, (by kernel_rfl)
    go_wp2_with fail
    go_returns
    exact ⟨rfl, HF2.out.2, HF2.out.1⟩
  | false =>
    rw [if_neg (by decide)]
    have hget := cget_calls C M f u key
    obtain ⟨g, hg⟩ : ∃ g, getM f key = g := ⟨_, rfl⟩
    rw [hg] at hget ⊢
    obtain ⟨gx, gis⟩ := g
    dsimp only at hget ⊢
    have HG := Aside.mk hget
    obtain ⟨md, hmd⟩ : ∃ md, (if gis = true then gx.made else rev) = md := ⟨_, rfl⟩
    rw [hmd]
    have HMD := Aside.mk hmd
    clear hg hget hmd
    go_enter Try.func53, Try.ntmps53
    go_upto_region 1 with fail
    generalize (w.alloc (Obj.cells #[Value.int IntKind.i64 rev, Value.bool false, Value.string key, Value.string val] 75 (0, 0))) = w0 at *
    have c0 := cell_at hB 0
    have c1 := cell_at hB 1
    have c2 := cell_at hB 2
    have t0 := cell_at hh.box 0
    go_wp2_with fail
    refine (HG.out w0 hh).mono ?_
    rintro e w1 ⟨rfl, hb⟩
    have hB1 := (hb.block b0 (lt_of_block hB)).trans hB
    have hC1 := hh.below hb
    have hF1 := hF.trans (Fr.of_new (F := fun k => k = M) hb) (fun _ _ h => h)
    have hs1 := lt_of_block hB1
    have hs2 := hC1.ltC
    clear c0 c1 c2 t0 hB hh hF hb HG
    have c0 : w1.cell? ⟨b0, 0, none⟩ = some (.int .i64 rev) := cell_at hB1 0
    have c1 : w1.cell? ⟨b0, 1, none⟩ = some (.bool false) := cell_at hB1 1
    have c2 : w1.cell? ⟨b0, 2, none⟩ = some (.string key) := cell_at hB1 2
    have c3 : w1.cell? ⟨b0, 3, none⟩ = some (.string val) := cell_at hB1 3
    have t0 : w1.cell? ⟨C, 0, none⟩ = some (.map (some M)) := cell_at hC1.box 0
    have hn1 : ¬ b0 = w1.heap.size := by omega
    have hn2 : ¬ C = w1.heap.size := by omega
    have hC2 := hC1.below ((Below.refl w1.heap.size w1).alloc (Nat.le_refl _) (Obj.cells #[Value.string gx.key, Value.string gx.val, Value.int IntKind.i64 gx.made, Value.int IntKind.i64 gx.mod] 46 (0, 0)))
    have hF2 := hF1.alloc (Obj.cells #[Value.string gx.key, Value.string gx.val, Value.int IntKind.i64 gx.made, Value.int IntKind.i64 gx.mod] 46 (0, 0))
    have HC := Aside.mk (And.intro hC2 hF2)
    clear hC1 hF1 hC2 hF2
    have c0' : (w1.alloc (Obj.cells #[Value.string gx.key, Value.string gx.val, Value.int IntKind.i64 gx.made, Value.int IntKind.i64 gx.mod] 46 (0, 0))).cell? ⟨b0, 0, none⟩ = some (.int .i64 rev) := cell_at (blk_al hB1 _) 0
    have c2' : (w1.alloc (Obj.cells #[Value.string gx.key, Value.string gx.val, Value.int IntKind.i64 gx.made, Value.int IntKind.i64 gx.mod] 46 (0, 0))).cell? ⟨b0, 2, none⟩ = some (.string key) := cell_at (blk_al hB1 _) 2
    have c3' : (w1.alloc (Obj.cells #[Value.string gx.key, Value.string gx.val, Value.int IntKind.i64 gx.made, Value.int IntKind.i64 gx.mod] 46 (0, 0))).cell? ⟨b0, 3, none⟩ = some (.string val) := cell_at (blk_al hB1 _) 3
    have t0' : (w1.alloc (Obj.cells #[Value.string gx.key, Value.string gx.val, Value.int IntKind.i64 gx.made, Value.int IntKind.i64 gx.mod] 46 (0, 0))).cell? ⟨C, 0, none⟩ = some (.map (some M)) := cell_at HC.out.1.box 0
    cases gis with
    | true =>
      go_upto_region 8 with fail
      generalize (w1.alloc (Obj.cells #[Value.string gx.key, Value.string gx.val, Value.int IntKind.i64 gx.made, Value.int IntKind.i64 gx.mod] 46 (0, 0))) = w2 at *
      obtain ⟨o2, hr2, hC2, hF2⟩ := (show CA w2.drew C M f u from HC.out.1.keep rfl rfl).stored key ⟨rev, true, ⟨key, val, gx.made, rev⟩⟩
      replace hr2 : (Instr.mapUpdate 77 (.map (some M)) (.string key) (.agg #[.int .i64 rev, .bool true, .string key, .string val, .int .i64 gx.made, .int .i64 rev])).run Try.prog w2.drew = .ok () (setBlock w2.drew M o2) := hr2
      have HF2 := Aside.mk (And.intro (HC.out.2.drew.trans hF2 (fun _ _ h => h)) hC2)
      clear hC2 hF2
      go_still_tail 17, (by kernel_rfl)
      go_wp2_with fail
      go_returns
      have hm : gx.made = md := by simpa using HMD.out
      subst hm
      exact ⟨rfl, HF2.out.2, HF2.out.1⟩
    | false =>
      go_upto_region 8 with fail
      generalize (w1.alloc (Obj.cells #[Value.string gx.key, Value.string gx.val, Value.int IntKind.i64 gx.made, Value.int IntKind.i64 gx.mod] 46 (0, 0))) = w2 at *
      obtain ⟨o2, hr2, hC2, hF2⟩ := (show CA w2.drew C M f u from HC.out.1.keep rfl rfl).stored key ⟨rev, true, ⟨key, val, rev, rev⟩⟩
      replace hr2 : (Instr.mapUpdate 77 (.map (some M)) (.string key) (.agg #[.int .i64 rev, .bool true, .string key, .string val, .int .i64 rev, .int .i64 rev])).run Try.prog w2.drew = .ok () (setBlock w2.drew M o2) := hr2
      have HF2 := Aside.mk (And.intro (HC.out.2.drew.trans hF2 (fun _ _ h => h)) hC2)
      clear hC2 hF2
      go_still_tail 17, (by kernel_rfl)
      go_wp2_with fail
      go_returns
      have hm : rev = md := by simpa using HMD.out
      subst hm
      exact ⟨rfl, HF2.out.2, HF2.out.1⟩
end Go.Proofs.Ytagkobpbhfkmdaa.C
