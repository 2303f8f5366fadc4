/- The cache law's awake. -/
import Derived.Test.YtagkobpbhfkmdaaAWP
namespace Go.Proofs.Ytagkobpbhfkmdaa.C
open Go.RowKit Go.ChangeMaps Go.Proofs.Ytagkobpbhfkmdaa.Q Go.Proofs.YtagkobpbhfkmdaaW.PrintLast Go.Proofs.YtagkobpbhfkmdaaW.PrintWords
set_option linter.unusedVariables false
set_option linter.unusedSimpArgs false
/-- A cache of the call's own. -/
structure OC (B : Nat) (w0 w : World) (C M : Nat) (f : Fcts) (u : Int) : Prop where
  ca : CA w C M f u
  c : B ≤ C
  m : B ≤ M
  bel : Below B w0 w
  size : B ≤ w.heap.size
theorem OC.below {B : Nat} {w0 w w' : World} {C M : Nat} {f : Fcts} {u : Int} (h : OC B w0 w C M f u) (hb : Below w.heap.size w w') : OC B w0 w' C M f u := ⟨h.ca.below hb, h.c, h.m, h.bel.trans (hb.mono h.size), Nat.le_trans h.size hb.size⟩
theorem OC.step {B : Nat} {w0 w w' : World} {C M : Nat} {f f' : Fcts} {u u' : Int} (h : OC B w0 w C M f u) (hc : CA w' C M f' u') (hf : Fr (fun k => k = C ∨ k = M) w w') : OC B w0 w' C M f' u' := ⟨hc, h.c, h.m, h.bel.trans (hf.below h.size (fun k hk => by have := h.c; have := h.m; omega)), Nat.le_trans h.size hf.size⟩
set_option maxHeartbeats 8000000 in
set_option maxRecDepth 100000 in
theorem awake_calls (w : World) : Calls Try.prog 9 #[] w fun e w' => e = .returned (.bool true) ∧ Below w.heap.size w w' := by
  go_enter Try.func9, Try.ntmps9
  go_wp2_with fail
  refine (cnew_calls w).mono ?_
  rintro e w1 ⟨C, M, rfl, hc1, hC, hM, hb1⟩
  have H1 : Aside (OC w.heap.size w w1 C M (fun _ => none) (-1)) := ⟨⟨hc1, hC, hM, hb1, hb1.size⟩⟩
  clear hc1 hb1
  go_wp2_with fail
  have hR := heap_alloc_new w1 (Obj.cells #[Value.string (ByteArray.mk #[97]), Value.string (ByteArray.mk #[120]), Value.int IntKind.i64 1, Value.int IntKind.i64 3] 46 (0, 0))
  have H2 := Aside.mk (H1.out.below ((Below.refl w1.heap.size w1).alloc (Nat.le_refl _) (Obj.cells #[Value.string (ByteArray.mk #[97]), Value.string (ByteArray.mk #[120]), Value.int IntKind.i64 1, Value.int IntKind.i64 3] 46 (0, 0))))
  have hlt1 := And.intro H1.out.ca.ltC H1.out.ca.ltM
  have g1 : k46.C (w1.alloc (Obj.cells #[Value.string (ByteArray.mk #[97]), Value.string (ByteArray.mk #[120]), Value.int IntKind.i64 1, Value.int IntKind.i64 3] 46 (0, 0))) (some ⟨w1.heap.size, 0, none⟩) awL1.length awL1 := row_one (cs := [.string (ByteArray.mk #[97]), .string (ByteArray.mk #[120]), .int .i64 1, .int .i64 3]) hR (k46_mk _ _) rfl
  have c1 := list_calls C M (fun _ => none) (-1) 5 (some ⟨w1.heap.size, 0, none⟩) 1 awL1 _ H2.out.ca g1 (by decide) (by decide) (by decide) (fun ad h => by cases h; exact ⟨by show w1.heap.size ≠ C; omega, by show w1.heap.size ≠ M; omega⟩)
  rw [show (listM (fun _ => none) (-1) 5 awL1) = aw1 from rfl, aw_f1.1] at c1
  refine c1.mono ?_
  generalize (w1.alloc (Obj.cells #[Value.string (ByteArray.mk #[97]), Value.string (ByteArray.mk #[120]), Value.int IntKind.i64 1, Value.int IntKind.i64 3] 46 (0, 0))) = w2 at *
  rintro e w3 ⟨rfl, hC3, hF3⟩
  have H3 := Aside.mk (H2.out.step hC3 hF3)
  clear c1 g1 hR hC3 hF3 H2 H1 hlt1
  go_wp2_with fail
  have hR := heap_alloc_new w3 (Obj.cells #[Value.int IntKind.i64 6, Value.bool true, Value.string (ByteArray.mk #[97]), Value.string (ByteArray.mk #[]), Value.int IntKind.i64 7, Value.bool false, Value.string (ByteArray.mk #[98]), Value.string (ByteArray.mk #[121])] 75 (0, 0))
  have H4 := Aside.mk (H3.out.below ((Below.refl w3.heap.size w3).alloc (Nat.le_refl _) (Obj.cells #[Value.int IntKind.i64 6, Value.bool true, Value.string (ByteArray.mk #[97]), Value.string (ByteArray.mk #[]), Value.int IntKind.i64 7, Value.bool false, Value.string (ByteArray.mk #[98]), Value.string (ByteArray.mk #[121])] 75 (0, 0))))
  have hlt1 := And.intro H3.out.ca.ltC H3.out.ca.ltM
  have g1 : k75.C (w3.alloc (Obj.cells #[Value.int IntKind.i64 6, Value.bool true, Value.string (ByteArray.mk #[97]), Value.string (ByteArray.mk #[]), Value.int IntKind.i64 7, Value.bool false, Value.string (ByteArray.mk #[98]), Value.string (ByteArray.mk #[121])] 75 (0, 0))) (some ⟨w3.heap.size, 0, none⟩) awE2.length awE2 := row_two (cs := [.int .i64 6, .bool true, .string (ByteArray.mk #[97]), .string (ByteArray.mk #[])]) (ds := [.int .i64 7, .bool false, .string (ByteArray.mk #[98]), .string (ByteArray.mk #[121])]) hR (k75_mk _ _) (k75_mk _ _) rfl rfl
  have c1 := watch_calls C M aw1.1.1 aw1.1.2 6 7 (some ⟨w3.heap.size, 0, none⟩) 2 awE2 _ H4.out.ca g1 (by decide) (by decide) (by decide) (by rw [aw_f1.2]; decide) (fun ad h => by cases h; exact ⟨by show w3.heap.size ≠ C; omega, by show w3.heap.size ≠ M; omega⟩)
  rw [show (watchM aw1.1.1 aw1.1.2 6 7 awE2) = aw2 from rfl, aw_f2.1] at c1
  refine c1.mono ?_
  generalize (w3.alloc (Obj.cells #[Value.int IntKind.i64 6, Value.bool true, Value.string (ByteArray.mk #[97]), Value.string (ByteArray.mk #[]), Value.int IntKind.i64 7, Value.bool false, Value.string (ByteArray.mk #[98]), Value.string (ByteArray.mk #[121])] 75 (0, 0))) = w4 at *
  rintro e w5 ⟨rfl, hC5, hF5⟩
  have H5 := Aside.mk (H4.out.step hC5 hF5)
  clear c1 g1 hR hC5 hF5 H4 H3 hlt1
  go_wp2_with fail
  have c1 := cget_calls C M aw2.1.1 aw2.1.2 kA w5 H5.out.ca
  rw [aw_f2.2.2.1] at c1
  refine c1.mono ?_
  rintro e w6 ⟨rfl, hb6⟩
  have H6 := Aside.mk ((H5.out.below hb6).below ((Below.refl w6.heap.size w6).alloc (Nat.le_refl _) (Obj.cells #[Value.string (ByteArray.mk #[]), Value.string (ByteArray.mk #[]), Value.int IntKind.i64 0, Value.int IntKind.i64 0] 46 (0, 0))))
  clear c1 hb6 H5
  unfold entZ
  go_wp2_with fail
  generalize (w6.alloc (Obj.cells #[Value.string (ByteArray.mk #[]), Value.string (ByteArray.mk #[]), Value.int IntKind.i64 0, Value.int IntKind.i64 0] 46 (0, 0))) = w7 at *
  have c1 := cget_calls C M aw2.1.1 aw2.1.2 kB w7 H6.out.ca
  rw [aw_f2.2.2.2.1] at c1
  refine c1.mono ?_
  rintro e w8 ⟨rfl, hb8⟩
  have H8 := Aside.mk ((H6.out.below hb8).below ((Below.refl w8.heap.size w8).alloc (Nat.le_refl _) (Obj.cells #[Value.string (ByteArray.mk #[98]), Value.string (ByteArray.mk #[121]), Value.int IntKind.i64 7, Value.int IntKind.i64 7] 46 (0, 0))))
  have hB := heap_alloc_new w8 (Obj.cells #[Value.string (ByteArray.mk #[98]), Value.string (ByteArray.mk #[121]), Value.int IntKind.i64 7, Value.int IntKind.i64 7] 46 (0, 0))
  have hBne : w8.heap.size ≠ C ∧ w8.heap.size ≠ M := by
    have h1 := ((H6.out.below hb8).ca).ltC
    have h2 := ((H6.out.below hb8).ca).ltM
    omega
  obtain ⟨b, hb⟩ : ∃ b, w8.heap.size = b := ⟨_, rfl⟩
  rw [hb] at hB hBne
  have hBw : w.heap.size ≤ b := by rw [← hb]; exact (H6.out.below hb8).size
  clear c1 hb8 H6
  go_upto_region 6 with fail
  generalize (w8.alloc (Obj.cells #[Value.string (ByteArray.mk #[98]), Value.string (ByteArray.mk #[121]), Value.int IntKind.i64 7, Value.int IntKind.i64 7] 46 (0, 0))) = w9 at *
  have y0 := cell_at hB 0
  have y1 := cell_at hB 1
  have y2 := cell_at hB 2
  have y3 := cell_at hB 3
  have c1 := casof_calls C M aw2.1.1 aw2.1.2 kA w9 H8.out.ca
  rw [aw_f2.2.2.2.2.1] at c1
  go_wp2_with fail
  refine c1.mono ?_
  rintro e w10 ⟨rfl, hb10⟩
  have H10 := Aside.mk (H8.out.below hb10)
  have hB10 := (hb10.block b (lt_of_block hB)).trans hB
  clear c1 hb10 H8 y0 y1 y2 y3 hB
  have c1 := casof_calls C M aw2.1.1 aw2.1.2 kB w10 H10.out.ca
  rw [aw_f2.2.2.2.2.2] at c1
  go_wp2_with fail
  refine c1.mono ?_
  rintro e w11 ⟨rfl, hb11⟩
  have H11 := Aside.mk (H10.out.below hb11)
  have hB11 := (hb11.block b (lt_of_block hB10)).trans hB10
  clear c1 hb11 H10 hB10
  have hS1 := heap_alloc_new w11 (Obj.cells #[Value.string (ByteArray.mk #[98])] 9 (0, 0))
  have hbS := (Below.refl w11.heap.size w11).alloc (Nat.le_refl _) (Obj.cells #[Value.string (ByteArray.mk #[98])] 9 (0, 0))
  have hs1 : (w11.alloc (Obj.cells #[Value.string (ByteArray.mk #[98])] 9 (0, 0))).heap.size = w11.heap.size + 1 := by simp
  have H12 := Aside.mk (H11.out.below hbS)
  have hL1 := heap_alloc_new (w11.alloc (Obj.cells #[Value.string (ByteArray.mk #[98])] 9 (0, 0))) (Obj.cells #[Value.string (ByteArray.mk #[98]), Value.string (ByteArray.mk #[122]), Value.int IntKind.i64 7, Value.int IntKind.i64 9] 46 (0, 0))
  have hbL := (Below.refl (w11.alloc (Obj.cells #[Value.string (ByteArray.mk #[98])] 9 (0, 0))).heap.size (w11.alloc (Obj.cells #[Value.string (ByteArray.mk #[98])] 9 (0, 0)))).alloc (Nat.le_refl _) (Obj.cells #[Value.string (ByteArray.mk #[98]), Value.string (ByteArray.mk #[122]), Value.int IntKind.i64 7, Value.int IntKind.i64 9] 46 (0, 0))
  have H13 := Aside.mk (H12.out.below hbL)
  have gn : Kd.string.C ((w11.alloc (Obj.cells #[Value.string (ByteArray.mk #[98])] 9 (0, 0))).alloc (Obj.cells #[Value.string (ByteArray.mk #[98]), Value.string (ByteArray.mk #[122]), Value.int IntKind.i64 7, Value.int IntKind.i64 9] 46 (0, 0))) (some ⟨w11.heap.size, 0, none⟩) awN3.length awN3 := Kd.C_below (row_one (d := Kd.string) (cs := [.string (ByteArray.mk #[98])]) hS1 rfl rfl) hbL
  have ge : k46.C ((w11.alloc (Obj.cells #[Value.string (ByteArray.mk #[98])] 9 (0, 0))).alloc (Obj.cells #[Value.string (ByteArray.mk #[98]), Value.string (ByteArray.mk #[122]), Value.int IntKind.i64 7, Value.int IntKind.i64 9] 46 (0, 0))) (some ⟨w11.heap.size + 1, 0, none⟩) awL3.length awL3 := row_one (cs := [.string (ByteArray.mk #[98]), .string (ByteArray.mk #[122]), .int .i64 7, .int .i64 9]) (by rw [← hs1]; exact hL1) (k46_mk _ _) rfl
  have hlt1 := And.intro H11.out.ca.ltC H11.out.ca.ltM
  have c1 := learn_calls C M aw2.1.1 aw2.1.2 9 (some ⟨w11.heap.size, 0, none⟩) (some ⟨w11.heap.size + 1, 0, none⟩) 1 1 awN3 awL3 _ H13.out.ca gn (by decide) (by decide) ge (by decide) (by decide) (by decide) (fun ad h => by cases h; exact ⟨by show w11.heap.size ≠ C; omega, by show w11.heap.size ≠ M; omega⟩) (fun ad h => by cases h; exact ⟨by show w11.heap.size + 1 ≠ C; omega, by show w11.heap.size + 1 ≠ M; omega⟩)
  rw [show (learnM aw2.1.1 aw2.1.2 9 awN3 awL3) = aw3 from rfl, aw_f3.1] at c1
  have hB13 := blk_al (blk_al hB11 (Obj.cells #[Value.string (ByteArray.mk #[98])] 9 (0, 0))) (Obj.cells #[Value.string (ByteArray.mk #[98]), Value.string (ByteArray.mk #[122]), Value.int IntKind.i64 7, Value.int IntKind.i64 9] 46 (0, 0))
  go_wp2_with fail
  refine c1.mono ?_
  generalize ((w11.alloc (Obj.cells #[Value.string (ByteArray.mk #[98])] 9 (0, 0))).alloc (Obj.cells #[Value.string (ByteArray.mk #[98]), Value.string (ByteArray.mk #[122]), Value.int IntKind.i64 7, Value.int IntKind.i64 9] 46 (0, 0))) = w13 at *
  rintro e w14 ⟨rfl, hC14, hF14⟩
  have H14 := Aside.mk (H13.out.step hC14 hF14)
  have hB14 := hF14.heap hB13 (fun h => by omega)
  clear c1 gn ge hS1 hbS hL1 hbL H11 H12 H13 hC14 hF14 hB11 hB13 hlt1 hs1
  have c1 := casof_calls C M aw3.1 aw2.1.2 kB w14 H14.out.ca
  rw [aw_f3.2.1] at c1
  go_wp2_with fail
  refine c1.mono ?_
  rintro e w15 ⟨rfl, hb15⟩
  have H15 := Aside.mk (H14.out.below hb15)
  have hB15 := (hb15.block b (lt_of_block hB14)).trans hB14
  clear c1 hb15 H14 hB14
  have c1 := casof_calls C M aw3.1 aw2.1.2 kA w15 H15.out.ca
  rw [aw_f3.2.2] at c1
  go_wp2_with fail
  refine c1.mono ?_
  rintro e w16 ⟨rfl, hb16⟩
  have H16 := Aside.mk (H15.out.below hb16)
  have hB16 := (hb16.block b (lt_of_block hB15)).trans hB15
  clear c1 hb16 H15 hB15
  have hR := heap_alloc_new w16 (Obj.cells #[Value.int IntKind.i64 8, Value.bool true, Value.string (ByteArray.mk #[98]), Value.string (ByteArray.mk #[])] 75 (0, 0))
  have H17 := Aside.mk (H16.out.below ((Below.refl w16.heap.size w16).alloc (Nat.le_refl _) (Obj.cells #[Value.int IntKind.i64 8, Value.bool true, Value.string (ByteArray.mk #[98]), Value.string (ByteArray.mk #[])] 75 (0, 0))))
  have hB17 := blk_al hB16 (Obj.cells #[Value.int IntKind.i64 8, Value.bool true, Value.string (ByteArray.mk #[98]), Value.string (ByteArray.mk #[])] 75 (0, 0))
  have hlt1 := And.intro H16.out.ca.ltC H16.out.ca.ltM
  have g1 : k75.C (w16.alloc (Obj.cells #[Value.int IntKind.i64 8, Value.bool true, Value.string (ByteArray.mk #[98]), Value.string (ByteArray.mk #[])] 75 (0, 0))) (some ⟨w16.heap.size, 0, none⟩) awE4.length awE4 := row_one (cs := [.int .i64 8, .bool true, .string (ByteArray.mk #[98]), .string (ByteArray.mk #[])]) hR (k75_mk _ _) rfl
  have c1 := watch_calls C M aw3.1 aw2.1.2 8 8 (some ⟨w16.heap.size, 0, none⟩) 1 awE4 _ H17.out.ca g1 (by decide) (by decide) (by decide) (by rw [aw_f2.2.1]; decide) (fun ad h => by cases h; exact ⟨by show w16.heap.size ≠ C; omega, by show w16.heap.size ≠ M; omega⟩)
  rw [show (watchM aw3.1 aw2.1.2 8 8 awE4) = aw4 from rfl, aw_f4.1] at c1
  go_wp2_with fail
  refine c1.mono ?_
  generalize (w16.alloc (Obj.cells #[Value.int IntKind.i64 8, Value.bool true, Value.string (ByteArray.mk #[98]), Value.string (ByteArray.mk #[])] 75 (0, 0))) = w17 at *
  rintro e w18 ⟨rfl, hC18, hF18⟩
  have H18 := Aside.mk (H17.out.step hC18 hF18)
  have hB18 := hF18.heap hB17 (fun h => by omega)
  clear c1 g1 hR H16 H17 hC18 hF18 hB16 hB17 hlt1
  have c1 := cget_calls C M aw4.1.1 aw4.1.2 kB w18 H18.out.ca
  rw [aw_f4.2.2] at c1
  go_wp2_with fail
  refine c1.mono ?_
  rintro e w19 ⟨rfl, hb19⟩
  have H19 := Aside.mk (H18.out.below hb19)
  have hB19 := (hb19.block b (lt_of_block hB18)).trans hB18
  clear c1 hb19 H18 hB18
  have y0 := cell_at hB19 0
  have y1 := cell_at hB19 1
  have y2 := cell_at hB19 2
  have y3 := cell_at hB19 3
  have v0 := free_at hB19 0
  have v1 := free_at hB19 1
  have v2 := free_at hB19 2
  have v3 := free_at hB19 3
  go_upto_region 11 with fail
  have hW := set4 (b := b) (T := 46) hB19 (.string (ByteArray.mk #[98])) (.string (ByteArray.mk #[122])) (.int .i64 7) (.int .i64 9)
  have hfz := ((((Fr.refl (fun k => k = b) w19).setCell (p := ⟨b, 0, none⟩) (.inl rfl) (.string (ByteArray.mk #[98]))).setCell (p := ⟨b, 1, none⟩) (.inl rfl) (.string (ByteArray.mk #[122]))).setCell (p := ⟨b, 2, none⟩) (.inl rfl) (.int .i64 7)).setCell (p := ⟨b, 3, none⟩) (.inl rfl) (.int .i64 9)
  generalize ((((w19.setCell ⟨b, 0, none⟩ (.string (ByteArray.mk #[98]))).setCell ⟨b, 1, none⟩ (.string (ByteArray.mk #[122]))).setCell ⟨b, 2, none⟩ (.int .i64 7)).setCell ⟨b, 3, none⟩ (.int .i64 9)) = w20 at *
  have H20 : Aside (OC w.heap.size w w20 C M aw4.1.1 aw4.1.2) := ⟨⟨H19.out.ca.fr hfz (fun e => hBne.1 e.symm) (fun e => hBne.2 e.symm), H19.out.c, H19.out.m, H19.out.bel.trans (hfz.below H19.out.size (fun k e => by omega)), Nat.le_trans H19.out.size hfz.size⟩⟩
  have z1 : w20.cell? ⟨b, 1, none⟩ = some (.string (ByteArray.mk #[122])) := cell_at hW 1
  clear y0 y1 y2 y3 v0 v1 v2 v3 hB19 H19 hfz hW
  have c1 := cupto_calls C M aw4.1.1 aw4.1.2 w20 H20.out.ca
  rw [aw_f4.2.1] at c1
  go_wp2_with fail
  refine c1.mono ?_
  rintro e w21 ⟨rfl, rfl⟩
  have c2 := watch_calls C M aw4.1.1 aw4.1.2 11 12 none 0 [] w20 H20.out.ca (Kd.C_nil _ _) (by decide) (by decide) (fun x h => by cases h) (by rw [aw_f4.2.1]; decide) (fun ad h => by cases h)
  rw [aw_f5] at c2
  go_wp2_with fail
  refine c2.mono ?_
  rintro e w22 ⟨rfl, hC22, hF22⟩
  have H22 := Aside.mk (H20.out.step hC22 hF22)
  clear c1 c2 hC22 hF22
  go_wp2_with fail
  go_ret
  exact ⟨rfl, H22.out.bel⟩

end Go.Proofs.Ytagkobpbhfkmdaa.C
