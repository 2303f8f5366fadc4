/- The walk of ClockNames. -/
import Derived.Test.YtjefeoohfalcaaaNIL
namespace Go.Proofs.Ytjefeoohfalcaaa.C
open Go.RowKit Go.Proofs.Ytjefeoohfalcaaa.Q Go.Proofs.YtjefeoohfalcaaaW.PrintLast Go.Proofs.YtjefeoohfalcaaaW.PrintWords
set_option linter.unusedVariables false
set_option linter.unusedSimpArgs false
/-- The clock of the examples. -/
structure NW (w0 : World) (C b c : Nat) (now : Int) (sk : List Int) (w : World) : Prop where
  rep : CRep 80 w C b c now sk
  cC : w0.heap.size ≤ C
  cb : w0.heap.size ≤ b
  bel : Below w0.heap.size w0 w
theorem NW.quiet {w0 w w' : World} {C b c : Nat} {now : Int} {sk : List Int} {F : Nat → Prop} (h : NW w0 C b c now sk w) (hf : Fr F w w') (h1 : ¬ F C) (h2 : ¬ F b) (h3 : ∀ k, F k → w0.heap.size ≤ k) : NW w0 C b c now sk w' :=
  ⟨h.rep.fr hf h1 h2, h.cC, h.cb, h.bel.trans (hf.below h.bel.size h3)⟩
theorem NW.step {w0 w w' : World} {C b c : Nat} {now now' : Int} {sk sk' : List Int} {F : Nat → Prop} (h : NW w0 C b c now sk w) (h1 : CRep 80 w' C b c now' sk') (hf : Fr F w w') (h3 : ∀ k, F k → k = C ∨ k = b) : NW w0 C b c now' sk' w' :=
  ⟨h1, h.cC, h.cb, h.bel.trans (hf.below h.bel.size (fun k e => by rcases h3 k e with e | e; rw [e]; exact h.cC; rw [e]; exact h.cb))⟩
set_option maxHeartbeats 8000000 in
set_option maxRecDepth 100000 in
theorem names_walk (w : World) : Calls Try.prog 9 #[] w fun e w' => e = .returned (.bool true) ∧ Below w.heap.size w w' := by
  obtain ⟨i0, hi0, hz0, hz1, hz2⟩ := info_parts ids_info
  go_enter Try.func9, Try.ntmps9
  go_wp2_with fail
  refine (aw_true w).mono ?_
  rintro e w1 ⟨rfl, hb⟩
  have HB := Aside.mk hb
  clear hb
  go_wp2_with fail
  refine (cnew_bad (-1) (by decide) w1).mono ?_
  rintro e w2 ⟨rfl, rfl⟩
  go_wp2_with fail
  refine (cnew_bad 17 (by decide) w1).mono ?_
  rintro e w2 ⟨rfl, rfl⟩
  go_wp2_with fail
  refine (new_is 16 (by decide) [0, 0, 0, 0, 0, 0, 0, 0, 0, 0, 0, 0, 0, 0, 0, 0] rfl w1).mono ?_
  rintro e w2 ⟨C, b, c, rfl, hC, h1, h2, hb⟩
  have HN : Aside (NW w C b c 0 [0, 0, 0, 0, 0, 0, 0, 0, 0, 0, 0, 0, 0, 0, 0, 0] w2) := ⟨⟨hC, Nat.le_trans HB.out.size h1, Nat.le_trans HB.out.size h2, HB.out.trans (hb.mono HB.out.size)⟩⟩
  clear hC h1 h2 hb HB
  go_wp2_with fail
  refine (new_is 0 (by decide) [] rfl w2).mono ?_
  rintro e w3 ⟨D, d, dc, rfl, hD, h1, h2, hb⟩
  have HD := Aside.mk hD
  have HL := Aside.mk (And.intro (lt_of_block HN.out.rep.box) (And.intro HN.out.rep.row.lt (And.intro h1 h2)))
  have HN1 := Aside.mk (HN.out.quiet (Fr.of_new (F := fun _ => False) hb) (fun f => f) (fun f => f) (fun _ f => f.elim))
  have HZ := Aside.mk HN.out.bel.size
  clear hD h1 h2 hb HN
  go_wp2_with fail
  refine (worst_is HD.out 0 (by decide)).mono ?_
  rintro e w4 ⟨rfl, hF⟩
  have HD1 := Aside.mk (HD.out.fr hF (fun f => f) (fun f => f))
  have HN2 := Aside.mk (HN1.out.quiet hF (fun f => f) (fun f => f) (fun _ f => f.elim))
  clear hF HN1 HD
  go_wp2_with fail
  refine (skew_is HD1.out 0 0 5 [] (by decide) (by decide)).mono ?_
  rintro e w5 ⟨rfl, hC, hF⟩
  have HN := Aside.mk (HN2.out.quiet hF (fun f => by have := HL.out.2.2.2; have := HL.out.1; omega) (fun f => by have := HL.out.2.2.2; have := HL.out.2.1; omega) (fun k e => by have := HL.out.2.2.2; have := HZ.out; omega))
  clear hC hF HN2 HD1 HL HZ
  go_wp2_with fail
  refine (cat3_is HN.out.rep (16) 0 5 (by decide) (by decide)).mono ?_
  rintro e w' ⟨rfl, rfl⟩
  go_wp2_with fail
  refine (cat3_is HN.out.rep (-1) 0 5 (by decide) (by decide)).mono ?_
  rintro e w' ⟨rfl, rfl⟩
  go_wp2_with fail
  refine (skew_is HN.out.rep (16) (1099511627776) (5) [0, 0, 0, 0, 0, 0, 0, 0, 0, 0, 0, 0, 0, 0, 0, 0] (by decide) (by decide)).mono ?_
  rintro e w6 ⟨rfl, hC, hF⟩
  have HN := Aside.mk (HN.out.step hC hF (fun k e => .inr e))
  clear hC hF
  go_wp2_with fail
  refine (skew_is HN.out.rep (15) (1073741825) (1) [0, 0, 0, 0, 0, 0, 0, 0, 0, 0, 0, 0, 0, 0, 0, 0] (by decide) (by decide)).mono ?_
  rintro e w7 ⟨rfl, hC, hF⟩
  have HN := Aside.mk (HN.out.step hC hF (fun k e => .inr e))
  clear hC hF
  go_wp2_with fail
  refine (skew_is HN.out.rep (15) (-1073741825) (1) [0, 0, 0, 0, 0, 0, 0, 0, 0, 0, 0, 0, 0, 0, 0, 0] (by decide) (by decide)).mono ?_
  rintro e w8 ⟨rfl, hC, hF⟩
  have HN := Aside.mk (HN.out.step hC hF (fun k e => .inr e))
  clear hC hF
  go_wp2_with fail
  refine (skew_is HN.out.rep (15) (1073741824) (0) [0, 0, 0, 0, 0, 0, 0, 0, 0, 0, 0, 0, 0, 0, 0, 1073741824] (by decide) (by decide)).mono ?_
  rintro e w9 ⟨rfl, hC, hF⟩
  have HN := Aside.mk (HN.out.step hC hF (fun k e => .inr e))
  clear hC hF
  go_wp2_with fail
  refine (skew_is HN.out.rep (14) (-1073741824) (0) [0, 0, 0, 0, 0, 0, 0, 0, 0, 0, 0, 0, 0, 0, -1073741824, 1073741824] (by decide) (by decide)).mono ?_
  rintro e w10 ⟨rfl, hC, hF⟩
  have HN := Aside.mk (HN.out.step hC hF (fun k e => .inr e))
  clear hC hF
  go_wp2_with fail
  refine (pass_is HN.out.rep (-1) (1) (0) (by decide) (by decide)).mono ?_
  rintro e w11 ⟨rfl, hC, hF⟩
  have HN := Aside.mk (HN.out.step hC hF (fun k e => .inl e))
  clear hC hF
  go_wp2_with fail
  refine (pass_is HN.out.rep (1125899906842625) (40) (0) (by decide) (by decide)).mono ?_
  rintro e w12 ⟨rfl, hC, hF⟩
  have HN := Aside.mk (HN.out.step hC hF (fun k e => .inl e))
  clear hC hF
  go_wp2_with fail
  refine (pass_is HN.out.rep (9223372036854775807) (40) (0) (by decide) (by decide)).mono ?_
  rintro e w13 ⟨rfl, hC, hF⟩
  have HN := Aside.mk (HN.out.step hC hF (fun k e => .inl e))
  clear hC hF
  go_wp2_with fail
  refine (pass_is HN.out.rep (1125899906842619) (0) (1125899906842619) (by decide) (by decide)).mono ?_
  rintro e w14 ⟨rfl, hC, hF⟩
  have HN := Aside.mk (HN.out.step hC hF (fun k e => .inl e))
  clear hC hF
  go_wp2_with fail
  refine (pass_is HN.out.rep (6) (40) (1125899906842619) (by decide) (by decide)).mono ?_
  rintro e w15 ⟨rfl, hC, hF⟩
  have HN := Aside.mk (HN.out.step hC hF (fun k e => .inl e))
  clear hC hF
  go_wp2_with fail
  refine (pass_is HN.out.rep (5) (0) (1125899906842624) (by decide) (by decide)).mono ?_
  rintro e w16 ⟨rfl, hC, hF⟩
  have HN := Aside.mk (HN.out.step hC hF (fun k e => .inl e))
  clear hC hF
  go_wp2_with fail
  refine (pass_is HN.out.rep (0) (0) (1125899906842624) (by decide) (by decide)).mono ?_
  rintro e w17 ⟨rfl, hC, hF⟩
  have HN := Aside.mk (HN.out.step hC hF (fun k e => .inl e))
  clear hC hF
  go_wp2_with fail
  refine (cnow_calls _ _ _ _ _ _ HN.out.rep).mono ?_
  rintro e w' ⟨rfl, rfl⟩
  go_wp2_with fail
  refine (at_is _ _ _ _ _ 15 1125899906842624 _ HN.out.rep true (by decide)).mono ?_
  rintro e w' ⟨rfl, rfl⟩
  go_wp2_with fail
  refine (at_is _ _ _ _ _ 14 1125898833100800 _ HN.out.rep true (by decide)).mono ?_
  rintro e w' ⟨rfl, rfl⟩
  go_wp2_with fail
  refine (worst_is HN.out.rep 1073741824 (by decide)).mono ?_
  rintro e w18 ⟨rfl, hF⟩
  have HB := Aside.mk (HN.out.quiet hF (fun f => f) (fun f => f) (fun _ f => f.elim)).bel
  clear hF HN
  go_wp2_with fail
  refine (n_at 0 _).mono ?_
  rintro e w' ⟨rfl, rfl⟩
  go_wp2_with fail
  refine (n_set 1 2 _).mono ?_
  rintro e w' ⟨rfl, rfl⟩
  go_wp2_with fail
  refine (n_has 1 _).mono ?_
  rintro e w' ⟨rfl, rfl⟩
  go_wp2_with fail
  refine (n_next _).mono ?_
  rintro e w19 ⟨rfl, hb⟩
  have HB := Aside.mk (HB.out.trans (hb.mono HB.out.size))
  clear hb
  go_wp2_with fail
  refine (n_pass 1 _).mono ?_
  rintro e w' ⟨rfl, rfl⟩
  go_wp2_with fail
  refine (n_skew 0 1 _).mono ?_
  rintro e w' ⟨rfl, rfl⟩
  go_wp2_with fail
  refine (n_now _).mono ?_
  rintro e w' ⟨rfl, rfl⟩
  go_wp2_with fail
  refine (n_worst _).mono ?_
  rintro e w' ⟨rfl, rfl⟩
  go_wp2_with fail
  refine (n_copy _).mono ?_
  rintro e w' ⟨rfl, rfl⟩
  go_wp2_with fail
  refine (n_stop 1 _).mono ?_
  rintro e w' ⟨rfl, rfl⟩
  have HB2 := Aside.mk (HB.out.alloc HB.out.size (Obj.cells #[.int .i64 0, .int .i64 0] 57 (0, 0)))
  go_wp2_with fail
  refine (n_due 5 _).mono ?_
  rintro e w20 ⟨rfl, hb⟩
  have HB3 := Aside.mk (HB2.out.trans (hb.mono HB2.out.size))
  clear hb
  go_wp2_with fail
  refine (n_all _).mono ?_
  rintro e w' ⟨rfl, rfl⟩
  go_wp2_with fail
  refine (n_len _).mono ?_
  rintro e w' ⟨rfl, rfl⟩
  go_wp2_with fail
  refine (n_tcopy _).mono ?_
  rintro e w' ⟨rfl, rfl⟩
  go_wp2_with fail
  go_ret
  exact ⟨rfl, HB3.out⟩
end Go.Proofs.Ytjefeoohfalcaaa.C
