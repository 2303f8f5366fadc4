/- The cache: Watch. -/
import Derived.Test.YtagkobpbhfkmdaaCW
namespace Go.Proofs.Ytagkobpbhfkmdaa.C
open Go.RowKit Go.ChangeMaps Go.Proofs.Ytagkobpbhfkmdaa.Q Go.Proofs.YtagkobpbhfkmdaaW.PrintLast Go.Proofs.YtagkobpbhfkmdaaW.PrintWords
set_option linter.unusedVariables false
set_option linter.unusedSimpArgs false
def stepW (u : Int) (f : Fcts) (x : Ev) : Fcts := if asofM f u x.f2 < x.f0 then happM f x else f
def maxI (a b : Int) : Int := if a < b then b else a
def watchM (f : Fcts) (u fr rev : Int) (l : List Ev) : (Fcts × Int) × Int :=
  if cmayB fr rev l = true then (if u = -1 ∨ u + 1 < fr then ((f, u), 46) else ((l.foldl (stepW u) f, maxI u rev), 0)) else ((f, u), 4)
theorem foldl_take_succ {α β : Type} (g : β → α → β) (b : β) {l : List α} {k : Nat} {x : α} (h : l[k]? = some x) : (l.take (k + 1)).foldl g b = g ((l.take k).foldl g b) x := by
  rw [List.take_add_one, h, List.foldl_append]
  rfl
theorem rd_get {l : List Ev} {k : Nat} {x : Ev} (h : l[k]? = some x) : rd_T75 l (k : Int) = x := by
  unfold rd_T75
  rw [Int.toNat_natCast, List.getD_eq_getElem?_getD, h]
  rfl
def cw10T : Bool × List (List Nat × List Nat) := (true, [([], []), ([0], [0]), ([], []), ([], []), ([3], [3]), ([2, 4], [2, 4]), ([1, 5], [1, 5])])
def cw10B : List Nat := [0, 1, 0, 0, 8, 28, 63]
theorem cw10_tab : rtab .any (opsOf Try.f27 10) = cw10T := by kernel_rfl
theorem cw10_bits : waitsOk cw10T.2 cw10B = true := by kernel_rfl
set_option maxHeartbeats 4000000 in
set_option maxRecDepth 100000 in
theorem watch_calls (C M : Nat) (f : Fcts) (u fr rev : Int) (A : Option Addr) (c : Nat) (l : List Ev) (w : World) (h : CA w C M f u) (g : Kd.C k75 w A l.length l) (hlc : l.length ≤ c) (hl : l.length ≤ 1000000000) (hsz : ∀ x ∈ l, x.f2.size ≤ 100000) (hu : -1 ≤ u ∧ u ≤ 1099511627776) (hA : ∀ ad, A = some ad → ad.block ≠ C ∧ ad.block ≠ M) :
    Calls Try.prog 27 #[.pointer (some ⟨C, 0, none⟩), .int .i64 fr, .int .i64 rev, .slice A l.length c] w fun e w' => e = .returned (.int .i64 (watchM f u fr rev l).2) ∧ CA w' C M (watchM f u fr rev l).1.1 (watchM f u fr rev l).1.2 ∧ Fr (fun k => k = C ∨ k = M) w w' := by
  have hmay := cache_may.calls (l.length + 100020) fr rev A c l _ w g hlc (cmay_is fr rev l hl hsz)
  have HH := Aside.mk (And.intro h (And.intro g hA))
  have t1 : w.cell? ⟨C, 1, none⟩ = some (.int .i64 u) := cell_at h.box 1
  obtain ⟨X, hX⟩ : ∃ X, watchM f u fr rev l = X := ⟨_, rfl⟩
  rw [hX]
  unfold watchM at hX
  cases hm : cmayB fr rev l with
  | false =>
    rw [hm] at hX hmay
    rw [if_neg (by decide)] at hX
    have HX := Aside.mk hX
    clear h g hA hsz hX hm
    go_enter Try.func27, Try.ntmps27
    go_wp2_with fail
    refine hmay.mono ?_
    rintro e w1 ⟨rfl, hb⟩
    have HB := Aside.mk hb
    clear hb
    go_wp2_with fail
    go_ret
    rw [← HX.out]
    exact ⟨rfl, HH.out.1.below HB.out, Fr.of_new HB.out⟩
  | true =>
    rw [hm] at hX hmay
    rw [if_pos rfl] at hX
    obtain ⟨n, hn⟩ : ∃ n, l.length = n := ⟨_, rfl⟩
    have HN := Aside.mk hn
    rw [hn] at hmay hlc hl ⊢
    have hwu : IntKind.i64.wrap (u + 1) = u + 1 := by simp [IntKind.wrap, IntKind.bits, IntKind.signed]; omega
    obtain ⟨hu0, hu1⟩ := hu
    have HX := Aside.mk hX
    clear h g hA hsz hX hm hn
    have HS : ∀ w1, Below w.heap.size w w1 → CA w1 C M f u ∧ w1.cell? ⟨C, 1, none⟩ = some (.int .i64 u) := fun w1 hb => ⟨HH.out.1.below hb, cell_at (HH.out.1.below hb).box 1⟩
    by_cases h1 : u = -1
    · have h1b : (u == -1) = true := by rw [h1]; rfl
      have hx := HX.out
      rw [if_pos (.inl h1)] at hx
      have HX := Aside.mk hx
      clear hx h1
      go_enter Try.func27, Try.ntmps27
      go_wp2_with fail
      refine hmay.mono ?_
      rintro e w1 ⟨rfl, hb⟩
      have HB := Aside.mk hb
      have t1 := (HS w1 hb).2
      clear hb
      go_wp2_with fail
      go_ret
      rw [← HX.out]
      exact ⟨rfl, HH.out.1.below HB.out, Fr.of_new HB.out⟩
    · have h1b : (u == -1) = false := by rw [beq_eq_false_iff_ne]; exact h1
      by_cases h2 : u + 1 < fr
      · have hx := HX.out
        rw [if_pos (.inr h2)] at hx
        have HX := Aside.mk hx
        clear hx h1
        go_enter Try.func27, Try.ntmps27
        go_wp2_with fail
        refine hmay.mono ?_
        rintro e w1 ⟨rfl, hb⟩
        have HB := Aside.mk hb
        have t1 := (HS w1 hb).2
        clear hb
        go_wp2_with fail
        go_ret
        rw [← HX.out]
        exact ⟨rfl, HH.out.1.below HB.out, Fr.of_new HB.out⟩
      · have hx := HX.out
        rw [if_neg (by omega)] at hx
        have HX := Aside.mk hx
        have h2' : fr ≤ u + 1 := by omega
        clear hx h1 h2
        go_enter Try.func27, Try.ntmps27
        go_wp2_with fail
        refine hmay.mono ?_
        rintro e w1 ⟨rfl, hb⟩
        have HB := Aside.mk hb
        have t1 := (HS w1 hb).2
        clear hb
        go_wp2_with fail
        go_loopw [37] (fun v37 w' => ∃ k : Nat, k ≤ n ∧ v37 = .int .i64 k ∧ Aside (CA w' C M ((l.take k).foldl (stepW u) f) u ∧ Fr (fun k => k = C ∨ k = M) w w')) (fun v37 _ => n - (intOf v37).toNat)
        case atStart => exact ⟨0, by omega, rfl, ⟨(HS w1 HB.out).1, Fr.of_new HB.out⟩⟩
        case round =>
          rename_i v37 wr
          obtain ⟨k, hk, rfl, HI⟩ := hrel
          obtain ⟨F, hF⟩ : ∃ F, (l.take k).foldl (stepW u) f = F := ⟨_, rfl⟩
          rw [hF] at HI
          have HFK := Aside.mk hF
          clear hF
          have hIC := HI.out.1
          have r0 : wr.cell? ⟨C, 0, none⟩ = some (.map (some M)) := cell_at hIC.box 0
          have r1 : wr.cell? ⟨C, 1, none⟩ = some (.int .i64 u) := cell_at hIC.box 1
          by_cases hkn : k < n
          · have hrow : Kd.C k75 wr A l.length l := row_fr (F := fun k => k = C ∨ k = M) (fun h => h) HH.out.2.1 HI.out.2 (fun ad e h => by have := HH.out.2.2 ad e; rcases h with h | h; exact this.1 h; exact this.2 h)
            obtain ⟨x, hx⟩ : ∃ x, l[k]? = some x := ⟨_, List.getElem?_eq_getElem (by rw [HN.out]; exact hkn)⟩
            obtain ⟨ad, he, hf0, hf1, hf2, hf3⟩ := at_T75 hrow (k : Int) (by omega) (by rw [HN.out]; omega)
            rw [rd_get hx] at hf0 hf1 hf2 hf3
            simp only [Int.toNat_natCast] at hf0 hf1 hf2 hf3
            have HX' := Aside.mk (foldl_take_succ (stepW u) f hx)
            rw [HFK.out] at HX'
            obtain ⟨x0, x1, x2, x3⟩ := x
            dsimp only at hf0 hf1 hf2 hf3
            have HR := Aside.mk he
            have hE := heap_alloc_new wr (Obj.cells #[Value.int IntKind.i64 x0, Value.bool x1, Value.string x2, Value.string x3] 75 (0, 0))
            have hC1 := hIC.below ((Below.refl wr.heap.size wr).alloc (Nat.le_refl _) (Obj.cells #[Value.int IntKind.i64 x0, Value.bool x1, Value.string x2, Value.string x3] 75 (0, 0)))
            have hF1 := HI.out.2.alloc (Obj.cells #[Value.int IntKind.i64 x0, Value.bool x1, Value.string x2, Value.string x3] 75 (0, 0))
            obtain ⟨b0, hb0⟩ : ∃ b0, wr.heap.size = b0 := ⟨_, rfl⟩
            have hlC := hIC.ltC
            have hlM := hIC.ltM
            rw [hb0] at hE hlC hlM
            subst he
            clear hrow hx hIC
            go_upto_region 10 with fail
            generalize (wr.alloc (Obj.cells #[Value.int IntKind.i64 x0, Value.bool x1, Value.string x2, Value.string x3] 75 (0, 0))) = w2 at *
            have e0 : w2.cell? ⟨b0, 0, none⟩ = some (.int .i64 x0) := cell_at hE 0
            have e2 : w2.cell? ⟨b0, 2, none⟩ = some (.string x2) := cell_at hE 2
            have hA := casof_calls C M F u x2 w2.drew (hC1.keep rfl rfl)
            obtain ⟨a, ha⟩ : ∃ a, asofM F u x2 = a := ⟨_, rfl⟩
            rw [ha] at hA
            have HAS := Aside.mk ha
            have HC1 := Aside.mk (And.intro hC1 (And.intro hF1 hE))
            have k0 := lt_of_block hE
            clear ha hC1 hF1 hE r0 r1 hf0 hf1 hf2 hf3
            have t0 : w2.drew.cell? ⟨b0, 0, none⟩ = some (.int .i64 x0) ∧ w2.drew.cell? ⟨b0, 2, none⟩ = some (.string x2) := ⟨e0, e2⟩
            refine start_ (n := 7) (S := (fun w' => w'.cell? ⟨b0, 0, none⟩ = some (.int .i64 x0) ∧ w'.cell? ⟨b0, 2, none⟩ = some (.string x2))) (ds := []) #[false, false, false, false, false, false, false] (by kernel_rfl) rfl rfl t0 (fun hHeld => ?_); refine with_tabW cw10_tab cw10_bits (fun HT_ HW_ => ?_)
            refine pure_ (i := 0) (N := (some 41)) (v := ?_) (a' := ?_) #[true, false, false, false, false, false, false] rfl rfl (any_of HT_.out (by kernel_rfl)) (fun _ _ _ h => h) (Or.inl ⟨by rfl, ?_⟩) ?_ ?_
            rotate_left
            · intro w'
              go_simp
              with_reducible rfl
            rotate_left
            · simp only [Act.put, List.setIfInBounds_toArray, List.set_cons_zero, List.set_cons_succ, i64_w, i32_w]
              rfl
            refine take_ (i := 1) (N := (some 42)) (v := ?_) (a' := ?_) #[true, true, false, false, false, false, false] rfl rfl (take_ofW HT_.out HW_.out (by kernel_rfl)) (fun _ _ _ h => h) (Or.inl ⟨by rfl, ?_⟩) hHeld ?_ ?_
            rotate_left
            · rintro w' ⟨s1, _⟩
              go_simp
              with_reducible rfl
            rotate_left
            · simp only [Act.put, List.setIfInBounds_toArray, List.set_cons_zero, List.set_cons_succ, i64_w, i32_w]
              rfl
            refine pure_ (i := 2) (N := (some 43)) (v := ?_) (a' := ?_) #[true, true, true, false, false, false, false] rfl rfl (any_of HT_.out (by kernel_rfl)) (fun _ _ _ h => h) (Or.inl ⟨by rfl, ?_⟩) ?_ ?_
            rotate_left
            · intro w'
              go_simp
              with_reducible rfl
            rotate_left
            · simp only [Act.put, List.setIfInBounds_toArray, List.set_cons_zero, List.set_cons_succ, i64_w, i32_w]
              rfl
            refine pure_ (i := 3) (N := (some 44)) (v := ?_) (a' := ?_) #[true, true, true, true, false, false, false] rfl rfl (any_of HT_.out (by kernel_rfl)) (fun _ _ _ h => h) (Or.inl ⟨by rfl, ?_⟩) ?_ ?_
            rotate_left
            · intro w'
              go_simp
              with_reducible rfl
            rotate_left
            · simp only [Act.put, List.setIfInBounds_toArray, List.set_cons_zero, List.set_cons_succ, i64_w, i32_w]
              rfl
            refine take_ (i := 4) (N := (some 45)) (v := ?_) (a' := ?_) #[true, true, true, true, true, false, false] rfl rfl (take_ofW HT_.out HW_.out (by kernel_rfl)) (fun _ _ _ h => h) (Or.inl ⟨by rfl, ?_⟩) hHeld ?_ ?_
            rotate_left
            · rintro w' ⟨_, s1⟩
              go_simp
              with_reducible rfl
            rotate_left
            · simp only [Act.put, List.setIfInBounds_toArray, List.set_cons_zero, List.set_cons_succ, i64_w, i32_w]
              rfl
            refine one_ (i := 5) (N := (some 46)) #[true, true, true, true, true, true, false] rfl rfl (one_of HT_.out (by kernel_rfl)) (by decide) (fun K9 hK => ?_)
            refine goes_ Try.func17 (by kernel_rfl) rfl #[.pointer (some ⟨C, 0, none⟩), .string x2] (by rfl) rfl rfl (by (try simp only [List.map_toArray, List.map_cons, List.map_nil]); first | done | rfl) ?_
            refine (hA).mono ?_
            rintro e w3 ⟨rfl, hb3⟩
            refine ⟨_, rfl, ?_⟩
            have hE3 := (hb3.block b0 k0).trans HC1.out.2.2
            have HC3 := Aside.mk (And.intro ((HC1.out.1.keep (w' := w2.drew) rfl rfl).below hb3) (HC1.out.2.1.drew.trans (Fr.of_new (F := fun k => k = C ∨ k = M) hb3) (fun _ _ h => h)))
            have g0 : w3.cell? ⟨b0, 0, none⟩ = some (.int .i64 x0) := cell_at hE3 0
            have g1 : w3.cell? ⟨b0, 1, none⟩ = some (.bool x1) := cell_at hE3 1
            have g2 : w3.cell? ⟨b0, 2, none⟩ = some (.string x2) := cell_at hE3 2
            have g3 : w3.cell? ⟨b0, 3, none⟩ = some (.string x3) := cell_at hE3 3
            clear hb3 hE3
            refine hK.out _ _ ⟨g0, g2⟩ (fun hHeld => ?_)
            clear hK K9
            refine norm_ (a' := ?_) ?_ ?_
            rotate_left
            · show Act.put _ (some 46) _ = _
              simp only [Act.put, List.setIfInBounds_toArray, List.set_cons_zero, List.set_cons_succ]
              rfl
            refine pure_ (i := 6) (N := (some 47)) (v := ?_) (a' := ?_) #[true, true, true, true, true, true, true] rfl rfl (any_of HT_.out (by kernel_rfl)) (fun _ _ _ h => h) (Or.inl ⟨by rfl, ?_⟩) ?_ ?_
            rotate_left
            · intro w'
              go_simp
              with_reducible rfl
            rotate_left
            · simp only [Act.put, List.setIfInBounds_toArray, List.set_cons_zero, List.set_cons_succ, i64_w, i32_w]
              rfl
            refine done_ (done_of HT_.out (by kernel_rfl)) ?_
            clear HT_ HW_ hHeld
            clear HC1 HR hA e0 e2 t0
            by_cases hax : a < x0
            · have HZ : Aside ((l.take (k + 1)).foldl (stepW u) f = happM F ⟨x0, x1, x2, x3⟩) := ⟨by rw [HX'.out]; unfold stepW; dsimp only; rw [HAS.out, if_pos hax]⟩
              go_wp2_with fail
              refine (happens_calls C M F u ⟨x0, x1, x2, x3⟩ w3 HC3.out.1).mono ?_
              rintro e w4 ⟨rfl, hC4, hF4⟩
              have HI4 : Aside (CA w4 C M ((l.take (k + 1)).foldl (stepW u) f) u ∧ Fr (fun k => k = C ∨ k = M) w w4) := ⟨by rw [HZ.out]; exact hC4, HC3.out.2.trans (hF4.mono (G := fun k => k = C ∨ k = M) (fun _ h => .inr h)) (fun _ _ h => h)⟩
              clear hC4 hF4
              go_wp2_with fail
              go_roundw
              case rel => exact ⟨k + 1, by omega, by go_num, HI4⟩
              case measure => simp [intOf]; omega
            · have hax' : x0 ≤ a := by omega
              have HZ : Aside ((l.take (k + 1)).foldl (stepW u) f = F) := ⟨by rw [HX'.out]; unfold stepW; dsimp only; rw [HAS.out, if_neg hax]⟩
              have HI4 : Aside (CA w3 C M ((l.take (k + 1)).foldl (stepW u) f) u ∧ Fr (fun k => k = C ∨ k = M) w w3) := ⟨by rw [HZ.out]; exact HC3.out.1, HC3.out.2⟩
              clear HI HFK HX' HC3
              go_wp2_with fail
              go_roundw
              case rel => exact ⟨k + 1, by omega, by go_num, HI4⟩
              case measure => simp [intOf]; omega
          · obtain rfl : k = n := by omega
            have hfl : F = l.foldl (stepW u) f := by rw [← HFK.out, List.take_of_length_le (by rw [HN.out]; exact Nat.le_refl _)]
            have f1 : wr.frozen? ⟨C, 1, none⟩ = false := free_at hIC.box 1
            have HX2 : Aside (((F, maxI u rev), 0) = X) := ⟨by rw [hfl]; exact HX.out⟩
            clear hfl HX
            by_cases hur : u < rev
            · have HMX : Aside (maxI u rev = rev) := ⟨if_pos hur⟩
              have HE := Aside.mk (heap_setCell_eq (j := 1) (.int .i64 rev) hIC.box)
              go_wp2_with fail
              go_ret
              rw [← HX2.out, HMX.out]
              obtain ⟨es, cc, hm, hg⟩ := HI.out.1.map
              exact ⟨rfl, ⟨HE.out, es, cc, by rw [Below.heap_setCell _ _ _ _ (fun e => hIC.ne e.symm)]; exact hm, hg⟩, HI.out.2.setCell (p := ⟨C, 1, none⟩) (.inl (.inl rfl)) _⟩
            · have hur' : rev ≤ u := by omega
              have HMX : Aside (maxI u rev = u) := ⟨if_neg hur⟩
              have HE := Aside.mk (heap_setCell_eq (j := 1) (.int .i64 u) hIC.box)
              go_wp2_with fail
              go_ret
              rw [← HX2.out, HMX.out]
              obtain ⟨es, cc, hm, hg⟩ := HI.out.1.map
              exact ⟨rfl, ⟨HE.out, es, cc, by rw [Below.heap_setCell _ _ _ _ (fun e => hIC.ne e.symm)]; exact hm, hg⟩, HI.out.2.setCell (p := ⟨C, 1, none⟩) (.inl (.inl rfl)) _⟩
end Go.Proofs.Ytagkobpbhfkmdaa.C
