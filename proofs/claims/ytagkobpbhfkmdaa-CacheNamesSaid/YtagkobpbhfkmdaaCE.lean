/- The cache: Learn. -/
import Derived.Test.YtagkobpbhfkmdaaSL
namespace Go.Proofs.Ytagkobpbhfkmdaa.C
open Go.RowKit Go.ChangeMaps Go.Proofs.Ytagkobpbhfkmdaa.Q Go.Proofs.YtagkobpbhfkmdaaW.PrintLast Go.Proofs.YtagkobpbhfkmdaaW.PrintWords
set_option linter.unusedVariables false
set_option linter.unusedSimpArgs false
def entOfE (x : En) : Ent := ⟨x.f0, x.f1, x.f2, x.f3⟩
def fndF (rev : Int) (l : List En) (k : ByteArray) : Fct := match l.find? (fun x => eqT x.f0 k) with | some x => ⟨rev, true, entOfE x⟩ | none => ⟨rev, false, entZ⟩
def addN (u rev : Int) (l : List En) (f : Fcts) (k : ByteArray) : Fcts := if rev ≤ asofM f u k then f else upd f k (some (fndF rev l k))
def learnM (f : Fcts) (u rev : Int) (names : List ByteArray) (l : List En) : Fcts × Int :=
  if ofOK l rev = true then (if l.any (fun x => !names.any (eqT x.f0)) = true then (f, 4) else (names.foldl (addN u rev l) f, 0)) else (f, 4)
theorem cell_blk {w w' : World} {q : Addr} (h : w'.heap[q.block]? = w.heap[q.block]?) : w'.cell? q = w.cell? q := by simp [World.cell?, h]
def ce15T : Bool × List (List Nat × List Nat) := (true, [([], []), ([], []), ([0, 1], [0, 1]), ([2], [2]), ([], []), ([4], [4]), ([0, 1, 2, 3, 4, 5], []), ([6, 3, 5, 0, 1, 2, 3, 4, 5], [3, 6])])
def ce15B : List Nat := [0, 0, 3, 7, 0, 16, 63, 127]
theorem ce15_tab : rtab .any (opsOf Try.f18 15) = ce15T := by kernel_rfl
theorem ce15_bits : waitsOk ce15T.2 ce15B = true := by kernel_rfl
set_option maxHeartbeats 8000000 in
set_option maxRecDepth 100000 in
theorem learn_calls (C M : Nat) (f : Fcts) (u rev : Int) (A B : Option Addr) (c d : Nat) (names : List ByteArray) (l : List En) (w : World) (h : CA w C M f u) (gn : Kd.string.C w A names.length names) (hnc : names.length ≤ c) (hnl : names.length ≤ 1000000000) (g : Kd.C k46 w B l.length l) (hlc : l.length ≤ d) (hl : l.length ≤ 1000000000) (hsz : ∀ x ∈ l, x.f0.size ≤ 100000) (hA : ∀ ad, A = some ad → ad.block ≠ C ∧ ad.block ≠ M) (hB : ∀ ad, B = some ad → ad.block ≠ C ∧ ad.block ≠ M) :
    Calls Try.prog 18 #[.pointer (some ⟨C, 0, none⟩), .slice A names.length c, .slice B l.length d, .int .i64 rev] w fun e w' => e = .returned (.int .i64 (learnM f u rev names l).2) ∧ CA w' C M (learnM f u rev names l).1 u ∧ Fr (fun k => k = C ∨ k = M) w w' := by
  have hbA : Below w.heap.size w (w.alloc (Obj.cells #[.slice A names.length c] 29 (0, 0))) := (Below.refl _ _).alloc (Nat.le_refl _) _
  have hof := of_calls B d l rev _ (Kd.C_below g hbA) hlc hl (fun y hy => by have := hsz y hy; omega)
  have hK := heap_alloc_new w (Obj.cells #[.slice A names.length c] 29 (0, 0))
  have hA1 : (w.alloc (Obj.cells #[.slice A names.length c] 29 (0, 0))).heap.size = w.heap.size + 1 := by simp
  have HH := Aside.mk (And.intro h (And.intro gn (And.intro g (And.intro hA hB))))
  obtain ⟨X, hX⟩ : ∃ X, learnM f u rev names l = X := ⟨_, rfl⟩
  rw [hX]
  unfold learnM at hX
  have HX := Aside.mk hX
  obtain ⟨K, hKK⟩ : ∃ K, w.heap.size = K := ⟨_, rfl⟩
  rw [hKK] at hK hA1
  have hlC := h.ltC
  have hlM := h.ltM
  rw [hKK] at hlC hlM
  obtain ⟨m, hm⟩ : ∃ m, l.length = m := ⟨_, rfl⟩
  obtain ⟨n, hn⟩ : ∃ n, names.length = n := ⟨_, rfl⟩
  have HN := Aside.mk (And.intro hm hn)
  have HL := Aside.mk (And.intro hnc (And.intro hnl (And.intro hlc hl)))
  have HA := Aside.mk (And.intro hbA hK)
  rw [hm] at hof hlc hl ⊢
  rw [hn] at hof hnc hnl hK hA1 ⊢
  clear h g gn hA hB hX hm hn hsz hK hbA
  go_enter Try.func18, Try.ntmps18
  go_wp2_with fail
  refine hof.mono ?_
  rintro e w1 ⟨hres, hb⟩
  have hbb : Below (w.alloc (Obj.cells #[.slice A names.length c] 29 (0, 0))).heap.size (w.alloc (Obj.cells #[.slice A names.length c] 29 (0, 0))) w1 := by rw [HN.out.2]; exact hb
  have hb1 := HA.out.1.trans (hbb.mono (by simp))
  have hK1 := (hbb.block K (by simp [hKK])).trans HA.out.2
  have hC1 := HH.out.1.below hb1
  clear hof hb hbb
  rcases hres with ⟨hok, Tb, v, rfl, -, -, -⟩ | ⟨hok, rfl⟩
  · have hx := HX.out
    rw [if_pos hok] at hx
    have HX1 := Aside.mk hx
    have hcf := containsf_calls B d l 39 K (fun x => !names.any (eqT x.f0)) w1 (Kd.C_below HH.out.2.2.1 hb1) HL.out.2.2.1 HL.out.2.2.2 (fun W x hW => learn1_calls A c names x K W (Kd.C_below (Kd.C_below HH.out.2.1 hb1) hW) HL.out.1 HL.out.2.1 ((hW.block K (lt_of_block hK1)).trans hK1)) (fun _ _ => rfl)
    rw [HN.out.1] at hcf
    have H1 := Aside.mk (And.intro hC1 (And.intro hK1 hb1))
    cases hany : l.any (fun x => !names.any (eqT x.f0)) with
    | true =>
      rw [hany] at hcf
      have HX2 : Aside ((f, (4 : Int)) = X) := ⟨by rw [← HX1.out, if_pos hany]⟩
      clear hC1 hK1 hb1 hx hany
      go_wp2_with fail
      refine hcf.mono ?_
      rintro e w2 ⟨rfl, hb2⟩
      have H2 := Aside.mk (And.intro (H1.out.1.below hb2) ((Fr.of_new (F := fun k => k = C ∨ k = M) H1.out.2.2).trans (Fr.of_new hb2) (fun _ _ h => h)))
      clear hb2
      go_wp2_with fail
      go_ret
      rw [← HX2.out]
      exact ⟨rfl, H2.out.1, H2.out.2⟩
    | false =>
      rw [hany] at hcf
      have HX2 : Aside ((names.foldl (addN u rev l) f, (0 : Int)) = X) := ⟨by rw [← HX1.out, if_neg (by rw [hany]; decide)]⟩
      clear hC1 hK1 hb1 hx hany HX1 HX
      go_wp2_with fail
      refine hcf.mono ?_
      rintro e w2 ⟨rfl, hb2⟩
      have hK2 := (hb2.block K (lt_of_block H1.out.2.1)).trans H1.out.2.1
      rw [HN.out.2] at hK2
      have H2 := Aside.mk (And.intro (H1.out.1.below hb2) (And.intro hK2 ((Fr.of_new (F := fun k => k = C ∨ k = M) H1.out.2.2).trans (Fr.of_new hb2) (fun _ _ h => h))))
      have q0 : w2.cell? ⟨K, 0, none⟩ = some (.slice A n c) := cell_at hK2 0
      clear hb2 hK2 hcf H1
      go_wp2_with fail
      go_loopw [31] (fun v31 w' => ∃ k : Nat, k ≤ n ∧ v31 = .int .i64 k ∧ Aside (CA w' C M ((names.take k).foldl (addN u rev l) f) u ∧ Fr (fun k => k = C ∨ k = M) w w')) (fun v31 _ => n - (intOf v31).toNat)
      case atStart => exact ⟨0, by omega, rfl, ⟨H2.out.1, H2.out.2.2⟩⟩
      case round =>
        rename_i v31 wr
        obtain ⟨k, hk, rfl, HI⟩ := hrel
        obtain ⟨F, hF⟩ : ∃ F, (names.take k).foldl (addN u rev l) f = F := ⟨_, rfl⟩
        rw [hF] at HI
        have HFK := Aside.mk hF
        clear hF
        by_cases hkn : k < n
        · have hrowN : Kd.string.C wr A names.length names := row_fr (F := fun k => k = C ∨ k = M) (fun h => h) HH.out.2.1 HI.out.2 (fun ad e h => by have := HH.out.2.2.2.1 ad e; rcases h with h | h; exact this.1 h; exact this.2 h)
          have hrowL : Kd.C k46 wr B l.length l := row_fr (F := fun k => k = C ∨ k = M) (fun h => h) HH.out.2.2.1 HI.out.2 (fun ad e h => by have := HH.out.2.2.2.2 ad e; rcases h with h | h; exact this.1 h; exact this.2 h)
          obtain ⟨x, hx⟩ : ∃ x, names[k]? = some x := ⟨_, List.getElem?_eq_getElem (by rw [HN.out.2]; exact hkn)⟩
          obtain ⟨ad, he, hc0⟩ := (Kd.reads_of_C (d := (ByteArray.mk #[])) hrowN).2.2 (by rw [HN.out.2]; omega)
          have c0 : wr.cell? (ad.add k) = some (.string x) := by rw [hc0 k (by rw [HN.out.2]; exact hkn), List.getD_eq_getElem?_getD, hx]; rfl
          have HX' := Aside.mk (foldl_take_succ (addN u rev l) f hx)
          rw [HFK.out] at HX'
          have hE := heap_alloc_new wr (Obj.cells #[Value.string x] 9 (0, 0))
          have hbE : Below wr.heap.size wr (wr.alloc (Obj.cells #[Value.string x] 9 (0, 0))) := (Below.refl wr.heap.size wr).alloc (Nat.le_refl _) (Obj.cells #[Value.string x] 9 (0, 0))
          have hC1 := HI.out.1.below hbE
          have hF1 := HI.out.2.alloc (Obj.cells #[Value.string x] 9 (0, 0))
          have hL1 := Kd.C_below hrowL hbE
          obtain ⟨b0, hb0⟩ : ∃ b0, wr.heap.size = b0 := ⟨_, rfl⟩
          rw [hb0] at hE
          have hs1 : (wr.alloc (Obj.cells #[Value.string x] 9 (0, 0))).heap.size = b0 + 1 := by simp [hb0]
          have has := casof_calls C M F u x _ hC1
          obtain ⟨a, ha⟩ : ∃ a, asofM F u x = a := ⟨_, rfl⟩
          rw [ha] at has
          have HAS := Aside.mk ha
          have HE1 := Aside.mk (And.intro hC1 (And.intro hE (And.intro hF1 hL1)))
          subst he
          have HHA := Aside.mk HH
          clear hrowN hrowL hc0 hx hE hbE hC1 hF1 hL1 ha
          go_wp2_with fail
          refine has.mono ?_
          generalize (wr.alloc (Obj.cells #[Value.string x] 9 (0, 0))) = w3 at *
          rintro e w4 ⟨rfl, hb4⟩
          have hE4 := (hb4.block b0 (by omega)).trans HE1.out.2.1
          have hC4 := HE1.out.1.below hb4
          have hF4 := HE1.out.2.2.1.trans (Fr.of_new (F := fun k => k = C ∨ k = M) hb4) (fun _ _ h => h)
          have hL4 := Kd.C_below HE1.out.2.2.2 hb4
          have hs4 := hb4.size
          rw [hs1] at hs4
          clear has hb4 HE1 c0
          by_cases hra : rev ≤ a
          · have HZ : Aside ((names.take (k + 1)).foldl (addN u rev l) f = F) := ⟨by rw [HX'.out]; unfold addN; rw [HAS.out, if_pos hra]⟩
            have HI5 : Aside (CA w4 C M ((names.take (k + 1)).foldl (addN u rev l) f) u ∧ Fr (fun k => k = C ∨ k = M) w w4) := ⟨by rw [HZ.out]; exact hC4, hF4⟩
            clear HI HFK HX' HZ hE4 hC4 hF4 hL4
            go_wp2_with fail
            go_roundw
            case rel => exact ⟨k + 1, by omega, by go_num, HI5⟩
            case measure => simp [intOf]; omega
          · have hra' : a < rev := by omega
            have HZ : Aside ((names.take (k + 1)).foldl (addN u rev l) f = upd F x (some (fndF rev l x))) := ⟨by rw [HX'.out]; unfold addN; rw [HAS.out, if_neg hra]⟩
            have hG := heap_alloc_new w4 (Obj.cells #[Value.int IntKind.i64 rev, Value.bool false, Value.string (ByteArray.mk #[]), Value.string (ByteArray.mk #[]), Value.int IntKind.i64 0, Value.int IntKind.i64 0] 87 (0, 0))
            have hbG : Below w4.heap.size w4 (w4.alloc (Obj.cells #[Value.int IntKind.i64 rev, Value.bool false, Value.string (ByteArray.mk #[]), Value.string (ByteArray.mk #[]), Value.int IntKind.i64 0, Value.int IntKind.i64 0] 87 (0, 0))) := (Below.refl w4.heap.size w4).alloc (Nat.le_refl _) (Obj.cells #[Value.int IntKind.i64 rev, Value.bool false, Value.string (ByteArray.mk #[]), Value.string (ByteArray.mk #[]), Value.int IntKind.i64 0, Value.int IntKind.i64 0] 87 (0, 0))
            have hE5 := blk_al hE4 (Obj.cells #[Value.int IntKind.i64 rev, Value.bool false, Value.string (ByteArray.mk #[]), Value.string (ByteArray.mk #[]), Value.int IntKind.i64 0, Value.int IntKind.i64 0] 87 (0, 0))
            have hC5 := hC4.below hbG
            have hF5 := hF4.alloc (Obj.cells #[Value.int IntKind.i64 rev, Value.bool false, Value.string (ByteArray.mk #[]), Value.string (ByteArray.mk #[]), Value.int IntKind.i64 0, Value.int IntKind.i64 0] 87 (0, 0))
            have hL5 := Kd.C_below hL4 hbG
            obtain ⟨b1, hb1⟩ : ∃ b1, w4.heap.size = b1 := ⟨_, rfl⟩
            rw [hb1] at hG hs4
            have hwb1 : w.heap.size ≤ b1 := by rw [← hb1]; exact hF4.size
            have hs5 : (w4.alloc (Obj.cells #[Value.int IntKind.i64 rev, Value.bool false, Value.string (ByteArray.mk #[]), Value.string (ByteArray.mk #[]), Value.int IntKind.i64 0, Value.int IntKind.i64 0] 87 (0, 0))).heap.size = b1 + 1 := by simp [hb1]
            have hix := indexf_calls B d l 42 b0 (fun y => eqT y.f0 x) _ hL5 HL.out.2.2.1 HL.out.2.2.2 (fun W y hW => learn2_calls x y b0 W ((hW.block b0 (lt_of_block hE5)).trans hE5)) (fun _ _ => rfl)
            rw [HN.out.1] at hix
            have H5 := Aside.mk (And.intro hC5 (And.intro hE5 (And.intro hF5 (And.intro hL5 hG))))
            clear hE4 hC4 hF4 hL4 hbG hE5 hC5 hF5 hL5 hG HI
            go_wp2_with fail
            refine hix.mono ?_
            generalize (w4.alloc (Obj.cells #[Value.int IntKind.i64 rev, Value.bool false, Value.string (ByteArray.mk #[]), Value.string (ByteArray.mk #[]), Value.int IntKind.i64 0, Value.int IntKind.i64 0] 87 (0, 0))) = w5 at *
            rintro e w6 ⟨rfl, hb6⟩
            have hE6 := (hb6.block b0 (by omega)).trans H5.out.2.1
            have hG6 := (hb6.block b1 (by omega)).trans H5.out.2.2.2.2
            have hC6 := H5.out.1.below hb6
            have hF6 := H5.out.2.2.1.trans (Fr.of_new (F := fun k => k = C ∨ k = M) hb6) (fun _ _ h => h)
            have hL6 := Kd.C_below H5.out.2.2.2.1 hb6
            have hs6 := hb6.size
            rw [hs5] at hs6
            have hb1C : b1 ≠ C := fun e => by
              have h1 := hC6.box
              rw [← e, hG6] at h1
              have := (Obj.cells.injEq _ _ _ _ _ _).mp (Option.some.inj h1)
              exact absurd this.2.1 (by decide)
            have hb1M : b1 ≠ M := fun e => by
              obtain ⟨es, cc, hm, hg⟩ := hC6.map
              rw [← e, hG6] at hm
              cases hm
            clear hb6 hix H5
            have p0 : w6.cell? ⟨C, 0, none⟩ = some (.map (some M)) := cell_at hC6.box 0
            have p1 : w6.cell? ⟨b0, 0, none⟩ = some (.string x) := cell_at hE6 0
            rcases idxI_any (fun y : En => eqT y.f0 x) l with ⟨hno, hi⟩ | ⟨hyes, j, y, hj, hpy, hi, hfd⟩
            · rw [hi]
              have hfn : fndF rev l x = ⟨rev, false, entZ⟩ := by
                have : l.find? (fun y => eqT y.f0 x) = none := by
                  rw [List.find?_eq_none]
                  intro y hy hp
                  rw [List.any_eq_false] at hno
                  exact hno y hy hp
                unfold fndF
                rw [this]
              obtain ⟨o2, hr2, hC7, hF7⟩ := (show CA w6.drew C M F u from hC6.keep rfl rfl).stored x ⟨rev, false, entZ⟩
              replace hr2 : (Instr.mapUpdate 77 (.map (some M)) (.string x) (.agg #[.int .i64 rev, .bool false, .string (ByteArray.mk #[]), .string (ByteArray.mk #[]), .int .i64 0, .int .i64 0])).run Try.prog w6.drew = .ok () (setBlock w6.drew M o2) := hr2
              have HI7 : Aside (CA (setBlock w6.drew M o2) C M ((names.take (k + 1)).foldl (addN u rev l) f) u ∧ Fr (fun k => k = C ∨ k = M) w (setBlock w6.drew M o2)) := ⟨by rw [HZ.out, hfn]; exact hC7, hF6.drew.trans (hF7.mono (G := fun k => k = C ∨ k = M) (fun _ h => .inr h)) (fun _ _ h => h)⟩
              have v0 : w6.cell? ⟨b1, 0, none⟩ = some (.int .i64 rev) := cell_at hG6 0
              have v1 : w6.cell? ⟨b1, 1, none⟩ = some (.bool false) := cell_at hG6 1
              have v2 : w6.cell? ⟨b1, 2, none⟩ = some (.string (ByteArray.mk #[])) := cell_at hG6 2
              have v3 : w6.cell? ⟨b1, 3, none⟩ = some (.string (ByteArray.mk #[])) := cell_at hG6 3
              have v4 : w6.cell? ⟨b1, 4, none⟩ = some (.int .i64 0) := cell_at hG6 4
              have v5 : w6.cell? ⟨b1, 5, none⟩ = some (.int .i64 0) := cell_at hG6 5
              clear hE6 hG6 hC6 hF6 hL6 hC7 hF7 hi hno hfn HZ HX' HFK
              go_upto_region 16 with fail
              go_still_tail 6, (by kernel_rfl)
              go_wp2_with fail
              go_roundw
              case rel => exact ⟨k + 1, by omega, by go_num, HI7⟩
              case measure => simp [intOf]; omega
            · rw [hi]
              have hfn : fndF rev l x = ⟨rev, true, entOfE y⟩ := by unfold fndF; rw [hfd]
              obtain ⟨bd, hBe, hf0, hf1, hf2, hf3⟩ := at_T46 hL6 (j : Int) (by omega) (by have := (List.getElem?_eq_some_iff.1 hj).1; omega)
              rw [rd_getE hj] at hf0 hf1 hf2 hf3
              simp only [Int.toNat_natCast] at hf0 hf1 hf2 hf3
              have hjm : j < m := by rw [← HN.out.1]; exact (List.getElem?_eq_some_iff.1 hj).1
              obtain ⟨y0, y1, y2, y3⟩ := y
              dsimp only at hf0 hf1 hf2 hf3 hfn
              have hbd : (bd.add (j * 4)).block ≠ b1 := fun e => by
                have h1 := Kd.C_lt (by rw [hBe] at HH; exact HH.out.2.2.1) (by rw [HN.out.1]; omega) (by decide)
                have h2 : (bd.add (j * 4)).block = bd.block := by first | exact add_block _ _ | exact Kd.add_block _ _ | simp
                omega
              have hL7 := Aside.mk (And.intro hC6 (And.intro hE6 (And.intro hF6 hG6)))
              have t0 : w6.drew.cell? (bd.add (j * 4)) = some (.string y0) ∧ w6.drew.cell? ⟨(bd.add (j * 4)).block, (bd.add (j * 4)).off + 1, none⟩ = some (.string y1) ∧ w6.drew.cell? ⟨(bd.add (j * 4)).block, (bd.add (j * 4)).off + 2, none⟩ = some (.int .i64 y2) ∧ w6.drew.cell? ⟨(bd.add (j * 4)).block, (bd.add (j * 4)).off + 3, none⟩ = some (.int .i64 y3) := ⟨hf0, hf1, hf2, hf3⟩
              have hG6' : w6.drew.heap[b1]? = some (Obj.cells #[Value.int IntKind.i64 rev, Value.bool false, Value.string (ByteArray.mk #[]), Value.string (ByteArray.mk #[]), Value.int IntKind.i64 0, Value.int IntKind.i64 0] 87 (0, 0)) := hG6
              have z1 : w6.drew.cell? ⟨b1, 1, none⟩ = some (.bool false) := cell_at hG6' 1
              have u1 : w6.drew.frozen? ⟨b1, 1, none⟩ = false := free_at hG6' 1
              subst hBe
              clear hE6 hG6 hC6 hF6 hL6 hi hf0 hf1 hf2 hf3 hpy hyes hfd hj p0 p1
              go_upto_region 15 with fail
              refine start_ (n := 8) (S := (fun w' => w'.cell? (bd.add (j * 4)) = some (.string y0) ∧ w'.cell? ⟨(bd.add (j * 4)).block, (bd.add (j * 4)).off + 1, none⟩ = some (.string y1) ∧ w'.cell? ⟨(bd.add (j * 4)).block, (bd.add (j * 4)).off + 2, none⟩ = some (.int .i64 y2) ∧ w'.cell? ⟨(bd.add (j * 4)).block, (bd.add (j * 4)).off + 3, none⟩ = some (.int .i64 y3))) (ds := [7]) #[false, false, false, false, false, false, false, false] (by kernel_rfl) rfl rfl t0 (fun hHeld => ?_); refine with_tabW ce15_tab ce15_bits (fun HT_ HW_ => ?_)
              refine pure_ (i := 0) (N := (some 47)) (v := ?_) (a' := ?_) #[true, false, false, false, false, false, false, false] rfl rfl (any_of HT_.out (by kernel_rfl)) (fun _ _ _ h => h) (Or.inl ⟨by rfl, ?_⟩) ?_ ?_
              rotate_left
              · intro w'
                go_simp
                with_reducible rfl
              rotate_left
              · simp only [Act.put, List.setIfInBounds_toArray, List.set_cons_zero, List.set_cons_succ, i64_w, i32_w]
                rfl
              refine pure_ (i := 1) (N := (some 48)) (v := ?_) (a' := ?_) #[true, true, false, false, false, false, false, false] rfl rfl (any_of HT_.out (by kernel_rfl)) (fun _ _ _ h => h) (Or.inl ⟨by rfl, ?_⟩) ?_ ?_
              rotate_left
              · intro w'
                go_simp
                with_reducible rfl
              rotate_left
              · simp only [Act.put, List.setIfInBounds_toArray, List.set_cons_zero, List.set_cons_succ, i64_w, i32_w]
                rfl
              refine pure_ (i := 2) (N := (some 49)) (v := ?_) (a' := ?_) #[true, true, true, false, false, false, false, false] rfl rfl (any_of HT_.out (by kernel_rfl)) (fun _ _ _ h => h) (Or.inl ⟨by rfl, ?_⟩) ?_ ?_
              rotate_left
              · intro w'
                go_simp
                with_reducible rfl
              rotate_left
              · simp only [Act.put, List.setIfInBounds_toArray, List.set_cons_zero, List.set_cons_succ, i64_w, i32_w]
                rfl
              refine take_ (i := 3) (N := (some 50)) (v := ?_) (a' := ?_) #[true, true, true, true, false, false, false, false] rfl rfl (take_ofW HT_.out HW_.out (by kernel_rfl)) (fun _ _ _ h => h) (Or.inl ⟨by rfl, ?_⟩) hHeld ?_ ?_
              rotate_left
              · rintro w' ⟨s1, s2, s3, s4⟩
                go_simp
                with_reducible rfl
              rotate_left
              · simp only [Act.put, List.setIfInBounds_toArray, List.set_cons_zero, List.set_cons_succ, i64_w, i32_w]
                rfl
              refine pure_ (i := 4) (N := (some 51)) (v := ?_) (a' := ?_) #[true, true, true, true, true, false, false, false] rfl rfl (any_of HT_.out (by kernel_rfl)) (fun _ _ _ h => h) (Or.inl ⟨by rfl, ?_⟩) ?_ ?_
              rotate_left
              · intro w'
                go_simp
                with_reducible rfl
              rotate_left
              · simp only [Act.put, List.setIfInBounds_toArray, List.set_cons_zero, List.set_cons_succ, i64_w, i32_w]
                rfl
              refine one_ (i := 5) (N := none) #[true, true, true, true, true, true, false, false] rfl rfl (one_of HT_.out (by kernel_rfl)) (by decide) (fun K9 hK => ?_)
              have hw7 : (w6.drew.setCell ⟨b1, 1, none⟩ (.bool true)).heap[b1]? = some (Obj.cells #[Value.int IntKind.i64 rev, Value.bool true, Value.string (ByteArray.mk #[]), Value.string (ByteArray.mk #[]), Value.int IntKind.i64 0, Value.int IntKind.i64 0] 87 (0, 0)) := by rw [heap_setCell_eq _ hG6']; rfl
              have hF7 := (Fr.refl (fun k => k = b1) w6.drew).setCell (p := ⟨b1, 1, none⟩) (.inl rfl) (.bool true)
              have hk7 : ∀ q : Addr, q.block ≠ b1 → (w6.drew.setCell ⟨b1, 1, none⟩ (.bool true)).cell? q = w6.drew.cell? q := fun q hq => cell_blk (Below.heap_setCell _ _ _ _ hq)
              refine skip_ (w1 := w6.drew.setCell ⟨b1, 1, none⟩ (.bool true)) (by rfl) rfl (by unfold execOp; go_simp) ?_
              have t7 := And.intro ((hk7 _ hbd).trans t0.1) (And.intro ((hk7 ⟨(bd.add (j * 4)).block, (bd.add (j * 4)).off + 1, none⟩ hbd).trans t0.2.1) (And.intro ((hk7 ⟨(bd.add (j * 4)).block, (bd.add (j * 4)).off + 2, none⟩ hbd).trans t0.2.2.1) ((hk7 ⟨(bd.add (j * 4)).block, (bd.add (j * 4)).off + 3, none⟩ hbd).trans t0.2.2.2)))
              refine hK.out _ _ t7 (fun hHeld => ?_)
              clear hK K9 hk7 t7 z1 u1
              generalize (w6.drew.setCell ⟨b1, 1, none⟩ (.bool true)) = w7 at *
              have z2 : w7.cell? ⟨b1, 2, none⟩ = some (.string (ByteArray.mk #[])) := cell_at hw7 2
              have z3 : w7.cell? ⟨b1, 3, none⟩ = some (.string (ByteArray.mk #[])) := cell_at hw7 3
              have z4 : w7.cell? ⟨b1, 4, none⟩ = some (.int .i64 0) := cell_at hw7 4
              have z5 : w7.cell? ⟨b1, 5, none⟩ = some (.int .i64 0) := cell_at hw7 5
              have u2 := free_at hw7 2
              have u3 := free_at hw7 3
              have u4 := free_at hw7 4
              have u5 := free_at hw7 5
              refine pure_ (i := 6) (N := (some 52)) (v := ?_) (a' := ?_) #[true, true, true, true, true, true, true, false] rfl rfl (any_of HT_.out (by kernel_rfl)) (fun _ _ _ h => h) (Or.inl ⟨by rfl, ?_⟩) ?_ ?_
              rotate_left
              · intro w'
                go_simp
                with_reducible rfl
              rotate_left
              · simp only [Act.put, List.setIfInBounds_toArray, List.set_cons_zero, List.set_cons_succ, i64_w, i32_w]
                rfl
              refine last_ (i := 7) (N := none) #[true, true, true, true, true, true, true, true] rfl rfl (one_of HT_.out (by kernel_rfl)) (by decide) (fun K9 hK => ?_)
              refine skip_ (w1 := ((((w7.setCell ⟨b1, 2, none⟩ (.string y0)).setCell ⟨b1, 3, none⟩ (.string y1)).setCell ⟨b1, 4, none⟩ (.int .i64 y2)).setCell ⟨b1, 5, none⟩ (.int .i64 y3))) (by rfl) rfl (by unfold execOp; go_simp) ?_
              have H8 : Aside (Fr (fun k => k = b1) w6.drew ((((w7.setCell ⟨b1, 2, none⟩ (.string y0)).setCell ⟨b1, 3, none⟩ (.string y1)).setCell ⟨b1, 4, none⟩ (.int .i64 y2)).setCell ⟨b1, 5, none⟩ (.int .i64 y3)) ∧ (((((w7.setCell ⟨b1, 2, none⟩ (.string y0)).setCell ⟨b1, 3, none⟩ (.string y1)).setCell ⟨b1, 4, none⟩ (.int .i64 y2)).setCell ⟨b1, 5, none⟩ (.int .i64 y3))).heap[b1]? = some (Obj.cells #[Value.int IntKind.i64 rev, Value.bool true, Value.string y0, Value.string y1, Value.int IntKind.i64 y2, Value.int IntKind.i64 y3] 87 (0, 0))) := ⟨(((hF7.setCell (p := ⟨b1, 2, none⟩) (.inl rfl) _).setCell (p := ⟨b1, 3, none⟩) (.inl rfl) _).setCell (p := ⟨b1, 4, none⟩) (.inl rfl) _).setCell (p := ⟨b1, 5, none⟩) (.inl rfl) _, by rw [heap_setCell_eq _ (heap_setCell_eq _ (heap_setCell_eq _ (heap_setCell_eq _ hw7)))]; rfl⟩
              generalize ((((w7.setCell ⟨b1, 2, none⟩ (.string y0)).setCell ⟨b1, 3, none⟩ (.string y1)).setCell ⟨b1, 4, none⟩ (.int .i64 y2)).setCell ⟨b1, 5, none⟩ (.int .i64 y3)) = w8 at *
              refine hK.out _ _ ?_
              clear hK K9 hF7 hw7 z2 z3 z4 z5 u2 u3 u4 u5
              refine done_ (done_of HT_.out (by kernel_rfl)) ?_
              clear HT_ HW_ hHeld
              clear t0
              have hEw : w8.heap[b0]? = some (Obj.cells #[Value.string x] 9 (0, 0)) := H8.out.1.heap (show w6.drew.heap[b0]? = _ from hL7.out.2.1) (fun e => by omega)
              have hCw : CA w8 C M F u := (hL7.out.1.keep (w' := w6.drew) rfl rfl).fr H8.out.1 (fun e => hb1C e.symm) (fun e => hb1M e.symm)
              have hFw : Fr (fun k => k = C ∨ k = M) w w8 := hL7.out.2.2.1.drew.then H8.out.1 (fun i e => .inr (by omega))
              have p0 : w8.cell? ⟨C, 0, none⟩ = some (.map (some M)) := cell_at hCw.box 0
              have p1 : w8.cell? ⟨b0, 0, none⟩ = some (.string x) := cell_at hEw 0
              have v0 : w8.cell? ⟨b1, 0, none⟩ = some (.int .i64 rev) := cell_at H8.out.2 0
              have v1 : w8.cell? ⟨b1, 1, none⟩ = some (.bool true) := cell_at H8.out.2 1
              have v2 : w8.cell? ⟨b1, 2, none⟩ = some (.string y0) := cell_at H8.out.2 2
              have v3 : w8.cell? ⟨b1, 3, none⟩ = some (.string y1) := cell_at H8.out.2 3
              have v4 : w8.cell? ⟨b1, 4, none⟩ = some (.int .i64 y2) := cell_at H8.out.2 4
              have v5 : w8.cell? ⟨b1, 5, none⟩ = some (.int .i64 y3) := cell_at H8.out.2 5
              obtain ⟨o2, hr2, hC7, hF7⟩ := (show CA w8.drew C M F u from hCw.keep rfl rfl).stored x ⟨rev, true, ⟨y0, y1, y2, y3⟩⟩
              replace hr2 : (Instr.mapUpdate 77 (.map (some M)) (.string x) (.agg #[.int .i64 rev, .bool true, .string y0, .string y1, .int .i64 y2, .int .i64 y3])).run Try.prog w8.drew = .ok () (setBlock w8.drew M o2) := hr2
              have HI7 : Aside (CA (setBlock w8.drew M o2) C M ((names.take (k + 1)).foldl (addN u rev l) f) u ∧ Fr (fun k => k = C ∨ k = M) w (setBlock w8.drew M o2)) := ⟨by rw [HZ.out, hfn]; exact hC7, hFw.drew.trans (hF7.mono (G := fun k => k = C ∨ k = M) (fun _ h => .inr h)) (fun _ _ h => h)⟩
              clear hEw hCw hFw hC7 hF7 hfn HZ HX' HFK hL7 H8
              go_upto_region 16 with fail
              go_still_tail 6, (by kernel_rfl)
              go_wp2_with fail
              go_roundw
              case rel => exact ⟨k + 1, by omega, by go_num, HI7⟩
              case measure => simp [intOf]; omega
        · obtain rfl : k = n := by omega
          have hfl : F = names.foldl (addN u rev l) f := by rw [← HFK.out, List.take_of_length_le (by rw [HN.out.2]; exact Nat.le_refl _)]
          have HX3 : Aside ((F, (0 : Int)) = X) := ⟨by rw [hfl]; exact HX2.out⟩
          clear hfl HX2
          go_wp2_with fail
          go_ret
          rw [← HX3.out]
          exact ⟨rfl, HI.out.1, HI.out.2⟩
  · have hx := HX.out
    rw [if_neg (by rw [hok]; decide)] at hx
    have HX := Aside.mk hx
    have H1 := Aside.mk (And.intro hC1 hb1)
    clear hx hC1 hK1 hb1 HA
    go_wp2_with fail
    go_ret
    rw [← HX.out]
    exact ⟨rfl, H1.out.1, Fr.of_new H1.out.2⟩
end Go.Proofs.Ytagkobpbhfkmdaa.C
