/- CacheLater: the walk. -/
import Derived.Test.YtagkobpbhfkmdaaAW
import Derived.Test.YtagkobpbhfkmdaaTO
import Derived.Test.YtagkobpbhfkmdaaLP
import Derived.Test.YtagkobpbhfkmdaaEE
namespace Go.Proofs.Ytagkobpbhfkmdaa.C
open Go.RowKit Go.ChangeMaps Go.Proofs.Ytagkobpbhfkmdaa.Q Go.Proofs.YtagkobpbhfkmdaaW.PrintLast Go.Proofs.YtagkobpbhfkmdaaW.PrintWords
set_option linter.unusedVariables false
set_option linter.unusedSimpArgs false
/-- Two caches, apart. -/
structure O2 (B : Nat) (w0 w : World) (C M D L : Nat) (f g : Fcts) (u v : Int) : Prop where
  ca : CA w C M f u
  cb : CA w D L g v
  b : B ≤ C ∧ B ≤ M ∧ B ≤ D ∧ B ≤ L
  ne : C ≠ D ∧ C ≠ L ∧ M ≠ D ∧ M ≠ L
  bel : Below B w0 w
  size : B ≤ w.heap.size
theorem O2.below {B : Nat} {w0 w w' : World} {C M D L : Nat} {f g : Fcts} {u v : Int} (h : O2 B w0 w C M D L f g u v) (hb : Below w.heap.size w w') : O2 B w0 w' C M D L f g u v :=
  ⟨h.ca.below hb, h.cb.below hb, h.b, h.ne, h.bel.trans (hb.mono h.size), Nat.le_trans h.size hb.size⟩
theorem O2.stepA {B : Nat} {w0 w w' : World} {C M D L : Nat} {f g f' : Fcts} {u v u' : Int} (h : O2 B w0 w C M D L f g u v) (hc : CA w' C M f' u') (hf : Fr (fun k => k = C ∨ k = M) w w') : O2 B w0 w' C M D L f' g u' v :=
  ⟨hc, h.cb.fr hf (fun e => by have := h.ne; omega) (fun e => by have := h.ne; omega), h.b, h.ne, h.bel.trans (hf.below h.size (fun k hk => by have := h.b; omega)), Nat.le_trans h.size hf.size⟩
theorem O2.stepB {B : Nat} {w0 w w' : World} {C M D L : Nat} {f g g' : Fcts} {u v v' : Int} (h : O2 B w0 w C M D L f g u v) (hc : CA w' D L g' v') (hf : Fr (fun k => k = D ∨ k = L) w w') : O2 B w0 w' C M D L f g' u v' :=
  ⟨h.ca.fr hf (fun e => by have := h.ne; omega) (fun e => by have := h.ne; omega), hc, h.b, h.ne, h.bel.trans (hf.below h.size (fun k hk => by have := h.b; omega)), Nat.le_trans h.size hf.size⟩
theorem cell_lt {w : World} {p : Addr} {v : Value} (h : w.cell? p = some v) : p.block < w.heap.size := by
  refine Classical.byContradiction fun hn => ?_
  unfold World.cell? at h
  rw [Array.getElem?_eq_none (by omega)] at h
  simp at h
def SSt (w' : World) (ad : Addr) (s : Sd) (A3 A4 A5 : Option Addr) (c3 c4 c5 : Nat) : Prop := w'.cell? ad = some (.int .u8 s.f0) ∧ w'.cell? ⟨ad.block, ad.off + 1, none⟩ = some (.int .i64 s.f1) ∧ w'.cell? ⟨ad.block, ad.off + 2, none⟩ = some (.int .i64 s.f2) ∧ w'.cell? ⟨ad.block, ad.off + 3, none⟩ = some (.slice A3 s.f3.length c3) ∧ w'.cell? ⟨ad.block, ad.off + 4, none⟩ = some (.slice A4 s.f4.length c4) ∧ w'.cell? ⟨ad.block, ad.off + 5, none⟩ = some (.slice A5 s.f5.length c5)
theorem SSt.below {w w' : World} {ad : Addr} {s : Sd} {A3 A4 A5 : Option Addr} {c3 c4 c5 : Nat} (h : SSt w ad s A3 A4 A5 c3 c4 c5) (hb : Below w.heap.size w w') : SSt w' ad s A3 A4 A5 c3 c4 c5 := by
  have hl := cell_lt h.1
  exact ⟨(hb.cell hl).trans h.1, (hb.cell (p := ⟨ad.block, ad.off + 1, none⟩) hl).trans h.2.1, (hb.cell (p := ⟨ad.block, ad.off + 2, none⟩) hl).trans h.2.2.1, (hb.cell (p := ⟨ad.block, ad.off + 3, none⟩) hl).trans h.2.2.2.1, (hb.cell (p := ⟨ad.block, ad.off + 4, none⟩) hl).trans h.2.2.2.2.1, (hb.cell (p := ⟨ad.block, ad.off + 5, none⟩) hl).trans h.2.2.2.2.2⟩
theorem learn_one (key : ByteArray) (rev : Int) : (0 ≤ rev ∧ rev ≤ 1099511627776 → learnM (fun _ => none) (-1) rev [key] [] = (upd (fun _ => none) key (some ⟨rev, false, entZ⟩), 0)) ∧ (¬ (0 ≤ rev ∧ rev ≤ 1099511627776) → learnM (fun _ => none) (-1) rev [key] [] = (fun _ => none, 4)) := by
  constructor
  · intro h
    unfold learnM
    rw [if_pos (by unfold ofOK; simp [h.1, h.2, goodTo]), if_neg (by simp)]
    show (addN (-1) rev [] (fun _ => none) key, (0 : Int)) = _
    unfold addN
    rw [if_neg (show ¬ rev ≤ asofM (fun _ => none) (-1) key from by show ¬ rev ≤ -1; omega)]
    rfl
  · intro h
    unfold learnM
    rw [if_neg (by unfold ofOK; simp only [Bool.and_eq_true, decide_eq_true_eq]; omega)]
theorem tell_uok {f : Fcts} {u : Int} {s : Sd} (hu : UOK u) : UOK (tellM f u s).1.2 := by
  unfold tellM
  split
  · unfold listM
    split
    · rename_i ho
      split
      · exact hu
      · unfold ofOK at ho
        simp only [Bool.and_eq_true, decide_eq_true_eq] at ho
        exact ⟨by show -1 ≤ s.f2; omega, ho.2.1⟩
    · exact hu
  · split
    · unfold watchM
      split
      · rename_i ho
        split
        · exact hu
        · unfold cmayB at ho
          simp only [Bool.and_eq_true, decide_eq_true_eq] at ho
          obtain ⟨h1, h2⟩ := hu
          show UOK (maxI u s.f2)
          unfold maxI UOK
          split <;> omega
      · exact hu
    · exact hu
theorem FKN.mono {f : Fcts} {n m : Nat} (h : FKN f n) (hm : n ≤ m) : FKN f m := by
  obtain ⟨L, h1, h2, h3⟩ := h
  exact ⟨L, h1, by omega, h3⟩
theorem fkn_one (key : ByteArray) (rev : Int) (hk : key.size ≤ 1000000) : FKN (upd (fun _ => none) key (some ⟨rev, false, entZ⟩)) 1 := by
  refine ⟨[key], fun k v h => ?_, by simp, fun k hk' => by rw [List.mem_singleton.1 hk']; exact hk⟩
  by_cases e : k = key
  · subst e; rw [upd_same] at h; cases h; exact ⟨by simp, fun h => by cases h⟩
  · rw [upd_other _ _ e] at h; cases h
def lw10T : Bool × List (List Nat × List Nat) := (true, [([], []), ([], []), ([], []), ([1, 2], [1, 2]), ([3], [3]), ([0, 4], [0, 4]), ([], []), ([], []), ([], []), ([7, 8], [7, 8]), ([9], [9]), ([6, 10, 5], [6, 10]), ([5, 11], [5, 11])])
def lw10B : List Nat := [0, 0, 0, 6, 14, 31, 0, 0, 0, 384, 896, 2047, 4095]
theorem lw10_tab : rtab .any (opsOf Try.f4 10) = lw10T := by kernel_rfl
theorem lw10_bits : waitsOk lw10T.2 lw10B = true := by kernel_rfl
set_option maxHeartbeats 8000000 in
set_option maxRecDepth 100000 in
theorem cacheLater_calls (A : Option Addr) (c : Nat) (l : List Sd) (key : ByteArray) (rev : Int) (w : World) (g : Kd.C k33 w A l.length l) (hlc : l.length ≤ c) (hm : ∀ s ∈ l, s.f3.length ≤ 140737488355328 ∧ s.f4.length ≤ 140737488355328 ∧ s.f5.length ≤ 140737488355328) (hu8 : ∀ s ∈ l, 0 ≤ s.f0) (hkl : key.size ≤ 140737488355328) (hll : l.length ≤ 140737488355328) :
    Calls Try.prog 4 #[.slice A l.length c, .string key, .int .i64 rev] w fun e w' => e = .returned (.bool true) ∧ Below w.heap.size w w' := by
  obtain ⟨K, r, hr, hfew⟩ := long_is l hm
  have hlong := batonlaw21_long.calls K A c l r w g hlc hr
  obtain ⟨n, hn⟩ : ∃ n, l.length = n := ⟨_, rfl⟩
  have HG := Aside.mk (And.intro g (And.intro hn (And.intro hfew hu8)))
  rw [hn] at hlong hlc hll ⊢
  clear g hn hfew hr hm hu8
  cases r with
  | true =>
    go_enter Try.func4, Try.ntmps4
    go_wp2_with fail
    refine hlong.mono ?_
    rintro e w1 ⟨rfl, hb⟩
    have HB := Aside.mk hb
    clear hb
    go_wp2_with fail
    refine (awake_calls w1).mono ?_
    rintro e w2 ⟨rfl, hb2⟩
    have HB2 := Aside.mk (HB.out.trans (hb2.mono HB.out.size))
    clear hb2
    go_wp2_with fail
    go_ret
    exact ⟨rfl, HB2.out⟩
  | false =>
    have HFEW := Aside.mk (HG.out.2.2.1 rfl)
    by_cases h1 : (key.size : Int) > 300
    · have h1' : 300 < key.size := by omega
      go_enter Try.func4, Try.ntmps4
      go_wp2_with fail
      refine hlong.mono ?_
      rintro e w1 ⟨rfl, hb⟩
      have HB := Aside.mk hb
      clear hb
      go_wp2_with fail
      refine (awake_calls w1).mono ?_
      rintro e w2 ⟨rfl, hb2⟩
      have HB2 := Aside.mk (HB.out.trans (hb2.mono HB.out.size))
      clear hb2
      go_wp2_with fail
      go_ret
      exact ⟨rfl, HB2.out⟩
    · have h1' : key.size ≤ 300 := by omega
      clear h1
      go_enter Try.func4, Try.ntmps4
      go_wp2_with fail
      refine hlong.mono ?_
      rintro e w1 ⟨rfl, hb⟩
      have HB := Aside.mk hb
      clear hb
      go_wp2_with fail
      refine (awake_calls w1).mono ?_
      rintro e w2 ⟨rfl, hb2⟩
      have HB2 := Aside.mk (HB.out.trans (hb2.mono HB.out.size))
      clear hb2 HB
      go_wp2_with fail
      refine (cnew_calls w2).mono ?_
      rintro e w3 ⟨C, M, rfl, hc3, hC, hM, hb3⟩
      have H3 : Aside (CA w3 C M (fun _ => none) (-1) ∧ w.heap.size ≤ C ∧ w.heap.size ≤ M ∧ Below w.heap.size w w3 ∧ w.heap.size ≤ w3.heap.size) := ⟨hc3, Nat.le_trans HB2.out.size hC, Nat.le_trans HB2.out.size hM, HB2.out.trans (hb3.mono HB2.out.size), Nat.le_trans HB2.out.size hb3.size⟩
      clear hc3 hb3 HB2 hlong hC hM
      go_wp2_with fail
      refine (cnew_calls w3).mono ?_
      rintro e w4 ⟨D, L, rfl, hc4, hD, hL, hb4⟩
      have H4 : Aside (O2 w.heap.size w w4 C M D L (fun _ => none) (fun _ => none) (-1) (-1)) := ⟨by
        obtain ⟨h1, h2, h3, h4, h5⟩ := H3.out
        have := h1.ltC
        have := h1.ltM
        exact ⟨h1.below hb4, hc4, ⟨h2, h3, by omega, by omega⟩, ⟨by omega, by omega, by omega, by omega⟩, h4.trans (hb4.mono h5), Nat.le_trans h5 hb4.size⟩⟩
      clear hc4 hb4 H3 hD hL
      have hN5 := heap_alloc_new w4 (Obj.cells #[Value.string key] 9 (0, 0))
      have H5 := Aside.mk (H4.out.below ((Below.refl w4.heap.size w4).alloc (Nat.le_refl _) (Obj.cells #[Value.string key] 9 (0, 0))))
      obtain ⟨b5, hb5⟩ : ∃ b5, w4.heap.size = b5 := ⟨_, rfl⟩
      rw [hb5] at hN5
      have hlr := learn_calls C M (fun _ => none) (-1) rev (some ⟨b5, 0, none⟩) none 1 0 [key] [] (w4.alloc (Obj.cells #[Value.string key] 9 (0, 0))) H5.out.ca (row_one hN5 rfl rfl) (by simp) (by simp) (Kd.C_nil _ _) (by simp) (by simp) (by simp) (fun ad e => by cases e; have := H4.out.ca.ltC; have := H4.out.ca.ltM; exact ⟨by show b5 ≠ C; omega, by show b5 ≠ M; omega⟩) (fun ad e => by cases e)
      obtain ⟨hgood, hbad⟩ := learn_one key rev
      by_cases hrv : 0 ≤ rev ∧ rev ≤ 1099511627776
      · rw [hgood hrv] at hlr
        have HL := Aside.mk hlr
        clear hlr hgood hbad hN5 H4
        go_wp2_with fail
        refine HL.out.mono ?_
        rintro e w6 ⟨rfl, hc6, hf6⟩
        have H6 : Aside (O2 w.heap.size w w6 C M D L (upd (fun _ => none) key (some ⟨rev, false, entZ⟩)) (fun _ => none) (-1) (-1)) := ⟨H5.out.stepA hc6 hf6⟩
        clear hc6 hf6 H5 HL
        have hfw := HFEW.out
        have HF := Aside.mk hfw
        have hn60 : n ≤ 60 := by rw [← HG.out.2.1]; exact hfw.1
        clear hfw
        go_wp2_with fail
        go_loopw [9] (fun v9 wr => ∃ k : Nat, k ≤ n ∧ v9 = .int .i64 k ∧ ∃ (f g : Fcts) (u : Int), Aside (O2 w.heap.size w wr C M D L f g u u ∧ LR key rev f g ∧ u < rev ∧ UOK u ∧ FKN f (900 * k + 1) ∧ FKN g (900 * k + 1))) (fun v9 _ => n - (intOf v9).toNat)
        case atStart => exact ⟨0, by omega, rfl, _, _, -1, ⟨H6.out, ⟨upd_same _ _ _, fun k hk => upd_other _ _ hk⟩, by omega, by unfold UOK; omega, fkn_one key rev (by omega), FKN.none _⟩⟩
        case round =>
          rename_i v9 wr
          obtain ⟨k, hk, rfl, f, g, u, HI⟩ := hrel
          by_cases hkn : k < n
          · obtain ⟨s, hs⟩ : ∃ s, l[k]? = some s := ⟨_, List.getElem?_eq_getElem (by rw [HG.out.2.1]; exact hkn)⟩
            have hfs : Few s := HF.out.2 s (List.mem_of_getElem? hs)
            have hs0 : 0 ≤ s.f0 := HG.out.2.2.2 s (List.mem_of_getElem? hs)
            obtain ⟨ad, A3, c3, A4, c4, A5, c5, he, q0, q1, q2, q3, q4, q5, r3, g3, r4, g4, r5, g5⟩ := at_T33 HG.out.1 (k : Int) (by omega) (by rw [HG.out.2.1]; omega)
            rw [rd_getS hs] at q0 q1 q2 q3 q4 q5 r3 g3 r4 g4 r5 g5
            simp only [Int.toNat_natCast] at q0 q1 q2 q3 q4 q5
            have hSB : SSt w (ad.add (k * 6)) s A3 A4 A5 c3 c4 c5 := ⟨q0, q1, q2, q3, q4, q5⟩
            have HT : ∀ (W : World) (C M : Nat) (f : Fcts), Below w.heap.size w W → CA W C M f u → Calls Try.prog 11 #[.pointer (some ⟨C, 0, none⟩), .agg #[.int .u8 s.f0, .int .i64 s.f1, .int .i64 s.f2, .slice A3 s.f3.length c3, .slice A4 s.f4.length c4, .slice A5 s.f5.length c5]] W fun e w' => e = .returned (.int .i64 (tellM f u s).2) ∧ CA w' C M (tellM f u s).1.1 (tellM f u s).1.2 ∧ Fr (fun k => k = C ∨ k = M) W w' := fun W C M f hb hc =>
              tell_calls C M f u s A3 A4 A5 c3 c4 c5 W hc (Kd.C_below g3 hb) (Kd.C_below g4 hb) (Kd.C_below g5 hb) hfs.1 hfs.2.1 hfs.2.2.1 (fun x hx => by have := (hfs.2.2.2.2.1 x hx).1; omega) (fun x hx => by have := (hfs.2.2.2.2.2 x hx).1; omega) HI.out.2.2.2.1
            have hokf : UOK (tellM f u s).1.2 := tell_uok HI.out.2.2.2.1
            have hkf := HI.out.2.2.2.2.1.tell (u := u) hfs
            have hkg := HI.out.2.2.2.2.2.tell (u := u) hfs
            have hlt := fun h1 h2 => later_tell (s := s) HI.out.2.1 HI.out.2.2.1 h1 h2
            obtain ⟨T, hT⟩ : ∃ T, tellM f u s = T := ⟨_, rfl⟩
            obtain ⟨G, hG⟩ : ∃ G, tellM g u s = G := ⟨_, rfl⟩
            have HT1 := fun W hb hc => HT W C M f hb hc
            have HT2 := fun W hb hc => HT W D L g hb hc
            rw [hT] at HT1 hokf hkf hlt
            rw [hG] at HT2 hkg hlt
            have HSB := Aside.mk hSB
            have HK := Aside.mk (And.intro hokf (And.intro hkf hkg))
            obtain ⟨s0, s1, s2, s3, s4, s5⟩ := s
            dsimp only at hlt HT1 HT2 hs0
            have t0 := HSB.out.below HI.out.1.bel
            have q0 : wr.cell? (ad.add (k * 6)) = some (.int .u8 s0) := t0.1
            have q2 : wr.cell? ⟨(ad.add (k * 6)).block, (ad.add (k * 6)).off + 2, none⟩ = some (.int .i64 s2) := t0.2.2.1
            have HLT := Aside.mk hlt
            have HTT := Aside.mk (And.intro HT1 HT2)
            subst he
            clear hs hfs g3 g4 g5 r3 r4 r5 hokf hkf hkg hT hG HT HT1 HT2 hlt hSB q1 q3 q4 q5
            by_cases hr9 : rev ≤ s2
            · go_wp2_with fail
              go_roundw
              case rel => exact ⟨k + 1, by omega, by go_num, f, g, u, ⟨HI.out.1, HI.out.2.1, HI.out.2.2.1, HI.out.2.2.2.1, HI.out.2.2.2.2.1.mono (by omega), HI.out.2.2.2.2.2.mono (by omega)⟩⟩
              case measure => simp [intOf]; omega
            · have hr9' : s2 < rev := by omega
              clear hr9
              by_cases h01 : 1 < s0
              · go_wp2_with fail
                go_roundw
                case rel => exact ⟨k + 1, by omega, by go_num, f, g, u, ⟨HI.out.1, HI.out.2.1, HI.out.2.2.1, HI.out.2.2.2.1, HI.out.2.2.2.2.1.mono (by omega), HI.out.2.2.2.2.2.mono (by omega)⟩⟩
                case measure => simp [intOf]; omega
              · have h01' : s0 ≤ 1 := by omega
                obtain ⟨e1, e2, e3, e4⟩ := HLT.out (by show s0 = 0 ∨ s0 = 1; omega) hr9'
                have HT2 := HTT.out.2
                rw [← e1] at HT2
                have HTB := Aside.mk HT2
                have HE := Aside.mk (And.intro e2 (And.intro e3 e4))
                have HOD : Aside (O2 w.heap.size w wr.drew C M D L f g u u) := ⟨⟨HI.out.1.ca.keep rfl rfl, HI.out.1.cb.keep rfl rfl, HI.out.1.b, HI.out.1.ne, HI.out.1.bel.drew, HI.out.1.size⟩⟩
                have t0 := HSB.out.below HOD.out.bel
                clear h01 e1 e2 e3 e4 HT2
                go_upto_region 10 with fail
                clear q0 q2
                refine start_ (n := 13) (S := (fun w' => w'.cell? (ad.add (k * 6)) = some (.int .u8 s0) ∧ w'.cell? ⟨(ad.add (k * 6)).block, (ad.add (k * 6)).off + 1, none⟩ = some (.int .i64 s1) ∧ w'.cell? ⟨(ad.add (k * 6)).block, (ad.add (k * 6)).off + 2, none⟩ = some (.int .i64 s2) ∧ w'.cell? ⟨(ad.add (k * 6)).block, (ad.add (k * 6)).off + 3, none⟩ = some (.slice A3 s3.length c3) ∧ w'.cell? ⟨(ad.add (k * 6)).block, (ad.add (k * 6)).off + 4, none⟩ = some (.slice A4 s4.length c4) ∧ w'.cell? ⟨(ad.add (k * 6)).block, (ad.add (k * 6)).off + 5, none⟩ = some (.slice A5 s5.length c5))) (ds := []) #[false, false, false, false, false, false, false, false, false, false, false, false, false] (by kernel_rfl) rfl rfl t0 (fun hHeld => ?_); refine with_tabW lw10_tab lw10_bits (fun HT_ HW_ => ?_)
                refine pure_ (i := 0) (N := (some 63)) (v := ?_) (a' := ?_) #[true, false, false, false, false, false, false, false, false, false, false, false, false] rfl rfl (any_of HT_.out (by kernel_rfl)) (fun _ _ _ h => h) (Or.inl ⟨by rfl, ?_⟩) ?_ ?_
                rotate_left
                · intro w'
                  go_simp
                  with_reducible rfl
                rotate_left
                · simp only [Act.put, List.setIfInBounds_toArray, List.set_cons_zero, List.set_cons_succ, i64_w, i32_w]
                  rfl
                refine pure_ (i := 1) (N := (some 64)) (v := ?_) (a' := ?_) #[true, true, false, false, false, false, false, false, false, false, false, false, false] rfl rfl (any_of HT_.out (by kernel_rfl)) (fun _ _ _ h => h) (Or.inl ⟨by rfl, ?_⟩) ?_ ?_
                rotate_left
                · intro w'
                  go_simp
                  with_reducible rfl
                rotate_left
                · simp only [Act.put, List.setIfInBounds_toArray, List.set_cons_zero, List.set_cons_succ, i64_w, i32_w]
                  rfl
                refine pure_ (i := 2) (N := (some 65)) (v := ?_) (a' := ?_) #[true, true, true, false, false, false, false, false, false, false, false, false, false] rfl rfl (any_of HT_.out (by kernel_rfl)) (fun _ _ _ h => h) (Or.inl ⟨by rfl, ?_⟩) ?_ ?_
                rotate_left
                · intro w'
                  go_simp
                  with_reducible rfl
                rotate_left
                · simp only [Act.put, List.setIfInBounds_toArray, List.set_cons_zero, List.set_cons_succ, i64_w, i32_w]
                  rfl
                refine pure_ (i := 3) (N := (some 66)) (v := ?_) (a' := ?_) #[true, true, true, true, false, false, false, false, false, false, false, false, false] rfl rfl (any_of HT_.out (by kernel_rfl)) (fun _ _ _ h => h) (Or.inl ⟨by rfl, ?_⟩) ?_ ?_
                rotate_left
                · intro w'
                  go_simp
                  with_reducible rfl
                rotate_left
                · simp only [Act.put, List.setIfInBounds_toArray, List.set_cons_zero, List.set_cons_succ, i64_w, i32_w]
                  rfl
                refine take_ (i := 4) (N := (some 67)) (v := ?_) (a' := ?_) #[true, true, true, true, true, false, false, false, false, false, false, false, false] rfl rfl (take_ofW HT_.out HW_.out (by kernel_rfl)) (fun _ _ _ h => h) (Or.inl ⟨by rfl, ?_⟩) hHeld ?_ ?_
                rotate_left
                · rintro w' ⟨z0, z1, z2, z3, z4, z5⟩
                  go_simp
                  with_reducible rfl
                rotate_left
                · simp only [Act.put, List.setIfInBounds_toArray, List.set_cons_zero, List.set_cons_succ, i64_w, i32_w]
                  rfl
                refine pure_ (i := 6) (N := (some 69)) (v := ?_) (a' := ?_) #[true, true, true, true, true, false, true, false, false, false, false, false, false] rfl rfl (any_of HT_.out (by kernel_rfl)) (fun _ _ _ h => h) (Or.inl ⟨by rfl, ?_⟩) ?_ ?_
                rotate_left
                · intro w'
                  go_simp
                  with_reducible rfl
                rotate_left
                · simp only [Act.put, List.setIfInBounds_toArray, List.set_cons_zero, List.set_cons_succ, i64_w, i32_w]
                  rfl
                refine pure_ (i := 7) (N := (some 70)) (v := ?_) (a' := ?_) #[true, true, true, true, true, false, true, true, false, false, false, false, false] rfl rfl (any_of HT_.out (by kernel_rfl)) (fun _ _ _ h => h) (Or.inl ⟨by rfl, ?_⟩) ?_ ?_
                rotate_left
                · intro w'
                  go_simp
                  with_reducible rfl
                rotate_left
                · simp only [Act.put, List.setIfInBounds_toArray, List.set_cons_zero, List.set_cons_succ, i64_w, i32_w]
                  rfl
                refine pure_ (i := 8) (N := (some 71)) (v := ?_) (a' := ?_) #[true, true, true, true, true, false, true, true, true, false, false, false, false] rfl rfl (any_of HT_.out (by kernel_rfl)) (fun _ _ _ h => h) (Or.inl ⟨by rfl, ?_⟩) ?_ ?_
                rotate_left
                · intro w'
                  go_simp
                  with_reducible rfl
                rotate_left
                · simp only [Act.put, List.setIfInBounds_toArray, List.set_cons_zero, List.set_cons_succ, i64_w, i32_w]
                  rfl
                refine pure_ (i := 9) (N := (some 72)) (v := ?_) (a' := ?_) #[true, true, true, true, true, false, true, true, true, true, false, false, false] rfl rfl (any_of HT_.out (by kernel_rfl)) (fun _ _ _ h => h) (Or.inl ⟨by rfl, ?_⟩) ?_ ?_
                rotate_left
                · intro w'
                  go_simp
                  with_reducible rfl
                rotate_left
                · simp only [Act.put, List.setIfInBounds_toArray, List.set_cons_zero, List.set_cons_succ, i64_w, i32_w]
                  rfl
                refine take_ (i := 10) (N := (some 73)) (v := ?_) (a' := ?_) #[true, true, true, true, true, false, true, true, true, true, true, false, false] rfl rfl (take_ofW HT_.out HW_.out (by kernel_rfl)) (fun _ _ _ h => h) (Or.inl ⟨by rfl, ?_⟩) hHeld ?_ ?_
                rotate_left
                · rintro w' ⟨z0, z1, z2, z3, z4, z5⟩
                  go_simp
                  with_reducible rfl
                rotate_left
                · simp only [Act.put, List.setIfInBounds_toArray, List.set_cons_zero, List.set_cons_succ, i64_w, i32_w]
                  rfl
                refine one_ (i := 5) (N := (some 68)) #[true, true, true, true, true, true, true, true, true, true, true, false, false] rfl rfl (one_of HT_.out (by kernel_rfl)) (by decide) (fun K9 hK => ?_)
                refine goes_ Try.func11 (by kernel_rfl) rfl #[.pointer (some ⟨C, 0, none⟩), .agg #[.int .u8 s0, .int .i64 s1, .int .i64 s2, .slice A3 s3.length c3, .slice A4 s4.length c4, .slice A5 s5.length c5]] (by rfl) rfl rfl (by (try simp only [List.map_toArray, List.map_cons, List.map_nil]); first | done | rfl) ?_
                refine (HTT.out.1 wr.drew HOD.out.bel HOD.out.ca).mono ?_
                rintro e w4 ⟨rfl, hC4, hF4⟩
                refine ⟨_, rfl, ?_⟩
                have HO4 : Aside (O2 w.heap.size w w4 C M D L T.1.1 g T.1.2 u) := ⟨HOD.out.stepA hC4 hF4⟩
                clear hC4 hF4
                refine hK.out _ _ (HSB.out.below HO4.out.bel) (fun hHeld => ?_)
                clear hK K9
                refine norm_ (a' := ?_) ?_ ?_
                rotate_left
                · show Act.put _ (some 68) _ = _
                  simp only [Act.put, List.setIfInBounds_toArray, List.set_cons_zero, List.set_cons_succ]
                  rfl
                refine one_ (i := 11) (N := (some 74)) #[true, true, true, true, true, true, true, true, true, true, true, true, false] rfl rfl (one_of HT_.out (by kernel_rfl)) (by decide) (fun K9 hK => ?_)
                refine goes_ Try.func11 (by kernel_rfl) rfl #[.pointer (some ⟨D, 0, none⟩), .agg #[.int .u8 s0, .int .i64 s1, .int .i64 s2, .slice A3 s3.length c3, .slice A4 s4.length c4, .slice A5 s5.length c5]] (by rfl) rfl rfl (by (try simp only [List.map_toArray, List.map_cons, List.map_nil]); first | done | rfl) ?_
                refine (HTB.out w4 HO4.out.bel HO4.out.cb).mono ?_
                rintro e w5 ⟨rfl, hC5, hF5⟩
                refine ⟨_, rfl, ?_⟩
                have HO5 : Aside (O2 w.heap.size w w5 C M D L T.1.1 G.1.1 T.1.2 G.1.2) := ⟨HO4.out.stepB hC5 hF5⟩
                clear hC5 hF5
                refine hK.out _ _ (HSB.out.below HO5.out.bel) (fun hHeld => ?_)
                clear hK K9
                refine norm_ (a' := ?_) ?_ ?_
                rotate_left
                · show Act.put _ (some 74) _ = _
                  simp only [Act.put, List.setIfInBounds_toArray, List.set_cons_zero, List.set_cons_succ]
                  rfl
                refine pure_ (i := 12) (N := (some 75)) (v := .bool false) (a' := ?_) #[true, true, true, true, true, true, true, true, true, true, true, true, true] rfl rfl (any_of HT_.out (by kernel_rfl)) (fun _ _ _ h => h) (Or.inl ⟨by rfl, ?_⟩) ?_ ?_
                · intro w'
                  first | (go_simp; done) | (go_simp; with_reducible rfl) | (go_simp; simp [*]; done) | (go_simp; simp; omega)
                rotate_left
                · simp only [Act.put, List.setIfInBounds_toArray, List.set_cons_zero, List.set_cons_succ, i64_w, i32_w]
                  rfl
                refine done_ (done_of HT_.out (by kernel_rfl)) ?_
                clear HT_ HW_ hHeld
                go_wp2_with fail
                go_roundw
                case rel => exact ⟨k + 1, by omega, by go_num, T.1.1, G.1.1, T.1.2, ⟨by have h := HO5.out; rw [← HE.out.2.1] at h; exact h, HE.out.1, HE.out.2.2, HK.out.1, HK.out.2.1.mono (by omega), HK.out.2.2.mono (by omega)⟩⟩
                case measure => simp [intOf]; omega
          · obtain rfl : n = k := by omega
            have hlr := HI.out.2.1
            have hur := HI.out.2.2.1
            have hg0 := cget_calls C M f u key wr HI.out.1.ca
            rw [show getM f key = (entZ, false) from by unfold getM; rw [hlr.1]; rfl] at hg0
            dsimp only [entZ] at hg0
            have hkf := HI.out.2.2.2.2.1.bnd
            have HKG := HI.out.2.2.2.2.2
            have HLR := Aside.mk (And.intro hlr (And.intro hkf HKG))
            clear hlr hkf HKG
            go_wp2_with fail
            refine hg0.mono ?_
            rintro e w5 ⟨rfl, hb5⟩
            have H7 := Aside.mk (HI.out.1.below hb5)
            clear hb5 hg0
            go_upto_region 13 with fail
            have H8 := Aside.mk (H7.out.below ((Below.refl w5.heap.size w5).alloc (Nat.le_refl _) (Obj.cells #[Value.string { data := #[] }, Value.string { data := #[] }, Value.int IntKind.i64 0, Value.int IntKind.i64 0] 46 (0, 0))))
            generalize (w5.alloc (Obj.cells #[Value.string { data := #[] }, Value.string { data := #[] }, Value.int IntKind.i64 0, Value.int IntKind.i64 0] 46 (0, 0))) = w8 at *
            clear H7
            have he1 := entries_calls C M (900 * n + 1) f u ⟨#[]⟩ w8 H8.out.ca HLR.out.2.1 (by omega)
            go_wp2_with fail
            refine he1.mono ?_
            rintro e w9 ⟨A1, c1, k1, rfl, hk1, hcx, hlx, hC1, hb9⟩
            have H9 := Aside.mk (H8.out.below hb9)
            have he2 := entries_calls D L (900 * n + 1) g u ⟨#[]⟩ w9 H9.out.cb HLR.out.2.2.bnd (by omega)
            clear he1 hb9 H8
            go_wp2_with fail
            refine he2.mono ?_
            rintro e w10 ⟨A2, c2, k2, rfl, hk2, hcy, hly, hC2, hb10⟩
            have H10 := Aside.mk (H9.out.below hb10)
            have hC1 := Kd.C_below hC1 hb10
            have hXY : entsM f ⟨#[]⟩ k1 = (entsM g ⟨#[]⟩ k2).filter (fun x => !eqT x.f0 key) := by
              obtain ⟨LL, hL, _⟩ := HLR.out.2.2
              exact later_entries HLR.out.1 hL hk1 hk2 _
            obtain ⟨X, hX⟩ : ∃ X, entsM f ⟨#[]⟩ k1 = X := ⟨_, rfl⟩
            obtain ⟨Y, hY⟩ : ∃ Y, entsM g ⟨#[]⟩ k2 = Y := ⟨_, rfl⟩
            rw [hX] at hcx hlx hC1 hXY ⊢
            rw [hY] at hcy hly hC2 hXY ⊢
            obtain ⟨m, hm⟩ : ∃ m, Y.length = m := ⟨_, rfl⟩
            obtain ⟨mx, hmx⟩ : ∃ m, X.length = m := ⟨_, rfl⟩
            rw [hm] at hcy hly ⊢
            rw [hmx] at hcx hlx ⊢
            have HX := Aside.mk (And.intro hXY (And.intro hC1 (And.intro hC2 (And.intro hm hmx))))
            clear hb10 he2 H9 hk1 hk2 hX hY hXY hC1 hC2 hm hmx
            have HIN := Aside.mk (info_parts ent_info)
            obtain ⟨i0, hi, hz0, hz1, hz2⟩ := HIN.out
            have HIN := Aside.mk (And.intro hi (And.intro hz0 (And.intro hz1 hz2)))
            clear hi hz0 hz1 hz2
            obtain ⟨Bz, hBz⟩ : ∃ b, w10.heap.size = b := ⟨_, rfl⟩
            have HBZ := Aside.mk hBz
            clear hBz
            go_wp2_with fail
            go_loopw [14, 15] (fun v14 v15 wr => ∃ k : Nat, k ≤ m ∧ v15 = .int .i64 k ∧ Aside (wr.ownsRow Bz 46 4 v14 ((Y.take k).filter (fun x => !eqT x.f0 key)).length (ecells ((Y.take k).filter (fun x => !eqT x.f0 key))) ∧ Below Bz w10 wr)) (fun _ v15 _ => m - (intOf v15).toNat)
            case atStart => exact ⟨0, by omega, rfl, ⟨World.ownsRow_nil _ _ _ _, Below.refl _ _⟩⟩
            case round =>
              obtain ⟨k, hk, rfl, HR⟩ := hrel
              have hbz := HBZ.out
              by_cases hkm : k < m
              · obtain ⟨y, hy⟩ : ∃ y, Y[k]? = some y := ⟨_, List.getElem?_eq_getElem (by rw [HX.out.2.2.2.1]; exact hkm)⟩
                have hb2 : Below w10.heap.size w10 wr := by rw [hbz]; exact HR.out.2
                obtain ⟨ad, he, y0, y1, y2, y3⟩ := at_T46 (Kd.C_below HX.out.2.2.1 hb2) (k : Int) (by omega) (by rw [HX.out.2.2.2.1]; omega)
                rw [rd_getE hy] at y0 y1 y2 y3
                simp only [Int.toNat_natCast] at y0 y1 y2 y3
                have htk : (Y.take (k + 1)).filter (fun x => !eqT x.f0 key) = (Y.take k).filter (fun x => !eqT x.f0 key) ++ (if eqT y.f0 key = true then [] else [y]) := by
                  rw [List.take_add_one, hy, List.filter_append]
                  cases hq : eqT y.f0 key <;> simp [hq]
                have hfl : ((Y.take k).filter (fun x => !eqT x.f0 key)).length ≤ k := Nat.le_trans (List.length_filter_le _ _) (List.length_take_le _ _)
                obtain ⟨q, hq⟩ : ∃ q, ((Y.take k).filter (fun x => !eqT x.f0 key)).length = q := ⟨_, rfl⟩
                rw [hq] at hfl
                have HQ := Aside.mk hq
                have hown := HR.out.1
                rw [hq] at hown
                have HO := Aside.mk hown
                obtain ⟨y0c, y1c, y2c, y3c⟩ := y
                dsimp only at y0 y1 y2 y3 htk
                subst he
                have HS := Aside.mk HR.out.2.size
                cases hqe : eqT y0c key with
                | true =>
                  have hb : (y0c.toList == key.toList) = true := hqe
                  rw [if_pos hqe, List.append_nil] at htk
                  have HZ := Aside.mk htk
                  clear htk hqe hy hq hown hb2 hbz
                  go_wp2_with fail
                  go_roundw
                  case rel => exact ⟨k + 1, by omega, by go_num, by rw [HZ.out]; exact HR⟩
                  case measure => simp [intOf]; omega
                | false =>
                  have hb : (y0c.toList == key.toList) = false := hqe
                  rw [if_neg (by rw [hqe]; decide)] at htk
                  have HZ := Aside.mk htk
                  clear htk hqe hy hq hown hb2 hbz
                  go_wp2_with (at_builtin; refine wpList_append_own _ rfl _ _ 30 rfl Bz 46 i0 (.agg #[.string (ByteArray.mk #[]), .string (ByteArray.mk #[]), .int .i64 0, .int .i64 0]) 4 48 Try.underlying30 HIN.out.1 HIN.out.2.1 HIN.out.2.2.1 HIN.out.2.2.2 rfl (by decide) _ _ _ rfl (HO.out.alloc _) ⟨wr.heap.size, 0, none⟩ 1 1 [.string y0c, .string y1c, .int .i64 y2c, .int .i64 y3c] rfl rfl ?c1 ?c2 ?c3 ?c4 ?c5 ?_)
                  case c1 => exact cell_four_new wr _ _ _ _ _
                  case c2 => simp [Value.oneCell']
                  case c3 => unfold maxLen; omega
                  case c4 => omega
                  case c5 => have := HS.out; have := HBZ.out; simp; omega
                  intro v5 W2 hown hgrow hnn
                  have HO2 : Aside (W2.ownsRow Bz 46 4 v5 ((Y.take (k + 1)).filter (fun x => !eqT x.f0 key)).length (ecells ((Y.take (k + 1)).filter (fun x => !eqT x.f0 key))) ∧ Below Bz w10 W2) := ⟨by
                    rw [HZ.out, List.length_append, HQ.out, ecells_snoc]
                    have h1 := HS.out
                    have h2 := HBZ.out
                    exact ⟨hown, (HR.out.2.alloc (by omega) _).grown hgrow (by simp; omega) (fun q e => (HO.out.lt q e).1)⟩⟩
                  clear hown hgrow hnn
                  go_wp2_with fail
                  go_roundw
                  case rel => exact ⟨k + 1, by omega, by go_num, HO2⟩
                  case measure => simp [intOf]; omega
              · obtain rfl : m = k := by omega
                have hown := HR.out.1
                rw [List.take_of_length_le (by rw [HX.out.2.2.2.1]; exact Nat.le_refl _), ← HX.out.1] at hown
                have hR : k46.R 46 wr Bz (fun _ => True) u14 X := ⟨fun _ _ => trivial, ecells X, hown, ecells_reps _ _ _ _⟩
                obtain ⟨A3, c3, rfl, hc3, hC3⟩ := Kd.R_reads hR
                have hb2 : Below w10.heap.size w10 wr := by rw [hbz]; exact HR.out.2
                have H11 := Aside.mk (H10.out.below hb2)
                have hC1 := Kd.C_below HX.out.2.1 hb2
                have hen := fun v hv1 hv3 => batonref12_Entries.calls (X.length + 1) A1 c1 X A3 c3 X true v hv1 (by rw [HX.out.2.2.2.2]; exact hcx) hv3 hc3 (entries_refl X (by rw [HX.out.2.2.2.2]; omega))
                rw [HX.out.2.2.2.2] at hc3 hC3 hC1 hen ⊢
                have HEN := Aside.mk (And.intro hen (And.intro hC1 hC3))
                have ha := casof_calls C M f u key wr H11.out.ca
                rw [show asofM f u key = rev from by unfold asofM; rw [HLR.out.1.1]; dsimp only; rw [if_neg (by omega)]] at ha
                clear hown hR hb2 hC1 hC3 hen HR H10 HX
                go_wp2_with fail
                refine ha.mono ?_
                rintro e w12 ⟨rfl, hb12⟩
                have H12 := Aside.mk (H11.out.below hb12)
                have HB12 := Aside.mk hb12
                clear hb12 ha H11
                go_wp2_with fail
                refine (cupto_calls C M f u w12 H12.out.ca).mono ?_
                rintro e w13 ⟨rfl, rfl⟩
                go_wp2_with fail
                refine (cupto_calls D L g u w12 H12.out.cb).mono ?_
                rintro e w13 ⟨rfl, rfl⟩
                go_wp2_with fail
                refine (HEN.out.1 w12 (Kd.C_below HEN.out.2.1 HB12.out) (Kd.C_below HEN.out.2.2 HB12.out)).mono ?_
                rintro e w13 ⟨rfl, hd⟩
                obtain ⟨q, rfl⟩ := drawn_fr hd
                go_wp2_with fail
                go_ret
                exact ⟨rfl, H12.out.bel.trans ⟨rfl, rfl, rfl, Nat.le_refl _, fun _ _ => rfl⟩⟩
      · rw [hbad hrv] at hlr
        have HL := Aside.mk hlr
        clear hlr hgood hbad hN5 H4
        go_wp2_with fail
        refine HL.out.mono ?_
        rintro e w6 ⟨rfl, hc6, hf6⟩
        have HB6 := Aside.mk (H5.out.stepA hc6 hf6).bel
        clear hc6 hf6 H5 HL
        by_cases hneg : rev < 0
        · go_wp2_with fail
          go_ret
          exact ⟨rfl, HB6.out⟩
        · have hpos : 1099511627776 < rev := by omega
          go_wp2_with fail
          go_ret
          exact ⟨rfl, HB6.out⟩
theorem later_walk (A : Option Addr) (c : Nat) (l : List S33) (key : ByteArray) (rev : Int) {W : World} (g : Kd.C k33 W A l.length l) (hlc : l.length ≤ c) (ok : Open.okSl 96 ok33 l) (w1 : key.size ≤ 140737488351232) :
    Calls Try.prog 4 #[.slice A l.length c, .string key, .int .i64 rev] W fun e w' => e = .returned (.bool true) ∧ Below W.heap.size W w' :=
  cacheLater_calls A c l key rev W g hlc (fun s hs => by
    obtain ⟨-, -, -, h3, h4, h5⟩ := ok.2.2 s hs
    have := h3.2.1
    have := h4.2.1
    have := h5.2.1
    omega) (fun s hs => by
    obtain ⟨h0, -⟩ := ok.2.2 s hs
    unfold Open.okInt Lit.wf at h0
    simp only [Bool.and_eq_true, decide_eq_true_eq] at h0
    exact h0.1) (by omega) (by have := ok.2.1; omega)
end Go.Proofs.Ytagkobpbhfkmdaa.C
