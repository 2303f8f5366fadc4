/- CacheKnown: the walk. -/
import Derived.Test.YtagkobpbhfkmdaaAW
import Derived.Test.YtagkobpbhfkmdaaTO
namespace Go.Proofs.Ytagkobpbhfkmdaa.C
open Go.RowKit Go.ChangeMaps Go.Proofs.Ytagkobpbhfkmdaa.Q Go.Proofs.YtagkobpbhfkmdaaW.PrintLast Go.Proofs.YtagkobpbhfkmdaaW.PrintWords
set_option linter.unusedVariables false
set_option linter.unusedSimpArgs false
theorem clusterK_none {t c : ByteArray} (h : nameB t = false ∨ nameB c = false) : (clusterK t c).toList.isEmpty = true := by
  unfold clusterK
  rw [if_neg (by rcases h with h | h <;> simp [h])]
  rw [ByteArray.toList_eq]
  rfl
set_option maxHeartbeats 8000000 in
set_option maxRecDepth 100000 in
theorem cacheKnown_calls (A : Option Addr) (c : Nat) (l : List S33) (tn cl : ByteArray) (w : World) (g : Kd.C k33 w A l.length l) (hlc : l.length ≤ c) (hm : ∀ s ∈ l, s.f3.length ≤ 140737488355328 ∧ s.f4.length ≤ 140737488355328 ∧ s.f5.length ≤ 140737488355328) (ht : tn.size ≤ 140737488355328) (hc : cl.size ≤ 140737488355328) (hll : l.length ≤ 140737488355328) :
    Calls Try.prog 3 #[.slice A l.length c, .string tn, .string cl] w fun e w' => e = .returned (.bool true) ∧ Below w.heap.size w w' := by
  obtain ⟨K, r, hr, hfew⟩ := long_is l hm
  have hlong := batonlaw21_long.calls K A c l r w g hlc hr
  obtain ⟨n, hn⟩ : ∃ n, l.length = n := ⟨_, rfl⟩
  have HG := Aside.mk (And.intro g (And.intro hn hfew))
  rw [hn] at hlong hlc hll ⊢
  clear g hn hfew hr hm
  cases r with
  | true =>
    go_enter Try.func3, Try.ntmps3
    go_wp2_with fail
    refine hlong.mono ?_
    rintro e w1 ⟨rfl, hb⟩
    have HB := Aside.mk hb
    clear hb
    go_wp2_with fail
    refine (awake_calls w1).mono ?_
    rintro e w2 ⟨rfl, hb2⟩
    have HB2 := Aside.mk (HB.out.trans (hb2.mono HB.out.size))
    clear hb2
    go_wp2_with fail
    go_ret
    exact ⟨rfl, HB2.out⟩
  | false =>
    have HFEW := Aside.mk (HG.out.2.2 rfl)
    by_cases h1 : (tn.size : Int) > 300
    · have h1' : 300 < tn.size := by omega
      go_enter Try.func3, Try.ntmps3
      go_wp2_with fail
      refine hlong.mono ?_
      rintro e w1 ⟨rfl, hb⟩
      have HB := Aside.mk hb
      clear hb
      go_wp2_with fail
      refine (awake_calls w1).mono ?_
      rintro e w2 ⟨rfl, hb2⟩
      have HB2 := Aside.mk (HB.out.trans (hb2.mono HB.out.size))
      clear hb2
      go_wp2_with fail
      go_ret
      exact ⟨rfl, HB2.out⟩
    · have h1' : tn.size ≤ 300 := by omega
      clear h1
      by_cases h2 : (cl.size : Int) > 300
      · have h2' : 300 < cl.size := by omega
        go_enter Try.func3, Try.ntmps3
        go_wp2_with fail
        refine hlong.mono ?_
        rintro e w1 ⟨rfl, hb⟩
        have HB := Aside.mk hb
        clear hb
        go_wp2_with fail
        refine (awake_calls w1).mono ?_
        rintro e w2 ⟨rfl, hb2⟩
        have HB2 := Aside.mk (HB.out.trans (hb2.mono HB.out.size))
        clear hb2
        go_wp2_with fail
        go_ret
        exact ⟨rfl, HB2.out⟩
      · have h2' : cl.size ≤ 300 := by omega
        clear h2
        go_enter Try.func3, Try.ntmps3
        go_wp2_with fail
        refine hlong.mono ?_
        rintro e w1 ⟨rfl, hb⟩
        have HB := Aside.mk hb
        clear hb
        go_wp2_with fail
        refine (awake_calls w1).mono ?_
        rintro e w2 ⟨rfl, hb2⟩
        have HB2 := Aside.mk (HB.out.trans (hb2.mono HB.out.size))
        clear hb2 HB
        go_wp2_with fail
        refine (cnew_calls w2).mono ?_
        rintro e w3 ⟨C, M, rfl, hc3, hC, hM, hb3⟩
        have H3 : Aside (OC w.heap.size w w3 C M (fun _ => none) (-1)) := ⟨⟨hc3, Nat.le_trans HB2.out.size hC, Nat.le_trans HB2.out.size hM, HB2.out.trans (hb3.mono HB2.out.size), Nat.le_trans HB2.out.size hb3.size⟩⟩
        clear hc3 hb3 HB2 hlong
        have hfw := HFEW.out
        have HF := Aside.mk hfw
        have hn60 : n ≤ 60 := by rw [← HG.out.2.1]; exact hfw.1
        clear hfw
        go_wp2_with fail
        go_loopw [8] (fun v8 wr => ∃ k : Nat, k ≤ n ∧ v8 = .int .i64 k ∧ ∃ (f : Fcts) (u : Int), Aside (OC w.heap.size w wr C M f u ∧ FOK f ∧ UOK u)) (fun v8 _ => n - (intOf v8).toNat)
        case atStart => exact ⟨0, by omega, rfl, fun _ => none, -1, ⟨H3.out, (fun k v h => by cases h), (by unfold UOK; omega)⟩⟩
        case round =>
          rename_i v8 wr
          obtain ⟨k, hk, rfl, f, u, HI⟩ := hrel
          by_cases hkn : k < n
          · obtain ⟨s, hs⟩ : ∃ s, l[k]? = some s := ⟨_, List.getElem?_eq_getElem (by rw [HG.out.2.1]; exact hkn)⟩
            have hfs : Few s := HF.out.2 s (List.mem_of_getElem? hs)
            obtain ⟨ad, A3, c3, A4, c4, A5, c5, he, q0, q1, q2, q3, q4, q5, r3, g3, r4, g4, r5, g5⟩ := at_T33 (Kd.C_below HG.out.1 HI.out.1.bel) (k : Int) (by omega) (by rw [HG.out.2.1]; omega)
            rw [rd_getS hs] at q0 q1 q2 q3 q4 q5 r3 g3 r4 g4 r5 g5
            simp only [Int.toNat_natCast] at q0 q1 q2 q3 q4 q5
            have ht := tell_calls C M f u s A3 A4 A5 c3 c4 c5 wr HI.out.1.ca g3 g4 g5 hfs.1 hfs.2.1 hfs.2.2.1 (fun x hx => by have := (hfs.2.2.2.2.1 x hx).1; omega) (fun x hx => by have := (hfs.2.2.2.2.2 x hx).1; omega) HI.out.2.2
            have hok := tell_ok HI.out.2.1 HI.out.2.2 hfs
            obtain ⟨T, hT⟩ : ∃ T, tellM f u s = T := ⟨_, rfl⟩
            rw [hT] at ht hok
            have HOK := Aside.mk hok
            obtain ⟨s0, s1, s2, s3, s4, s5⟩ := s
            dsimp only at q0 q1 q2 q3 q4 q5 ht
            subst he
            clear hs hfs g3 g4 g5 r3 r4 r5 hok hT
            go_wp2_with fail
            refine ht.mono ?_
            rintro e w4 ⟨rfl, hC4, hF4⟩
            have HI4 : Aside (OC w.heap.size w w4 C M T.1.1 T.1.2 ∧ FOK T.1.1 ∧ UOK T.1.2) := ⟨HI.out.1.step hC4 hF4, HOK.out.1, HOK.out.2⟩
            clear hC4 hF4 HI HOK
            go_wp2_with fail
            go_roundw
            case rel => exact ⟨k + 1, by omega, by go_num, _, _, HI4⟩
            case measure => simp [intOf]; omega
          · obtain rfl : n = k := by omega
            have hkn := known_calls C M f u tn cl (by omega) (by omega) (fun k v h => (HI.out.2.1 k v h).1) wr HI.out.1.ca
            obtain ⟨X, hX⟩ : ∃ X, knownM f u tn cl = X := ⟨_, rfl⟩
            rw [hX] at hkn
            have HX := Aside.mk hX
            clear hX
            replace hkn := hkn.mono (fun e w' h => (show e = .returned (.tuple #[.agg #[.string X.1.r.rep, .int .i64 X.1.r.ep, .int .i64 X.1.r.tm, .bool X.1.r.gone, .bool X.1.there, .int .i64 X.1.mod, .int .i64 X.1.t.live, .int .i64 X.1.t.epochs, .int .i64 X.1.tmod], .bool X.2]) ∧ Below wr.heap.size wr w' from h))
            go_wp2_with fail
            refine hkn.mono ?_
            rintro e w5 ⟨rfl, hb5⟩
            have H5 := Aside.mk (HI.out.1.below hb5)
            clear hb5 hkn
            go_upto_region 9 with fail
            have hK6 := heap_alloc_new w5 (Obj.cells #[Value.string X.1.r.rep, Value.int IntKind.i64 X.1.r.ep, Value.int IntKind.i64 X.1.r.tm, Value.bool X.1.r.gone, Value.bool X.1.there, Value.int IntKind.i64 X.1.mod, Value.int IntKind.i64 X.1.t.live, Value.int IntKind.i64 X.1.t.epochs, Value.int IntKind.i64 X.1.tmod] 39 (0, 0))
            have H6 := Aside.mk (H5.out.below ((Below.refl w5.heap.size w5).alloc (Nat.le_refl _) (Obj.cells #[Value.string X.1.r.rep, Value.int IntKind.i64 X.1.r.ep, Value.int IntKind.i64 X.1.r.tm, Value.bool X.1.r.gone, Value.bool X.1.there, Value.int IntKind.i64 X.1.mod, Value.int IntKind.i64 X.1.t.live, Value.int IntKind.i64 X.1.t.epochs, Value.int IntKind.i64 X.1.tmod] 39 (0, 0))))
            obtain ⟨b, hb⟩ : ∃ b, w5.heap.size = b := ⟨_, rfl⟩
            rw [hb] at hK6
            clear H5
            generalize (w5.alloc (Obj.cells #[Value.string X.1.r.rep, Value.int IntKind.i64 X.1.r.ep, Value.int IntKind.i64 X.1.r.tm, Value.bool X.1.r.gone, Value.bool X.1.there, Value.int IntKind.i64 X.1.mod, Value.int IntKind.i64 X.1.t.live, Value.int IntKind.i64 X.1.t.epochs, Value.int IntKind.i64 X.1.tmod] 39 (0, 0))) = w6 at *
            have HK6 := Aside.mk hK6
            clear hK6
            have hn1 := fun v => name_calls tn (by omega) v
            have hn2 := fun v => name_calls cl (by omega) v
            cases hnt : nameB tn with
            | false =>
              rw [hnt] at hn1
              have HX2 : Aside (X.2 = false) := ⟨by rw [← HX.out]; unfold knownM; rw [if_pos (.inl (clusterK_none (.inl hnt)))]⟩
              obtain ⟨X1, X2⟩ := X
              have hx2 : X2 = false := HX2.out
              subst hx2
              go_wp2_with fail
              refine (hn1 _).mono ?_
              rintro e w7 ⟨rfl, hd⟩
              obtain ⟨q, rfl⟩ := drawn_fr hd
              go_wp2_with fail
              go_ret
              exact ⟨rfl, H6.out.bel.trans ⟨rfl, rfl, rfl, Nat.le_refl _, fun _ _ => rfl⟩⟩
            | true =>
              rw [hnt] at hn1
              cases hnc : nameB cl with
              | false =>
                rw [hnc] at hn2
                have HX2 : Aside (X.2 = false) := ⟨by rw [← HX.out]; unfold knownM; rw [if_pos (.inl (clusterK_none (.inr hnc)))]⟩
                obtain ⟨X1, X2⟩ := X
                have hx2 : X2 = false := HX2.out
                subst hx2
                go_wp2_with fail
                refine (hn1 _).mono ?_
                rintro e w7 ⟨rfl, hd⟩
                obtain ⟨q, rfl⟩ := drawn_fr hd
                go_wp2_with fail
                refine (hn2 _).mono ?_
                rintro e w7 ⟨rfl, hd⟩
                obtain ⟨q2, rfl⟩ := drawn_fr hd
                go_wp2_with fail
                go_ret
                exact ⟨rfl, H6.out.bel.trans ⟨rfl, rfl, rfl, Nat.le_refl _, fun _ _ => rfl⟩⟩
              | true =>
                rw [hnc] at hn2
                have hk1 := fun v => cluster_calls tn cl (by omega) (by omega) v
                have hk2 := fun v => tenant_calls tn (by omega) v
                have hxx := HX.out
                unfold knownM at hxx
                rw [clusterK_some hnt hnc] at hxx
                obtain ⟨key, hkey⟩ : ∃ key, clusterK tn cl = key := ⟨_, rfl⟩
                obtain ⟨above, habove⟩ : ∃ above, tenantK tn = above := ⟨_, rfl⟩
                rw [hkey] at hk1 hxx
                rw [habove] at hk2 hxx
                have HXX := Aside.mk hxx
                have HK1 := Aside.mk hk1
                have HK2 := Aside.mk hk2
                clear hkey habove hxx hk1 hk2
                go_wp2_with fail
                refine (hn1 _).mono ?_
                rintro e w7 ⟨rfl, hd⟩
                obtain ⟨q, rfl⟩ := drawn_fr hd
                go_wp2_with fail
                refine (hn2 _).mono ?_
                rintro e w7 ⟨rfl, hd⟩
                obtain ⟨q2, rfl⟩ := drawn_fr hd
                go_wp2_with fail
                refine (HK1.out _).mono ?_
                rintro e w7 ⟨rfl, q3, rfl⟩
                go_wp2_with fail
                refine (HK2.out _).mono ?_
                rintro e w7 ⟨rfl, q4, rfl⟩
                have H7 : Aside (OC w.heap.size w (w6.drewN (q + q2 + q3 + q4)) C M f u ∧ (w6.drewN (q + q2 + q3 + q4)).heap[b]? = some (Obj.cells #[Value.string X.1.r.rep, Value.int IntKind.i64 X.1.r.ep, Value.int IntKind.i64 X.1.r.tm, Value.bool X.1.r.gone, Value.bool X.1.there, Value.int IntKind.i64 X.1.mod, Value.int IntKind.i64 X.1.t.live, Value.int IntKind.i64 X.1.t.epochs, Value.int IntKind.i64 X.1.tmod] 39 (0, 0))) := ⟨⟨H6.out.ca.keep rfl rfl, H6.out.c, H6.out.m, H6.out.bel.trans ⟨rfl, rfl, rfl, Nat.le_refl _, fun _ _ => rfl⟩, H6.out.size⟩, HK6.out⟩
                clear H6 HK6 HK1 HK2 hn1 hn2
                obtain ⟨⟨xa, ia⟩, hxa⟩ : ∃ g, getM f key = g := ⟨_, rfl⟩
                obtain ⟨⟨xb, ib⟩, hxb⟩ : ∃ g, getM f above = g := ⟨_, rfl⟩
                have HXA : Aside (ia = false → xa = entZ) := ⟨fun h => by have := getM_none HI.out.2.1 key (by rw [hxa]; exact h); rw [hxa] at this; exact this⟩
                have HXB : Aside (ib = false → xb = entZ) := ⟨fun h => by have := getM_none HI.out.2.1 above (by rw [hxb]; exact h); rw [hxb] at this; exact this⟩
                have hxx := HXX.out
                rw [hxa, hxb] at hxx
                have HXX := Aside.mk hxx
                have hg1 := fun v hv => cget_calls C M f u key v hv
                have hg2 := fun v hv => cget_calls C M f u above v hv
                rw [hxa] at hg1
                rw [hxb] at hg2
                dsimp only at hg1 hg2
                have HG2 := Aside.mk hg2
                clear hxx hxa hxb hg2
                go_wp2_with fail
                generalize (w6.drewN (q + q2 + q3 + q4)) = w7 at *
                refine (hg1 w7 H7.out.1.ca).mono ?_
                rintro e w8 ⟨rfl, hb8⟩
                have H8 : Aside (OC w.heap.size w w8 C M f u ∧ w8.heap[b]? = some (Obj.cells #[Value.string X.1.r.rep, Value.int IntKind.i64 X.1.r.ep, Value.int IntKind.i64 X.1.r.tm, Value.bool X.1.r.gone, Value.bool X.1.there, Value.int IntKind.i64 X.1.mod, Value.int IntKind.i64 X.1.t.live, Value.int IntKind.i64 X.1.t.epochs, Value.int IntKind.i64 X.1.tmod] 39 (0, 0))) := ⟨H7.out.1.below hb8, (hb8.block b (lt_of_block H7.out.2)).trans H7.out.2⟩
                clear hb8 H7 hg1
                go_wp2_with fail
                have hE9 := heap_alloc_new w8 (Obj.cells #[Value.string xa.key, Value.string xa.val, Value.int IntKind.i64 xa.made, Value.int IntKind.i64 xa.mod] 46 (0, 0))
                have H9 := Aside.mk (And.intro (H8.out.1.below ((Below.refl w8.heap.size w8).alloc (Nat.le_refl _) (Obj.cells #[Value.string xa.key, Value.string xa.val, Value.int IntKind.i64 xa.made, Value.int IntKind.i64 xa.mod] 46 (0, 0)))) (blk_al H8.out.2 (Obj.cells #[Value.string xa.key, Value.string xa.val, Value.int IntKind.i64 xa.made, Value.int IntKind.i64 xa.mod] 46 (0, 0))))
                obtain ⟨ba, hba⟩ : ∃ ba, w8.heap.size = ba := ⟨_, rfl⟩
                rw [hba] at hE9
                clear H8
                generalize (w8.alloc (Obj.cells #[Value.string xa.key, Value.string xa.val, Value.int IntKind.i64 xa.made, Value.int IntKind.i64 xa.mod] 46 (0, 0))) = w9 at *
                refine (HG2.out w9 H9.out.1.ca).mono ?_
                rintro e w10 ⟨rfl, hb10⟩
                have H10 := Aside.mk (And.intro (H9.out.1.below hb10) (And.intro ((hb10.block b (lt_of_block H9.out.2)).trans H9.out.2) ((hb10.block ba (lt_of_block hE9)).trans hE9)))
                clear hb10 H9 hE9 HG2
                have hE11 := heap_alloc_new w10 (Obj.cells #[Value.string xb.key, Value.string xb.val, Value.int IntKind.i64 xb.made, Value.int IntKind.i64 xb.mod] 46 (0, 0))
                have H11 := Aside.mk (And.intro (H10.out.1.below ((Below.refl w10.heap.size w10).alloc (Nat.le_refl _) (Obj.cells #[Value.string xb.key, Value.string xb.val, Value.int IntKind.i64 xb.made, Value.int IntKind.i64 xb.mod] 46 (0, 0)))) (And.intro (blk_al H10.out.2.1 (Obj.cells #[Value.string xb.key, Value.string xb.val, Value.int IntKind.i64 xb.made, Value.int IntKind.i64 xb.mod] 46 (0, 0))) (blk_al H10.out.2.2 (Obj.cells #[Value.string xb.key, Value.string xb.val, Value.int IntKind.i64 xb.made, Value.int IntKind.i64 xb.mod] 46 (0, 0)))))
                obtain ⟨bb, hbb⟩ : ∃ bb, w10.heap.size = bb := ⟨_, rfl⟩
                rw [hbb] at hE11
                clear H10
                go_upto_region 14 with fail
                generalize (w10.alloc (Obj.cells #[Value.string xb.key, Value.string xb.val, Value.int IntKind.i64 xb.made, Value.int IntKind.i64 xb.mod] 46 (0, 0))) = w11 at *
                obtain ⟨a1, ha1⟩ : ∃ a, asofM f u key = a := ⟨_, rfl⟩
                obtain ⟨a2, ha2⟩ : ∃ a, asofM f u above = a := ⟨_, rfl⟩
                have hge1 : -1 ≤ a1 := by rw [← ha1]; exact asofM_ge HI.out.2.2 key
                have hge2 : -1 ≤ a2 := by rw [← ha2]; exact asofM_ge HI.out.2.2 above
                have hxx := HXX.out
                rw [ha1, ha2] at hxx
                have HXX := Aside.mk hxx
                have hs1 := casof_calls C M f u key w11 H11.out.1.ca
                rw [ha1] at hs1
                have HS2 := Aside.mk ha2
                clear hxx ha1 ha2
                go_wp2_with fail
                refine hs1.mono ?_
                rintro e w12 ⟨rfl, hb12⟩
                have H12 := Aside.mk (And.intro (H11.out.1.below hb12) (And.intro ((hb12.block b (lt_of_block H11.out.2.1)).trans H11.out.2.1) (And.intro ((hb12.block ba (lt_of_block H11.out.2.2)).trans H11.out.2.2) ((hb12.block bb (lt_of_block hE11)).trans hE11))))
                clear hb12 H11 hE11 hs1
                have p4 : w12.cell? ⟨b, 4, none⟩ = some (.bool X.1.there) := cell_at H12.out.2.1 4
                have p5 : w12.cell? ⟨b, 5, none⟩ = some (.int .i64 X.1.mod) := cell_at H12.out.2.1 5
                have p8 : w12.cell? ⟨b, 8, none⟩ = some (.int .i64 X.1.tmod) := cell_at H12.out.2.1 8
                by_cases hn1 : a1 < 0
                · have HXZ : Aside (X = (knwZ, false)) := ⟨by rw [← HXX.out, if_pos (.inr (.inl (by omega)))]⟩
                  obtain ⟨⟨kr, kt, km, kten, ktm⟩, X2⟩ := X
                  have hx := HXZ.out
                  cases hx
                  dsimp only [knwZ] at p4 p5 p8
                  clear HXX HXZ
                  go_wp2_with fail
                  go_ret
                  exact ⟨rfl, H12.out.1.bel⟩
                · have hn1' : 0 ≤ a1 := by omega
                  have hs2 := casof_calls C M f u above w12 H12.out.1.ca
                  rw [HS2.out] at hs2
                  clear p4 p5 p8
                  go_wp2_with fail
                  refine hs2.mono ?_
                  rintro e w13 ⟨rfl, hb13⟩
                  have H13 := Aside.mk (And.intro (H12.out.1.below hb13) (And.intro ((hb13.block b (lt_of_block H12.out.2.1)).trans H12.out.2.1) (And.intro ((hb13.block ba (lt_of_block H12.out.2.2.1)).trans H12.out.2.2.1) ((hb13.block bb (lt_of_block H12.out.2.2.2)).trans H12.out.2.2.2))))
                  clear hb13 H12 hs2
                  have p4 : w13.cell? ⟨b, 4, none⟩ = some (.bool X.1.there) := cell_at H13.out.2.1 4
                  have p5 : w13.cell? ⟨b, 5, none⟩ = some (.int .i64 X.1.mod) := cell_at H13.out.2.1 5
                  have p8 : w13.cell? ⟨b, 8, none⟩ = some (.int .i64 X.1.tmod) := cell_at H13.out.2.1 8
                  by_cases hn2 : a2 < 0
                  · have HXZ : Aside (X = (knwZ, false)) := ⟨by rw [← HXX.out, if_pos (.inr (.inr (by omega)))]⟩
                    obtain ⟨⟨kr, kt, km, kten, ktm⟩, X2⟩ := X
                    have hx := HXZ.out
                    cases hx
                    dsimp only [knwZ] at p4 p5 p8
                    clear HXX HXZ
                    go_wp2_with fail
                    go_ret
                    exact ⟨rfl, H13.out.1.bel⟩
                  · have hn2' : 0 ≤ a2 := by omega
                    have hxx := HXX.out
                    rw [if_neg (by simp; omega)] at hxx
                    unfold knownX at hxx
                    dsimp only at hxx
                    have HXX := Aside.mk hxx
                    clear hxx
                    have p0 : w13.cell? ⟨b, 0, none⟩ = some (.string X.1.r.rep) := cell_at H13.out.2.1 0
                    have p1 : w13.cell? ⟨b, 1, none⟩ = some (.int .i64 X.1.r.ep) := cell_at H13.out.2.1 1
                    have p2 : w13.cell? ⟨b, 2, none⟩ = some (.int .i64 X.1.r.tm) := cell_at H13.out.2.1 2
                    have p3 : w13.cell? ⟨b, 3, none⟩ = some (.bool X.1.r.gone) := cell_at H13.out.2.1 3
                    have p6 : w13.cell? ⟨b, 6, none⟩ = some (.int .i64 X.1.t.live) := cell_at H13.out.2.1 6
                    have p7 : w13.cell? ⟨b, 7, none⟩ = some (.int .i64 X.1.t.epochs) := cell_at H13.out.2.1 7
                    have pa : w13.cell? ⟨ba, 3, none⟩ = some (.int .i64 xa.mod) := cell_at H13.out.2.2.1 3
                    have pb : w13.cell? ⟨bb, 3, none⟩ = some (.int .i64 xb.mod) := cell_at H13.out.2.2.2 3
                    by_cases hbad : (ia = true ∧ (decRec xa.val).2 ≠ 0) ∨ (ib = true ∧ (decTen xb.val).2 ≠ 0)
                    · have HXZ : Aside (X = (knwZ, false)) := ⟨by rw [← HXX.out, if_pos hbad]⟩
                      obtain ⟨⟨kr, kt, km, kten, ktm⟩, X2⟩ := X
                      have hx := HXZ.out
                      cases hx
                      dsimp only [knwZ, recZ, tenZ] at p0 p1 p2 p3 p4 p5 p6 p7 p8
                      clear HXX HXZ
                      cases ia with
                      | true =>
                        clear hbad
                        go_wp2_with fail
                        go_ret
                        exact ⟨rfl, H13.out.1.bel⟩
                      | false =>
                        cases ib with
                        | true =>
                          clear hbad
                          go_wp2_with fail
                          go_ret
                          exact ⟨rfl, H13.out.1.bel⟩
                        | false => simp at hbad
                    · have hx := HXX.out
                      rw [if_neg hbad] at hx
                      have HXG := Aside.mk hx
                      clear hx hbad HXX
                      cases ia with
                      | true =>
                        cases ib with
                        | true =>
                          have hx := HXG.out
                          simp only [if_true] at hx
                          subst hx
                          dsimp only at p0 p1 p2 p3 p4 p5 p6 p7 p8
                          go_wp2_with fail
                          go_ret
                          exact ⟨by simp, H13.out.1.bel⟩
                        | false =>
                          have hx := HXG.out
                          simp at hx
                          subst hx
                          have hxb := HXB.out rfl
                          rw [hxb] at pb
                          dsimp only [entZ] at p0 p1 p2 p3 p4 p5 p6 p7 p8 pb
                          go_wp2_with fail
                          go_ret
                          exact ⟨by simp, H13.out.1.bel⟩
                      | false =>
                        have hxa := HXA.out rfl
                        rw [hxa] at pa
                        cases ib with
                        | true =>
                          have hx := HXG.out
                          simp at hx
                          subst hx
                          dsimp only [entZ] at p0 p1 p2 p3 p4 p5 p6 p7 p8 pa
                          go_wp2_with fail
                          go_ret
                          exact ⟨by simp, H13.out.1.bel⟩
                        | false =>
                          have hx := HXG.out
                          simp at hx
                          subst hx
                          dsimp only [recZ, tenZ] at p0 p1 p2 p3 p4 p5 p6 p7 p8
                          go_wp2_with fail
                          go_ret
                          exact ⟨by simp, H13.out.1.bel⟩
theorem known_walk (A : Option Addr) (c : Nat) (l : List S33) (tn cl : ByteArray) {W : World} (g : Kd.C k33 W A l.length l) (hlc : l.length ≤ c) (ok : Open.okSl 96 ok33 l) (w1 : tn.size ≤ 140737488351232) (w2 : cl.size ≤ 140737488351232) :
    Calls Try.prog 3 #[.slice A l.length c, .string tn, .string cl] W fun e w' => e = .returned (.bool true) ∧ Below W.heap.size W w' :=
  cacheKnown_calls A c l tn cl W g hlc (fun s hs => by
    obtain ⟨-, -, -, h3, h4, h5⟩ := ok.2.2 s hs
    have := h3.2.1
    have := h4.2.1
    have := h5.2.1
    omega) (by omega) (by omega) (by have := ok.2.1; omega)
end Go.Proofs.Ytagkobpbhfkmdaa.C
