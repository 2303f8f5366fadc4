/- TimersPlay. -/
import Derived.Test.YtjefeoohfalcaaaAK
namespace Go.Proofs.Ytjefeoohfalcaaa.C
open Go.RowKit Go.Proofs.Ytjefeoohfalcaaa.Q Go.Proofs.YtjefeoohfalcaaaW.PrintLast Go.Proofs.YtjefeoohfalcaaaW.PrintWords
set_option linter.unusedVariables false
set_option linter.unusedSimpArgs false
theorem ts_off {w : World} {T : Nat} {S : List (Int × Int)} {fp : List Nat} (h : TS w T S fp) {k : Nat} (hk : k ∈ fp) {cs : Array Value} {t : TypeId} (hc : w.heap[k]? = some (.cells cs t (0, 0))) : t = 68 ∨ t = 57 := by
  obtain ⟨l, _, h1⟩ := h.tm
  rcases h1 with ⟨h1, _, rfl⟩ | ⟨b, c, m, f, h1, _, rfl⟩
  · rw [List.mem_singleton.1 hk, h1] at hc
    cases hc
    exact .inl rfl
  · simp only [List.mem_cons, List.not_mem_nil, or_false] at hk
    rcases hk with rfl | rfl | rfl
    · rw [h1.rep.box] at hc; cases hc; exact .inl rfl
    · obtain ⟨cs2, hb, _⟩ := h1.rep.row.cur
      rw [hb] at hc; cases hc; exact .inr rfl
    · obtain ⟨es, q, hm, _⟩ := h1.rep.map
      rw [hm] at hc; cases hc
theorem RT.ts {w w' : World} {T X : Nat} {S S' : List (Int × Int)} {fp : List Nat} (h : RT w X S') (ht : TS w T S fp) (hf : Fr (fun k => k ∈ fp) w w') : RT w' X S' := by
  obtain ⟨A, c, h1, h2⟩ := h.own
  refine ⟨A, c, hf.heap h1 (fun hk => by rcases ts_off ht hk h1 with e | e <;> exact absurd e (by decide)), ?_⟩
  rcases h2 with h2 | ⟨g, h3, h4, h5⟩
  · exact .inl h2
  · refine .inr ⟨g, h3, h4, h5.keep (hf.block g h5.lt (fun hk => ?_))⟩
    obtain ⟨cs, hb, _⟩ := h5.cur
    rcases ts_off ht hk hb with e | e <;> exact absurd e (by decide)
theorem TS.rt {w w' : World} {T X : Nat} {S S' : List (Int × Int)} {fp : List Nat} (ht : TS w T S fp) (h : RT w X S') (hf : Fr (fun k => k = X) w w') : TS w' T S fp := by
  obtain ⟨A, c, h1, h2⟩ := h.own
  refine ht.fr hf (fun k hk e => ?_)
  subst e
  rcases ts_off ht hk h1 with e | e <;> exact absurd e (by decide)
/-- Timers T, and those of the document, X, and the act in its box. -/
structure PT (w0 : World) (T X G : Nat) (S1 S2 : List (Int × Int)) (fp : List Nat) (y : S76) (w : World) : Prop where
  ts : TS w T S1 fp
  rt : RT w X S2
  box : w.heap[G]? = some (.cells #[.int .u8 y.f0, .int .i64 y.f1, .int .i64 y.f2] 76 (0, 0))
  pf : ∀ k ∈ fp, w0.heap.size ≤ k
  px : w0.heap.size ≤ X
  bel : Below w0.heap.size w0 w
section
variable {w0 w w' : World} {T X G : Nat} {S1 S2 : List (Int × Int)} {fp : List Nat} {y : S76}
theorem PT.c1 (h : PT w0 T X G S1 S2 fp y w) : w.cell? ⟨G, 1, none⟩ = some (.int .i64 y.f1) := cell_at h.box 1
theorem PT.c2 (h : PT w0 T X G S1 S2 fp y w) : w.cell? ⟨G, 2, none⟩ = some (.int .i64 y.f2) := cell_at h.box 2
theorem PT.c0 (h : PT w0 T X G S1 S2 fp y w) : w.cell? ⟨G, 0, none⟩ = some (.int .u8 y.f0) := cell_at h.box 0
theorem PT.new (h : PT w0 T X G S1 S2 fp y w) (hb : Below w.heap.size w w') : PT w0 T X G S1 S2 fp y w' :=
  ⟨h.ts.below hb, h.rt.below hb, (hb.block G (lt_of_block h.box)).trans h.box, h.pf, h.px, h.bel.trans (hb.mono h.bel.size)⟩
theorem PT.drew (h : PT w0 T X G S1 S2 fp y w) : PT w0 T X G S1 S2 fp y w.drew := h.new (below_drew1 (Below.refl _ _))
theorem PT.tstep {S1' : List (Int × Int)} {fp' : List Nat} (h : PT w0 T X G S1 S2 fp y w) (ht : TS w' T S1' fp') (hn : ∀ k ∈ fp', k ∈ fp ∨ w.heap.size ≤ k) (hf : Fr (fun k => k ∈ fp) w w') : PT w0 T X G S1' S2 fp' y w' :=
  ⟨ht, h.rt.ts h.ts hf, hf.heap h.box (fun hk => by rcases ts_off h.ts hk h.box with e | e <;> exact absurd e (by decide)), fun k hk => by rcases hn k hk with q | q; exact h.pf k q; exact Nat.le_trans h.bel.size q, h.px, h.bel.trans (hf.below h.bel.size h.pf)⟩
theorem PT.rstep {S2' : List (Int × Int)} (h : PT w0 T X G S1 S2 fp y w) (hr : RT w' X S2') (hf : Fr (fun k => k = X) w w') : PT w0 T X G S1 S2' fp y w' :=
  ⟨h.ts.rt h.rt hf, hr, hf.heap h.box (fun e => by
    obtain ⟨A, c, h1, _⟩ := h.rt.own
    rw [← e, h.box] at h1
    cases h1), h.pf, h.px, h.bel.trans (hf.below h.bel.size (fun k e => by rw [e]; exact h.px))⟩
theorem pt_tset (h : PT w0 T X G S1 S2 fp y w) (hl : S1.length ≤ 1000000) (id v : Int) : Calls Try.prog 28 #[.pointer (some ⟨T, 0, none⟩), .int .i64 id, .int .i64 v] w fun e w' => e = .returned (.tuple #[]) ∧ ∃ fp', PT w0 T X G (setS S1 id v) S2 fp' y w' ∧ (∀ k ∈ fp', k ∈ fp ∨ w.heap.size ≤ k) ∧ Fr (fun k => k ∈ fp) w w' :=
  (ts_set T S1 fp id v w (by omega) h.ts).mono fun e w' ⟨he, fp', h2, h3, h4⟩ => ⟨he, fp', h.tstep h2 h3 h4, h3, h4⟩
theorem pt_rset (h : PT w0 T X G S1 S2 fp y w) (hI : Ids S2) (hl : S2.length ≤ 1000000) (id v : Int) : Calls Try.prog 34 #[.pointer (some ⟨X, 0, none⟩), .int .i64 id, .int .i64 v] w fun e w' => e = .returned (.tuple #[]) ∧ PT w0 T X G S1 (setS S2 id v) fp y w' :=
  (rset_calls X S2 id v w hI hl h.rt).mono fun e w' ⟨he, h2, h3⟩ => ⟨he, h.rstep h2 h3⟩
theorem pt_tstop (h : PT w0 T X G S1 S2 fp y w) (hl : S1.length ≤ 1000000) (id : Int) : Calls Try.prog 27 #[.pointer (some ⟨T, 0, none⟩), .int .i64 id] w fun e w' => e = .returned (.bool (hasOf S1 id).isSome) ∧ PT w0 T X G (del S1 id) S2 fp y w' :=
  (ts_stop T S1 fp id w (by omega) h.ts).mono fun e w' ⟨he, h2, h3⟩ => ⟨he, h.tstep h2 (fun k hk => .inl hk) h3⟩
theorem pt_rstop {S : List (Int × Int)} {id' : Int} (h : PT w0 T X G (del S id') S fp y w) (hl : S.length ≤ 1000000) (id : Int) (hI : Ids S) : Calls Try.prog 35 #[.pointer (some ⟨X, 0, none⟩), .int .i64 id] w fun e w' => e = .returned (.bool (hasOf S id).isSome) ∧ PT w0 T X G (del S id') (del S id) fp y w' :=
  (rstop_calls X S id w hI hl h.rt).mono fun e w' ⟨he, h2, h3⟩ => ⟨he, h.rstep h2 h3⟩
theorem pt_tdue (h : PT w0 T X G S1 S2 fp y w) (hl : S1.length ≤ 1000000) (now : Int) : Calls Try.prog 30 #[.pointer (some ⟨T, 0, none⟩), .int .i64 now] w fun e w' => ∃ v, e = .returned v ∧ Nums w' w.heap.size v ((dueS S1 now).map (·.1)) ∧ PT w0 T X G (restS S1 now) S2 fp y w' ∧ Fr (fun k => k ∈ fp) w w' :=
  (ts_due T S1 fp now w (by omega) h.ts).mono fun e w' ⟨v, he, hn, h2, h3⟩ => ⟨v, he, hn, h.tstep h2 (fun k hk => .inl hk) h3, h3⟩
theorem pt_rdue (h : PT w0 T X G S1 S2 fp y w) (hs : Srt S2) (hl : S2.length ≤ 1000000) (now : Int) : Calls Try.prog 36 #[.pointer (some ⟨X, 0, none⟩), .int .i64 now] w fun e w' => ∃ v, e = .returned v ∧ Nums w' w.heap.size v ((dueS S2 now).map (·.1)) ∧ PT w0 T X G S1 (restS S2 now) fp y w' ∧ Fr (fun k => k = X) w w' :=
  (rdue_calls X S2 now w hs hl h.rt).mono fun e w' ⟨v, he, hn, h2, h3⟩ => ⟨v, he, hn, h.rstep h2 h3, h3⟩
end
theorem rest_le (S : List (Int × Int)) (now : Int) : (restS S now).length ≤ S.length := List.length_filter_le _ _
theorem nums_pair {w : World} {v : Value} {base : Nat} {l : List Int} (h : Nums w base v l) : ∃ A c, v = .slice A l.length c ∧ l.length ≤ c ∧ Kd.C (Kd.int .i64) w A l.length l := h.C
theorem RT.new (w : World) : RT (w.alloc (.cells #[.slice none 0 0] 74 (0, 0))) w.heap.size [] := ⟨none, 0, heap_alloc_new w _, .inl ⟨rfl, rfl, rfl, rfl⟩⟩
def tpl19T : Bool × List (List Nat × List Nat) := (true, [([], []), ([], []), ([1], [1]), ([0, 2], [0, 2]), ([], []), ([], []), ([5], [5]), ([4, 6, 3], [4, 6]), ([3, 7], [3, 7])])
def tpl19B : List Nat := [0, 0, 2, 7, 0, 0, 32, 127, 255]
theorem tpl19_tab : rtab .any (opsOf Try.f8 19) = tpl19T := by kernel_rfl
theorem tpl19_bits : waitsOk tpl19T.2 tpl19B = true := by kernel_rfl
def tpl27T : Bool × List (List Nat × List Nat) := (true, [([], []), ([], []), ([0, 1], [0, 1]), ([2], [2]), ([3], [3]), ([3], [3]), ([4, 5, 3], [3, 4, 5]), ([3, 6], [3, 6]), ([7, 3], [7]), ([8], [8]), ([8], [8]), ([9, 10, 8, 8], [8, 9, 10]), ([11, 8], [8, 11]), ([8, 12], [8, 12])])
def tpl27B : List Nat := [0, 0, 3, 7, 15, 15, 63, 127, 255, 511, 511, 2047, 4095, 8191]
theorem tpl27_tab : rtab .any (opsOf Try.f8 27) = tpl27T := by kernel_rfl
theorem tpl27_bits : waitsOk tpl27T.2 tpl27B = true := by kernel_rfl

set_option maxHeartbeats 1000000 in
set_option maxRecDepth 100000 in
theorem tplay_long (A : Option Addr) (n c : Nat) (w : World) (h : 200 < n) : Calls Try.prog 8 #[.slice A n c] w fun e w' => e = .returned (.bool true) ∧ Below w.heap.size w w' := by
  go_enter Try.func8, Try.ntmps8
  go_wp2_with fail
  refine (aw_true _).mono ?_
  rintro e w3 ⟨rfl, hb⟩
  have HB := Aside.mk hb
  clear hb
  go_wp2_with fail
  go_ret
  exact ⟨rfl, HB.out⟩
set_option maxHeartbeats 8000000 in
set_option maxRecDepth 100000 in
theorem tplay_short (A : Option Addr) (c : Nat) (l : List S76) (w : World) (g : Kd.C k76 w A l.length l) (hlc : l.length ≤ c) (h200 : l.length ≤ 200) :
    Calls Try.prog 8 #[.slice A l.length c] w fun e w' => e = .returned (.bool true) ∧ Below w.heap.size w w' := by
  have HG := Aside.mk g
  obtain ⟨n, hn⟩ : ∃ n, l.length = n := ⟨_, rfl⟩
  have HN := Aside.mk hn
  rw [hn] at hlc h200 ⊢
  clear g hn
  obtain ⟨w1, hw1⟩ : ∃ w1, w1 = w.alloc (.cells #[.slice none 0 0, .map none] 68 (0, 0)) := ⟨_, rfl⟩
  have HT0 : Aside (TS w1 w.heap.size [] [w.heap.size] ∧ Below w.heap.size w w1) := ⟨by rw [hw1]; exact TS.new w, by rw [hw1]; exact (Below.refl _ _).alloc (Nat.le_refl _) _⟩
  obtain ⟨w2, hw2⟩ : ∃ w2, w2 = w1.alloc (.cells #[.slice none 0 0] 74 (0, 0)) := ⟨_, rfl⟩
  have hb12 : Below w1.heap.size w1 w2 := by rw [hw2]; exact (Below.refl _ _).alloc (Nat.le_refl _) _
  have HR0 : Aside (RT w2 w1.heap.size [] ∧ TS w2 w.heap.size [] [w.heap.size] ∧ Below w.heap.size w w2) := ⟨by rw [hw2]; exact RT.new w1, HT0.out.1.below hb12, HT0.out.2.trans (hb12.mono HT0.out.2.size)⟩
  have hsz : w1.heap.size = w.heap.size + 1 := by rw [hw1]; simp
  rw [hsz] at HR0
  have HW1 := Aside.mk hw1
  have HW2 := Aside.mk hw2
  clear hw1 hw2 hb12 hsz
  go_enter Try.func8, Try.ntmps8
  go_wp2_with fail
  rw [← HW1.out, ← HW2.out]
  obtain ⟨X, hX⟩ : ∃ X, w.heap.size + 1 = X := ⟨_, rfl⟩
  have HX0 : Aside (w.heap.size ≤ X) := ⟨by omega⟩
  rw [hX] at HR0 ⊢
  clear hX HW2 HW1 HT0
  go_loopw [3, 5] (fun v3 v5 wr => ∃ (k T : Nat) (S : List (Int × Int)) (fp : List Nat), k ≤ n ∧ v3 = .pointer (some ⟨T, 0, none⟩) ∧ v5 = .int .i64 k ∧ Aside (S.length ≤ k ∧ TS wr T S fp ∧ RT wr X S ∧ (∀ q ∈ fp, w.heap.size ≤ q) ∧ Below w.heap.size w wr)) (fun _ v5 _ => n - (intOf v5).toNat)
  case atStart => exact ⟨0, w.heap.size, [], [w.heap.size], by omega, rfl, rfl, ⟨by simp, HR0.out.2.1, HR0.out.1, fun q hq => by rw [List.mem_singleton.1 hq]; exact Nat.le_refl _, HR0.out.2.2⟩⟩
  case round =>
    obtain ⟨k, T, S, fp, hk, rfl, rfl, HR⟩ := hrel
    by_cases hlt : k < n
    · obtain ⟨ad, he, hf0, hf1, hf2⟩ := at_T76 (Kd.C_below HG.out HR.out.2.2.2.2) (k : Int) (by omega) (by rw [HN.out]; omega)
      subst he
      obtain ⟨y, hy⟩ : ∃ y, rd_T76 l k = y := ⟨_, rfl⟩
      rw [hy] at hf0 hf1 hf2
      simp only [Int.toNat_natCast] at hf0 hf1 hf2
      clear hy
      have HB0 := Aside.mk (heap_alloc_new wr (.cells #[.int .u8 y.f0, .int .i64 y.f1, .int .i64 y.f2] 76 (0, 0)))
      have HN0 : Aside (Below wr.heap.size wr (wr.alloc (.cells #[.int .u8 y.f0, .int .i64 y.f1, .int .i64 y.f2] 76 (0, 0)))) := ⟨(Below.refl _ _).alloc (Nat.le_refl _) _⟩
      go_upto_block 2 with (fail)
      obtain ⟨wq, hwq⟩ : ∃ wq, wq = wr.alloc (.cells #[.int .u8 y.f0, .int .i64 y.f1, .int .i64 y.f2] 76 (0, 0)) := ⟨_, rfl⟩
      rw [← hwq] at HB0 HN0 ⊢
      have HP : Aside (PT w T X wr.heap.size S S fp y wq) := ⟨HR.out.2.1.below HN0.out, HR.out.2.2.1.below HN0.out, HB0.out, HR.out.2.2.2.1, HX0.out, HR.out.2.2.2.2.trans (HN0.out.mono HR.out.2.2.2.2.size)⟩
      have HS := Aside.mk HR.out.1
      have hS1 : S.length ≤ 1000000 := by have := HR.out.1; omega
      obtain ⟨G, hG⟩ : ∃ G, wr.heap.size = G := ⟨_, rfl⟩
      rw [hG] at HP ⊢
      have HI := Aside.mk HR.out.2.1.ids
      have HSR := Aside.mk HR.out.2.1.srt
      have hc0 := HP.out.c0
      have hc1 := HP.out.c1
      have hc2 := HP.out.c2
      clear hf0 hf1 hf2 HB0 HN0 hG hwq HR
      go_cut [3, 7, 8] from 31 to 83 (fun v3 v7 v8 wr' => ∃ (T2 : Nat) (S2 : List (Int × Int)) (fp2 : List Nat), v3 = .pointer (some ⟨T2, 0, none⟩) ∧ Aside (S2.length ≤ k + 1 ∧ PT w T2 X G S2 S2 fp2 y wr'))
      case first =>
        by_cases hk0 : y.f0 = 0
        · have HL : Aside ((setS S y.f1 y.f2).length ≤ k + 1) := ⟨by have := setS_le S y.f1 y.f2; have := HS.out; omega⟩
          have e0 : (y.f0 == 0) = true := by rw [hk0]; rfl
          clear hk0
          go_wp2_with fail
          refine (pt_tset HP.out hS1 y.f1 y.f2).mono ?_
          rintro e w4 ⟨rfl, fp', hP, _, _⟩
          have HP4 := Aside.mk hP
          have hc1 := hP.c1
          have hc2 := hP.c2
          clear hP
          go_wp2_with fail
          refine (pt_rset HP4.out HI.out hS1 y.f1 y.f2).mono ?_
          rintro e w5 ⟨rfl, hP⟩
          have HP5 := Aside.mk (And.intro HL.out hP)
          clear hP
          go_wp2_with fail
          go_meet
          exact ⟨T, _, fp', rfl, HP5⟩
        · have e0 : (y.f0 == 0) = false := by rw [beq_eq_false_iff_ne]; exact hk0
          by_cases hk1 : y.f0 = 1
          · have HL : Aside ((del S y.f1).length ≤ k + 1) := ⟨by have := del_le S y.f1; have := HS.out; omega⟩
            obtain ⟨bb, hbb⟩ : ∃ b, (hasOf S y.f1).isSome = b := ⟨_, rfl⟩
            have HBB := Aside.mk hbb
            have e1 : (y.f0 == 1) = true := by rw [hk1]; rfl
            clear hbb hk0 hk1 hc1 hc2
            go_upto_region 19 with fail
            refine start_ (n := 9) (S := (fun w' => w'.cell? ⟨G, 1, none⟩ = some (.int .i64 y.f1))) (ds := []) #[false, false, false, false, false, false, false, false, false] (by kernel_rfl) rfl rfl HP.out.drew.c1 (fun hHeld => ?_); refine with_tabW tpl19_tab tpl19_bits (fun HT_ HW_ => ?_)
            refine pure_ (i := 0) (N := (some 62)) (v := ?_) (a' := ?_) #[true, false, false, false, false, false, false, false, false] rfl rfl (any_of HT_.out (by kernel_rfl)) (fun _ _ _ h => h) (Or.inl ⟨by rfl, ?_⟩) ?_ ?_
            rotate_left
            · intro w'
              go_simp
              with_reducible rfl
            rotate_left
            · simp only [Act.put, List.setIfInBounds_toArray, List.set_cons_zero, List.set_cons_succ, i64_w, i32_w]
              rfl
            refine pure_ (i := 1) (N := (some 63)) (v := ?_) (a' := ?_) #[true, true, false, false, false, false, false, false, false] rfl rfl (any_of HT_.out (by kernel_rfl)) (fun _ _ _ h => h) (Or.inl ⟨by rfl, ?_⟩) ?_ ?_
            rotate_left
            · intro w'
              go_simp
              with_reducible rfl
            rotate_left
            · simp only [Act.put, List.setIfInBounds_toArray, List.set_cons_zero, List.set_cons_succ, i64_w, i32_w]
              rfl
            refine take_ (i := 2) (N := (some 64)) (v := ?_) (a' := ?_) #[true, true, true, false, false, false, false, false, false] rfl rfl (take_ofW HT_.out HW_.out (by kernel_rfl)) (fun _ _ _ h => h) (Or.inl ⟨by rfl, ?_⟩) hHeld ?_ ?_
            rotate_left
            · rintro w' s1
              go_simp
              with_reducible rfl
            rotate_left
            · simp only [Act.put, List.setIfInBounds_toArray, List.set_cons_zero, List.set_cons_succ, i64_w, i32_w]
              rfl
            refine pure_ (i := 4) (N := (some 66)) (v := ?_) (a' := ?_) #[true, true, true, false, true, false, false, false, false] rfl rfl (any_of HT_.out (by kernel_rfl)) (fun _ _ _ h => h) (Or.inl ⟨by rfl, ?_⟩) ?_ ?_
            rotate_left
            · intro w'
              go_simp
              with_reducible rfl
            rotate_left
            · simp only [Act.put, List.setIfInBounds_toArray, List.set_cons_zero, List.set_cons_succ, i64_w, i32_w]
              rfl
            refine pure_ (i := 5) (N := (some 67)) (v := ?_) (a' := ?_) #[true, true, true, false, true, true, false, false, false] rfl rfl (any_of HT_.out (by kernel_rfl)) (fun _ _ _ h => h) (Or.inl ⟨by rfl, ?_⟩) ?_ ?_
            rotate_left
            · intro w'
              go_simp
              with_reducible rfl
            rotate_left
            · simp only [Act.put, List.setIfInBounds_toArray, List.set_cons_zero, List.set_cons_succ, i64_w, i32_w]
              rfl
            refine take_ (i := 6) (N := (some 68)) (v := ?_) (a' := ?_) #[true, true, true, false, true, true, true, false, false] rfl rfl (take_ofW HT_.out HW_.out (by kernel_rfl)) (fun _ _ _ h => h) (Or.inl ⟨by rfl, ?_⟩) hHeld ?_ ?_
            rotate_left
            · rintro w' s1
              go_simp
              with_reducible rfl
            rotate_left
            · simp only [Act.put, List.setIfInBounds_toArray, List.set_cons_zero, List.set_cons_succ, i64_w, i32_w]
              rfl
            refine one_ (i := 3) (N := (some 65)) #[true, true, true, true, true, true, true, false, false] rfl rfl (one_of HT_.out (by kernel_rfl)) (by decide) (fun K9 hK => ?_)
            refine goes_ Try.func27 (by kernel_rfl) rfl #[.pointer (some ⟨T, 0, none⟩), .int .i64 y.f1] (by rfl) rfl rfl (by (try simp only [List.map_toArray, List.map_cons, List.map_nil]); first | done | rfl) ?_
            refine (pt_tstop HP.out.drew hS1 y.f1).mono ?_
            rintro e w4 ⟨rfl, hP⟩
            refine ⟨_, rfl, ?_⟩
            rw [HBB.out]
            have HP4 := Aside.mk hP
            clear hP
            refine hK.out _ _ HP4.out.c1 (fun hHeld => ?_)
            clear hK K9
            refine norm_ (a' := ?_) ?_ ?_
            rotate_left
            · show Act.put _ (some 65) _ = _
              simp only [Act.put, List.setIfInBounds_toArray, List.set_cons_zero, List.set_cons_succ]
              rfl
            refine one_ (i := 7) (N := (some 69)) #[true, true, true, true, true, true, true, true, false] rfl rfl (one_of HT_.out (by kernel_rfl)) (by decide) (fun K9 hK => ?_)
            refine goes_ Try.func35 (by kernel_rfl) rfl #[.pointer (some ⟨X, 0, none⟩), .int .i64 y.f1] (by rfl) rfl rfl (by (try simp only [List.map_toArray, List.map_cons, List.map_nil]); first | done | rfl) ?_
            refine (pt_rstop HP4.out hS1 y.f1 HI.out).mono ?_
            rintro e w5 ⟨rfl, hP⟩
            refine ⟨_, rfl, ?_⟩
            rw [HBB.out]
            have HP5 := Aside.mk hP
            clear hP
            refine hK.out _ _ HP5.out.c1 (fun hHeld => ?_)
            clear hK K9
            refine norm_ (a' := ?_) ?_ ?_
            rotate_left
            · show Act.put _ (some 69) _ = _
              simp only [Act.put, List.setIfInBounds_toArray, List.set_cons_zero, List.set_cons_succ]
              rfl
            refine pure_ (i := 8) (N := (some 70)) (v := .bool false) (a' := ?_) #[true, true, true, true, true, true, true, true, true] rfl rfl (any_of HT_.out (by kernel_rfl)) (fun _ _ _ h => h) (Or.inl ⟨by rfl, ?_⟩) ?_ ?_
            · intro w'
              first | (go_simp; done) | (go_simp; with_reducible rfl) | (go_simp; simp [*]; done) | (go_simp; simp; omega)
            rotate_left
            · simp only [Act.put, List.setIfInBounds_toArray, List.set_cons_zero, List.set_cons_succ, i64_w, i32_w]
              rfl
            refine done_ (done_of HT_.out (by kernel_rfl)) ?_
            clear HT_ HW_ hHeld
            go_wp2_with fail
            go_meet
            exact ⟨T, _, fp, rfl, ⟨HL.out, HP5.out⟩⟩
          · have e1 : (y.f0 == 1) = false := by rw [beq_eq_false_iff_ne]; exact hk1
            by_cases hk2 : y.f0 = 2
            · have HL : Aside ((restS S y.f2).length ≤ k + 1) := ⟨by have := rest_le S y.f2; have := HS.out; omega⟩
              have HDL : Aside (((dueS S y.f2).map (·.1)).length ≤ 1000000000) := ⟨by rw [List.length_map]; have : (dueS S y.f2).length ≤ S.length := List.length_filter_le _ _; omega⟩
              obtain ⟨D, hD⟩ : ∃ D, (dueS S y.f2).map (·.1) = D := ⟨_, rfl⟩
              have HD := Aside.mk hD
              rw [hD] at HDL
              obtain ⟨m, hm⟩ : ∃ m, D.length = m := ⟨_, rfl⟩
              have HM := Aside.mk hm
              have e2 : (y.f0 == 2) = true := by rw [hk2]; rfl
              clear hD hm hk0 hk1 hk2
              go_wp2_with fail
              refine (pt_tdue HP.out hS1 y.f2).mono ?_
              rintro e w4 ⟨v, rfl, hn, hP, hf⟩
              rw [HD.out] at hn
              have HP4 := Aside.mk hP
              have HN4 := Aside.mk hn
              have hc2 := hP.c2
              have HXL : Aside (X < wq.heap.size) := ⟨HP.out.rt.lt⟩
              obtain ⟨A4, c4, rfl, _, _⟩ := hn.C
              rw [HM.out]
              clear hn hP hf
              go_wp2_with fail
              refine (pt_rdue HP4.out HSR.out hS1 y.f2).mono ?_
              rintro e w5 ⟨v, rfl, hn, hP, hf⟩
              rw [HD.out] at hn
              have HP5 := Aside.mk (And.intro HL.out hP)
              have hn4 := HN4.out.fr hf (fun q h1 h2 e => by have := HXL.out; omega)
              obtain ⟨A5, c5, rfl, h51, h52⟩ := hn.C
              obtain ⟨A6, c6, e6, h61, h62⟩ := hn4.C
              cases e6
              rw [HM.out]
              have HC := Aside.mk (numbers_is A4 A5 c4 c5 m m D D w5 HDL.out h62 h52 h61 h51 true (by simp) HM.out HM.out)
              clear hn hP hf hn4 h51 h52 h61 h62
              go_wp2_with fail
              refine HC.out.mono ?_
              rintro e w6 ⟨rfl, hb⟩
              have HP6 : Aside ((restS S y.f2).length ≤ k + 1 ∧ PT w T X G (restS S y.f2) (restS S y.f2) fp y w6) := ⟨HP5.out.1, HP5.out.2.new hb⟩
              clear hb HC
              go_wp2_with fail
              go_meet
              exact ⟨T, _, fp, rfl, HP6⟩
            · have e2 : (y.f0 == 2) = false := by rw [beq_eq_false_iff_ne]; exact hk2
              have HL : Aside ((setS S y.f1 y.f2).length ≤ 1000000) := ⟨by have := setS_le S y.f1 y.f2; have := HS.out; omega⟩
              have HL2 : Aside ((restS (setS S y.f1 y.f2) 9223372036854775807).length ≤ 1000000) := ⟨Nat.le_trans (rest_le _ _) HL.out⟩
              clear hk0 hk1 hk2
              go_wp2_with fail
              refine (ts_copy T S fp _ (by omega) HP.out.ts).mono ?_
              rintro e w4 ⟨T2, fp2, rfl, ht, hn, hb⟩
              have HP4 := Aside.mk (HP.out.new hb)
              have HC4 : Aside (TS w4 T2 S fp2 ∧ (∀ q ∈ fp2, q ∉ fp) ∧ (∀ q ∈ fp2, w.heap.size ≤ q)) := ⟨ht, fun q h1 h2 => by have := hn q h1; have := HP.out.ts.lt q h2; omega, fun q h1 => Nat.le_trans HP.out.bel.size (hn q h1)⟩
              have hc1 := HP4.out.c1
              have hc2 := HP4.out.c2
              clear ht hn hb
              go_wp2_with fail
              refine (pt_tset HP4.out hS1 y.f1 y.f2).mono ?_
              rintro e w5 ⟨rfl, fp5, hP, hn, hf⟩
              have HP5 := Aside.mk hP
              have HC5 : Aside (TS w5 T2 S fp2 ∧ (∀ q ∈ fp2, q ∉ fp5) ∧ (∀ q ∈ fp2, w.heap.size ≤ q)) := ⟨HC4.out.1.fr hf HC4.out.2.1, fun q h1 h2 => by rcases hn q h2 with h3 | h3; exact HC4.out.2.1 q h1 h3; have := HC4.out.1.lt q h1; omega, HC4.out.2.2⟩
              clear hP hn hf
              go_wp2_with fail
              refine (pt_tdue HP5.out HL.out 9223372036854775807).mono ?_
              rintro e w6 ⟨v, rfl, hn, hP, hf⟩
              have HP6 := Aside.mk hP
              have HC6 := Aside.mk (HC5.out.1.fr hf HC5.out.2.1)
              obtain ⟨A6, c6, rfl, _, _⟩ := hn.C
              clear hP hn hf
              go_wp2_with fail
              refine (pt_tset HP6.out HL2.out 1 1).mono ?_
              rintro e w7 ⟨rfl, fp7, hP, hn, hf⟩
              have HP7 : Aside (S.length ≤ k + 1 ∧ PT w T2 X G S S fp2 y w7) := ⟨by have := HS.out; omega, HC6.out.fr hf HC5.out.2.1, hP.rt, hP.box, HC5.out.2.2, hP.px, hP.bel⟩
              clear hP hn hf
              go_wp2_with fail
              go_meet
              exact ⟨T2, S, fp2, rfl, HP7⟩
      case rest =>
        obtain ⟨T2, S2, fp2, rfl, HC⟩ := hcut
        have HP2 := Aside.mk HC.out.2
        have hS2 : S2.length ≤ 1000000 := by have := HC.out.1; omega
        have hc1 := HP2.out.c1
        clear hc0 hc2 HP
        obtain ⟨p, hp⟩ : ∃ p, (hasOf S2 y.f1).getD 0 = p := ⟨_, rfl⟩
        obtain ⟨b, hb⟩ : ∃ b, (hasOf S2 y.f1).isSome = b := ⟨_, rfl⟩
        have HPB := Aside.mk (And.intro hp hb)
        clear hp hb
        go_wp2_with fail
        refine (ts_has T2 S2 fp2 y.f1 wc HP2.out.ts).mono ?_
        rintro e w8 ⟨rfl, rfl⟩
        rw [HPB.out.1, HPB.out.2]
        go_wp2_with fail
        refine (rhas_calls X S2 y.f1 wc HP2.out.ts.ids HP2.out.rt).mono ?_
        rintro e w8 ⟨rfl, rfl⟩
        rw [HPB.out.1, HPB.out.2]
        have HPQ := HP2
        go_wp2_with fail
        refine (alike_calls T2 X S2 fp2 _ hS2 HPQ.out.ts HPQ.out.rt).mono ?_
        rintro e w9 ⟨rfl, hb⟩
        have HP9 := Aside.mk (HPQ.out.new hb)
        clear hb
        have HZ : Aside (S2.length ≤ k + 1 ∧ TS w9 T2 S2 fp2 ∧ RT w9 X S2 ∧ (∀ q ∈ fp2, w.heap.size ≤ q) ∧ Below w.heap.size w w9) := ⟨HC.out.1, HP9.out.ts, HP9.out.rt, HP9.out.pf, HP9.out.bel⟩
        clear hc1
        go_wp2_with fail
        go_roundw
        case rel => exact ⟨k + 1, T2, S2, fp2, by omega, rfl, by go_num, HZ⟩
        case measure => simp [intOf]; omega
    · obtain rfl : k = n := by omega
      go_wp2_with fail
      refine (aw_true _).mono ?_
      rintro e w3 ⟨rfl, hb⟩
      have HB := Aside.mk (HR.out.2.2.2.2.trans (hb.mono HR.out.2.2.2.2.size))
      clear hb
      go_wp2_with fail
      go_ret
      exact ⟨rfl, HB.out⟩
theorem tplay_walk (A : Option Addr) (c : Nat) (l : List S76) {po : Prop} {W : World} (g : Kd.C k76 W A l.length l) (hlc : l.length ≤ c) (ok : po) :
    Calls Try.prog 8 #[.slice A l.length c] W fun e w' => e = .returned (.bool true) ∧ Below W.heap.size W w' := by
  by_cases h : l.length ≤ 200
  · exact tplay_short A c l W g hlc h
  · exact tplay_long A l.length c W (by omega)
end Go.Proofs.Ytjefeoohfalcaaa.C
