/- TimersRow. -/
import Derived.Test.YtjefeoohfalcaaaAK
import Derived.Test.YtjefeoohfalcaaaWEqStruct
namespace Go.Proofs.Ytjefeoohfalcaaa.C
open Go.Shelf Go.RowKit Go.Proofs.Ytjefeoohfalcaaa.Q Go.Proofs.YtjefeoohfalcaaaW.PrintLast Go.Proofs.YtjefeoohfalcaaaW.PrintWords
set_option linter.unusedVariables false
set_option linter.unusedSimpArgs false
/-! ### plain -/
theorem due_app {S : List (Int × Int)} {a : Int} (hs : Srt S) : dueS S a ++ restS S a = S := by
  induction S with
  | nil => rfl
  | cons x r ih =>
    have h2 := List.pairwise_cons.1 hs
    by_cases h : x.2 ≤ a
    · have e1 : dueS (x :: r) a = x :: dueS r a := by unfold dueS; rw [List.filter_cons_of_pos (by simpa using h)]
      have e2 : restS (x :: r) a = restS r a := by unfold restS; rw [List.filter_cons_of_neg (by simpa using h)]
      rw [e1, e2, List.cons_append, ih h2.2]
    · have hr : ∀ y ∈ x :: r, ¬ y.2 ≤ a := fun y hy => by
        rcases List.mem_cons.1 hy with rfl | hy
        · exact h
        · have := h2.1 y hy
          unfold aheadB at this
          simp only [decide_eq_true_eq] at this
          omega
      have e1 : dueS (x :: r) a = [] := by unfold dueS; exact List.filter_eq_nil_iff.2 (fun y hy => by simpa using hr y hy)
      have e2 : restS (x :: r) a = x :: r := by unfold restS; exact List.filter_eq_self.2 (fun y hy => by simpa using hr y hy)
      rw [e1, e2]; rfl
theorem rest_rest (S : List (Int × Int)) {a b : Int} (h : a ≤ b) : restS (restS S a) b = restS S b := by
  unfold restS
  rw [List.filter_filter]
  apply List.filter_congr
  intro x _
  by_cases h1 : x.2 ≤ b
  · simp [h1]
  · have : ¬ x.2 ≤ a := by omega
    simp [h1, this]
theorem due_due {S : List (Int × Int)} (hs : Srt S) {a b : Int} (h : a ≤ b) : dueS S b = dueS S a ++ dueS (restS S a) b := by
  have e : dueS S b = dueS (dueS S a ++ restS S a) b := by rw [due_app hs]
  rw [e]
  have e2 : dueS (dueS S a ++ restS S a) b = dueS (dueS S a) b ++ dueS (restS S a) b := by unfold dueS; rw [List.filter_append]
  rw [e2]
  congr 1
  unfold dueS
  rw [List.filter_filter]
  apply List.filter_congr
  intro x _
  by_cases h1 : x.2 ≤ a
  · have : x.2 ≤ b := by omega
    simp [h1, this]
  · simp [h1]
theorem srt_rest {S : List (Int × Int)} (hs : Srt S) (a : Int) : Srt (restS S a) := List.Pairwise.sublist List.filter_sublist hs
theorem at_due {S : List (Int × Int)} (hs : Srt S) {a : Int} {i : Nat} {x : Int × Int} (hx : S[i]? = some x) : x.2 ≤ a ↔ i < (dueS S a).length := by
  rw [← due_app (a := a) hs] at hx
  by_cases h : i < (dueS S a).length
  · rw [List.getElem?_append_left h] at hx
    have := (List.mem_filter.1 (List.mem_of_getElem? hx)).2
    exact ⟨fun _ => h, fun _ => by simpa using this⟩
  · rw [List.getElem?_append_right (by omega)] at hx
    have := (List.mem_filter.1 (List.mem_of_getElem? hx)).2
    exact ⟨fun h2 => absurd h2 (by simpa using this), fun h2 => absurd h2 h⟩
theorem at_rest {S : List (Int × Int)} (hs : Srt S) {a : Int} {i : Nat} {x : Int × Int} (hx : (restS S a)[i]? = some x) : S[(dueS S a).length + i]? = some x := by
  have h : (dueS S a ++ restS S a)[(dueS S a).length + i]? = some x := by
    rw [List.getElem?_append_right (by omega), show (dueS S a).length + i - (dueS S a).length = i by omega]
    exact hx
  rw [due_app hs] at h
  exact h
theorem KA.fr {F : Nat → Prop} {w w' : World} {base : Nat} {A : Option Addr} {c k : Nat} {S : List (Int × Int)} (h : KA w base A c k S) (hf : Fr F w w') (hF : ∀ q, F q → q < base) : KA w' base A c k S := by
  rcases h with h | ⟨g, cs, h1, h2, h3, h4⟩
  · exact .inl h
  · exact .inr ⟨g, cs, h1, h2, hf.heap h3 (fun q => by have := hF g q; omega), h4⟩
theorem KA.get {w : World} {base : Nat} {A : Option Addr} {c : Nat} {S : List (Int × Int)} (h : KA w base A c 0 S) {i : Nat} {x : Int × Int} (hx : S[i]? = some x) : ∃ g, A = some ⟨g, 0, none⟩ ∧ base ≤ g ∧ w.cell? ⟨g, i * 2, none⟩ = some (.int .i64 x.1) ∧ w.cell? ⟨g, i * 2 + 1, none⟩ = some (.int .i64 x.2) ∧ g < w.heap.size := by
  rcases h with rfl | ⟨g, cs, h1, h2, h3, h4, h5, h6⟩
  · simp at hx
  · have := h6 i x (Nat.zero_le _) hx
    exact ⟨g, h1, h2, by rw [cell_at h3]; exact this.1, by rw [cell_at h3]; exact this.2, lt_of_block h3⟩
/-! ### appends of numbers -/
theorem napp {w : World} {B n : Nat} {v : Value} {l : List Int} (hown : w.ownsRow B 2 1 v n (l.map (Value.int .i64))) {base : Nat} {src : Value} {l2 : List Int} (hs : Nums w base src l2) (h63 : n + l2.length ≤ 4000000) (hB : B ≤ w.heap.size) :
    ∃ v' w', (Builtin.append_ #[42, 42] 42 #[v, src]).run Try.prog w = .ok v' w' ∧ w'.ownsRow B 2 1 v' (n + l2.length) ((l ++ l2).map (Value.int .i64)) ∧ w.grownBy w' v.ownBlock := by
  obtain ⟨i0, hi0, hz0, hz1, hz2⟩ := info_parts ids_info
  rw [List.map_append]
  rcases hs.2 with ⟨rfl, h0⟩ | ⟨g, cap, cur, rfl, hb, hg, hc, hm, hsz, ht⟩
  · have : l2 = [] := List.eq_nil_of_length_eq_zero h0
    subst this
    exact ⟨v, w, run_append_owned_none w B 42 42 2 i0 1 Try.underlying42 hi0 v n _ hown, by simpa using hown, ⟨rfl, rfl, rfl, Nat.le_refl _, fun k hk hne => rfl⟩⟩
  · obtain ⟨v', w', hr, ho, hgr, _⟩ := run_append_own (P := Try.prog) w B 42 42 2 i0 (.int .i64 0) 1 8 Try.underlying42 hi0 hz0 hz1 hz2 rfl (by decide) v n _ hown ⟨g, 0, none⟩ l2.length cap (l2.map (Value.int .i64)) (by simp) (fun j u hu => by
      rw [add_at, Nat.zero_add, cell_at hg]
      rw [← ht] at hu
      have hj : j < l2.length * 1 := by
        rcases Nat.lt_or_ge j (l2.length * 1) with h' | h'
        · exact h'
        · rw [List.getElem?_eq_none (by rw [List.length_take]; omega)] at hu; cases hu
      rw [List.getElem?_take_of_lt hj] at hu
      simpa using hu) (fun u hu => by obtain ⟨x, _, rfl⟩ := List.mem_map.1 hu; rfl) (by unfold maxLen; omega) (by omega) hB
    exact ⟨v', w', hr, ho, hgr⟩
theorem timer_same (u : World) (a b : Int) : (binOp .neq 57 (.agg #[.int .i64 a, .int .i64 b]) (.agg #[.int .i64 a, .int .i64 b])).run Try.prog u = .ok (.bool false) u := by
  go_simp
def row21T : Bool × List (List Nat × List Nat) := (true, [([], []), ([], []), ([0, 1], [0, 1]), ([2], [2]), ([], []), ([], []), ([5], [5]), ([], []), ([7], [7]), ([6, 8], [6, 8]), ([], []), ([9, 10], [9, 10]), ([4, 11], [4, 11]), ([12], [12]), ([3, 13], [3, 13])])
def row21B : List Nat := [0, 0, 3, 7, 0, 0, 32, 0, 128, 480, 0, 2016, 4080, 8176, 16383]
theorem row21_tab : rtab .any (opsOf Try.f6 21) = row21T := by kernel_rfl
theorem row21_bits : waitsOk row21T.2 row21B = true := by kernel_rfl
def row24T : Bool × List (List Nat × List Nat) := (true, [([], []), ([], []), ([1], [1]), ([2], [2]), ([0, 3], [0, 3]), ([4], [4]), ([5], [5]), ([6, 5], [5, 6]), ([7, 5, 5], [5, 7]), ([8], [8]), ([8], [8]), ([10, 8], [8, 10]), ([11, 8], [8, 11]), ([9, 12, 8], [8, 9, 12]), ([8, 13, 5], [5, 8, 13]), ([5, 14], [5, 14]), ([15, 8, 0, 1, 2, 3, 4, 5, 6, 7, 8, 9, 10, 11, 12, 13, 14, 15], [15])])
def row24B : List Nat := [0, 0, 2, 6, 15, 31, 63, 127, 255, 511, 511, 1535, 3583, 8191, 16383, 32767, 65535]
theorem row24_tab : rtab .any (opsOf Try.f6 24) = row24T := by kernel_rfl
theorem row24_bits : waitsOk row24T.2 row24B = true := by kernel_rfl

set_option maxHeartbeats 1000000 in
set_option maxRecDepth 100000 in
theorem row_long (A : Option Addr) (n c : Nat) (a b : Int) (w : World) (h150 : 150 < n) :
    Calls Try.prog 6 #[.slice A n c, .int .i64 a, .int .i64 b] w fun e w' => e = .returned (.bool true) ∧ Below w.heap.size w w' := by
  go_enter Try.func6, Try.ntmps6
  go_wp2_with fail
  refine (aw_true _).mono ?_
  rintro e w3 ⟨rfl, hb⟩
  have HB := Aside.mk hb
  clear hb
  go_wp2_with fail
  go_ret
  exact ⟨rfl, HB.out⟩
set_option maxHeartbeats 8000000 in
set_option maxRecDepth 100000 in
theorem row_short (A : Option Addr) (c : Nat) (l : List S57) (a0 b0 : Int) (w : World) (g : Kd.C k57 w A l.length l) (hlc : l.length ≤ c) (h150 : l.length ≤ 150) :
    Calls Try.prog 6 #[.slice A l.length c, .int .i64 a0, .int .i64 b0] w fun e w' => e = .returned (.bool true) ∧ Below w.heap.size w w' := by
  have HG := Aside.mk g
  obtain ⟨n, hn⟩ : ∃ n, l.length = n := ⟨_, rfl⟩
  have HN := Aside.mk hn
  have hcon := fun w1 (hb : Below w.heap.size w w1) => set_walk w A c l w1 (Kd.C_below HG.out hb) hlc (by omega) hb
  rw [hn] at hlc h150 hcon ⊢
  have HCON := Aside.mk hcon
  clear g hn hcon hlc
  go_enter Try.func6, Try.ntmps6
  go_wp2_with fail
  refine (aw_true _).mono ?_
  rintro e w1 ⟨rfl, hb⟩
  have HB := Aside.mk hb
  clear hb
  go_upto_if 27 with (fail)
  go_cut [1, 2] from 25 to 29 (fun x1 x2 wr => ∃ a b : Int, x1 = .int .i64 a ∧ x2 = .int .i64 b ∧ a ≤ b ∧ w1 = wr)
  case first =>
    by_cases hab : b0 < a0
    · go_wp2_with fail
      go_meet
      exact ⟨b0, a0, rfl, rfl, by omega, rfl⟩
    · go_wp2_with fail
      go_meet
      exact ⟨a0, b0, rfl, rfl, by omega, rfl⟩
  case rest =>
    obtain ⟨a, b, rfl, rfl, hab, rfl⟩ := hcut
    have HAB := Aside.mk hab
    clear hab
    go_wp2_with fail
    refine (HCON.out w1 HB.out).mono ?_
    rintro e w2 ⟨T, rfl, hT, _⟩
    obtain ⟨S, hS⟩ : ∃ S, setN l n = S := ⟨_, rfl⟩
    have HL : Aside (S.length ≤ 150) := ⟨by rw [← hS]; exact Nat.le_trans (setN_le l n) h150⟩
    rw [hS] at hT
    have HSR := Aside.mk hT.srt
    obtain ⟨⟨fp, q1, q2⟩, q3⟩ := hT
    have HT2 : Aside (TS w2 T S fp ∧ (∀ q ∈ fp, w.heap.size ≤ q) ∧ Below w.heap.size w w2) := ⟨q1, q2, q3⟩
    clear hS q1 q2 q3
    go_wp2_with fail
    refine (ts_copy T S fp w2 (by have := HL.out; omega) HT2.out.1).mono ?_
    rintro e w3 ⟨U, fpU, rfl, hU, hfU, hb⟩
    have HB3 : Aside (Below w.heap.size w w3) := ⟨HT2.out.2.2.trans (hb.mono HT2.out.2.2.size)⟩
    have HT3 := Aside.mk (HT2.out.1.below hb)
    have HU3 : Aside (TS w3 U S fpU ∧ (∀ q ∈ fpU, w.heap.size ≤ q) ∧ (∀ q ∈ fp, q ∉ fpU)) := ⟨hU, fun q h => Nat.le_trans HT2.out.2.2.size (hfU q h), fun q h1 h2 => by have := hfU q h2; have := HT2.out.1.lt q h1; omega⟩
    clear hU hfU hb
    go_wp2_with fail
    refine (all_calls T S fp w3 (by have := HL.out; omega) HT3.out).mono ?_
    rintro e w4 ⟨v, rfl, ht, hb⟩
    obtain ⟨AA, cA, rfl, hcA, hnA, hKA⟩ := KA.of ht
    have HK4 := Aside.mk hKA
    have HB4 : Aside (Below w.heap.size w w4) := ⟨HB3.out.trans (hb.mono HB3.out.size)⟩
    have HT4 := Aside.mk (HT3.out.below hb)
    have HU4 := Aside.mk (HU3.out.1.below hb)
    have HS34 := Aside.mk hb.size
    obtain ⟨N, hN⟩ : ∃ N, S.length = N := ⟨_, rfl⟩
    have HNN := Aside.mk hN
    have hN150 : N ≤ 150 := by rw [← hN]; exact HL.out
    rw [hN] at hnA ⊢
    clear ht hb hKA hN
    go_wp2_with fail
    refine (ts_due T S fp a w4 (by have := HL.out; omega) HT4.out).mono ?_
    rintro e w5 ⟨v, rfl, hn, ht, hf⟩
    obtain ⟨D1, hD1⟩ : ∃ D, dueS S a = D := ⟨_, rfl⟩
    obtain ⟨R1, hR1⟩ : ∃ D, restS S a = D := ⟨_, rfl⟩
    have HD1 := Aside.mk (And.intro hD1 hR1)
    rw [hD1] at hn
    rw [hR1] at ht
    have HT5 := Aside.mk ht
    have HN5 := Aside.mk hn
    have HU5 := Aside.mk (HU4.out.fr hf (fun q h1 h2 => HU3.out.2.2 q h2 h1))
    have HK5 := Aside.mk (HK4.out.fr hf (fun q h => HT3.out.lt q h))
    have HB5 : Aside (Below w.heap.size w w5) := ⟨HB4.out.trans (hf.below HB4.out.size HT2.out.2.1)⟩
    have HZ5 := Aside.mk hf.size
    obtain ⟨A5, c5, rfl, hl5, _⟩ := hn.C
    obtain ⟨f, hfl⟩ : ∃ f, D1.length = f := ⟨_, rfl⟩
    have HFL := Aside.mk hfl
    rw [List.length_map, hfl] at hl5 ⊢
    have hfN : f ≤ N := by rw [← hfl, ← hD1, ← HNN.out]; exact List.length_filter_le _ _
    clear hn ht hf hfl hD1 hR1
    go_wp2_with fail
    refine (ts_due T R1 fp b w5 (by rw [← HD1.out.2]; have := HL.out; have : (restS S a).length ≤ S.length := List.length_filter_le _ _; omega) HT5.out).mono ?_
    rintro e w6 ⟨v, rfl, hn, ht, hf⟩
    obtain ⟨D2, hD2⟩ : ∃ D, dueS R1 b = D := ⟨_, rfl⟩
    obtain ⟨R2, hR2⟩ : ∃ D, restS R1 b = D := ⟨_, rfl⟩
    have HD2 := Aside.mk (And.intro hD2 hR2)
    rw [hD2] at hn
    rw [hR2] at ht
    have HT6 := Aside.mk ht
    have HN6 := Aside.mk hn
    have HN56 := Aside.mk (HN5.out.fr hf (fun q h1 h2 h3 => by have := HT4.out.lt q h3; omega))
    have HU6 := Aside.mk (HU5.out.fr hf (fun q h1 h2 => HU3.out.2.2 q h2 h1))
    have HK6 := Aside.mk (HK5.out.fr hf (fun q h => HT3.out.lt q h))
    have HB6 : Aside (Below w.heap.size w w6) := ⟨HB5.out.trans (hf.below HB5.out.size HT2.out.2.1)⟩
    have HZ6 := Aside.mk hf.size
    obtain ⟨A6, c6, rfl, hl6, _⟩ := hn.C
    obtain ⟨t, htl⟩ : ∃ f, D2.length = f := ⟨_, rfl⟩
    have HTL := Aside.mk htl
    rw [List.length_map, htl] at hl6 ⊢
    clear hn ht hf htl hD2 hR2
    -- the lists
    have hsp : D1 ++ D2 = dueS S b ∧ R2 = restS S b ∧ S = D1 ++ (D2 ++ R2) := by
      have e1 := due_app (a := a) HSR.out
      have e2 := due_app (a := b) (srt_rest HSR.out a)
      rw [HD1.out.1, HD1.out.2] at e1
      rw [HD1.out.2, HD2.out.1, HD2.out.2] at e2
      refine ⟨?_, ?_, by rw [e2, e1]⟩
      · rw [due_due HSR.out HAB.out, HD1.out.1, HD1.out.2, HD2.out.1]
      · rw [← HD2.out.2, ← HD1.out.2, rest_rest S HAB.out]
    have HSP := Aside.mk hsp
    obtain ⟨rr, hrr⟩ : ∃ rr, R2.length = rr := ⟨_, rfl⟩
    have HRR := Aside.mk hrr
    have hNf : N = f + (t + rr) := by rw [← HNN.out, hsp.2.2, List.length_append, List.length_append, HFL.out, HTL.out, HRR.out]
    have HNF := Aside.mk hNf
    have hftN : f + t ≤ N := by omega
    have hrN : rr ≤ 150 := by omega
    clear hsp hrr hNf
    -- the appended
    obtain ⟨V1, W1, hrun1, hown1, hgr1⟩ := napp (w := w6.alloc (.cells #[] 2 (0, 0))) (B := w6.heap.size) (n := 0) (v := .slice (some ⟨w6.heap.size, 0, none⟩) 0 0) (l := []) ⟨rfl, .inr ⟨w6.heap.size, 0, #[], rfl, Nat.le_refl _, heap_alloc_new w6 _, Nat.le_refl _, Nat.zero_le _, rfl, rfl⟩⟩ (HN56.out.fr ((Fr.refl (fun _ => False) w6).alloc _) (fun _ _ _ h => h)) (by rw [List.length_map, HFL.out]; omega) (by simp)
    have hb1 : Below w6.heap.size w6 W1 := ((Below.refl _ w6).alloc (Nat.le_refl _) _).grown hgr1 (by simp) (fun k e => by simp [Value.ownBlock] at e; omega)
    obtain ⟨V2, W2, hrun2, hown2, hgr2⟩ := napp hown1 (HN6.out.fr (Fr.of_new (F := fun _ => False) hb1) (fun _ _ _ h => h)) (by rw [List.length_map, List.length_map, HFL.out, HTL.out]; omega) hb1.size
    have hb2 : Below w6.heap.size w6 W2 := hb1.grown hgr2 hb1.size (fun k e => (hown1.lt k e).1)
    simp only [List.nil_append, List.length_map, Nat.zero_add, HFL.out, HTL.out, ← List.map_append] at hown1 hown2 hrun1 hrun2
    obtain ⟨A7, c7, rfl⟩ := own_slice hown1
    obtain ⟨A8, c8, rfl⟩ := own_slice hown2
    have HO2 := Aside.mk hown2
    have HBW := Aside.mk hb2
    have HTW := Aside.mk (HT6.out.below hb2)
    have HUW := Aside.mk (HU6.out.below hb2)
    have HKW := Aside.mk (HK6.out.below hb2)
    have HRUN := Aside.mk (And.intro hrun1 hrun2)
    clear hown1 hown2 hgr1 hgr2 hb1 hb2 hrun1 hrun2
    have hr1 := HRUN.out.1
    have hr2 := HRUN.out.2
    go_upto_region 10 with fail
    go_wp2_with (at_builtin; refine wpList_append_run rfl _ _ 42 rfl rfl rfl (by first | exact hr1 | exact hr2) ?_)
    clear hr1 hr2
    refine (ts_due U S fpU b W2 (by have := HL.out; omega) HUW.out).mono ?_
    rintro e w9 ⟨v, rfl, hn, ht, hf⟩
    rw [← HSP.out.1] at hn
    rw [← HSP.out.2.1] at ht
    have HU9 := Aside.mk ht
    have HT9 := Aside.mk (HTW.out.fr hf (fun q h1 h2 => HU3.out.2.2 q h1 h2))
    have hK9 := HKW.out.fr hf (fun q h => Nat.lt_of_lt_of_le (HU3.out.1.lt q h) (Nat.le_refl _))
    have HK9 := Aside.mk hK9
    have HB9 : Aside (Below w.heap.size w w9) := ⟨(HB6.out.trans (HBW.out.mono HB6.out.size)).trans (hf.below (Nat.le_trans HB6.out.size HBW.out.size) HU3.out.2.1)⟩
    have hO9 : Nums w9 w6.heap.size (.slice A8 (f + t) c8) ((D1.map (·.1)) ++ D2.map (·.1)) := by
      have h1 : Nums W2 w6.heap.size (.slice A8 (f + t) c8) ((D1.map (·.1)) ++ D2.map (·.1)) := by
        unfold Nums
        rw [List.length_append, List.length_map, List.length_map, HFL.out, HTL.out]
        simpa only [List.map_append] using HO2.out
      exact h1.fr hf (fun q h1 h2 h3 => by have := HU6.out.lt q h3; omega)
    have hlen : ((D1.map (·.1)) ++ D2.map (·.1)).length = f + t := by rw [List.length_append, List.length_map, List.length_map, HFL.out, HTL.out]
    have hlen2 : ((D1 ++ D2).map (·.1)).length = f + t := by rw [List.length_map, List.length_append, HFL.out, HTL.out]
    obtain ⟨A9, c9, rfl, h91, h92⟩ := hn.C
    obtain ⟨A10, c10, e10, h101, h102⟩ := hO9.C
    rw [hlen] at e10
    cases e10
    rw [hlen2]
    have HCN := Aside.mk (numbers_is A8 A9 c8 c9 (f + t) (f + t) _ _ w9 (by rw [hlen]; omega) h102 h92 h101 h91 true (by rw [List.map_append]; simp) hlen hlen2)
    clear hn ht hf hK9 hO9 hlen hlen2 h91 h92 h101 h102
    go_wp2_with fail
    refine HCN.out.mono ?_
    rintro e w10 ⟨rfl, hb⟩
    have HT10 := Aside.mk (HT9.out.below hb)
    have HU10 := Aside.mk (HU9.out.below hb)
    have HK10 := Aside.mk (HK9.out.below hb)
    have HB10 : Aside (Below w.heap.size w w10) := ⟨HB9.out.trans (hb.mono HB9.out.size)⟩
    clear hb HCN
    go_wp2_with fail
    refine (ts_len T R2 fp w10 HT10.out).mono ?_
    rintro e w11 ⟨rfl, rfl⟩
    rw [HRR.out]
    go_wp2_with fail
    refine (ts_len U R2 fpU w10 HU10.out).mono ?_
    rintro e w11 ⟨rfl, rfl⟩
    rw [HRR.out]
    go_wp2_with fail
    refine (ts_len T R2 fp w10 HT10.out).mono ?_
    rintro e w11 ⟨rfl, rfl⟩
    rw [HRR.out]
    have hs1 : (N : Int) - f - t = rr := by have := HNF.out; omega
    have HATA : Aside (∀ i x, S[i]? = some x → (x.2 ≤ a ↔ i < f)) := ⟨fun i x hx => by rw [at_due HSR.out hx, HD1.out.1, HFL.out]⟩
    have HATB : Aside (∀ i x, S[i]? = some x → (x.2 ≤ b ↔ i < f + t)) := ⟨fun i x hx => by rw [at_due HSR.out hx, ← HSP.out.1, List.length_append, HFL.out, HTL.out]⟩
    have HATR : Aside (∀ i x, R2[i]? = some x → S[f + t + i]? = some x) := ⟨fun i x hx => by
      rw [HSP.out.2.1] at hx
      have := at_rest HSR.out hx
      rw [← HSP.out.1, List.length_append, HFL.out, HTL.out] at this
      exact this⟩
    go_upto_block 0 with fail
    clear hs1
    go_cut [12] from 72 to 106 (fun x wr => w10 = wr)
    case first =>
      go_wp2_with fail
      go_loop [12] (fun v => ∃ k : Nat, k ≤ N ∧ v = .int .i64 k) (fun v => (N) - (intOf v).toNat)
      case atStart => exact ⟨0, by omega, rfl⟩
      case round =>
        obtain ⟨k, hk, rfl⟩ := hrel
        by_cases hlt : k < N
        · obtain ⟨y, hy⟩ : ∃ y, S[k]? = some y := ⟨_, List.getElem?_eq_getElem (by rw [HNN.out]; exact hlt)⟩
          obtain ⟨gA, rfl, _, t0, t1, _⟩ := HK10.out.get hy
          have ha := HATA.out k y hy
          have hb := HATB.out k y hy
          clear hy t0
          by_cases h1 : k < f
          · have d1 := ha.2 h1
            have d2 := hb.2 (by omega)
            have d3 : decide ((k : Int) < (f : Int) + t) = true := by simp; omega
            clear ha hb
            go_wp2_with fail
            go_round
            case rel => exact ⟨k + 1, by omega, by go_num⟩
            case measure => simp [intOf]; omega
          · have d1 : ¬ y.2 ≤ a := fun h => h1 (ha.1 h)
            by_cases h2 : k < f + t
            · have d2 := hb.2 h2
              have d3 : decide ((k : Int) < (f : Int) + t) = true := by simp; omega
              clear ha hb
              go_wp2_with fail
              go_round
              case rel => exact ⟨k + 1, by omega, by go_num⟩
              case measure => simp [intOf]; omega
            · have d2 : ¬ y.2 ≤ b := fun h => h2 (hb.1 h)
              have d3 : decide ((k : Int) < (f : Int) + t) = false := by simp; omega
              clear ha hb
              go_wp2_with fail
              go_round
              case rel => exact ⟨k + 1, by omega, by go_num⟩
              case measure => simp [intOf]; omega
        · obtain rfl : k = N := by omega
          go_wp2_with fail
          go_meet
          rfl
    case rest =>
      subst hcut
      go_wp2_with fail
      refine (all_calls T R2 fp w10 (by rw [HRR.out]; omega) HT10.out).mono ?_
      rintro e w12 ⟨v, rfl, ht, hb⟩
      obtain ⟨AR, cR, rfl, hcR, hnR, hKR⟩ := KA.of ht
      have HKR := Aside.mk hKR
      have HK12 := Aside.mk (HK10.out.below hb)
      have HT12 := Aside.mk (HT10.out.below hb)
      have HB12 : Aside (Below w.heap.size w w12) := ⟨HB10.out.trans (hb.mono HB10.out.size)⟩
      rw [HRR.out] at hnR ⊢
      clear ht hb hKR
      go_upto_block 2 with fail
      go_cut [14] from 109 to 129 (fun x wr => Aside (Below w12.heap.size w12 wr))
      case first =>
        go_wp2_with fail
        go_loopw [14] (fun v wr => ∃ k : Nat, k ≤ rr ∧ v = .int .i64 k ∧ Aside (Below w12.heap.size w12 wr)) (fun v _ => rr - (intOf v).toNat)
        case atStart => exact ⟨0, by omega, rfl, ⟨Below.refl _ _⟩⟩
        case round =>
          obtain ⟨k, hk, rfl, HR⟩ := hrel
          by_cases hlt : k < rr
          · obtain ⟨y, hy⟩ : ∃ y, R2[k]? = some y := ⟨_, List.getElem?_eq_getElem (by rw [HRR.out]; exact hlt)⟩
            have HRD := Aside.mk (below_drew1 HR.out)
            obtain ⟨gR, rfl, _, t0, t1, _⟩ := (HKR.out.below HRD.out).get hy
            obtain ⟨gA, rfl, _, t2, t3, _⟩ := (HK12.out.below HRD.out).get (HATR.out k y hy)
            have HZ := Aside.mk HRD.out
            have hw1 : IntKind.i64.wrap ((f : Int) + t) = (f : Int) + t := IntWalk.i64_in _ (by omega)
            have hw2 : IntKind.i64.wrap ((f : Int) + t + k) = (f : Int) + t + k := IntWalk.i64_in _ (by omega)
            have hz1 : (0 : Int) ≤ (f : Int) + t + k := by omega
            have hz2 : (f : Int) + t + k < (N : Int) := by have := HNF.out; omega
            have hz3 : ((f : Int) + t + k).toNat = f + t + k := by omega
            have hq := timer_same
            clear hy
            go_upto_region 21 with fail
            refine start_ (n := 15) (S := (fun w' => w'.cell? ⟨gR, k * 2, none⟩ = some (.int .i64 y.1) ∧ w'.cell? ⟨gR, k * 2 + 1, none⟩ = some (.int .i64 y.2) ∧ w'.cell? ⟨gA, (f + t + k) * 2, none⟩ = some (.int .i64 y.1) ∧ w'.cell? ⟨gA, (f + t + k) * 2 + 1, none⟩ = some (.int .i64 y.2))) (ds := []) #[false, false, false, false, false, false, false, false, false, false, false, false, false, false, false] (by kernel_rfl) rfl rfl ⟨t0, t1, t2, t3⟩ (fun hHeld => ?_); refine with_tabW row21_tab row21_bits (fun HT_ HW_ => ?_)
            refine pure_ (i := 0) (N := (some 115)) (v := ?_) (a' := ?_) #[true, false, false, false, false, false, false, false, false, false, false, false, false, false, false] rfl rfl (any_of HT_.out (by kernel_rfl)) (fun _ _ _ h => h) (Or.inl ⟨by rfl, ?_⟩) ?_ ?_
            rotate_left
            · intro w'
              go_simp
              with_reducible rfl
            rotate_left
            · simp only [Act.put, List.setIfInBounds_toArray, List.set_cons_zero, List.set_cons_succ, i64_w, i32_w]
              rfl
            refine pure_ (i := 1) (N := (some 116)) (v := ?_) (a' := ?_) #[true, true, false, false, false, false, false, false, false, false, false, false, false, false, false] rfl rfl (any_of HT_.out (by kernel_rfl)) (fun _ _ _ h => h) (Or.inl ⟨by rfl, ?_⟩) ?_ ?_
            rotate_left
            · intro w'
              go_simp
              with_reducible rfl
            rotate_left
            · simp only [Act.put, List.setIfInBounds_toArray, List.set_cons_zero, List.set_cons_succ, i64_w, i32_w]
              rfl
            refine pure_ (i := 2) (N := (some 117)) (v := ?_) (a' := ?_) #[true, true, true, false, false, false, false, false, false, false, false, false, false, false, false] rfl rfl (any_of HT_.out (by kernel_rfl)) (fun _ _ _ h => h) (Or.inl ⟨by rfl, ?_⟩) ?_ ?_
            rotate_left
            · intro w'
              go_simp
              with_reducible rfl
            rotate_left
            · simp only [Act.put, List.setIfInBounds_toArray, List.set_cons_zero, List.set_cons_succ, i64_w, i32_w]
              rfl
            refine take_ (i := 3) (N := (some 118)) (v := ?_) (a' := ?_) #[true, true, true, true, false, false, false, false, false, false, false, false, false, false, false] rfl rfl (take_ofW HT_.out HW_.out (by kernel_rfl)) (fun _ _ _ h => h) (Or.inl ⟨by rfl, ?_⟩) hHeld ?_ ?_
            rotate_left
            · rintro w' ⟨s1, s2, _, _⟩
              go_simp
              with_reducible rfl
            rotate_left
            · simp only [Act.put, List.setIfInBounds_toArray, List.set_cons_zero, List.set_cons_succ, i64_w, i32_w]
              rfl
            refine pure_ (i := 4) (N := (some 119)) (v := ?_) (a' := ?_) #[true, true, true, true, true, false, false, false, false, false, false, false, false, false, false] rfl rfl (any_of HT_.out (by kernel_rfl)) (fun _ _ _ h => h) (Or.inl ⟨by rfl, ?_⟩) ?_ ?_
            rotate_left
            · intro w'
              go_simp
              with_reducible rfl
            rotate_left
            · simp only [Act.put, List.setIfInBounds_toArray, List.set_cons_zero, List.set_cons_succ, i64_w, i32_w]
              rfl
            refine pure_ (i := 5) (N := (some 120)) (v := ?_) (a' := ?_) #[true, true, true, true, true, true, false, false, false, false, false, false, false, false, false] rfl rfl (any_of HT_.out (by kernel_rfl)) (fun _ _ _ h => h) (Or.inl ⟨by rfl, ?_⟩) ?_ ?_
            rotate_left
            · intro w'
              go_simp
              with_reducible rfl
            rotate_left
            · simp only [Act.put, List.setIfInBounds_toArray, List.set_cons_zero, List.set_cons_succ, i64_w, i32_w]
              rfl
            refine pure_ (i := 6) (N := (some 121)) (v := ?_) (a' := ?_) #[true, true, true, true, true, true, true, false, false, false, false, false, false, false, false] rfl rfl (any_of HT_.out (by kernel_rfl)) (fun _ _ _ h => h) (Or.inl ⟨by rfl, ?_⟩) ?_ ?_
            rotate_left
            · intro w'
              go_simp
              with_reducible rfl
            rotate_left
            · simp only [Act.put, List.setIfInBounds_toArray, List.set_cons_zero, List.set_cons_succ, i64_w, i32_w]
              rfl
            refine pure_ (i := 7) (N := (some 122)) (v := ?_) (a' := ?_) #[true, true, true, true, true, true, true, true, false, false, false, false, false, false, false] rfl rfl (any_of HT_.out (by kernel_rfl)) (fun _ _ _ h => h) (Or.inl ⟨by rfl, ?_⟩) ?_ ?_
            rotate_left
            · intro w'
              go_simp
              with_reducible rfl
            rotate_left
            · simp only [Act.put, List.setIfInBounds_toArray, List.set_cons_zero, List.set_cons_succ, i64_w, i32_w]
              rfl
            refine pure_ (i := 8) (N := (some 123)) (v := ?_) (a' := ?_) #[true, true, true, true, true, true, true, true, true, false, false, false, false, false, false] rfl rfl (any_of HT_.out (by kernel_rfl)) (fun _ _ _ h => h) (Or.inl ⟨by rfl, ?_⟩) ?_ ?_
            rotate_left
            · intro w'
              go_simp
              with_reducible rfl
            rotate_left
            · simp only [Act.put, List.setIfInBounds_toArray, List.set_cons_zero, List.set_cons_succ, i64_w, i32_w]
              rfl
            refine pure_ (i := 9) (N := (some 124)) (v := .int .i64 ((f : Int) + t)) (a' := ?_) #[true, true, true, true, true, true, true, true, true, true, false, false, false, false, false] rfl rfl (any_of HT_.out (by kernel_rfl)) (fun _ _ _ h => h) (Or.inl ⟨by rfl, ?_⟩) ?_ ?_
            · intro w'
              go_simp
            rotate_left
            · simp only [Act.put, List.setIfInBounds_toArray, List.set_cons_zero, List.set_cons_succ, i64_w, i32_w]
              rfl
            refine pure_ (i := 10) (N := (some 125)) (v := ?_) (a' := ?_) #[true, true, true, true, true, true, true, true, true, true, true, false, false, false, false] rfl rfl (any_of HT_.out (by kernel_rfl)) (fun _ _ _ h => h) (Or.inl ⟨by rfl, ?_⟩) ?_ ?_
            rotate_left
            · intro w'
              go_simp
              with_reducible rfl
            rotate_left
            · simp only [Act.put, List.setIfInBounds_toArray, List.set_cons_zero, List.set_cons_succ, i64_w, i32_w]
              rfl
            refine pure_ (i := 11) (N := (some 126)) (v := .int .i64 ((f : Int) + t + k)) (a' := ?_) #[true, true, true, true, true, true, true, true, true, true, true, true, false, false, false] rfl rfl (any_of HT_.out (by kernel_rfl)) (fun _ _ _ h => h) (Or.inl ⟨by rfl, ?_⟩) ?_ ?_
            · intro w'
              go_simp
            rotate_left
            · simp only [Act.put, List.setIfInBounds_toArray, List.set_cons_zero, List.set_cons_succ, i64_w, i32_w]
              rfl
            refine pure_ (i := 12) (N := (some 127)) (v := ?_) (a' := ?_) #[true, true, true, true, true, true, true, true, true, true, true, true, true, false, false] rfl rfl (any_of HT_.out (by kernel_rfl)) (fun _ _ _ h => h) (Or.inl ⟨by rfl, ?_⟩) ?_ ?_
            rotate_left
            · intro w'
              go_simp
              with_reducible rfl
            rotate_left
            · simp only [Act.put, List.setIfInBounds_toArray, List.set_cons_zero, List.set_cons_succ, i64_w, i32_w]
              rfl
            refine take_ (i := 13) (N := (some 128)) (v := ?_) (a' := ?_) #[true, true, true, true, true, true, true, true, true, true, true, true, true, true, false] rfl rfl (take_ofW HT_.out HW_.out (by kernel_rfl)) (fun _ _ _ h => h) (Or.inl ⟨by rfl, ?_⟩) hHeld ?_ ?_
            rotate_left
            · rintro w' ⟨_, _, s1, s2⟩
              go_simp
              with_reducible rfl
            rotate_left
            · simp only [Act.put, List.setIfInBounds_toArray, List.set_cons_zero, List.set_cons_succ, i64_w, i32_w]
              rfl
            refine pure_ (i := 14) (N := (some 129)) (v := .bool false) (a' := ?_) #[true, true, true, true, true, true, true, true, true, true, true, true, true, true, true] rfl rfl (any_of HT_.out (by kernel_rfl)) (fun _ _ _ h => h) (Or.inl ⟨by rfl, ?_⟩) ?_ ?_
            · intro w'
              first | (go_simp; done) | (go_simp; with_reducible rfl) | (go_simp; simp [*]; done) | (go_simp; simp; omega)
            rotate_left
            · simp only [Act.put, List.setIfInBounds_toArray, List.set_cons_zero, List.set_cons_succ, i64_w, i32_w]
              rfl
            refine done_ (done_of HT_.out (by kernel_rfl)) ?_
            clear HT_ HW_ hHeld
            clear t0 t1 t2 t3 hw1 hw2 hz1 hz2 hz3
            go_wp2_with fail
            go_roundw
            case rel => exact ⟨k + 1, by omega, by go_num, HZ⟩
            case measure => simp [intOf]; omega
          · obtain rfl : k = rr := by omega
            go_wp2_with fail
            go_meet
            exact HR
      case rest =>
        have HT13 := Aside.mk (HT12.out.below hcut.out)
        have HK13 := Aside.mk (HKR.out.below hcut.out)
        have HB13 : Aside (Below w.heap.size w wc) := ⟨HB12.out.trans (hcut.out.mono HB12.out.size)⟩
        go_wp2_with fail
        refine (ts_next T R2 fp wc HT13.out).mono ?_
        rintro e w14 ⟨rfl, hb⟩
        have HB14 : Aside (Below w.heap.size w w14) := ⟨HB13.out.trans (hb.mono HB13.out.size)⟩
        have HK14 := Aside.mk (HK13.out.below hb)
        clear hb hcut
        cases hR2 : R2 with
        | nil =>
          try rw [hR2]
          rw [show headOf ([] : List (Int × Int)) = (0, 0) from rfl]
          obtain rfl : rr = 0 := by rw [← HRR.out, hR2]; rfl
          have t0 : (w14.alloc (.cells #[.int .i64 0, .int .i64 0] 57 (0, 0))).drew.cell? ⟨w14.heap.size, 0, none⟩ = some (.int .i64 0) := cell_at (heap_alloc_new w14 _) 0
          obtain ⟨G, hG⟩ : ∃ G, w14.heap.size = G := ⟨_, rfl⟩
          rw [hG] at t0
          clear hR2
          go_upto_region 24 with fail
          refine start_ (n := 17) (S := (fun w' => w'.cell? ⟨G, 0, none⟩ = some (.int .i64 0))) (ds := []) #[false, false, false, false, false, false, false, false, false, false, false, false, false, false, false, false, false] (by kernel_rfl) rfl rfl t0 (fun hHeld => ?_); refine with_tabW row24_tab row24_bits (fun HT_ HW_ => ?_)
          refine pure_ (i := 0) (N := (some 135)) (v := .bool false) (a' := ?_) #[true, false, false, false, false, false, false, false, false, false, false, false, false, false, false, false, false] rfl rfl (any_of HT_.out (by kernel_rfl)) (fun _ _ _ h => h) (Or.inl ⟨by rfl, ?_⟩) ?_ ?_
          · intro w'
            first | (go_simp; done) | (go_simp; with_reducible rfl) | (go_simp; simp [*]; done) | (go_simp; simp; omega)
          rotate_left
          · simp only [Act.put, List.setIfInBounds_toArray, List.set_cons_zero, List.set_cons_succ, i64_w, i32_w]
            rfl
          refine pure_ (i := 1) (N := (some 136)) (v := ?_) (a' := ?_) #[true, true, false, false, false, false, false, false, false, false, false, false, false, false, false, false, false] rfl rfl (any_of HT_.out (by kernel_rfl)) (fun _ _ _ h => h) (Or.inl ⟨by rfl, ?_⟩) ?_ ?_
          rotate_left
          · intro w'
            go_simp
            with_reducible rfl
          rotate_left
          · simp only [Act.put, List.setIfInBounds_toArray, List.set_cons_zero, List.set_cons_succ, i64_w, i32_w]
            rfl
          refine pure_ (i := 2) (N := (some 137)) (v := ?_) (a' := ?_) #[true, true, true, false, false, false, false, false, false, false, false, false, false, false, false, false, false] rfl rfl (any_of HT_.out (by kernel_rfl)) (fun _ _ _ h => h) (Or.inl ⟨by rfl, ?_⟩) ?_ ?_
          rotate_left
          · intro w'
            go_simp
            with_reducible rfl
          rotate_left
          · simp only [Act.put, List.setIfInBounds_toArray, List.set_cons_zero, List.set_cons_succ, i64_w, i32_w]
            rfl
          refine pure_ (i := 3) (N := (some 138)) (v := .bool false) (a' := ?_) #[true, true, true, true, false, false, false, false, false, false, false, false, false, false, false, false, false] rfl rfl (any_of HT_.out (by kernel_rfl)) (fun _ _ _ h => h) (Or.inl ⟨by rfl, ?_⟩) ?_ ?_
          · intro w'
            first | (go_simp; done) | (go_simp; with_reducible rfl) | (go_simp; simp [*]; done) | (go_simp; simp; omega)
          rotate_left
          · simp only [Act.put, List.setIfInBounds_toArray, List.set_cons_zero, List.set_cons_succ, i64_w, i32_w]
            rfl
          refine pure_ (i := 4) (N := (some 139)) (v := .bool true) (a' := ?_) #[true, true, true, true, true, false, false, false, false, false, false, false, false, false, false, false, false] rfl rfl (any_of HT_.out (by kernel_rfl)) (fun _ _ _ h => h) (Or.inl ⟨by rfl, ?_⟩) ?_ ?_
          · intro w'
            first | (go_simp; done) | (go_simp; with_reducible rfl) | (go_simp; simp [*]; done) | (go_simp; simp; omega)
          rotate_left
          · simp only [Act.put, List.setIfInBounds_toArray, List.set_cons_zero, List.set_cons_succ, i64_w, i32_w]
            rfl
          refine pure_ (i := 5) (N := (some 140)) (v := ?_) (a' := ?_) #[true, true, true, true, true, true, false, false, false, false, false, false, false, false, false, false, false] rfl rfl (any_of HT_.out (by kernel_rfl)) (fun _ _ _ h => h) (Or.inl ⟨by rfl, ?_⟩) ?_ ?_
          rotate_left
          · intro w'
            go_simp
            with_reducible rfl
          rotate_left
          · simp only [Act.put, List.setIfInBounds_toArray, List.set_cons_zero, List.set_cons_succ, i64_w, i32_w]
            rfl
          refine pure_ (i := 6) (N := (some 141)) (v := .bool false) (a' := ?_) #[true, true, true, true, true, true, true, false, false, false, false, false, false, false, false, false, false] rfl rfl (any_of HT_.out (by kernel_rfl)) (fun _ _ _ h => h) (Or.inl ⟨by rfl, ?_⟩) ?_ ?_
          · intro w'
            first | (go_simp; done) | (go_simp; with_reducible rfl) | (go_simp; simp [*]; done) | (go_simp; simp; omega)
          rotate_left
          · simp only [Act.put, List.setIfInBounds_toArray, List.set_cons_zero, List.set_cons_succ, i64_w, i32_w]
            rfl
          refine pure_ (i := 7) (N := (some 142)) (v := .bool true) (a' := ?_) #[true, true, true, true, true, true, true, true, false, false, false, false, false, false, false, false, false] rfl rfl (any_of HT_.out (by kernel_rfl)) (fun _ _ _ h => h) (Or.inl ⟨by rfl, ?_⟩) ?_ ?_
          · intro w'
            first | (go_simp; done) | (go_simp; with_reducible rfl) | (go_simp; simp [*]; done) | (go_simp; simp; omega)
          rotate_left
          · simp only [Act.put, List.setIfInBounds_toArray, List.set_cons_zero, List.set_cons_succ, i64_w, i32_w]
            rfl
          refine pure_ (i := 8) (N := (some 143)) (v := ?_) (a' := ?_) #[true, true, true, true, true, true, true, true, true, false, false, false, false, false, false, false, false] rfl rfl (any_of HT_.out (by kernel_rfl)) (fun _ _ _ h => h) (Or.inl ⟨by rfl, ?_⟩) ?_ ?_
          rotate_left
          · intro w'
            go_simp
            with_reducible rfl
          rotate_left
          · simp only [Act.put, List.setIfInBounds_toArray, List.set_cons_zero, List.set_cons_succ, i64_w, i32_w]
            rfl
          refine pure_ (i := 9) (N := (some 144)) (v := undef) (a' := ?_) #[true, true, true, true, true, true, true, true, true, true, false, false, false, false, false, false, false] rfl rfl (any_of HT_.out (by kernel_rfl)) (fun _ _ _ h => h) (Or.inr ⟨by rfl, rfl⟩) ?_ ?_
          rotate_left
          · simp only [Act.put, List.setIfInBounds_toArray, List.set_cons_zero, List.set_cons_succ, i64_w, i32_w]
            rfl
          refine pure_ (i := 10) (N := (some 145)) (v := undef) (a' := ?_) #[true, true, true, true, true, true, true, true, true, true, true, false, false, false, false, false, false] rfl rfl (any_of HT_.out (by kernel_rfl)) (fun _ _ _ h => h) (Or.inr ⟨by rfl, rfl⟩) ?_ ?_
          rotate_left
          · simp only [Act.put, List.setIfInBounds_toArray, List.set_cons_zero, List.set_cons_succ, i64_w, i32_w]
            rfl
          refine pure_ (i := 11) (N := (some 146)) (v := undef) (a' := ?_) #[true, true, true, true, true, true, true, true, true, true, true, true, false, false, false, false, false] rfl rfl (any_of HT_.out (by kernel_rfl)) (fun _ _ _ h => h) (Or.inr ⟨by rfl, rfl⟩) ?_ ?_
          rotate_left
          · simp only [Act.put, List.setIfInBounds_toArray, List.set_cons_zero, List.set_cons_succ, i64_w, i32_w]
            rfl
          refine pure_ (i := 12) (N := (some 147)) (v := undef) (a' := ?_) #[true, true, true, true, true, true, true, true, true, true, true, true, true, false, false, false, false] rfl rfl (any_of HT_.out (by kernel_rfl)) (fun _ _ _ h => h) (Or.inr ⟨by rfl, rfl⟩) ?_ ?_
          rotate_left
          · simp only [Act.put, List.setIfInBounds_toArray, List.set_cons_zero, List.set_cons_succ, i64_w, i32_w]
            rfl
          refine pure_ (i := 13) (N := (some 148)) (v := undef) (a' := ?_) #[true, true, true, true, true, true, true, true, true, true, true, true, true, true, false, false, false] rfl rfl (any_of HT_.out (by kernel_rfl)) (fun _ _ _ h => h) (Or.inr ⟨by rfl, rfl⟩) ?_ ?_
          rotate_left
          · simp only [Act.put, List.setIfInBounds_toArray, List.set_cons_zero, List.set_cons_succ, i64_w, i32_w]
            rfl
          refine pure_ (i := 14) (N := (some 149)) (v := ?_) (a' := ?_) #[true, true, true, true, true, true, true, true, true, true, true, true, true, true, true, false, false] rfl rfl (any_of HT_.out (by kernel_rfl)) (fun _ _ _ h => h) (Or.inl ⟨by rfl, ?_⟩) ?_ ?_
          rotate_left
          · intro w'
            go_simp
            with_reducible rfl
          rotate_left
          · simp only [Act.put, List.setIfInBounds_toArray, List.set_cons_zero, List.set_cons_succ, i64_w, i32_w]
            rfl
          refine pure_ (i := 15) (N := (some 150)) (v := ?_) (a' := ?_) #[true, true, true, true, true, true, true, true, true, true, true, true, true, true, true, true, false] rfl rfl (any_of HT_.out (by kernel_rfl)) (fun _ _ _ h => h) (Or.inl ⟨by rfl, ?_⟩) ?_ ?_
          rotate_left
          · intro w'
            go_simp
            with_reducible rfl
          rotate_left
          · simp only [Act.put, List.setIfInBounds_toArray, List.set_cons_zero, List.set_cons_succ, i64_w, i32_w]
            rfl
          refine pure_ (i := 16) (N := (some 6)) (v := ?_) (a' := ?_) #[true, true, true, true, true, true, true, true, true, true, true, true, true, true, true, true, true] rfl rfl (any_of HT_.out (by kernel_rfl)) (fun _ _ _ h => h) (Or.inl ⟨by rfl, ?_⟩) ?_ ?_
          rotate_left
          · intro w'
            go_simp
            with_reducible rfl
          rotate_left
          · simp only [Act.put, List.setIfInBounds_toArray, List.set_cons_zero, List.set_cons_succ, i64_w, i32_w]
            rfl
          refine done_ (done_of HT_.out (by kernel_rfl)) ?_
          clear HT_ HW_ hHeld
          clear t0
          go_wp2_with fail
          go_ret
          refine ⟨rfl, ?_⟩
          have h1 := HB14.out
          first | exact (below_drew1 (h1.alloc h1.size _)) | exact pw_below_drewN (h1.alloc h1.size _) _ | exact h1.alloc h1.size _
        | cons y r =>
          try rw [hR2]
          rw [show headOf (y :: r) = y from rfl]
          have hn0 : 0 < rr := by rw [← HRR.out, hR2]; simp
          obtain ⟨gR, rfl, _, t2, t3, hgl⟩ := HK14.out.get (i := 0) (x := y) (by rw [hR2]; rfl)
          have hnb : Below w14.heap.size w14 (w14.alloc (.cells #[.int .i64 y.1, .int .i64 y.2] 57 (0, 0))) := (Below.refl _ _).alloc (Nat.le_refl _) _
          have t0 : (w14.alloc (.cells #[.int .i64 y.1, .int .i64 y.2] 57 (0, 0))).drew.cell? ⟨w14.heap.size, 0, none⟩ = some (.int .i64 y.1) := cell_at (heap_alloc_new w14 _) 0
          have t1 : (w14.alloc (.cells #[.int .i64 y.1, .int .i64 y.2] 57 (0, 0))).drew.cell? ⟨w14.heap.size, 1, none⟩ = some (.int .i64 y.2) := cell_at (heap_alloc_new w14 _) 1
          have t2' := (hnb.cell (p := ⟨gR, 0 * 2, none⟩) hgl).trans t2
          have t3' := (hnb.cell (p := ⟨gR, 0 * 2 + 1, none⟩) hgl).trans t3
          have t2 : (w14.alloc (.cells #[.int .i64 y.1, .int .i64 y.2] 57 (0, 0))).drew.cell? ⟨gR, 0, none⟩ = some (.int .i64 y.1) := t2'
          have t3 : (w14.alloc (.cells #[.int .i64 y.1, .int .i64 y.2] 57 (0, 0))).drew.cell? ⟨gR, 1, none⟩ = some (.int .i64 y.2) := t3'
          obtain ⟨G, hG⟩ : ∃ G, w14.heap.size = G := ⟨_, rfl⟩
          have hne : (y :: r).isEmpty = false := rfl
          rw [hG] at t0 t1
          clear hR2 hnb t2' t3'
          go_upto_region 24 with fail
          refine start_ (n := 17) (S := (fun w' => w'.cell? ⟨G, 0, none⟩ = some (.int .i64 y.1) ∧ w'.cell? ⟨G, 1, none⟩ = some (.int .i64 y.2) ∧ w'.cell? ⟨gR, 0, none⟩ = some (.int .i64 y.1) ∧ w'.cell? ⟨gR, 1, none⟩ = some (.int .i64 y.2))) (ds := []) #[false, false, false, false, false, false, false, false, false, false, false, false, false, false, false, false, false] (by kernel_rfl) rfl rfl ⟨t0, t1, t2, t3⟩ (fun hHeld => ?_); refine with_tabW row24_tab row24_bits (fun HT_ HW_ => ?_)
          refine pure_ (i := 0) (N := (some 135)) (v := .bool true) (a' := ?_) #[true, false, false, false, false, false, false, false, false, false, false, false, false, false, false, false, false] rfl rfl (any_of HT_.out (by kernel_rfl)) (fun _ _ _ h => h) (Or.inl ⟨by rfl, ?_⟩) ?_ ?_
          · intro w'
            first | (go_simp; done) | (go_simp; with_reducible rfl) | (go_simp; simp [*]; done) | (go_simp; simp; omega)
          rotate_left
          · simp only [Act.put, List.setIfInBounds_toArray, List.set_cons_zero, List.set_cons_succ, i64_w, i32_w]
            rfl
          refine pure_ (i := 1) (N := (some 136)) (v := ?_) (a' := ?_) #[true, true, false, false, false, false, false, false, false, false, false, false, false, false, false, false, false] rfl rfl (any_of HT_.out (by kernel_rfl)) (fun _ _ _ h => h) (Or.inl ⟨by rfl, ?_⟩) ?_ ?_
          rotate_left
          · intro w'
            go_simp
            with_reducible rfl
          rotate_left
          · simp only [Act.put, List.setIfInBounds_toArray, List.set_cons_zero, List.set_cons_succ, i64_w, i32_w]
            rfl
          refine pure_ (i := 2) (N := (some 137)) (v := ?_) (a' := ?_) #[true, true, true, false, false, false, false, false, false, false, false, false, false, false, false, false, false] rfl rfl (any_of HT_.out (by kernel_rfl)) (fun _ _ _ h => h) (Or.inl ⟨by rfl, ?_⟩) ?_ ?_
          rotate_left
          · intro w'
            go_simp
            with_reducible rfl
          rotate_left
          · simp only [Act.put, List.setIfInBounds_toArray, List.set_cons_zero, List.set_cons_succ, i64_w, i32_w]
            rfl
          refine pure_ (i := 3) (N := (some 138)) (v := .bool true) (a' := ?_) #[true, true, true, true, false, false, false, false, false, false, false, false, false, false, false, false, false] rfl rfl (any_of HT_.out (by kernel_rfl)) (fun _ _ _ h => h) (Or.inl ⟨by rfl, ?_⟩) ?_ ?_
          · intro w'
            first | (go_simp; done) | (go_simp; with_reducible rfl) | (go_simp; simp [*]; done) | (go_simp; simp; omega)
          rotate_left
          · simp only [Act.put, List.setIfInBounds_toArray, List.set_cons_zero, List.set_cons_succ, i64_w, i32_w]
            rfl
          refine pure_ (i := 4) (N := (some 139)) (v := .bool true) (a' := ?_) #[true, true, true, true, true, false, false, false, false, false, false, false, false, false, false, false, false] rfl rfl (any_of HT_.out (by kernel_rfl)) (fun _ _ _ h => h) (Or.inl ⟨by rfl, ?_⟩) ?_ ?_
          · intro w'
            first | (go_simp; done) | (go_simp; with_reducible rfl) | (go_simp; simp [*]; done) | (go_simp; simp; omega)
          rotate_left
          · simp only [Act.put, List.setIfInBounds_toArray, List.set_cons_zero, List.set_cons_succ, i64_w, i32_w]
            rfl
          refine pure_ (i := 5) (N := (some 140)) (v := ?_) (a' := ?_) #[true, true, true, true, true, true, false, false, false, false, false, false, false, false, false, false, false] rfl rfl (any_of HT_.out (by kernel_rfl)) (fun _ _ _ h => h) (Or.inl ⟨by rfl, ?_⟩) ?_ ?_
          rotate_left
          · intro w'
            go_simp
            with_reducible rfl
          rotate_left
          · simp only [Act.put, List.setIfInBounds_toArray, List.set_cons_zero, List.set_cons_succ, i64_w, i32_w]
            rfl
          refine pure_ (i := 6) (N := (some 141)) (v := .bool true) (a' := ?_) #[true, true, true, true, true, true, true, false, false, false, false, false, false, false, false, false, false] rfl rfl (any_of HT_.out (by kernel_rfl)) (fun _ _ _ h => h) (Or.inl ⟨by rfl, ?_⟩) ?_ ?_
          · intro w'
            first | (go_simp; done) | (go_simp; with_reducible rfl) | (go_simp; simp [*]; done) | (go_simp; simp; omega)
          rotate_left
          · simp only [Act.put, List.setIfInBounds_toArray, List.set_cons_zero, List.set_cons_succ, i64_w, i32_w]
            rfl
          refine pure_ (i := 7) (N := (some 142)) (v := .bool false) (a' := ?_) #[true, true, true, true, true, true, true, true, false, false, false, false, false, false, false, false, false] rfl rfl (any_of HT_.out (by kernel_rfl)) (fun _ _ _ h => h) (Or.inl ⟨by rfl, ?_⟩) ?_ ?_
          · intro w'
            first | (go_simp; done) | (go_simp; with_reducible rfl) | (go_simp; simp [*]; done) | (go_simp; simp; omega)
          rotate_left
          · simp only [Act.put, List.setIfInBounds_toArray, List.set_cons_zero, List.set_cons_succ, i64_w, i32_w]
            rfl
          refine pure_ (i := 8) (N := (some 143)) (v := ?_) (a' := ?_) #[true, true, true, true, true, true, true, true, true, false, false, false, false, false, false, false, false] rfl rfl (any_of HT_.out (by kernel_rfl)) (fun _ _ _ h => h) (Or.inl ⟨by rfl, ?_⟩) ?_ ?_
          rotate_left
          · intro w'
            go_simp
            with_reducible rfl
          rotate_left
          · simp only [Act.put, List.setIfInBounds_toArray, List.set_cons_zero, List.set_cons_succ, i64_w, i32_w]
            rfl
          refine take_ (i := 9) (N := (some 144)) (v := ?_) (a' := ?_) #[true, true, true, true, true, true, true, true, true, true, false, false, false, false, false, false, false] rfl rfl (take_ofW HT_.out HW_.out (by kernel_rfl)) (fun _ _ _ h => h) (Or.inl ⟨by rfl, ?_⟩) hHeld ?_ ?_
          rotate_left
          · rintro w' ⟨s1, s2, _, _⟩
            go_simp
            with_reducible rfl
          rotate_left
          · simp only [Act.put, List.setIfInBounds_toArray, List.set_cons_zero, List.set_cons_succ, i64_w, i32_w]
            rfl
          refine pure_ (i := 10) (N := (some 145)) (v := ?_) (a' := ?_) #[true, true, true, true, true, true, true, true, true, true, true, false, false, false, false, false, false] rfl rfl (any_of HT_.out (by kernel_rfl)) (fun _ _ _ h => h) (Or.inl ⟨by rfl, ?_⟩) ?_ ?_
          rotate_left
          · intro w'
            go_simp
            with_reducible rfl
          rotate_left
          · simp only [Act.put, List.setIfInBounds_toArray, List.set_cons_zero, List.set_cons_succ, i64_w, i32_w]
            rfl
          refine pure_ (i := 11) (N := (some 146)) (v := ?_) (a' := ?_) #[true, true, true, true, true, true, true, true, true, true, true, true, false, false, false, false, false] rfl rfl (any_of HT_.out (by kernel_rfl)) (fun _ _ _ h => h) (Or.inl ⟨by rfl, ?_⟩) ?_ ?_
          rotate_left
          · intro w'
            go_simp
            with_reducible rfl
          rotate_left
          · simp only [Act.put, List.setIfInBounds_toArray, List.set_cons_zero, List.set_cons_succ, i64_w, i32_w]
            rfl
          refine take_ (i := 12) (N := (some 147)) (v := ?_) (a' := ?_) #[true, true, true, true, true, true, true, true, true, true, true, true, true, false, false, false, false] rfl rfl (take_ofW HT_.out HW_.out (by kernel_rfl)) (fun _ _ _ h => h) (Or.inl ⟨by rfl, ?_⟩) hHeld ?_ ?_
          rotate_left
          · rintro w' ⟨_, _, s1, s2⟩
            go_simp
            with_reducible rfl
          rotate_left
          · simp only [Act.put, List.setIfInBounds_toArray, List.set_cons_zero, List.set_cons_succ, i64_w, i32_w]
            rfl
          refine pure_ (i := 13) (N := (some 148)) (v := .bool true) (a' := ?_) #[true, true, true, true, true, true, true, true, true, true, true, true, true, true, false, false, false] rfl rfl (any_of HT_.out (by kernel_rfl)) (fun _ _ _ h => h) (Or.inl ⟨by rfl, ?_⟩) ?_ ?_
          · intro w'
            first | (go_simp; done) | (go_simp; with_reducible rfl) | (go_simp; simp [*]; done) | (go_simp; simp; omega)
          rotate_left
          · simp only [Act.put, List.setIfInBounds_toArray, List.set_cons_zero, List.set_cons_succ, i64_w, i32_w]
            rfl
          refine pure_ (i := 14) (N := (some 149)) (v := ?_) (a' := ?_) #[true, true, true, true, true, true, true, true, true, true, true, true, true, true, true, false, false] rfl rfl (any_of HT_.out (by kernel_rfl)) (fun _ _ _ h => h) (Or.inl ⟨by rfl, ?_⟩) ?_ ?_
          rotate_left
          · intro w'
            go_simp
            with_reducible rfl
          rotate_left
          · simp only [Act.put, List.setIfInBounds_toArray, List.set_cons_zero, List.set_cons_succ, i64_w, i32_w]
            rfl
          refine pure_ (i := 15) (N := (some 150)) (v := ?_) (a' := ?_) #[true, true, true, true, true, true, true, true, true, true, true, true, true, true, true, true, false] rfl rfl (any_of HT_.out (by kernel_rfl)) (fun _ _ _ h => h) (Or.inl ⟨by rfl, ?_⟩) ?_ ?_
          rotate_left
          · intro w'
            go_simp
            with_reducible rfl
          rotate_left
          · simp only [Act.put, List.setIfInBounds_toArray, List.set_cons_zero, List.set_cons_succ, i64_w, i32_w]
            rfl
          refine pure_ (i := 16) (N := (some 6)) (v := ?_) (a' := ?_) #[true, true, true, true, true, true, true, true, true, true, true, true, true, true, true, true, true] rfl rfl (any_of HT_.out (by kernel_rfl)) (fun _ _ _ h => h) (Or.inl ⟨by rfl, ?_⟩) ?_ ?_
          rotate_left
          · intro w'
            go_simp
            with_reducible rfl
          rotate_left
          · simp only [Act.put, List.setIfInBounds_toArray, List.set_cons_zero, List.set_cons_succ, i64_w, i32_w]
            rfl
          refine done_ (done_of HT_.out (by kernel_rfl)) ?_
          clear HT_ HW_ hHeld
          clear t0 t1 t2 t3
          go_wp2_with fail
          go_ret
          refine ⟨rfl, ?_⟩
          have h1 := HB14.out
          first | exact (below_drew1 (h1.alloc h1.size _)) | exact pw_below_drewN (h1.alloc h1.size _) _ | exact h1.alloc h1.size _
theorem row_walk (A : Option Addr) (c : Nat) (l : List S57) (a b : Int) {po : Prop} {W : World} (g : Kd.C k57 W A l.length l) (hlc : l.length ≤ c) (ok : po) :
    Calls Try.prog 6 #[.slice A l.length c, .int .i64 a, .int .i64 b] W fun e w' => e = .returned (.bool true) ∧ Below W.heap.size W w' := by
  by_cases h : l.length ≤ 150
  · exact row_short A c l a b W g hlc h
  · exact row_long A l.length c a b W (by omega)
end Go.Proofs.Ytjefeoohfalcaaa.C
