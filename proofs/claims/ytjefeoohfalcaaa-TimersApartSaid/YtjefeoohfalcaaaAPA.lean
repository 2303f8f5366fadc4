/- TimersApart. -/
import Derived.Test.YtjefeoohfalcaaaROW
namespace Go.Proofs.Ytjefeoohfalcaaa.C
open Go.Shelf Go.RowKit Go.Proofs.Ytjefeoohfalcaaa.Q Go.Proofs.YtjefeoohfalcaaaW.PrintLast Go.Proofs.YtjefeoohfalcaaaW.PrintWords
set_option linter.unusedVariables false
set_option linter.unusedSimpArgs false
/-- A row that All told, none of the timers' own. -/
structure KW (w : World) (fp : List Nat) (A : Option Addr) (c : Nat) (S : List (Int × Int)) : Prop where
  ka : KA w 0 A c 0 S
  off : ∀ g, A = some ⟨g, 0, none⟩ → g < w.heap.size → g ∉ fp
theorem KA.base {w : World} {base : Nat} {A : Option Addr} {c k : Nat} {S : List (Int × Int)} (h : KA w base A c k S) : KA w 0 A c k S := by
  rcases h with h | ⟨g, cs, h1, h2, h3⟩
  · exact .inl h
  · exact .inr ⟨g, cs, h1, Nat.zero_le _, h3⟩
theorem KA.keep {F : Nat → Prop} {w w' : World} {base : Nat} {A : Option Addr} {c k : Nat} {S : List (Int × Int)} (h : KA w base A c k S) (hf : Fr F w w') (hF : ∀ g, A = some ⟨g, 0, none⟩ → g < w.heap.size → ¬ F g) : KA w' base A c k S := by
  rcases h with h | ⟨g, cs, h1, h2, h3, h4⟩
  · exact .inl h
  · exact .inr ⟨g, cs, h1, h2, hf.heap h3 (hF g h1 (lt_of_block h3)), h4⟩
/-- Two timers apart. -/
structure AP (w0 w : World) (T C : Nat) (ST SC : List (Int × Int)) (fp fpc : List Nat) : Prop where
  t : TS w T ST fp
  c : TS w C SC fpc
  dis : ∀ k ∈ fp, k ∉ fpc
  pf : ∀ k, k ∈ fp ∨ k ∈ fpc → w0.heap.size ≤ k
  bel : Below w0.heap.size w0 w
/-- Told rows of these timers' world. -/
structure RW (w : World) (fp fpc : List Nat) (A : Option Addr) (c : Nat) (S : List (Int × Int)) : Prop where
  ka : KA w 0 A c 0 S
  lt : ∀ g, A = some ⟨g, 0, none⟩ → S ≠ [] → g < w.heap.size ∧ g ∉ fp ∧ g ∉ fpc
section
variable {w0 w w' : World} {T C : Nat} {ST SC S : List (Int × Int)} {fp fpc fp' : List Nat} {A : Option Addr} {c : Nat}
theorem RW.of {base : Nat} (h : KA w base A c 0 S) (hb : ∀ k, k ∈ fp ∨ k ∈ fpc → k < base) : RW w fp fpc A c S := by
  refine ⟨h.base, fun g e hS => ?_⟩
  rcases h with h | ⟨g2, cs, h1, h2, h3, _⟩
  · exact absurd h hS
  · rw [h1] at e
    cases e
    exact ⟨lt_of_block h3, fun hm => by have := hb _ (.inl hm); omega, fun hm => by have := hb _ (.inr hm); omega⟩
theorem RW.cstep (h : RW w fp fpc A c S) (hf : Fr (fun k => k ∈ fpc) w w') (hn : ∀ k ∈ fp', k ∈ fpc ∨ w.heap.size ≤ k) : RW w' fp fp' A c S := by
  by_cases hS : S = []
  · exact ⟨.inl hS, fun g e h2 => absurd hS h2⟩
  · refine ⟨?_, fun g e _ => ?_⟩
    · rcases h.ka with h1 | ⟨g, cs, h1, h2, h3, h4⟩
      · exact .inl h1
      · exact .inr ⟨g, cs, h1, h2, hf.heap h3 (h.lt g h1 hS).2.2, h4⟩
    · obtain ⟨h1, h2, h3⟩ := h.lt g e hS
      exact ⟨Nat.lt_of_lt_of_le h1 hf.size, h2, fun hm => by rcases hn g hm with q | q; exact h3 q; omega⟩
theorem RW.tstep (h : RW w fp fpc A c S) (hf : Fr (fun k => k ∈ fp) w w') (hn : ∀ k ∈ fp', k ∈ fp ∨ w.heap.size ≤ k) : RW w' fp' fpc A c S := by
  by_cases hS : S = []
  · exact ⟨.inl hS, fun g e h2 => absurd hS h2⟩
  · refine ⟨?_, fun g e _ => ?_⟩
    · rcases h.ka with h1 | ⟨g, cs, h1, h2, h3, h4⟩
      · exact .inl h1
      · exact .inr ⟨g, cs, h1, h2, hf.heap h3 (h.lt g h1 hS).2.1, h4⟩
    · obtain ⟨h1, h2, h3⟩ := h.lt g e hS
      exact ⟨Nat.lt_of_lt_of_le h1 hf.size, fun hm => by rcases hn g hm with q | q; exact h2 q; omega, h3⟩
theorem RW.new (h : RW w fp fpc A c S) (hb : Below w.heap.size w w') : RW w' fp fpc A c S := h.tstep (Fr.of_new hb) (fun k hk => .inl hk)
theorem RW.fresh (h : RW w fp fpc A c S) (hb : Below w.heap.size w w') {fq : List Nat} (hq : ∀ k ∈ fq, w.heap.size ≤ k) : RW w' fq [] A c S := by
  refine ⟨h.ka.below hb, fun g e hS => ?_⟩
  obtain ⟨h1, _, _⟩ := h.lt g e hS
  exact ⟨Nat.lt_of_lt_of_le h1 hb.size, fun hm => by have := hq g hm; omega, by simp⟩
theorem AP.cstep {SC' : List (Int × Int)} (h : AP w0 w T C ST SC fp fpc) (ht : TS w' C SC' fp') (hn : ∀ k ∈ fp', k ∈ fpc ∨ w.heap.size ≤ k) (hf : Fr (fun k => k ∈ fpc) w w') : AP w0 w' T C ST SC' fp fp' :=
  ⟨h.t.fr hf (fun k h1 h2 => h.dis k h1 h2), ht, fun k h1 h2 => by rcases hn k h2 with q | q; exact h.dis k h1 q; have := h.t.lt k h1; omega,
   fun k hk => by rcases hk with q | q; exact h.pf k (.inl q); rcases hn k q with r | r; exact h.pf k (.inr r); exact Nat.le_trans h.bel.size r, h.bel.trans (hf.below h.bel.size (fun k hk => h.pf k (.inr hk)))⟩
theorem AP.tstep {ST' : List (Int × Int)} (h : AP w0 w T C ST SC fp fpc) (ht : TS w' T ST' fp') (hn : ∀ k ∈ fp', k ∈ fp ∨ w.heap.size ≤ k) (hf : Fr (fun k => k ∈ fp) w w') : AP w0 w' T C ST' SC fp' fpc :=
  ⟨ht, h.c.fr hf (fun k h1 h2 => h.dis k h2 h1), fun k h1 h2 => by rcases hn k h1 with q | q; exact h.dis k q h2; have := h.c.lt k h2; omega,
   fun k hk => by rcases hk with q | q; rcases hn k q with r | r; exact h.pf k (.inl r); exact Nat.le_trans h.bel.size r; exact h.pf k (.inr q), h.bel.trans (hf.below h.bel.size (fun k hk => h.pf k (.inl hk)))⟩
theorem AP.new (h : AP w0 w T C ST SC fp fpc) (hb : Below w.heap.size w w') : AP w0 w' T C ST SC fp fpc := h.tstep (h.t.below hb) (fun k hk => .inl hk) (Fr.of_new hb)
theorem AP.off (h : AP w0 w T C ST SC fp fpc) : ∀ k, k ∈ fp ∨ k ∈ fpc → k < w.heap.size := fun k hk => hk.elim (h.t.lt k) (h.c.lt k)
end
/-- What has been set from behind is there. -/
theorem set_back {S : List (Int × Int)} (hs : Srt S) (hI : Ids S) {j : Nat} {x : Int × Int} (hx : S[j]? = some x) : setS (S.drop (j + 1)) x.1 x.2 = S.drop j := by
  obtain ⟨hj, rfl⟩ := List.getElem?_eq_some_iff.1 hx
  have e := List.drop_eq_getElem_cons hj
  have hs2 : Srt (S[j] :: S.drop (j + 1)) := by rw [← e]; exact List.Pairwise.sublist (List.drop_sublist j S) hs
  have hI2 : Ids (S[j] :: S.drop (j + 1)) := by
    rw [← e]
    unfold Ids at *
    exact List.Nodup.sublist (List.Sublist.map _ (List.drop_sublist j S)) hI
  have hd : del (S.drop (j + 1)) S[j].1 = S.drop (j + 1) := del_none fun y hy q => by
    unfold Ids at hI2
    simp only [List.map_cons, List.nodup_cons] at hI2
    exact hI2.1 (List.mem_map.2 ⟨y, hy, q⟩)
  rw [e]
  unfold setS
  rw [hd]
  cases hq : S.drop (j + 1) with
  | nil => rfl
  | cons y r =>
    have := (List.pairwise_cons.1 hs2).1 y (by rw [hq]; simp)
    show (if aheadB S[j] y = true then _ else _) = _
    rw [if_pos this]
def apa25T : Bool × List (List Nat × List Nat) := (true, [([], []), ([], []), ([0, 1], [0, 1]), ([2], [2]), ([], []), ([], []), ([4, 5], [4, 5]), ([6], [6]), ([3, 7], [3, 7])])
def apa25B : List Nat := [0, 0, 3, 7, 0, 0, 48, 112, 255]
theorem apa25_tab : rtab .any (opsOf Try.f7 25) = apa25T := by kernel_rfl
theorem apa25_bits : waitsOk apa25T.2 apa25B = true := by kernel_rfl
def apa30T : Bool × List (List Nat × List Nat) := (true, [([], []), ([], []), ([0, 1], [0, 1]), ([2], [2]), ([], []), ([], []), ([4, 5], [4, 5]), ([6], [6]), ([3, 7], [3, 7])])
def apa30B : List Nat := [0, 0, 3, 7, 0, 0, 48, 112, 255]
theorem apa30_tab : rtab .any (opsOf Try.f7 30) = apa30T := by kernel_rfl
theorem apa30_bits : waitsOk apa30T.2 apa30B = true := by kernel_rfl
def apa41T : Bool × List (List Nat × List Nat) := (true, [([], []), ([], []), ([1], [1]), ([0, 2], [0, 2]), ([3], [3]), ([4], [4]), ([4], [4]), ([5, 6, 4], [4, 5, 6]), ([7, 4], [4, 7]), ([4], [4]), ([4], [4]), ([9, 10, 4], [4, 9, 10]), ([11, 4], [4, 11]), ([8, 12, 4], [4, 8, 12]), ([4, 13], [4, 13])])
def apa41B : List Nat := [0, 0, 2, 7, 15, 31, 31, 127, 255, 31, 31, 1567, 3615, 8191, 16383]
theorem apa41_tab : rtab .any (opsOf Try.f7 41) = apa41T := by kernel_rfl
theorem apa41_bits : waitsOk apa41T.2 apa41B = true := by kernel_rfl

set_option maxHeartbeats 1000000 in
set_option maxRecDepth 100000 in
theorem apart_long (A B : Option Addr) (n m c d : Nat) (now : Int) (w : World) (h100 : 100 < n ∨ 100 < m) :
    Calls Try.prog 7 #[.slice A n c, .slice B m d, .int .i64 now] w fun e w' => e = .returned (.bool true) ∧ Below w.heap.size w w' := by
  by_cases h : 100 < n
  · clear h100
    go_enter Try.func7, Try.ntmps7
    go_wp2_with fail
    refine (aw_true _).mono ?_
    rintro e w3 ⟨rfl, hb⟩
    have HB := Aside.mk hb
    clear hb
    go_wp2_with fail
    go_ret
    exact ⟨rfl, HB.out⟩
  · have h2 : 100 < m := by omega
    clear h100
    go_enter Try.func7, Try.ntmps7
    go_wp2_with fail
    refine (aw_true _).mono ?_
    rintro e w3 ⟨rfl, hb⟩
    have HB := Aside.mk hb
    clear hb
    go_wp2_with fail
    go_ret
    exact ⟨rfl, HB.out⟩
set_option maxHeartbeats 16000000 in
set_option maxRecDepth 100000 in
theorem apart_short (A B : Option Addr) (c d : Nat) (l more : List S57) (now : Int) (w : World) (g : Kd.C k57 w A l.length l) (hlc : l.length ≤ c) (g2 : Kd.C k57 w B more.length more) (hld : more.length ≤ d) (h100 : l.length ≤ 100) (h100' : more.length ≤ 100) :
    Calls Try.prog 7 #[.slice A l.length c, .slice B more.length d, .int .i64 now] w fun e w' => e = .returned (.bool true) ∧ Below w.heap.size w w' := by
  have HG := Aside.mk g
  have HG2 := Aside.mk g2
  obtain ⟨n, hn⟩ : ∃ n, l.length = n := ⟨_, rfl⟩
  obtain ⟨m, hm⟩ : ∃ m, more.length = m := ⟨_, rfl⟩
  have HM := Aside.mk hm
  have hcon := fun w1 (hb : Below w.heap.size w w1) => set_walk w A c l w1 (Kd.C_below HG.out hb) hlc (by omega) hb
  rw [hn] at hlc h100 hcon ⊢
  rw [hm] at hld h100' ⊢
  have HCON := Aside.mk hcon
  clear g g2 hn hm hcon hlc
  go_enter Try.func7, Try.ntmps7
  go_wp2_with fail
  refine (aw_true _).mono ?_
  rintro e w1 ⟨rfl, hb⟩
  have HB := Aside.mk hb
  clear hb
  go_wp2_with fail
  refine (HCON.out w1 HB.out).mono ?_
  rintro e w2 ⟨T, rfl, hT, _⟩
  obtain ⟨S, hS⟩ : ∃ S, setN l n = S := ⟨_, rfl⟩
  have HL : Aside (S.length ≤ 100) := ⟨by rw [← hS]; exact Nat.le_trans (setN_le l n) h100⟩
  rw [hS] at hT
  have HSR := Aside.mk (And.intro hT.srt hT.ids)
  obtain ⟨⟨fp, q1, q2⟩, q3⟩ := hT
  have HT2 : Aside (TS w2 T S fp ∧ (∀ q ∈ fp, w.heap.size ≤ q) ∧ Below w.heap.size w w2) := ⟨q1, q2, q3⟩
  clear hS q1 q2 q3
  go_wp2_with fail
  refine (all_calls T S fp w2 (by have := HL.out; omega) HT2.out.1).mono ?_
  rintro e w3 ⟨v, rfl, ht, hb⟩
  obtain ⟨AW, cW, rfl, hcW, hnW, hKA⟩ := KA.of ht
  have HK3 : Aside (RW w3 fp [] AW cW S) := ⟨RW.of hKA (fun k hk => hk.elim (HT2.out.1.lt k) (fun h => by simp at h))⟩
  have HT3 : Aside (TS w3 T S fp ∧ Below w.heap.size w w3) := ⟨HT2.out.1.below hb, HT2.out.2.2.trans (hb.mono HT2.out.2.2.size)⟩
  obtain ⟨N, hN⟩ : ∃ N, S.length = N := ⟨_, rfl⟩
  have HNN := Aside.mk hN
  have hN100 : N ≤ 100 := by rw [← hN]; exact HL.out
  rw [hN] at hnW ⊢
  clear ht hb hKA hN
  go_wp2_with fail
  refine (ts_copy T S fp w3 (by have := HL.out; omega) HT3.out.1).mono ?_
  rintro e w4 ⟨C, fpc, rfl, hC, hfC, hb⟩
  have HA4 : Aside (AP w w4 T C S S fp fpc) := ⟨HT3.out.1.below hb, hC, fun k h1 h2 => by have := hfC k h2; have := HT3.out.1.lt k h1; omega, fun k hk => hk.elim (HT2.out.2.1 k) (fun h => Nat.le_trans HT3.out.2.size (hfC k h)), HT3.out.2.trans (hb.mono HT3.out.2.size)⟩
  have HK4 : Aside (RW w4 fp fpc AW cW S) := ⟨by
    have h1 := HK3.out.new hb
    exact ⟨h1.ka, fun g e hS => ⟨(h1.lt g e hS).1, (h1.lt g e hS).2.1, fun hm => by have := hfC g hm; have := (HK3.out.lt g e hS).1; omega⟩⟩⟩
  clear hC hfC hb
  go_upto_block 0 with fail
  go_cut [10] from 40 to 65 (fun x wr => ∃ (SC : List (Int × Int)) (fpc : List Nat), Aside (SC.length ≤ 200 ∧ AP w wr T C S SC fp fpc ∧ RW wr fp fpc AW cW S))
  case first =>
    go_wp2_with fail
    go_loopw [10] (fun v wr => ∃ (k : Nat) (SC : List (Int × Int)) (fpc : List Nat), k ≤ m ∧ v = .int .i64 k ∧ Aside (SC.length ≤ 100 + k ∧ AP w wr T C S SC fp fpc ∧ RW wr fp fpc AW cW S)) (fun v _ => m - (intOf v).toNat)
    case atStart => exact ⟨0, S, fpc, by omega, rfl, ⟨by have := HL.out; omega, HA4.out, HK4.out⟩⟩
    case round =>
      obtain ⟨k, SC, fpc, hk, rfl, HR⟩ := hrel
      by_cases hlt : k < m
      · obtain ⟨ad, he, hf0, hf1⟩ := at_T57 (Kd.C_below HG2.out HR.out.2.1.bel) (k : Int) (by omega) (by rw [HM.out]; omega)
        subst he
        obtain ⟨y, hy⟩ : ∃ y, rd_T57 more k = y := ⟨_, rfl⟩
        have HY := Aside.mk hy
        rw [hy] at hf0 hf1
        simp only [Int.toNat_natCast] at hf0 hf1
        have HAD := Aside.mk (And.intro hf0 hf1)
        clear hy
        go_upto_region 9 with fail
        go_still_tail 11, (by kernel_rfl)
        go_wp2_with fail
        have HD : Aside (Below wr.heap.size wr wr.drew) := ⟨below_drew1 (Below.refl _ _)⟩
        refine (ts_set C SC fpc y.f0 y.f1 wr.drew (by have := HR.out.1; omega) (HR.out.2.1.new HD.out).c).mono ?_
        rintro e w5 ⟨rfl, fpd, ht, hn, hf⟩
        have HA5 := Aside.mk ((HR.out.2.1.new HD.out).cstep ht hn hf)
        have HK5 := Aside.mk ((HR.out.2.2.new HD.out).cstep hf hn)
        have hl5 : (setS SC y.f0 y.f1).length ≤ 100 + (k + 1) := by have := setS_le SC y.f0 y.f1; have := HR.out.1; omega
        have HL5 := Aside.mk hl5
        obtain ⟨ad2, he2, hf2, hf3⟩ := at_T57 (Kd.C_below HG2.out HA5.out.bel) (k : Int) (by omega) (by rw [HM.out]; omega)
        obtain rfl : ad = ad2 := by cases he2; rfl
        rw [HY.out] at hf2 hf3
        simp only [Int.toNat_natCast] at hf2 hf3
        clear ht hn hf he2 hf3 hf0 hf1
        go_wp2_with fail
        refine (ts_stop C (setS SC y.f0 y.f1) fpd _ w5 (by omega) HA5.out.c).mono ?_
        rintro e w6 ⟨rfl, ht, hf⟩
        have HZ := Aside.mk (And.intro (Nat.le_trans (del_le (setS SC y.f0 y.f1) (wrap64 (y.f0 + 1))) HL5.out) (And.intro (HA5.out.cstep ht (fun q hq => .inl hq) hf) (HK5.out.cstep hf (fun q hq => .inl hq))))
        clear ht hf hf2
        go_wp2_with fail
        go_roundw
        case rel => exact ⟨k + 1, _, fpd, by omega, by go_num, HZ⟩
        case measure => simp [intOf]; omega
      · obtain rfl : k = m := by omega
        go_wp2_with fail
        go_meet
        exact ⟨SC, fpc, ⟨by have := HR.out.1; omega, HR.out.2⟩⟩
  case rest =>
    obtain ⟨SC, fpc, HR⟩ := hcut
    clear HA4 HK4
    go_wp2_with fail
    refine (ts_due C SC fpc now wc (by have := HR.out.1; omega) HR.out.2.1.c).mono ?_
    rintro e w5 ⟨v, rfl, hn, ht, hf⟩
    obtain ⟨SK, hSK⟩ : ∃ SK, restS SC now = SK := ⟨_, rfl⟩
    have HLK : Aside (SK.length ≤ 200) := ⟨by have h1 : (restS SC now).length ≤ SC.length := List.length_filter_le _ _; have h2 := HR.out.1; rw [hSK] at h1; omega⟩
    rw [hSK] at ht
    have HA5 := Aside.mk (HR.out.2.1.cstep ht (fun q hq => .inl hq) hf)
    have HK5 := Aside.mk (HR.out.2.2.cstep hf (fun q hq => .inl hq))
    obtain ⟨A5, c5, rfl, _, _⟩ := hn.C
    clear hn ht hf hSK
    go_wp2_with fail
    refine (all_calls C SK fpc w5 (by have := HLK.out; omega) HA5.out.c).mono ?_
    rintro e w6 ⟨v, rfl, ht, hb⟩
    obtain ⟨AK, cK, rfl, hcK, hnK, hKA⟩ := KA.of ht
    have HA6 := Aside.mk (HA5.out.new hb)
    have HK6 : Aside (RW w6 fp fpc AW cW S ∧ RW w6 fp fpc AK cK SK) := ⟨HK5.out.new hb, RW.of hKA HA5.out.off⟩
    obtain ⟨K, hK⟩ : ∃ K, SK.length = K := ⟨_, rfl⟩
    have HKK := Aside.mk hK
    have hK200 : K ≤ 200 := by rw [← hK]; exact HLK.out
    rw [hK] at hnK ⊢
    clear ht hb hKA hK
    go_wp2_with fail
    refine (all_calls T S fp w6 (by have := HL.out; omega) HA6.out.t).mono ?_
    rintro e w7 ⟨v, rfl, ht, hb⟩
    obtain ⟨AS, cS, rfl, hcS, hnS, hKA⟩ := KA.of ht
    have HA7 := Aside.mk (HA6.out.new hb)
    have HK7 : Aside (RW w7 fp fpc AW cW S ∧ RW w7 fp fpc AK cK SK ∧ RW w7 fp fpc AS cS S) := ⟨HK6.out.1.new hb, HK6.out.2.new hb, RW.of hKA HA6.out.off⟩
    rw [HNN.out] at hnS ⊢
    clear ht hb hKA
    go_wp2_with fail
    refine (ts_due T S fp now w7 (by have := HL.out; omega) HA7.out.t).mono ?_
    rintro e w8 ⟨v, rfl, hn, ht, hf⟩
    have HA8 := Aside.mk (HA7.out.tstep ht (fun q hq => .inl hq) hf)
    have HK8 : Aside (RW w8 fp fpc AW cW S ∧ RW w8 fp fpc AK cK SK ∧ RW w8 fp fpc AS cS S) := ⟨HK7.out.1.tstep hf (fun q hq => .inl hq), HK7.out.2.1.tstep hf (fun q hq => .inl hq), HK7.out.2.2.tstep hf (fun q hq => .inl hq)⟩
    have HLR : Aside ((restS S now).length ≤ 100) := ⟨by have h1 : (restS S now).length ≤ S.length := List.length_filter_le _ _; have := HL.out; omega⟩
    obtain ⟨A8, c8, rfl, _, _⟩ := hn.C
    clear hn ht hf
    go_upto_block 2 with fail
    go_cut [13] from 76 to 89 (fun x wr => ∃ (ST : List (Int × Int)) (fp : List Nat), Aside (AP w wr T C ST SK fp fpc ∧ RW wr fp fpc AW cW S ∧ RW wr fp fpc AK cK SK ∧ RW wr fp fpc AS cS S))
    case first =>
      go_wp2_with fail
      go_loopw [13] (fun v wr => ∃ (k : Nat) (ST : List (Int × Int)) (fp : List Nat), k ≤ m ∧ v = .int .i64 k ∧ Aside (ST.length ≤ 100 + k ∧ AP w wr T C ST SK fp fpc ∧ RW wr fp fpc AW cW S ∧ RW wr fp fpc AK cK SK ∧ RW wr fp fpc AS cS S)) (fun v _ => m - (intOf v).toNat)
      case atStart => exact ⟨0, _, fp, by omega, rfl, ⟨by have := HLR.out; omega, HA8.out, HK8.out⟩⟩
      case round =>
        obtain ⟨k, ST, fp, hk, rfl, HR⟩ := hrel
        by_cases hlt : k < m
        · obtain ⟨ad, he, hf0, hf1⟩ := at_T57 (Kd.C_below HG2.out HR.out.2.1.bel) (k : Int) (by omega) (by rw [HM.out]; omega)
          subst he
          obtain ⟨y, hy⟩ : ∃ y, rd_T57 more k = y := ⟨_, rfl⟩
          rw [hy] at hf0 hf1
          simp only [Int.toNat_natCast] at hf0 hf1
          clear hy hf1
          go_wp2_with fail
          refine (ts_set T ST fp y.f0 now wr (by have := HR.out.1; omega) HR.out.2.1.t).mono ?_
          rintro e w9 ⟨rfl, fpd, ht, hn, hf⟩
          have HZ : Aside ((setS ST y.f0 now).length ≤ 100 + (k + 1) ∧ AP w w9 T C (setS ST y.f0 now) SK fpd fpc ∧ RW w9 fpd fpc AW cW S ∧ RW w9 fpd fpc AK cK SK ∧ RW w9 fpd fpc AS cS S) := ⟨by have := setS_le ST y.f0 now; have := HR.out.1; omega, HR.out.2.1.tstep ht hn hf, HR.out.2.2.1.tstep hf hn, HR.out.2.2.2.1.tstep hf hn, HR.out.2.2.2.2.tstep hf hn⟩
          clear ht hn hf hf0
          go_wp2_with fail
          go_roundw
          case rel => exact ⟨k + 1, _, fpd, by omega, by go_num, HZ⟩
          case measure => simp [intOf]; omega
        · obtain rfl : k = m := by omega
          go_wp2_with fail
          go_meet
          exact ⟨ST, fp, ⟨HR.out.2⟩⟩
    case rest =>
      obtain ⟨ST, fp, HR⟩ := hcut
      clear HA8 HK8
      obtain ⟨w9, hw9⟩ : ∃ w9, w9 = wc := ⟨_, rfl⟩
      rw [← hw9] at HR ⊢
      clear hw9
      go_wp2_with fail
      refine (all_calls C SK fpc w9 (by have := HLK.out; omega) HR.out.1.c).mono ?_
      rintro e w10 ⟨v, rfl, ht, hb⟩
      obtain ⟨AE, cE, rfl, hcE, hnE, hKA⟩ := KA.of ht
      have HBA : Aside (Below w.heap.size w w10) := ⟨HR.out.1.bel.trans (hb.mono HR.out.1.bel.size)⟩
      have HW := Aside.mk (HR.out.2.1.new hb)
      have HKP := Aside.mk (HR.out.2.2.1.new hb)
      have HSM := Aside.mk (HR.out.2.2.2.new hb)
      have HST : Aside (RW w10 fp fpc AE cE SK) := ⟨RW.of hKA HR.out.1.off⟩
      rw [HKK.out] at hnE ⊢
      clear ht hb hKA HR
      -- the tests of the lengths
      go_upto_block 4 with fail
      go_cut [15] from 104 to 118 (fun x wr => Aside (Below w10.heap.size w10 wr))
      case first =>
        go_wp2_with fail
        go_loopw [15] (fun v wr => ∃ k : Nat, k ≤ N ∧ v = .int .i64 k ∧ Aside (Below w10.heap.size w10 wr)) (fun v _ => N - (intOf v).toNat)
        case atStart => exact ⟨0, by omega, rfl, ⟨Below.refl _ _⟩⟩
        case round =>
          obtain ⟨k, hk, rfl, HR⟩ := hrel
          by_cases hlt : k < N
          · obtain ⟨y, hy⟩ : ∃ y, S[k]? = some y := ⟨_, List.getElem?_eq_getElem (by rw [HNN.out]; exact hlt)⟩
            have HRD := Aside.mk (below_drew1 HR.out)
            obtain ⟨gS, rfl, _, t0, t1, _⟩ := (HSM.out.ka.below HRD.out).get hy
            obtain ⟨gW, rfl, _, t2, t3, _⟩ := (HW.out.ka.below HRD.out).get hy
            have hq := timer_same
            clear hy
            go_upto_region 25 with fail
            refine start_ (n := 9) (S := (fun w' => w'.cell? ⟨gS, k * 2, none⟩ = some (.int .i64 y.1) ∧ w'.cell? ⟨gS, k * 2 + 1, none⟩ = some (.int .i64 y.2) ∧ w'.cell? ⟨gW, k * 2, none⟩ = some (.int .i64 y.1) ∧ w'.cell? ⟨gW, k * 2 + 1, none⟩ = some (.int .i64 y.2))) (ds := []) #[false, false, false, false, false, false, false, false, false] (by kernel_rfl) rfl rfl ⟨t0, t1, t2, t3⟩ (fun hHeld => ?_); refine with_tabW apa25_tab apa25_bits (fun HT_ HW_ => ?_)
            refine pure_ (i := 0) (N := (some 110)) (v := ?_) (a' := ?_) #[true, false, false, false, false, false, false, false, false] rfl rfl (any_of HT_.out (by kernel_rfl)) (fun _ _ _ h => h) (Or.inl ⟨by rfl, ?_⟩) ?_ ?_
            rotate_left
            · intro w'
              go_simp
              with_reducible rfl
            rotate_left
            · simp only [Act.put, List.setIfInBounds_toArray, List.set_cons_zero, List.set_cons_succ, i64_w, i32_w]
              rfl
            refine pure_ (i := 1) (N := (some 111)) (v := ?_) (a' := ?_) #[true, true, false, false, false, false, false, false, false] rfl rfl (any_of HT_.out (by kernel_rfl)) (fun _ _ _ h => h) (Or.inl ⟨by rfl, ?_⟩) ?_ ?_
            rotate_left
            · intro w'
              go_simp
              with_reducible rfl
            rotate_left
            · simp only [Act.put, List.setIfInBounds_toArray, List.set_cons_zero, List.set_cons_succ, i64_w, i32_w]
              rfl
            refine pure_ (i := 2) (N := (some 112)) (v := ?_) (a' := ?_) #[true, true, true, false, false, false, false, false, false] rfl rfl (any_of HT_.out (by kernel_rfl)) (fun _ _ _ h => h) (Or.inl ⟨by rfl, ?_⟩) ?_ ?_
            rotate_left
            · intro w'
              go_simp
              with_reducible rfl
            rotate_left
            · simp only [Act.put, List.setIfInBounds_toArray, List.set_cons_zero, List.set_cons_succ, i64_w, i32_w]
              rfl
            refine take_ (i := 3) (N := (some 113)) (v := ?_) (a' := ?_) #[true, true, true, true, false, false, false, false, false] rfl rfl (take_ofW HT_.out HW_.out (by kernel_rfl)) (fun _ _ _ h => h) (Or.inl ⟨by rfl, ?_⟩) hHeld ?_ ?_
            rotate_left
            · rintro w' ⟨s1, s2, _, _⟩
              go_simp
              with_reducible rfl
            rotate_left
            · simp only [Act.put, List.setIfInBounds_toArray, List.set_cons_zero, List.set_cons_succ, i64_w, i32_w]
              rfl
            refine pure_ (i := 4) (N := (some 114)) (v := ?_) (a' := ?_) #[true, true, true, true, true, false, false, false, false] rfl rfl (any_of HT_.out (by kernel_rfl)) (fun _ _ _ h => h) (Or.inl ⟨by rfl, ?_⟩) ?_ ?_
            rotate_left
            · intro w'
              go_simp
              with_reducible rfl
            rotate_left
            · simp only [Act.put, List.setIfInBounds_toArray, List.set_cons_zero, List.set_cons_succ, i64_w, i32_w]
              rfl
            refine pure_ (i := 5) (N := (some 115)) (v := ?_) (a' := ?_) #[true, true, true, true, true, true, false, false, false] rfl rfl (any_of HT_.out (by kernel_rfl)) (fun _ _ _ h => h) (Or.inl ⟨by rfl, ?_⟩) ?_ ?_
            rotate_left
            · intro w'
              go_simp
              with_reducible rfl
            rotate_left
            · simp only [Act.put, List.setIfInBounds_toArray, List.set_cons_zero, List.set_cons_succ, i64_w, i32_w]
              rfl
            refine pure_ (i := 6) (N := (some 116)) (v := ?_) (a' := ?_) #[true, true, true, true, true, true, true, false, false] rfl rfl (any_of HT_.out (by kernel_rfl)) (fun _ _ _ h => h) (Or.inl ⟨by rfl, ?_⟩) ?_ ?_
            rotate_left
            · intro w'
              go_simp
              with_reducible rfl
            rotate_left
            · simp only [Act.put, List.setIfInBounds_toArray, List.set_cons_zero, List.set_cons_succ, i64_w, i32_w]
              rfl
            refine take_ (i := 7) (N := (some 117)) (v := ?_) (a' := ?_) #[true, true, true, true, true, true, true, true, false] rfl rfl (take_ofW HT_.out HW_.out (by kernel_rfl)) (fun _ _ _ h => h) (Or.inl ⟨by rfl, ?_⟩) hHeld ?_ ?_
            rotate_left
            · rintro w' ⟨_, _, s1, s2⟩
              go_simp
              with_reducible rfl
            rotate_left
            · simp only [Act.put, List.setIfInBounds_toArray, List.set_cons_zero, List.set_cons_succ, i64_w, i32_w]
              rfl
            refine pure_ (i := 8) (N := (some 118)) (v := .bool false) (a' := ?_) #[true, true, true, true, true, true, true, true, true] rfl rfl (any_of HT_.out (by kernel_rfl)) (fun _ _ _ h => h) (Or.inl ⟨by rfl, ?_⟩) ?_ ?_
            · intro w'
              first | (go_simp; done) | (go_simp; with_reducible rfl) | (go_simp; simp [*]; done) | (go_simp; simp; omega)
            rotate_left
            · simp only [Act.put, List.setIfInBounds_toArray, List.set_cons_zero, List.set_cons_succ, i64_w, i32_w]
              rfl
            refine done_ (done_of HT_.out (by kernel_rfl)) ?_
            clear HT_ HW_ hHeld
            clear t0 t1 t2 t3
            go_wp2_with fail
            go_roundw
            case rel => exact ⟨k + 1, by omega, by go_num, HRD⟩
            case measure => simp [intOf]; omega
          · obtain rfl : k = N := by omega
            go_wp2_with fail
            go_meet
            exact HR
      case rest =>
        have HBC : Aside (Below w.heap.size w wc) := ⟨HBA.out.trans (hcut.out.mono HBA.out.size)⟩
        obtain ⟨wd, hwd⟩ : ∃ wd, wd = wc := ⟨_, rfl⟩
        have HWC : Aside (RW wd fp fpc AW cW S ∧ RW wd fp fpc AK cK SK ∧ RW wd fp fpc AE cE SK ∧ Below w.heap.size w wd) := ⟨by rw [hwd]; exact ⟨HW.out.new hcut.out, HKP.out.new hcut.out, HST.out.new hcut.out, HBC.out⟩⟩
        rw [← hwd] at ⊢
        clear hcut hwd HBC
        go_upto_block 6 with fail
        go_cut [16] from 119 to 133 (fun x wr => Aside (Below wd.heap.size wd wr))
        case first =>
          go_wp2_with fail
          go_loopw [16] (fun v wr => ∃ k : Nat, k ≤ K ∧ v = .int .i64 k ∧ Aside (Below wd.heap.size wd wr)) (fun v _ => K - (intOf v).toNat)
          case atStart => exact ⟨0, by omega, rfl, ⟨Below.refl _ _⟩⟩
          case round =>
            obtain ⟨k, hk, rfl, HR⟩ := hrel
            by_cases hlt : k < K
            · obtain ⟨y, hy⟩ : ∃ y, SK[k]? = some y := ⟨_, List.getElem?_eq_getElem (by rw [HKK.out]; exact hlt)⟩
              have HRD := Aside.mk (below_drew1 HR.out)
              obtain ⟨gS, rfl, _, t0, t1, _⟩ := (HWC.out.2.2.1.ka.below HRD.out).get hy
              obtain ⟨gW, rfl, _, t2, t3, _⟩ := (HWC.out.2.1.ka.below HRD.out).get hy
              have hq := timer_same
              clear hy
              go_upto_region 30 with fail
              refine start_ (n := 9) (S := (fun w' => w'.cell? ⟨gS, k * 2, none⟩ = some (.int .i64 y.1) ∧ w'.cell? ⟨gS, k * 2 + 1, none⟩ = some (.int .i64 y.2) ∧ w'.cell? ⟨gW, k * 2, none⟩ = some (.int .i64 y.1) ∧ w'.cell? ⟨gW, k * 2 + 1, none⟩ = some (.int .i64 y.2))) (ds := []) #[false, false, false, false, false, false, false, false, false] (by kernel_rfl) rfl rfl ⟨t0, t1, t2, t3⟩ (fun hHeld => ?_); refine with_tabW apa30_tab apa30_bits (fun HT_ HW_ => ?_)
              refine pure_ (i := 0) (N := (some 125)) (v := ?_) (a' := ?_) #[true, false, false, false, false, false, false, false, false] rfl rfl (any_of HT_.out (by kernel_rfl)) (fun _ _ _ h => h) (Or.inl ⟨by rfl, ?_⟩) ?_ ?_
              rotate_left
              · intro w'
                go_simp
                with_reducible rfl
              rotate_left
              · simp only [Act.put, List.setIfInBounds_toArray, List.set_cons_zero, List.set_cons_succ, i64_w, i32_w]
                rfl
              refine pure_ (i := 1) (N := (some 126)) (v := ?_) (a' := ?_) #[true, true, false, false, false, false, false, false, false] rfl rfl (any_of HT_.out (by kernel_rfl)) (fun _ _ _ h => h) (Or.inl ⟨by rfl, ?_⟩) ?_ ?_
              rotate_left
              · intro w'
                go_simp
                with_reducible rfl
              rotate_left
              · simp only [Act.put, List.setIfInBounds_toArray, List.set_cons_zero, List.set_cons_succ, i64_w, i32_w]
                rfl
              refine pure_ (i := 2) (N := (some 127)) (v := ?_) (a' := ?_) #[true, true, true, false, false, false, false, false, false] rfl rfl (any_of HT_.out (by kernel_rfl)) (fun _ _ _ h => h) (Or.inl ⟨by rfl, ?_⟩) ?_ ?_
              rotate_left
              · intro w'
                go_simp
                with_reducible rfl
              rotate_left
              · simp only [Act.put, List.setIfInBounds_toArray, List.set_cons_zero, List.set_cons_succ, i64_w, i32_w]
                rfl
              refine take_ (i := 3) (N := (some 128)) (v := ?_) (a' := ?_) #[true, true, true, true, false, false, false, false, false] rfl rfl (take_ofW HT_.out HW_.out (by kernel_rfl)) (fun _ _ _ h => h) (Or.inl ⟨by rfl, ?_⟩) hHeld ?_ ?_
              rotate_left
              · rintro w' ⟨s1, s2, _, _⟩
                go_simp
                with_reducible rfl
              rotate_left
              · simp only [Act.put, List.setIfInBounds_toArray, List.set_cons_zero, List.set_cons_succ, i64_w, i32_w]
                rfl
              refine pure_ (i := 4) (N := (some 129)) (v := ?_) (a' := ?_) #[true, true, true, true, true, false, false, false, false] rfl rfl (any_of HT_.out (by kernel_rfl)) (fun _ _ _ h => h) (Or.inl ⟨by rfl, ?_⟩) ?_ ?_
              rotate_left
              · intro w'
                go_simp
                with_reducible rfl
              rotate_left
              · simp only [Act.put, List.setIfInBounds_toArray, List.set_cons_zero, List.set_cons_succ, i64_w, i32_w]
                rfl
              refine pure_ (i := 5) (N := (some 130)) (v := ?_) (a' := ?_) #[true, true, true, true, true, true, false, false, false] rfl rfl (any_of HT_.out (by kernel_rfl)) (fun _ _ _ h => h) (Or.inl ⟨by rfl, ?_⟩) ?_ ?_
              rotate_left
              · intro w'
                go_simp
                with_reducible rfl
              rotate_left
              · simp only [Act.put, List.setIfInBounds_toArray, List.set_cons_zero, List.set_cons_succ, i64_w, i32_w]
                rfl
              refine pure_ (i := 6) (N := (some 131)) (v := ?_) (a' := ?_) #[true, true, true, true, true, true, true, false, false] rfl rfl (any_of HT_.out (by kernel_rfl)) (fun _ _ _ h => h) (Or.inl ⟨by rfl, ?_⟩) ?_ ?_
              rotate_left
              · intro w'
                go_simp
                with_reducible rfl
              rotate_left
              · simp only [Act.put, List.setIfInBounds_toArray, List.set_cons_zero, List.set_cons_succ, i64_w, i32_w]
                rfl
              refine take_ (i := 7) (N := (some 132)) (v := ?_) (a' := ?_) #[true, true, true, true, true, true, true, true, false] rfl rfl (take_ofW HT_.out HW_.out (by kernel_rfl)) (fun _ _ _ h => h) (Or.inl ⟨by rfl, ?_⟩) hHeld ?_ ?_
              rotate_left
              · rintro w' ⟨_, _, s1, s2⟩
                go_simp
                with_reducible rfl
              rotate_left
              · simp only [Act.put, List.setIfInBounds_toArray, List.set_cons_zero, List.set_cons_succ, i64_w, i32_w]
                rfl
              refine pure_ (i := 8) (N := (some 133)) (v := .bool false) (a' := ?_) #[true, true, true, true, true, true, true, true, true] rfl rfl (any_of HT_.out (by kernel_rfl)) (fun _ _ _ h => h) (Or.inl ⟨by rfl, ?_⟩) ?_ ?_
              · intro w'
                first | (go_simp; done) | (go_simp; with_reducible rfl) | (go_simp; simp [*]; done) | (go_simp; simp; omega)
              rotate_left
              · simp only [Act.put, List.setIfInBounds_toArray, List.set_cons_zero, List.set_cons_succ, i64_w, i32_w]
                rfl
              refine done_ (done_of HT_.out (by kernel_rfl)) ?_
              clear HT_ HW_ hHeld
              clear t0 t1 t2 t3
              go_wp2_with fail
              go_roundw
              case rel => exact ⟨k + 1, by omega, by go_num, HRD⟩
              case measure => simp [intOf]; omega
            · obtain rfl : k = K := by omega
              go_wp2_with fail
              go_meet
              exact HR
        case rest =>
          have HBD : Aside (RW wc fp fpc AW cW S ∧ Below w.heap.size w wc) := ⟨HWC.out.1.new hcut.out, HWC.out.2.2.2.trans (hcut.out.mono HWC.out.2.2.2.size)⟩
          obtain ⟨we, hwe⟩ : ∃ we, we = wc := ⟨_, rfl⟩
          rw [← hwe] at HBD ⊢
          clear hcut hwe
          obtain ⟨wf, hwf⟩ : ∃ wf, wf = we.alloc (.cells #[.slice none 0 0, .map none] 68 (0, 0)) := ⟨_, rfl⟩
          have hnf : Below we.heap.size we wf := by rw [hwf]; exact (Below.refl _ _).alloc (Nat.le_refl _) _
          have HF : Aside (TS wf we.heap.size [] [we.heap.size] ∧ RW wf [we.heap.size] [] AW cW S ∧ Below w.heap.size w wf ∧ w.heap.size ≤ we.heap.size) := ⟨by rw [hwf]; exact TS.new we, HBD.out.1.fresh hnf (fun k hk => by rw [List.mem_singleton.1 hk]; exact Nat.le_refl _), HBD.out.2.trans (hnf.mono HBD.out.2.size), HBD.out.2.size⟩
          have HWF := Aside.mk hwf
          clear hnf hwf
          go_upto_block 8 with fail
          rw [← HWF.out]
          obtain ⟨U, hU⟩ : ∃ U, we.heap.size = U := ⟨_, rfl⟩
          rw [hU] at HF ⊢
          clear hU HWF
          go_cut [18] from 136 to 154 (fun x wr => ∃ fpu : List Nat, Aside (TS wr U S fpu ∧ RW wr fpu [] AW cW S ∧ Below w.heap.size w wr))
          case first =>
            go_wp2_with fail
            go_loopw [18] (fun v wr => ∃ (k : Nat) (i : Int) (fpu : List Nat), k ≤ N ∧ v = .int .i64 i ∧ i = (k : Int) - 1 ∧ Aside (TS wr U (S.drop k) fpu ∧ RW wr fpu [] AW cW S ∧ (∀ q ∈ fpu, w.heap.size ≤ q) ∧ Below w.heap.size w wr)) (fun v _ => (intOf v + 1).toNat)
            case atStart => exact ⟨N, _, [U], Nat.le_refl _, rfl, rfl, ⟨by rw [List.drop_eq_nil_of_le (by rw [HNN.out]; exact Nat.le_refl _)]; exact HF.out.1, HF.out.2.1, fun q hq => by rw [List.mem_singleton.1 hq]; exact HF.out.2.2.2, HF.out.2.2.1⟩⟩
            case round =>
              obtain ⟨k, i, fpu, hk, rfl, hik, HR⟩ := hrel
              by_cases h0 : k = 0
              · subst h0
                have hi : i < 0 := by omega
                clear hik
                go_wp2_with fail
                go_meet
                exact ⟨fpu, ⟨by simpa using HR.out.1, HR.out.2.1, HR.out.2.2.2⟩⟩
              · obtain ⟨j, rfl⟩ : ∃ j, k = j + 1 := ⟨k - 1, by omega⟩
                obtain rfl : i = (j : Int) := by omega
                obtain ⟨y, hy⟩ : ∃ y, S[j]? = some y := ⟨_, List.getElem?_eq_getElem (by rw [HNN.out]; omega)⟩
                obtain ⟨gW, rfl, _, t0, t1, _⟩ := HR.out.2.1.ka.get hy
                have HSB := Aside.mk (set_back HSR.out.1 HSR.out.2 hy)
                have hjN : j < N := by omega
                have HD : Aside (Below wr.heap.size wr wr.drew) := ⟨below_drew1 (Below.refl _ _)⟩
                have HLD : Aside ((S.drop (j + 1)).length ≤ 100000000) := ⟨by rw [List.length_drop]; have := HL.out; omega⟩
                clear hy hik h0
                go_upto_region 36 with fail
                go_still_tail 11, (by kernel_rfl)
                go_wp2_with fail
                refine (ts_set U (S.drop (j + 1)) fpu y.1 y.2 wr.drew HLD.out (HR.out.1.below HD.out)).mono ?_
                rintro e w12 ⟨rfl, fpv, ht, hn, hf⟩
                rw [HSB.out] at ht
                have HZ : Aside (TS w12 U (S.drop j) fpv ∧ RW w12 fpv [] (some ⟨gW, 0, none⟩) cW S ∧ (∀ q ∈ fpv, w.heap.size ≤ q) ∧ Below w.heap.size w w12) := ⟨ht, (HR.out.2.1.new HD.out).tstep hf hn, fun q hq => by rcases hn q hq with r | r; exact HR.out.2.2.1 q r; exact Nat.le_trans HR.out.2.2.2.size r, (HR.out.2.2.2.trans (HD.out.mono HR.out.2.2.2.size)).trans (hf.below (Nat.le_trans HR.out.2.2.2.size HD.out.size) HR.out.2.2.1)⟩
                clear ht hn hf t0 t1
                go_wp2_with fail
                go_roundw
                case rel => exact ⟨j, _, fpv, by omega, rfl, rfl, HZ⟩
                case measure => simp [intOf] <;> omega
          case rest =>
            obtain ⟨fpu, HR⟩ := hcut
            obtain ⟨wg, hwg⟩ : ∃ wg, wg = wc := ⟨_, rfl⟩
            rw [← hwg] at HR ⊢
            clear hwg
            go_wp2_with fail
            refine (all_calls U S fpu wg (by have := HL.out; omega) HR.out.1).mono ?_
            rintro e w13 ⟨v, rfl, ht, hb⟩
            obtain ⟨AG, cG, rfl, hcG, hnG, hKA⟩ := KA.of ht
            have HBG : Aside (Below w.heap.size w w13) := ⟨HR.out.2.2.trans (hb.mono HR.out.2.2.size)⟩
            have HWG := Aside.mk (HR.out.2.1.new hb)
            have HAG : Aside (RW w13 fpu [] AG cG S) := ⟨RW.of hKA (fun k hk => hk.elim (HR.out.1.lt k) (fun h => by simp at h))⟩
            rw [HNN.out] at hnG ⊢
            clear ht hb hKA HR
            go_upto_block 10 with fail
            go_cut [20] from 157 to 177 (fun x wr => Aside (Below w13.heap.size w13 wr))
            case first =>
              go_wp2_with fail
              go_loopw [20] (fun v wr => ∃ k : Nat, k ≤ N ∧ v = .int .i64 k ∧ Aside (Below w13.heap.size w13 wr)) (fun v _ => N - (intOf v).toNat)
              case atStart => exact ⟨0, by omega, rfl, ⟨Below.refl _ _⟩⟩
              case round =>
                obtain ⟨k, hk, rfl, HR⟩ := hrel
                by_cases hlt : k < N
                · obtain ⟨y, hy⟩ : ∃ y, S[k]? = some y := ⟨_, List.getElem?_eq_getElem (by rw [HNN.out]; exact hlt)⟩
                  have HRD := Aside.mk (below_drew1 HR.out)
                  obtain ⟨gS, rfl, _, t0, t1, _⟩ := (HAG.out.ka.below HRD.out).get hy
                  obtain ⟨gW, rfl, _, t2, t3, _⟩ := (HWG.out.ka.below HRD.out).get hy
                  have hq := timer_same
                  clear hy
                  go_upto_region 41 with fail
                  refine start_ (n := 15) (S := (fun w' => w'.cell? ⟨gS, k * 2, none⟩ = some (.int .i64 y.1) ∧ w'.cell? ⟨gS, k * 2 + 1, none⟩ = some (.int .i64 y.2) ∧ w'.cell? ⟨gW, k * 2, none⟩ = some (.int .i64 y.1) ∧ w'.cell? ⟨gW, k * 2 + 1, none⟩ = some (.int .i64 y.2))) (ds := []) #[false, false, false, false, false, false, false, false, false, false, false, false, false, false, false] (by kernel_rfl) rfl rfl ⟨t0, t1, t2, t3⟩ (fun hHeld => ?_); refine with_tabW apa41_tab apa41_bits (fun HT_ HW_ => ?_)
                  refine pure_ (i := 0) (N := (some 163)) (v := ?_) (a' := ?_) #[true, false, false, false, false, false, false, false, false, false, false, false, false, false, false] rfl rfl (any_of HT_.out (by kernel_rfl)) (fun _ _ _ h => h) (Or.inl ⟨by rfl, ?_⟩) ?_ ?_
                  rotate_left
                  · intro w'
                    go_simp
                    with_reducible rfl
                  rotate_left
                  · simp only [Act.put, List.setIfInBounds_toArray, List.set_cons_zero, List.set_cons_succ, i64_w, i32_w]
                    rfl
                  refine pure_ (i := 1) (N := (some 164)) (v := ?_) (a' := ?_) #[true, true, false, false, false, false, false, false, false, false, false, false, false, false, false] rfl rfl (any_of HT_.out (by kernel_rfl)) (fun _ _ _ h => h) (Or.inl ⟨by rfl, ?_⟩) ?_ ?_
                  rotate_left
                  · intro w'
                    go_simp
                    with_reducible rfl
                  rotate_left
                  · simp only [Act.put, List.setIfInBounds_toArray, List.set_cons_zero, List.set_cons_succ, i64_w, i32_w]
                    rfl
                  refine pure_ (i := 2) (N := (some 165)) (v := ?_) (a' := ?_) #[true, true, true, false, false, false, false, false, false, false, false, false, false, false, false] rfl rfl (any_of HT_.out (by kernel_rfl)) (fun _ _ _ h => h) (Or.inl ⟨by rfl, ?_⟩) ?_ ?_
                  rotate_left
                  · intro w'
                    go_simp
                    with_reducible rfl
                  rotate_left
                  · simp only [Act.put, List.setIfInBounds_toArray, List.set_cons_zero, List.set_cons_succ, i64_w, i32_w]
                    rfl
                  refine pure_ (i := 3) (N := (some 166)) (v := .bool false) (a' := ?_) #[true, true, true, true, false, false, false, false, false, false, false, false, false, false, false] rfl rfl (any_of HT_.out (by kernel_rfl)) (fun _ _ _ h => h) (Or.inl ⟨by rfl, ?_⟩) ?_ ?_
                  · intro w'
                    first | (go_simp; done) | (go_simp; with_reducible rfl) | (go_simp; simp [*]; done) | (go_simp; simp; omega)
                  rotate_left
                  · simp only [Act.put, List.setIfInBounds_toArray, List.set_cons_zero, List.set_cons_succ, i64_w, i32_w]
                    rfl
                  refine pure_ (i := 4) (N := (some 167)) (v := ?_) (a' := ?_) #[true, true, true, true, true, false, false, false, false, false, false, false, false, false, false] rfl rfl (any_of HT_.out (by kernel_rfl)) (fun _ _ _ h => h) (Or.inl ⟨by rfl, ?_⟩) ?_ ?_
                  rotate_left
                  · intro w'
                    go_simp
                    with_reducible rfl
                  rotate_left
                  · simp only [Act.put, List.setIfInBounds_toArray, List.set_cons_zero, List.set_cons_succ, i64_w, i32_w]
                    rfl
                  refine pure_ (i := 5) (N := (some 168)) (v := ?_) (a' := ?_) #[true, true, true, true, true, true, false, false, false, false, false, false, false, false, false] rfl rfl (any_of HT_.out (by kernel_rfl)) (fun _ _ _ h => h) (Or.inl ⟨by rfl, ?_⟩) ?_ ?_
                  rotate_left
                  · intro w'
                    go_simp
                    with_reducible rfl
                  rotate_left
                  · simp only [Act.put, List.setIfInBounds_toArray, List.set_cons_zero, List.set_cons_succ, i64_w, i32_w]
                    rfl
                  refine pure_ (i := 6) (N := (some 169)) (v := ?_) (a' := ?_) #[true, true, true, true, true, true, true, false, false, false, false, false, false, false, false] rfl rfl (any_of HT_.out (by kernel_rfl)) (fun _ _ _ h => h) (Or.inl ⟨by rfl, ?_⟩) ?_ ?_
                  rotate_left
                  · intro w'
                    go_simp
                    with_reducible rfl
                  rotate_left
                  · simp only [Act.put, List.setIfInBounds_toArray, List.set_cons_zero, List.set_cons_succ, i64_w, i32_w]
                    rfl
                  refine pure_ (i := 7) (N := (some 170)) (v := ?_) (a' := ?_) #[true, true, true, true, true, true, true, true, false, false, false, false, false, false, false] rfl rfl (any_of HT_.out (by kernel_rfl)) (fun _ _ _ h => h) (Or.inl ⟨by rfl, ?_⟩) ?_ ?_
                  rotate_left
                  · intro w'
                    go_simp
                    with_reducible rfl
                  rotate_left
                  · simp only [Act.put, List.setIfInBounds_toArray, List.set_cons_zero, List.set_cons_succ, i64_w, i32_w]
                    rfl
                  refine take_ (i := 8) (N := (some 171)) (v := ?_) (a' := ?_) #[true, true, true, true, true, true, true, true, true, false, false, false, false, false, false] rfl rfl (take_ofW HT_.out HW_.out (by kernel_rfl)) (fun _ _ _ h => h) (Or.inl ⟨by rfl, ?_⟩) hHeld ?_ ?_
                  rotate_left
                  · rintro w' ⟨s1, s2, _, _⟩
                    go_simp
                    with_reducible rfl
                  rotate_left
                  · simp only [Act.put, List.setIfInBounds_toArray, List.set_cons_zero, List.set_cons_succ, i64_w, i32_w]
                    rfl
                  refine pure_ (i := 9) (N := (some 172)) (v := ?_) (a' := ?_) #[true, true, true, true, true, true, true, true, true, true, false, false, false, false, false] rfl rfl (any_of HT_.out (by kernel_rfl)) (fun _ _ _ h => h) (Or.inl ⟨by rfl, ?_⟩) ?_ ?_
                  rotate_left
                  · intro w'
                    go_simp
                    with_reducible rfl
                  rotate_left
                  · simp only [Act.put, List.setIfInBounds_toArray, List.set_cons_zero, List.set_cons_succ, i64_w, i32_w]
                    rfl
                  refine pure_ (i := 10) (N := (some 173)) (v := ?_) (a' := ?_) #[true, true, true, true, true, true, true, true, true, true, true, false, false, false, false] rfl rfl (any_of HT_.out (by kernel_rfl)) (fun _ _ _ h => h) (Or.inl ⟨by rfl, ?_⟩) ?_ ?_
                  rotate_left
                  · intro w'
                    go_simp
                    with_reducible rfl
                  rotate_left
                  · simp only [Act.put, List.setIfInBounds_toArray, List.set_cons_zero, List.set_cons_succ, i64_w, i32_w]
                    rfl
                  refine pure_ (i := 11) (N := (some 174)) (v := ?_) (a' := ?_) #[true, true, true, true, true, true, true, true, true, true, true, true, false, false, false] rfl rfl (any_of HT_.out (by kernel_rfl)) (fun _ _ _ h => h) (Or.inl ⟨by rfl, ?_⟩) ?_ ?_
                  rotate_left
                  · intro w'
                    go_simp
                    with_reducible rfl
                  rotate_left
                  · simp only [Act.put, List.setIfInBounds_toArray, List.set_cons_zero, List.set_cons_succ, i64_w, i32_w]
                    rfl
                  refine take_ (i := 12) (N := (some 175)) (v := ?_) (a' := ?_) #[true, true, true, true, true, true, true, true, true, true, true, true, true, false, false] rfl rfl (take_ofW HT_.out HW_.out (by kernel_rfl)) (fun _ _ _ h => h) (Or.inl ⟨by rfl, ?_⟩) hHeld ?_ ?_
                  rotate_left
                  · rintro w' ⟨_, _, s1, s2⟩
                    go_simp
                    with_reducible rfl
                  rotate_left
                  · simp only [Act.put, List.setIfInBounds_toArray, List.set_cons_zero, List.set_cons_succ, i64_w, i32_w]
                    rfl
                  refine pure_ (i := 13) (N := (some 176)) (v := .bool false) (a' := ?_) #[true, true, true, true, true, true, true, true, true, true, true, true, true, true, false] rfl rfl (any_of HT_.out (by kernel_rfl)) (fun _ _ _ h => h) (Or.inl ⟨by rfl, ?_⟩) ?_ ?_
                  · intro w'
                    first | (go_simp; done) | (go_simp; with_reducible rfl) | (go_simp; simp [*]; done) | (go_simp; simp; omega)
                  rotate_left
                  · simp only [Act.put, List.setIfInBounds_toArray, List.set_cons_zero, List.set_cons_succ, i64_w, i32_w]
                    rfl
                  refine pure_ (i := 14) (N := (some 177)) (v := ?_) (a' := ?_) #[true, true, true, true, true, true, true, true, true, true, true, true, true, true, true] rfl rfl (any_of HT_.out (by kernel_rfl)) (fun _ _ _ h => h) (Or.inl ⟨by rfl, ?_⟩) ?_ ?_
                  rotate_left
                  · intro w'
                    go_simp
                    with_reducible rfl
                  rotate_left
                  · simp only [Act.put, List.setIfInBounds_toArray, List.set_cons_zero, List.set_cons_succ, i64_w, i32_w]
                    rfl
                  refine done_ (done_of HT_.out (by kernel_rfl)) ?_
                  clear HT_ HW_ hHeld
                  clear t0 t1 t2 t3
                  go_wp2_with fail
                  go_roundw
                  case rel => exact ⟨k + 1, by omega, by go_num, HRD⟩
                  case measure => simp [intOf]; omega
                · obtain rfl : k = N := by omega
                  go_wp2_with fail
                  go_meet
                  exact HR
            case rest =>
              have HBZ : Aside (Below w.heap.size w wc) := ⟨HBG.out.trans (hcut.out.mono HBG.out.size)⟩
              go_wp2_with fail
              go_ret
              exact ⟨rfl, HBZ.out⟩
theorem apart_walk (A : Option Addr) (c : Nat) (l : List S57) (B : Option Addr) (d : Nat) (more : List S57) (now : Int) {po po' : Prop} {W : World} (g : Kd.C k57 W A l.length l) (hlc : l.length ≤ c) (ok : po) (g2 : Kd.C k57 W B more.length more) (hld : more.length ≤ d) (ok' : po') :
    Calls Try.prog 7 #[.slice A l.length c, .slice B more.length d, .int .i64 now] W fun e w' => e = .returned (.bool true) ∧ Below W.heap.size W w' := by
  by_cases h : l.length ≤ 100 ∧ more.length ≤ 100
  · exact apart_short A B c d l more now W g hlc g2 hld h.1 h.2
  · exact apart_long A B l.length more.length c d now W (by omega)
end Go.Proofs.Ytjefeoohfalcaaa.C
