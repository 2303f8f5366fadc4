/- The law's set: timers out of a list. -/
import Derived.Test.YtjefeoohfalcaaaAL
import Derived.Test.YtjefeoohfalcaaaQx0
namespace Go.Proofs.Ytjefeoohfalcaaa.C
open Go.Shelf Go.RowKit Go.Proofs.Ytjefeoohfalcaaa.Q Go.Proofs.YtjefeoohfalcaaaW.PrintLast Go.Proofs.YtjefeoohfalcaaaW.PrintWords
set_option linter.unusedVariables false
set_option linter.unusedSimpArgs false
/-- The first k of l, set one after the other. -/
def setN (l : List S57) : Nat → List (Int × Int)
  | 0 => []
  | k + 1 => setS (setN l k) (rd_T57 l k).f0 (rd_T57 l k).f1
theorem ins_len (x : Int × Int) (S : List (Int × Int)) : (ins x S).length = S.length + 1 := by rw [(ins_perm x S).length_eq]; rfl
theorem del_le (S : List (Int × Int)) (id : Int) : (del S id).length ≤ S.length := List.length_filter_le _ _
theorem setS_le (S : List (Int × Int)) (id v : Int) : (setS S id v).length ≤ S.length + 1 := by unfold setS; rw [ins_len]; have := del_le S id; omega
theorem setN_le (l : List S57) : ∀ k, (setN l k).length ≤ k
  | 0 => Nat.le_refl _
  | k + 1 => by have := setN_le l k; have := setS_le (setN l k) (rd_T57 l k).f0 (rd_T57 l k).f1; unfold setN; omega
/-- Timers T, made behind w0, hold S. -/
structure TB (w0 : World) (T : Nat) (S : List (Int × Int)) (w : World) : Prop where
  ts : ∃ fp, TS w T S fp ∧ ∀ k ∈ fp, w0.heap.size ≤ k
  bel : Below w0.heap.size w0 w
theorem TB.quiet {w0 w w' : World} {T : Nat} {S : List (Int × Int)} (h : TB w0 T S w) (hf : Fr (fun _ => False) w w') : TB w0 T S w' := by
  obtain ⟨⟨fp, h1, h2⟩, h3⟩ := h
  exact ⟨⟨fp, h1.fr hf (fun _ _ f => f), h2⟩, h3.trans (hf.below h3.size (fun _ f => f.elim))⟩
theorem TB.below {w0 w w' : World} {T : Nat} {S : List (Int × Int)} (h : TB w0 T S w) (hb : Below w.heap.size w w') : TB w0 T S w' := h.quiet (Fr.of_new hb)
theorem TB.drew {w0 w : World} {T : Nat} {S : List (Int × Int)} (h : TB w0 T S w) : TB w0 T S w.drew := h.quiet (Fr.refl _ w).drew
theorem tb_len {w0 w : World} {T : Nat} {S : List (Int × Int)} (h : TB w0 T S w) : Calls Try.prog 25 #[.pointer (some ⟨T, 0, none⟩)] w fun e w' => e = .returned (.int .i64 S.length) ∧ w = w' := by
  obtain ⟨⟨fp, h1, _⟩, _⟩ := h
  exact ts_len T S fp w h1
theorem tb_has {w0 w : World} {T : Nat} {S : List (Int × Int)} (h : TB w0 T S w) (id : Int) : Calls Try.prog 26 #[.pointer (some ⟨T, 0, none⟩), .int .i64 id] w fun e w' => e = .returned (.tuple #[.int .i64 ((hasOf S id).getD 0), .bool (hasOf S id).isSome]) ∧ w = w' := by
  obtain ⟨⟨fp, h1, _⟩, _⟩ := h
  exact ts_has T S fp id w h1
theorem tb_next {w0 w : World} {T : Nat} {S : List (Int × Int)} (h : TB w0 T S w) : Calls Try.prog 33 #[.pointer (some ⟨T, 0, none⟩)] w fun e w' => e = .returned (.tuple #[.agg #[.int .i64 (headOf S).1, .int .i64 (headOf S).2], .bool (!S.isEmpty)]) ∧ TB w0 T S w' := by
  have h0 := h
  obtain ⟨⟨fp, h1, _⟩, _⟩ := h
  exact (ts_next T S fp w h1).mono fun e w' ⟨he, hb⟩ => ⟨he, h0.below hb⟩
theorem tb_stop {w0 w : World} {T : Nat} {S : List (Int × Int)} (h : TB w0 T S w) (hl : S.length ≤ 1000000) (id : Int) : Calls Try.prog 27 #[.pointer (some ⟨T, 0, none⟩), .int .i64 id] w fun e w' => e = .returned (.bool (hasOf S id).isSome) ∧ TB w0 T (del S id) w' := by
  obtain ⟨⟨fp, h1, h2⟩, h3⟩ := h
  exact (ts_stop T S fp id w (by omega) h1).mono fun e w' ⟨he, h4, hf⟩ => ⟨he, ⟨fp, h4, h2⟩, h3.trans (hf.below h3.size h2)⟩
theorem tb_set {w0 w : World} {T : Nat} {S : List (Int × Int)} (h : TB w0 T S w) (hl : S.length ≤ 1000000) (id v : Int) : Calls Try.prog 28 #[.pointer (some ⟨T, 0, none⟩), .int .i64 id, .int .i64 v] w fun e w' => e = .returned (.tuple #[]) ∧ TB w0 T (setS S id v) w' := by
  obtain ⟨⟨fp, h1, h2⟩, h3⟩ := h
  exact (ts_set T S fp id v w (by omega) h1).mono fun e w' ⟨he, fp', h4, h5, hf⟩ => ⟨he, ⟨fp', h4, fun k hk => by rcases h5 k hk with q | q; exact h2 k q; exact Nat.le_trans h3.size q⟩, h3.trans (hf.below h3.size h2)⟩
theorem tb_due {w0 w : World} {T : Nat} {S : List (Int × Int)} (h : TB w0 T S w) (hl : S.length ≤ 1000000) (now : Int) : Calls Try.prog 30 #[.pointer (some ⟨T, 0, none⟩), .int .i64 now] w fun e w' => ∃ v, e = .returned v ∧ Nums w' w.heap.size v ((dueS S now).map (·.1)) ∧ TB w0 T (restS S now) w' ∧ Fr (fun k => w0.heap.size ≤ k ∧ k < w.heap.size) w w' := by
  obtain ⟨⟨fp, h1, h2⟩, h3⟩ := h
  have hlt := h1.lt
  exact (ts_due T S fp now w (by omega) h1).mono fun e w' ⟨v, he, hn, h4, hf⟩ => ⟨v, he, hn, ⟨⟨fp, h4, h2⟩, h3.trans (hf.below h3.size h2)⟩, hf.mono (fun k hk => ⟨h2 k hk, hlt k hk⟩)⟩
theorem tb_all {w0 w : World} {T : Nat} {S : List (Int × Int)} (h : TB w0 T S w) (hl : S.length ≤ 1000000) : Calls Try.prog 29 #[.pointer (some ⟨T, 0, none⟩)] w fun e w' => ∃ v, e = .returned v ∧ Told w.heap.size w' v S ∧ TB w0 T S w' ∧ Below w.heap.size w w' := by
  have h0 := h
  obtain ⟨⟨fp, h1, _⟩, _⟩ := h
  exact (all_calls T S fp w (by omega) h1).mono fun e w' ⟨v, he, ht, hb⟩ => ⟨v, he, ht, h0.below hb, hb⟩
set_option maxHeartbeats 2000000 in
set_option maxRecDepth 100000 in
theorem set_walk (w0 : World) (A : Option Addr) (c : Nat) (l : List S57) (w : World) (g : Kd.C k57 w A l.length l) (hlc : l.length ≤ c) (h : l.length ≤ 1000) (hb : Below w0.heap.size w0 w) :
    Calls Try.prog 24 #[.slice A l.length c] w fun e w' => ∃ T, e = .returned (.pointer (some ⟨T, 0, none⟩)) ∧ TB w0 T (setN l l.length) w' ∧ Below w.heap.size w w' := by
  have HG := Aside.mk g
  obtain ⟨n, hn⟩ : ∃ n, l.length = n := ⟨_, rfl⟩
  have HN := Aside.mk hn
  have HS0 := Aside.mk hb.size
  rw [hn] at hlc h ⊢
  have HB0 : Aside (TB w w.heap.size [] (w.alloc (.cells #[.slice none 0 0, .map none] 68 (0, 0)))) := ⟨⟨⟨_, TS.new w, by simp⟩, (Below.refl _ w).alloc (Nat.le_refl _) _⟩⟩
  clear g hn
  go_enter Try.func24, Try.ntmps24
  go_wp2_with fail
  go_loopw [4] (fun v4 wr => ∃ k : Nat, k ≤ n ∧ v4 = .int .i64 k ∧ Aside (TB w w.heap.size (setN l k) wr)) (fun v4 _ => n - (intOf v4).toNat)
  case atStart => exact ⟨0, by omega, rfl, HB0⟩
  clear HB0
  case round =>
    obtain ⟨k, hk, rfl, HP⟩ := hrel
    by_cases hlt : k < n
    · obtain ⟨ad, he, hf0, hf1⟩ := at_T57 (Kd.C_below HG.out HP.out.bel) (k : Int) (by omega) (by rw [HN.out]; omega)
      subst he
      obtain ⟨y, hy⟩ : ∃ y, rd_T57 l k = y := ⟨_, rfl⟩
      have HY := Aside.mk hy
      rw [hy] at hf0 hf1
      simp only [Int.toNat_natCast] at hf0 hf1
      have HL : Aside ((setN l k).length ≤ 1000000) := ⟨by have := setN_le l k; omega⟩
      clear hy
      go_upto_region 5 with fail
      go_still_tail 11, (by kernel_rfl)
      go_wp2_with fail
      refine (tb_set HP.out.drew HL.out y.f0 y.f1).mono ?_
      rintro e w' ⟨rfl, hT⟩
      have HT : Aside (TB w w.heap.size (setN l (k + 1)) w') := ⟨by show TB w w.heap.size (setS (setN l k) (rd_T57 l k).f0 (rd_T57 l k).f1) w'; rw [HY.out]; exact hT⟩
      clear hT
      go_wp2_with fail
      go_roundw
      case rel => exact ⟨k + 1, by omega, by first | rfl | go_num, HT⟩
      case measure => simp [intOf]; omega
    · obtain rfl : k = n := by omega
      go_wp2_with fail
      go_ret
      obtain ⟨⟨fp, q1, q2⟩, q3⟩ := HP.out
      exact ⟨_, rfl, ⟨⟨fp, q1, fun k hk => Nat.le_trans HS0.out (q2 k hk)⟩, hb.trans (q3.mono HS0.out)⟩, q3⟩
end Go.Proofs.Ytjefeoohfalcaaa.C
