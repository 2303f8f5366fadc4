/- Timers by what they hold, in the row of their times: the contracts for the laws. -/
import Derived.Test.YtjefeoohfalcaaaK1
import Derived.Test.YtjefeoohfalcaaaQx1
namespace Go.Proofs.Ytjefeoohfalcaaa.C
open Go.RowKit Go.Proofs.Ytjefeoohfalcaaa.Q Go.Proofs.YtjefeoohfalcaaaW.PrintWords
set_option linter.unusedVariables false
set_option linter.unusedSimpArgs false
def ins (x : Int × Int) : List (Int × Int) → List (Int × Int)
  | [] => [x]
  | y :: r => if aheadB x y = true then x :: y :: r else y :: ins x r
def setS (S : List (Int × Int)) (id v : Int) : List (Int × Int) := ins (id, v) (del S id)
theorem ins_perm (x : Int × Int) : ∀ S, (ins x S).Perm (x :: S)
  | [] => List.Perm.refl _
  | y :: r => by
    unfold ins
    split
    · exact List.Perm.refl _
    · exact ((ins_perm x r).cons y).trans (List.Perm.swap x y r)
theorem ahead_or {a b : Int × Int} (h : a.1 ≠ b.1) (hn : ¬ aheadB a b = true) : aheadB b a = true := by
  unfold aheadB at *; simp only [decide_eq_true_eq] at *; omega
theorem srt_ins {x : Int × Int} : ∀ {S : List (Int × Int)}, Srt S → (∀ y ∈ S, y.1 ≠ x.1) → Srt (ins x S)
  | [], _, _ => List.pairwise_singleton _ _
  | y :: r, hs, hx => by
    have h1 := List.pairwise_cons.1 hs
    unfold ins
    by_cases ha : aheadB x y = true
    · rw [if_pos ha]
      refine List.pairwise_cons.2 ⟨fun z hz => ?_, hs⟩
      rcases List.mem_cons.1 hz with rfl | hz
      · exact ha
      · exact ahead_trans ha (h1.1 z hz)
    · rw [if_neg ha]
      refine List.pairwise_cons.2 ⟨fun z hz => ?_, srt_ins h1.2 (fun q hq => hx q (by simp [hq]))⟩
      rcases List.mem_cons.1 ((ins_perm x r).mem_iff.1 hz) with rfl | hz
      · exact ahead_or (Ne.symm (hx y (by simp))) ha
      · exact h1.1 z hz
theorem srt_del {S : List (Int × Int)} (h : Srt S) (id : Int) : Srt (del S id) := List.Pairwise.sublist List.filter_sublist h
theorem srt_set {S : List (Int × Int)} (h : Srt S) (id v : Int) : Srt (setS S id v) := srt_ins (srt_del h id) (del_not S id)
theorem set_perm' (S : List (Int × Int)) (id v : Int) : (del S id ++ [(id, v)]).Perm (setS S id v) := (List.perm_append_comm (l₁ := del S id) (l₂ := [(id, v)])).trans (ins_perm _ _).symm
theorem has_perm {l S : List (Int × Int)} (hI : Ids S) (hp : l.Perm S) (id : Int) : hasOf l id = hasOf S id := by
  by_cases h : ∃ x ∈ S, x.1 = id
  · obtain ⟨x, hx, rfl⟩ := h
    obtain ⟨i, hi⟩ := List.getElem?_of_mem hx
    obtain ⟨j, hj⟩ := List.getElem?_of_mem (hp.mem_iff.2 hx)
    rw [has_some hI hi, has_some (hI.perm hp) hj]
  · rw [has_none (fun x hx e => h ⟨x, hx, e⟩), has_none (fun x hx e => h ⟨x, hp.mem_iff.1 hx, e⟩)]
/-- Timers hold S. -/
structure TS (w : World) (T : Nat) (S : List (Int × Int)) (fp : List Nat) : Prop where
  tm : ∃ l, l.Perm S ∧ TM w T l fp
  srt : Srt S
theorem TS.lt {w : World} {T : Nat} {S : List (Int × Int)} {fp : List Nat} (h : TS w T S fp) : ∀ k ∈ fp, k < w.heap.size := by
  obtain ⟨l, _, h1⟩ := h.tm
  exact h1.lt
theorem TS.mem {w : World} {T : Nat} {S : List (Int × Int)} {fp : List Nat} (h : TS w T S fp) : T ∈ fp := by
  obtain ⟨l, _, h1⟩ := h.tm
  exact h1.mem
theorem TS.ids {w : World} {T : Nat} {S : List (Int × Int)} {fp : List Nat} (h : TS w T S fp) : Ids S := by
  obtain ⟨l, hp, h1⟩ := h.tm
  exact h1.ids.perm hp.symm
theorem TS.fr {F : Nat → Prop} {w w' : World} {T : Nat} {S : List (Int × Int)} {fp : List Nat} (h : TS w T S fp) (hf : Fr F w w') (hF : ∀ k ∈ fp, ¬ F k) : TS w' T S fp := by
  obtain ⟨l, hp, h1⟩ := h.tm
  exact ⟨⟨l, hp, h1.fr hf hF⟩, h.srt⟩
theorem TS.new (w : World) : TS (w.alloc (.cells #[.slice none 0 0, .map none] 68 (0, 0))) w.heap.size [] [w.heap.size] := ⟨⟨[], List.Perm.refl _, .inl ⟨heap_alloc_new w _, rfl, rfl⟩⟩, List.Pairwise.nil⟩
theorem ts_len (T : Nat) (S : List (Int × Int)) (fp : List Nat) (w : World) (h : TS w T S fp) : Calls Try.prog 25 #[.pointer (some ⟨T, 0, none⟩)] w fun e w' => e = .returned (.int .i64 S.length) ∧ w = w' := by
  obtain ⟨l, hp, h1⟩ := h.tm
  rw [← hp.length_eq]
  exact tlen_calls T l fp w h1
theorem ts_next (T : Nat) (S : List (Int × Int)) (fp : List Nat) (w : World) (h : TS w T S fp) : Calls Try.prog 33 #[.pointer (some ⟨T, 0, none⟩)] w fun e w' => e = .returned (.tuple #[.agg #[.int .i64 (headOf S).1, .int .i64 (headOf S).2], .bool (!S.isEmpty)]) ∧ Below w.heap.size w w' := by
  obtain ⟨l, hp, h1⟩ := h.tm
  have h2 := head_of h1 hp h.srt
  rw [← h2.1, ← h2.2]
  exact tnext_calls T l fp w h1
theorem ts_has (T : Nat) (S : List (Int × Int)) (fp : List Nat) (id : Int) (w : World) (h : TS w T S fp) : Calls Try.prog 26 #[.pointer (some ⟨T, 0, none⟩), .int .i64 id] w fun e w' => e = .returned (.tuple #[.int .i64 ((hasOf S id).getD 0), .bool (hasOf S id).isSome]) ∧ w = w' := by
  obtain ⟨l, hp, h1⟩ := h.tm
  rw [← has_perm h.ids hp id]
  exact thas_calls T l fp id w h1
theorem ts_stop (T : Nat) (S : List (Int × Int)) (fp : List Nat) (id : Int) (w : World) (hl : S.length ≤ 100000000) (h : TS w T S fp) : Calls Try.prog 27 #[.pointer (some ⟨T, 0, none⟩), .int .i64 id] w fun e w' => e = .returned (.bool (hasOf S id).isSome) ∧ TS w' T (del S id) fp ∧ Fr (fun k => k ∈ fp) w w' := by
  obtain ⟨l, hp, h1⟩ := h.tm
  refine (tstop_calls T l fp id w (by rw [hp.length_eq]; omega) h1).mono ?_
  rintro e w' ⟨rfl, l', hp', h2, h3⟩
  exact ⟨by unfold stopped; rw [has_perm h.ids hp id], ⟨⟨l', hp'.trans (del_perm_of hp id), h2⟩, srt_del h.srt id⟩, h3⟩
theorem ts_set (T : Nat) (S : List (Int × Int)) (fp : List Nat) (id v : Int) (w : World) (hl : S.length ≤ 100000000) (h : TS w T S fp) : Calls Try.prog 28 #[.pointer (some ⟨T, 0, none⟩), .int .i64 id, .int .i64 v] w fun e w' => e = .returned (.tuple #[]) ∧ ∃ fp', TS w' T (setS S id v) fp' ∧ (∀ k ∈ fp', k ∈ fp ∨ w.heap.size ≤ k) ∧ Fr (fun k => k ∈ fp) w w' := by
  obtain ⟨l, hp, h1⟩ := h.tm
  refine (tset_calls T l fp id v w (by rw [hp.length_eq]; exact hl) h1).mono ?_
  rintro e w' ⟨rfl, l', fp', hp', h2, h3, h4⟩
  exact ⟨rfl, fp', ⟨⟨l', hp'.trans (((del_perm_of hp id).append_right _).trans (set_perm' S id v)), h2⟩, srt_set h.srt id v⟩, h3, h4⟩
def dueS (S : List (Int × Int)) (now : Int) : List (Int × Int) := S.filter fun x => decide (x.2 ≤ now)
def restS (S : List (Int × Int)) (now : Int) : List (Int × Int) := S.filter fun x => !decide (x.2 ≤ now)
/-- A row of numbers, whose block is new from base on. -/
def Nums (w : World) (base : Nat) (v : Value) (l : List Int) : Prop := w.ownsRow base 2 1 v l.length (l.map (Value.int .i64))
theorem Nums.C {w : World} {base : Nat} {v : Value} {l : List Int} (h : Nums w base v l) : ∃ A c, v = .slice A l.length c ∧ l.length ≤ c ∧ Kd.C (Kd.int .i64) w A l.length l := by
  rcases h.2 with ⟨rfl, h0⟩ | ⟨g, cap, cur, rfl, _, hb, hc, hm, hs, ht⟩
  · refine ⟨none, 0, by rw [h0], by omega, rfl, by omega, fun h => by omega⟩
  · refine ⟨some ⟨g, 0, none⟩, cap, rfl, hc, rfl, by unfold maxLen at hm; omega, fun _ => ⟨_, rfl, fun j p hj => ⟨[.int .i64 p], rfl, rfl, fun i u hu => ?_⟩⟩⟩
    cases i with
    | succ i => simp at hu
    | zero =>
      simp only [List.getElem?_cons_zero, Option.some.injEq] at hu
      subst hu
      have hj' := (List.getElem?_eq_some_iff.1 hj).1
      have e : (⟨g, 0, none⟩ : Addr).add (j * (Kd.int .i64).sz + 0) = ⟨g, 0 + j, none⟩ := by
        have : (Kd.int .i64).sz = 1 := rfl
        rw [this]
        simp [Addr.add]
        exact fun h => h.symm
      rw [e, cell_at hb]
      have h2 : (l.map (Value.int .i64))[j]? = some (.int .i64 p) := by rw [List.getElem?_map, hj]; rfl
      rw [← ht, List.getElem?_take_of_lt (by omega)] at h2
      simpa using h2
theorem Nums.fr {F : Nat → Prop} {w w' : World} {base : Nat} {v : Value} {l : List Int} (h : Nums w base v l) (hf : Fr F w w') (hF : ∀ k, base ≤ k → k < w.heap.size → ¬ F k) : Nums w' base v l := by
  obtain ⟨h1, h2⟩ := h
  refine ⟨h1, ?_⟩
  rcases h2 with h2 | ⟨g, cap, cur, hv, hg, hh, r⟩
  · exact .inl h2
  · exact .inr ⟨g, cap, cur, hv, hg, hf.heap hh (hF g hg (lt_of_block hh)), r⟩
theorem ts_due (T : Nat) (S : List (Int × Int)) (fp : List Nat) (now : Int) (w : World) (hl : S.length ≤ 100000000) (h : TS w T S fp) : Calls Try.prog 30 #[.pointer (some ⟨T, 0, none⟩), .int .i64 now] w fun e w' => ∃ v, e = .returned v ∧ Nums w' w.heap.size v ((dueS S now).map (·.1)) ∧ TS w' T (restS S now) fp ∧ Fr (fun k => k ∈ fp) w w' := by
  obtain ⟨l, hp, h1⟩ := h.tm
  refine (tdue_calls T l S fp now w (by rw [hp.length_eq]; exact hl) h1 hp h.srt).mono ?_
  rintro e w' ⟨v, rfl, h2, l', hp', h3, h4⟩
  refine ⟨v, rfl, ?_, ⟨⟨l', hp', h3⟩, List.Pairwise.sublist List.filter_sublist h.srt⟩, h4⟩
  unfold Nums
  rw [List.length_map, List.map_map]
  exact h2
/-! ### Numbers -/
theorem nums_l0 (l0 l1 : List Int) (hl : l0.length = l1.length) (hb : l0.length ≤ 1000000000) : ∀ (d i : Nat), i + d = l0.length → ∀ k, d < k → batonref16_Numbers.l0 k l0 l1 (i : Int) = some (decide (l0.drop i = l1.drop i)) := by
  intro d
  induction d with
  | zero =>
    intro i hi k hk
    obtain ⟨k, rfl⟩ : ∃ m, k = m + 1 := ⟨k - 1, by omega⟩
    simp only [batonref16_Numbers.l0]
    rw [if_neg (by omega), List.drop_eq_nil_of_le (by omega), List.drop_eq_nil_of_le (by omega)]
    simp
  | succ d ih =>
    intro i hi k hk
    obtain ⟨k, rfl⟩ : ∃ m, k = m + 1 := ⟨k - 1, by omega⟩
    simp only [batonref16_Numbers.l0]
    have h0 : i < l0.length := by omega
    have h1 : i < l1.length := by omega
    rw [if_pos (by omega), if_pos (by omega), if_pos (by omega)]
    have e0 : Go.Proofs.YtjefeoohfalcaaaW.PrintWords.rd l0 (i : Int) = l0[i] := by unfold Go.Proofs.YtjefeoohfalcaaaW.PrintWords.rd; simp [h0]
    have e1 : Go.Proofs.YtjefeoohfalcaaaW.PrintWords.rd l1 (i : Int) = l1[i] := by unfold Go.Proofs.YtjefeoohfalcaaaW.PrintWords.rd; simp [h1]
    rw [e0, e1, List.drop_eq_getElem_cons h0, List.drop_eq_getElem_cons h1]
    by_cases he : l0[i] = l1[i]
    · rw [if_pos he]
      have hw : wrap64 ((i : Int) + 1) = ((i + 1 : Nat) : Int) := by unfold wrap64; omega
      rw [hw, ih (i + 1) (by omega) k (by omega), he]
      exact congrArg some (decide_eq_decide.2 ⟨fun h => by rw [h], fun h => (List.cons.inj h).2⟩)
    · rw [if_neg he, decide_eq_false (fun h => he (List.cons.inj h).1)]
theorem nums_is (l0 l1 : List Int) (hb : l0.length ≤ 1000000000) : ∃ k, batonref16_Numbers.f k l0 l1 = some (decide (l0 = l1)) := by
  refine ⟨l0.length + 1, ?_⟩
  unfold batonref16_Numbers.f
  by_cases h : l0.length = l1.length
  · rw [if_pos (by omega)]
    have := nums_l0 l0 l1 h hb l0.length 0 (by omega) (l0.length + 1) (by omega)
    simpa using this
  · rw [if_neg (by omega)]
    have : ¬ l0 = l1 := fun e => h (by rw [e])
    simp [this]
theorem numbers_calls (A0 A1 : Option Addr) (c0 c1 : Nat) (l0 l1 : List Int) (w : World) (hb : l0.length ≤ 1000000000) (h0 : Kd.C (Kd.int .i64) w A0 l0.length l0) (h1 : Kd.C (Kd.int .i64) w A1 l1.length l1) (hc0 : l0.length ≤ c0) (hc1 : l1.length ≤ c1) :
    Calls Try.prog 32 #[.slice A0 l0.length c0, .slice A1 l1.length c1] w fun e w' => e = .returned (.bool (decide (l0 = l1))) ∧ Below w.heap.size w w' := by
  obtain ⟨k, hk⟩ := nums_is l0 l1 hb
  exact (batonref16_Numbers.calls k A0 c0 l0 A1 c1 l1 _ w h0 hc0 h1 hc1 hk).mono fun e w' ⟨h1, h2⟩ => ⟨h1, h2.below⟩
end Go.Proofs.Ytjefeoohfalcaaa.C
