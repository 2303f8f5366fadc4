/- slices.Index, Contains over texts; IndexFunc, ContainsFunc over entries. -/
import Derived.Test.YtagkobpbhfkmdaaCL
namespace Go.Proofs.Ytagkobpbhfkmdaa.C
open Go.RowKit Go.ChangeMaps Go.Proofs.Ytagkobpbhfkmdaa.Q Go.Proofs.YtagkobpbhfkmdaaW.PrintLast Go.Proofs.YtagkobpbhfkmdaaW.PrintWords
set_option linter.unusedVariables false
set_option linter.unusedSimpArgs false
def idxFrom {α : Type} (p : α → Bool) : List α → Nat → Int
  | [], _ => -1
  | x :: l, i => if p x = true then (i : Int) else idxFrom p l (i + 1)
def idxI {α : Type} (p : α → Bool) (l : List α) : Int := idxFrom p l 0
theorem idxFrom_step {α : Type} (p : α → Bool) {l : List α} {k : Nat} {x : α} (h : l[k]? = some x) : idxFrom p (l.drop k) k = if p x = true then (k : Int) else idxFrom p (l.drop (k + 1)) (k + 1) := by
  have hlt := (List.getElem?_eq_some_iff.1 h).1
  rw [List.drop_eq_getElem_cons hlt]
  have : l[k] = x := (List.getElem?_eq_some_iff.1 h).2
  rw [this]
  rfl
theorem idxFrom_any {α : Type} (p : α → Bool) : ∀ (l : List α) (i : Nat), (l.any p = false ∧ idxFrom p l i = -1) ∨ (l.any p = true ∧ ∃ j x, l[j]? = some x ∧ p x = true ∧ idxFrom p l i = ((i + j : Nat) : Int) ∧ l.find? p = some x)
  | [], i => .inl ⟨rfl, rfl⟩
  | x :: l, i => by
    cases hp : p x with
    | true => exact .inr ⟨by simp [hp], 0, x, rfl, hp, by unfold idxFrom; rw [if_pos hp]; simp, by simp [hp]⟩
    | false =>
      have hu : idxFrom p (x :: l) i = idxFrom p l (i + 1) := by show (if p x = true then _ else _) = _; rw [hp, if_neg (by decide)]
      rcases idxFrom_any p l (i + 1) with ⟨h1, h2⟩ | ⟨h1, j, y, h2, h3, h4, h5⟩
      · exact .inl ⟨by simp [hp, h1], by rw [hu, h2]⟩
      · exact .inr ⟨by simp [hp, h1], j + 1, y, by simpa using h2, h3, by rw [hu, h4]; congr 1; omega, by simp [hp, h5]⟩
theorem idxI_any {α : Type} (p : α → Bool) (l : List α) : (l.any p = false ∧ idxI p l = -1) ∨ (l.any p = true ∧ ∃ (j : Nat) (x : α), l[j]? = some x ∧ p x = true ∧ idxI p l = (j : Int) ∧ l.find? p = some x) := by
  rcases idxFrom_any p l 0 with h | ⟨h1, j, x, h2, h3, h4, h5⟩
  · exact .inl h
  · exact .inr ⟨h1, j, x, h2, h3, by unfold idxI; simpa using h4, h5⟩
def eqT (a b : ByteArray) : Bool := a.toList == b.toList
theorem eqT_iff {a b : ByteArray} : eqT a b = true ↔ a = b := by
  unfold eqT
  rw [beq_iff_eq]
  constructor
  · intro h
    rw [ByteArray.toList_eq, ByteArray.toList_eq] at h
    have : a.data = b.data := Array.ext' h
    cases a; cases b; cases this; rfl
  · intro h; rw [h]
set_option maxHeartbeats 2000000 in
set_option maxRecDepth 100000 in
theorem index_calls (A : Option Addr) (c : Nat) (l : List ByteArray) (v : ByteArray) (w : World) (g : Kd.string.C w A l.length l) (hlc : l.length ≤ c) (hl : l.length ≤ 1000000000) : Calls Try.prog 70 #[.slice A l.length c, .string v] w fun e w' => e = .returned (.int .i64 (idxI (eqT v) l)) ∧ w = w' := by
  have hr := Kd.reads_of_C (d := (ByteArray.mk #[])) g
  obtain ⟨X, hX⟩ : ∃ X, idxI (eqT v) l = X := ⟨_, rfl⟩
  rw [hX]
  have HX : Aside (idxFrom (eqT v) (l.drop 0) 0 = X) := ⟨hX⟩
  obtain ⟨n, hn⟩ : ∃ n, l.length = n := ⟨_, rfl⟩
  have HR := Aside.mk (And.intro hr.2.2 hn)
  rw [hn] at hlc hl ⊢
  clear hr g hX hn
  go_enter Try.func70, Try.ntmps70
  go_wp2_with fail
  go_loop [8] (fun v8 => ∃ k : Nat, k ≤ n ∧ v8 = .int .i64 k ∧ Aside (idxFrom (eqT v) (l.drop k) k = X)) (fun v8 => n - (intOf v8).toNat)
  case atStart => exact ⟨0, by omega, rfl, HX⟩
  case round =>
    obtain ⟨k, hk, rfl, HI⟩ := hrel
    by_cases hkn : k < n
    · obtain ⟨x, hx⟩ : ∃ x, l[k]? = some x := ⟨_, List.getElem?_eq_getElem (by rw [HR.out.2]; exact hkn)⟩
      obtain ⟨ad, rfl, hc⟩ := HR.out.1 (by rw [HR.out.2]; omega)
      have c0 : w.cell? (ad.add k) = some (.string x) := by rw [hc k (by rw [HR.out.2]; exact hkn), List.getD_eq_getElem?_getD, hx]; rfl
      have HS := Aside.mk (idxFrom_step (eqT v) hx)
      rw [HI.out] at HS
      cases he : eqT v x with
      | true =>
        have hE : Aside (X = (k : Int)) := ⟨by rw [HS.out, if_pos he]⟩
        have hb : (v.toList == x.toList) = true := he
        clear hc hx he HI HS
        go_wp2_with fail
        go_ret
        rw [hE.out]
        exact ⟨rfl, rfl⟩
      | false =>
        have hE : Aside (idxFrom (eqT v) (l.drop (k + 1)) (k + 1) = X) := ⟨by rw [HS.out, if_neg (by rw [he]; decide)]⟩
        have hb : (v.toList == x.toList) = false := he
        clear hc hx he HI HS
        go_wp2_with fail
        go_round
        case rel => exact ⟨k + 1, by omega, by go_num, hE⟩
        case measure => simp [intOf]; omega
    · obtain rfl : k = n := by omega
      have hE : Aside (X = -1) := ⟨by rw [← HI.out, List.drop_of_length_le (by rw [HR.out.2]; exact Nat.le_refl _)]; rfl⟩
      clear HI
      go_wp2_with fail
      go_ret
      rw [hE.out]
      exact ⟨rfl, rfl⟩
set_option maxHeartbeats 1000000 in
set_option maxRecDepth 100000 in
theorem contains_calls (A : Option Addr) (c : Nat) (l : List ByteArray) (v : ByteArray) (w : World) (g : Kd.string.C w A l.length l) (hlc : l.length ≤ c) (hl : l.length ≤ 1000000000) : Calls Try.prog 40 #[.slice A l.length c, .string v] w fun e w' => e = .returned (.bool (l.any (eqT v))) ∧ w = w' := by
  have hi := index_calls A c l v w g hlc hl
  obtain ⟨n, hn⟩ : ∃ n, l.length = n := ⟨_, rfl⟩
  rw [hn] at hi ⊢
  rcases idxI_any (eqT v) l with ⟨h1, h2⟩ | ⟨h1, j, x, -, -, h2, -⟩
  · rw [h2] at hi
    rw [h1]
    clear g h1 h2 hn hl hlc
    go_enter Try.func40, Try.ntmps40
    go_wp2_with fail
    refine hi.mono ?_
    rintro e w1 ⟨rfl, rfl⟩
    go_wp2_with fail
    go_ret
    exact ⟨rfl, rfl⟩
  · rw [h2] at hi
    rw [h1]
    clear g h1 h2 hn hl hlc
    go_enter Try.func40, Try.ntmps40
    go_wp2_with fail
    refine hi.mono ?_
    rintro e w1 ⟨rfl, rfl⟩
    have hj : decide ((j : Int) ≥ 0) = true := by simp
    go_wp2_with fail
    go_ret
    exact ⟨by simp, rfl⟩
def enV (x : En) : Value := .agg #[.string x.f0, .string x.f1, .int .i64 x.f2, .int .i64 x.f3]
set_option maxHeartbeats 2000000 in
set_option maxRecDepth 100000 in
theorem indexf_calls (A : Option Addr) (c : Nat) (l : List En) (G K : Nat) (p : En → Bool) (w : World) (g : Kd.C k46 w A l.length l) (hlc : l.length ≤ c) (hl : l.length ≤ 1000000000) (hcl : ∀ (W : World) (x : En), Below w.heap.size w W → Calls Try.prog G #[.agg #[.string x.f0, .string x.f1, .int .i64 x.f2, .int .i64 x.f3], .pointer (some ⟨K, 0, none⟩)] W fun e w' => e = .returned (.bool (p x)) ∧ Below W.heap.size W w')
    (eg : ∀ args (w : World), (callFunc G args).run Try.prog w = .ok (.enter G args) w) : Calls Try.prog 41 #[.slice A l.length c, .func (Fn.func G) #[] #[.pointer (some ⟨K, 0, none⟩)]] w fun e w' => e = .returned (.int .i64 (idxI p l)) ∧ Below w.heap.size w w' := by
  obtain ⟨X, hX⟩ : ∃ X, idxI p l = X := ⟨_, rfl⟩
  rw [hX]
  have HX : Aside (idxFrom p (l.drop 0) 0 = X) := ⟨hX⟩
  obtain ⟨n, hn⟩ : ∃ n, l.length = n := ⟨_, rfl⟩
  have HR := Aside.mk (And.intro g (And.intro hn hcl))
  rw [hn] at hlc hl ⊢
  clear g hX hn hcl
  go_enter Try.func41, Try.ntmps41
  go_wp2_with fail
  go_loopw [8] (fun v8 w' => ∃ k : Nat, k ≤ n ∧ v8 = .int .i64 k ∧ Aside (idxFrom p (l.drop k) k = X ∧ Below w.heap.size w w')) (fun v8 _ => n - (intOf v8).toNat)
  case atStart => exact ⟨0, by omega, rfl, ⟨HX.out, Below.refl _ _⟩⟩
  case round =>
    rename_i v8 wr
    obtain ⟨k, hk, rfl, HI⟩ := hrel
    by_cases hkn : k < n
    · obtain ⟨x, hx⟩ : ∃ x, l[k]? = some x := ⟨_, List.getElem?_eq_getElem (by rw [HR.out.2.1]; exact hkn)⟩
      obtain ⟨ad, rfl, hf0, hf1, hf2, hf3⟩ := at_T46 (Kd.C_below HR.out.1 HI.out.2) (k : Int) (by omega) (by rw [HR.out.2.1]; omega)
      rw [rd_getE hx] at hf0 hf1 hf2 hf3
      simp only [Int.toNat_natCast] at hf0 hf1 hf2 hf3
      have HS := Aside.mk (idxFrom_step p hx)
      rw [HI.out.1] at HS
      have hc := HR.out.2.2 wr x HI.out.2
      cases he : p x with
      | true =>
        rw [he] at hc
        have hE : Aside (X = (k : Int)) := ⟨by rw [HS.out, if_pos he]⟩
        clear hx he HS
        go_wp2_with fail
        refine hc.mono ?_
        rintro e w1 ⟨rfl, hb⟩
        have HB := Aside.mk (HI.out.2.trans (hb.mono HI.out.2.size))
        clear hb HI
        go_wp2_with fail
        go_ret
        rw [hE.out]
        exact ⟨rfl, HB.out⟩
      | false =>
        rw [he] at hc
        have hE : Aside (idxFrom p (l.drop (k + 1)) (k + 1) = X) := ⟨by rw [HS.out, if_neg (by rw [he]; decide)]⟩
        clear hx he HS
        go_wp2_with fail
        refine hc.mono ?_
        rintro e w1 ⟨rfl, hb⟩
        have HB := Aside.mk (And.intro hE.out (HI.out.2.trans (hb.mono HI.out.2.size)))
        clear hb HI
        go_wp2_with fail
        go_roundw
        case rel => exact ⟨k + 1, by omega, by go_num, HB⟩
        case measure => simp [intOf]; omega
    · obtain rfl : k = n := by omega
      have hE : Aside (X = -1) := ⟨by rw [← HI.out.1, List.drop_of_length_le (by rw [HR.out.2.1]; exact Nat.le_refl _)]; rfl⟩
      go_wp2_with fail
      go_ret
      rw [hE.out]
      exact ⟨rfl, HI.out.2⟩
set_option maxHeartbeats 1000000 in
set_option maxRecDepth 100000 in
theorem containsf_calls (A : Option Addr) (c : Nat) (l : List En) (G K : Nat) (p : En → Bool) (w : World) (g : Kd.C k46 w A l.length l) (hlc : l.length ≤ c) (hl : l.length ≤ 1000000000) (hcl : ∀ (W : World) (x : En), Below w.heap.size w W → Calls Try.prog G #[.agg #[.string x.f0, .string x.f1, .int .i64 x.f2, .int .i64 x.f3], .pointer (some ⟨K, 0, none⟩)] W fun e w' => e = .returned (.bool (p x)) ∧ Below W.heap.size W w')
    (eg : ∀ args (w : World), (callFunc G args).run Try.prog w = .ok (.enter G args) w) : Calls Try.prog 38 #[.slice A l.length c, .func (Fn.func G) #[] #[.pointer (some ⟨K, 0, none⟩)]] w fun e w' => e = .returned (.bool (l.any p)) ∧ Below w.heap.size w w' := by
  have hi := indexf_calls A c l G K p w g hlc hl hcl eg
  obtain ⟨n, hn⟩ : ∃ n, l.length = n := ⟨_, rfl⟩
  rw [hn] at hi ⊢
  rcases idxI_any p l with ⟨h1, h2⟩ | ⟨h1, j, x, -, -, h2, -⟩
  · rw [h2] at hi
    rw [h1]
    clear g h1 h2 hn hl hlc hcl
    go_enter Try.func38, Try.ntmps38
    go_wp2_with fail
    refine hi.mono ?_
    rintro e w1 ⟨rfl, hb⟩
    have HB := Aside.mk hb
    clear hb
    go_wp2_with fail
    go_ret
    exact ⟨rfl, HB.out⟩
  · rw [h2] at hi
    rw [h1]
    clear g h1 h2 hn hl hlc hcl
    go_enter Try.func38, Try.ntmps38
    go_wp2_with fail
    refine hi.mono ?_
    rintro e w1 ⟨rfl, hb⟩
    have HB := Aside.mk hb
    clear hb
    go_wp2_with fail
    go_ret
    exact ⟨by simp, HB.out⟩
set_option maxHeartbeats 1000000 in
set_option maxRecDepth 100000 in
theorem learn1_calls (A : Option Addr) (c : Nat) (names : List ByteArray) (x : En) (K : Nat) (w : World) (g : Kd.string.C w A names.length names) (hlc : names.length ≤ c) (hl : names.length ≤ 1000000000) (hK : w.heap[K]? = some (.cells #[.slice A names.length c] 29 (0, 0))) : Calls Try.prog 39 #[.agg #[.string x.f0, .string x.f1, .int .i64 x.f2, .int .i64 x.f3], .pointer (some ⟨K, 0, none⟩)] w fun e w' => e = .returned (.bool (!names.any (eqT x.f0))) ∧ Below w.heap.size w w' := by
  obtain ⟨x0, x1, x2, x3⟩ := x
  dsimp only
  have hA := (Below.refl w.heap.size w).alloc (Nat.le_refl _) (Obj.cells #[Value.string x0, Value.string x1, Value.int IntKind.i64 x2, Value.int IntKind.i64 x3] 46 (0, 0))
  have hc := contains_calls A c names x0 _ (Kd.C_below g hA) hlc hl
  have t0 : w.cell? ⟨K, 0, none⟩ = some (.slice A names.length c) := cell_at hK 0
  have h1 := lt_of_block hK
  have h2 : ¬ K = w.heap.size := by omega
  have HA := Aside.mk hA
  obtain ⟨n, hn⟩ : ∃ n, names.length = n := ⟨_, rfl⟩
  rw [hn] at hc t0 hlc hl
  obtain ⟨b, hb⟩ : ∃ b, names.any (eqT x0) = b := ⟨_, rfl⟩
  rw [hb] at hc ⊢
  clear hK g hA hn hb
  go_enter Try.func39, Try.ntmps39
  go_wp2_with fail
  refine hc.mono ?_
  rintro e w1 ⟨rfl, rfl⟩
  go_wp2_with fail
  go_ret
  exact ⟨rfl, HA.out⟩
set_option maxHeartbeats 1000000 in
set_option maxRecDepth 100000 in
theorem learn2_calls (k : ByteArray) (x : En) (K : Nat) (w : World) (hK : w.heap[K]? = some (.cells #[.string k] 9 (0, 0))) : Calls Try.prog 42 #[.agg #[.string x.f0, .string x.f1, .int .i64 x.f2, .int .i64 x.f3], .pointer (some ⟨K, 0, none⟩)] w fun e w' => e = .returned (.bool (eqT x.f0 k)) ∧ Below w.heap.size w w' := by
  obtain ⟨x0, x1, x2, x3⟩ := x
  dsimp only
  have t0 : w.cell? ⟨K, 0, none⟩ = some (.string k) := cell_at hK 0
  have h1 := lt_of_block hK
  have h2 : ¬ K = w.heap.size := by omega
  clear hK
  go_enter Try.func42, Try.ntmps42
  go_wp2_with fail
  go_ret
  exact ⟨rfl, (Below.refl _ _).alloc (Nat.le_refl _) _⟩
end Go.Proofs.Ytagkobpbhfkmdaa.C
