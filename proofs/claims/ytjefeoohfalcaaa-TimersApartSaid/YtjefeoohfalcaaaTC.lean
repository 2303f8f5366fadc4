/- Timers: slices.Clone, maps.Clone; Copy. -/
import Derived.Test.YtjefeoohfalcaaaAW
import Derived.Test.YtjefeoohfalcaaaWTab
import Derived.WalkSpells
import Derived.Laws.Externs
namespace Go.Proofs.Ytjefeoohfalcaaa.C
open Go.RowKit Go.Proofs.YtjefeoohfalcaaaW.PrintLast Go.Proofs.YtjefeoohfalcaaaW.PrintWords
set_option linter.unusedVariables false
set_option linter.unusedSimpArgs false
/-- A slice of timers, nil or a row. -/
def SlT (w : World) (A : Option Addr) (n c : Nat) (l : List (Int × Int)) : Prop :=
  (A = none ∧ n = 0 ∧ c = 0 ∧ l = []) ∨ ∃ b, A = some ⟨b, 0, none⟩ ∧ n = l.length ∧ Row w b c l
theorem SlT.drew' {w : World} {A : Option Addr} {n c : Nat} {l : List (Int × Int)} (h : SlT w A n c l) : SlT w.drew A n c l := by
  rcases h with h | ⟨b, h1, h2, h3⟩
  · exact .inl h
  · exact .inr ⟨b, h1, h2, h3.keep rfl⟩
def SlTN (w0 w : World) (A A' : Option Addr) (n c' : Nat) (l : List (Int × Int)) : Prop :=
  (A = none ∧ A' = none ∧ n = 0 ∧ c' = 0 ∧ l = []) ∨ ∃ b, (∃ a, A = some a) ∧ A' = some ⟨b, 0, none⟩ ∧ n = l.length ∧ Row w b c' l ∧ w0.heap.size ≤ b
def MpT (w : World) (r : Option Nat) (f : Int → Option Int) : Prop :=
  r = none ∨ ∃ m es k, r = some m ∧ w.heap[m]? = some (.map es k) ∧ GMap (Value.int .i64) (Value.int .i64) es k f
theorem MpT.below {w w' : World} {r : Option Nat} {f : Int → Option Int} (h : MpT w r f) (hb : Below w.heap.size w w') : MpT w' r f := by
  rcases h with h | ⟨m, es, k, h1, h2, h3⟩
  · exact .inl h
  · exact .inr ⟨m, es, k, h1, (hb.block m (lt_of_block h2)).trans h2, h3⟩
def MpTN (w0 w : World) (r r' : Option Nat) (f : Int → Option Int) : Prop :=
  (r = none ∧ r' = none) ∨ ∃ m m' es k, r = some m ∧ r' = some m' ∧ w.heap[m']? = some (.map es k) ∧ GMap (Value.int .i64) (Value.int .i64) es k f ∧ w0.heap.size ≤ m'
theorem tclone_news {w : World} {b c : Nat} {l : List (Int × Int)} (h : Row w b c l) (o : Obj) : ∀ (j : Nat) (u : Value), (tcells l)[j]? = some u → (w.alloc o).cell? ((⟨b, 0, none⟩ : Addr).add j) = some u := by
  intro j u hu
  have e : (⟨b, 0, none⟩ : Addr).add j = ⟨b, j, none⟩ := by simp [Addr.add]; exact fun h => h.symm
  rw [e, World.cell?_of_block (w := w) (Below.heap_alloc w _ b h.lt)]
  obtain ⟨cs, hb, hs, ht⟩ := h.cur
  rw [cell_at hb]
  rw [← ht] at hu
  have hj : j < l.length * 2 := by
    rcases Nat.lt_or_ge j (l.length * 2) with h' | h'
    · exact h'
    · rw [List.getElem?_eq_none (by rw [List.length_take]; omega)] at hu; cases hu
  rw [List.getElem?_take_of_lt hj] at hu
  simpa using hu
theorem tcells_cell (l : List (Int × Int)) : ∀ u ∈ tcells l, ∃ x : Int, u = .int .i64 x := by
  intro u hu
  unfold tcells at hu
  rw [List.mem_flatMap] at hu
  obtain ⟨x, _, hx⟩ := hu
  simp only [List.mem_cons, List.not_mem_nil, or_false] at hx
  rcases hx with rfl | rfl
  · exact ⟨_, rfl⟩
  · exact ⟨_, rfl⟩
theorem tclone_own {w W2 : World} {o : Obj} {v' : Value} {n : Nat} {l : List (Int × Int)} (hn : l.length = n) (h : W2.ownsRow w.heap.size 57 2 v' n (tcells l)) (hnn : v' ≠ .slice none 0 0) : ∃ g c', v' = .slice (some ⟨g, 0, none⟩) n c' ∧ Row W2 g c' l ∧ w.heap.size ≤ g := by
  rcases h.2 with ⟨h1, _⟩ | ⟨g, cap, cur, hv, hbg, hb, hc, hm, hs, ht⟩
  · exact absurd h1 hnn
  · exact ⟨g, cap, hv, ⟨⟨cur, hb, by omega, by rw [hn]; simpa using ht⟩, by omega, hm⟩, hbg⟩
theorem tclone_info : (Try.prog.info? 57).map (fun i => (i.zero, i.size, i.bytes)) = some (some (.agg #[.int .i64 0, .int .i64 0]), 2, 16) := by kernel_rfl
set_option maxHeartbeats 1000000 in
set_option maxRecDepth 100000 in
theorem tclone_none (w : World) : Calls Try.prog 48 #[.slice none 0 0] w fun e w' => e = .returned (.slice none 0 0) ∧ w = w' := by
  have hq := fun (u : World) (k q : Nat) => Lib.run_eql_slice_nil (P := Try.prog) u 46 57 none k q 0 0 Try.underlying46
  go_enter Try.func48, Try.ntmps48
  go_wp2_with fail
  go_ret
  exact ⟨rfl, rfl⟩
set_option maxHeartbeats 1000000 in
set_option maxRecDepth 100000 in
theorem tclone_some (b c : Nat) (l : List (Int × Int)) (w : World) (h : Row w b c l) (hl : l.length ≤ 100000000) : Calls Try.prog 48 #[.slice (some ⟨b, 0, none⟩) l.length c] w fun e w' => ∃ g c', e = .returned (.slice (some ⟨g, 0, none⟩) l.length c') ∧ Row w' g c' l ∧ w.heap.size ≤ g ∧ Below w.heap.size w w' := by
  have H := Aside.mk h
  obtain ⟨i0, hi0, hz0, hz1, hz2⟩ := info_parts tclone_info
  have HIN := Aside.mk (And.intro hi0 (And.intro hz0 (And.intro hz1 hz2)))
  obtain ⟨n, hn⟩ : ∃ n, l.length = n := ⟨_, rfl⟩
  have HN := Aside.mk hn
  rw [hn] at hl ⊢
  have hq := fun (u : World) (A : Addr) (k q : Nat) => Lib.run_eql_slice_nil (P := Try.prog) u 46 57 (some A) k q 0 0 Try.underlying46
  clear h hn hi0 hz0 hz1 hz2
  go_enter Try.func48, Try.ntmps48
  go_wp2_with (at_builtin; refine wpList_append_own _ rfl _ _ 46 rfl w.heap.size 57 i0 (.agg #[.int .i64 0, .int .i64 0]) 2 16 Try.underlying46 HIN.out.1 HIN.out.2.1 HIN.out.2.2.1 HIN.out.2.2.2 rfl (by decide) (.slice (some ⟨w.heap.size, 0, none⟩) 0 0) 0 [] rfl ⟨rfl, .inr ⟨w.heap.size, 0, #[], rfl, Nat.le_refl _, heap_alloc_new w _, Nat.le_refl _, Nat.zero_le _, rfl, rfl⟩⟩ ⟨b, 0, none⟩ n c (tcells l) rfl (by rw [tcells_len, HN.out]) ?c1 ?c2 ?c3 ?c4 ?c5 ?_)
  case c1 => exact fun j u hu => tclone_news H.out _ j u hu
  case c2 => intro u hu; obtain ⟨x, rfl⟩ := tcells_cell l u hu; rfl
  case c3 => unfold maxLen; omega
  case c4 => omega
  case c5 => simp
  intro v' W2 hown hgrow hnn
  have hn0 : n = 0 + n := by omega
  have HX : Aside (∃ g c', v' = .slice (some ⟨g, 0, none⟩) n c' ∧ Row W2 g c' l ∧ w.heap.size ≤ g) := ⟨tclone_own (o := .cells #[] 0) HN.out (by simpa using hown) (by simpa using hnn)⟩
  obtain ⟨g, c', rfl, hI, hg⟩ := HX.out
  have HR := Aside.mk (And.intro hI hg)
  have HB : Aside (Below w.heap.size w W2) := ⟨((Below.refl _ w).alloc (Nat.le_refl _) _).grown hgrow (by simp) (fun k e => by simp [Value.ownBlock] at e; omega)⟩
  clear HX hown hgrow hn0 hI hg hnn
  go_wp2_with fail
  go_ret
  exact ⟨g, c', rfl, HR.out.1, HR.out.2, HB.out⟩
theorem tclone_calls (A : Option Addr) (n c : Nat) (l : List (Int × Int)) (w : World) (h : SlT w A n c l) (hl : l.length ≤ 100000000) : Calls Try.prog 48 #[.slice A n c] w fun e w' => ∃ A' c', e = .returned (.slice A' n c') ∧ SlTN w w' A A' n c' l ∧ Below w.heap.size w w' := by
  rcases h with ⟨rfl, rfl, rfl, rfl⟩ | ⟨b, rfl, rfl, h⟩
  · exact (tclone_none w).mono fun e w' ⟨he, hw⟩ => ⟨none, 0, he, .inl ⟨rfl, rfl, rfl, rfl, rfl⟩, hw ▸ Below.refl _ _⟩
  · exact (tclone_some b c l w h hl).mono fun e w' ⟨g, c', he, hr, hg, hb⟩ => ⟨_, c', he, .inr ⟨g, ⟨_, rfl⟩, rfl, rfl, hr, hg⟩, hb⟩
/-! ### maps.Clone -/
theorem run_eqlIn_map {P : Program} (w : World) (d : Nat) (t k e : TypeId) (p : Option Nat) (h : P.underlying t = some (.map k e)) : (Op.equalIn (d + 1) t (.map p) (.map none)).run P w = .ok p.isNone w := by
  cases p <;> simp [Op.equalIn, run_underlying h]
theorem run_eql_map {P : Program} (w : World) (t k e : TypeId) (p : Option Nat) (h : P.underlying t = some (.map k e)) : (binOp .eql t (.map p) (.map none)).run P w = .ok (.bool p.isNone) w := by
  have h1 := run_eqlIn_map w 9999 t k e p h
  simp only [binOp]
  simp [show Op.equal t (.map p) (.map none) = Op.equalIn (9999 + 1) t (.map p) (.map none) from rfl, h1]
theorem run_assert_map {P : Program} (w : World) (t xT k e : TypeId) (v : Value) (h : P.underlying t = some (.map k e)) : (Instr.typeAssert (.iface t v) xT t false).run P w = .ok v w := by
  simp [Instr.typeAssert, run_underlying h, go_sem, Result.andThen]
theorem run_clone_map {P : Program} {w : World} {r : Nat} {es : Array MapEntry} {clock : Nat} (t : TypeId) (hb : w.heap[r]? = some (.map es clock)) : (Extern.MapsClone.clone #[.iface t (.map (some r))]).run P w = .ok (.iface t (.map (some w.heap.size))) (w.alloc (.map es clock)) := by
  have e : Extern.MapsClone.clone #[.iface t (.map (some r))] = (getObj r >>= fun o => match o with
      | .map entries clock => (newObj (.map entries clock) >>= fun n => pure (.iface t (.map (some n))))
      | _ => stuck "maps.clone: a map expected") := rfl
  rw [e]
  simp [MapKept.run_getObj_map hb, Result.andThen, go_sem]
set_option maxHeartbeats 1000000 in
set_option maxRecDepth 100000 in
theorem mclone_some (b : Nat) (es : Array MapEntry) (clock : Nat) (w : World) (hb : w.heap[b]? = some (.map es clock)) :
    Calls Try.prog 49 #[.map (some b)] w fun e w' => e = .returned (.map (some w.heap.size)) ∧ w' = w.alloc (.map es clock) := by
  have hq := fun u => run_eql_map (P := Try.prog) u 64 _ _ (some b) Try.underlying64
  go_enter Try.func49, Try.ntmps49
  go_wp2_with fail
  rw [run_callFunc_extern Try.func58 (by kernel_rfl) (by kernel_rfl) (by kernel_rfl) (e := Extern.MapsClone.clone) (by kernel_rfl), run_clone_map 64 hb]
  simp only [Result.andThen]
  rw [Oper.upon_value]
  go_wp2_with fail
  rw [run_assert_map _ 64 20 _ _ _ Try.underlying64]
  simp only [Result.andThen]
  rw [Oper.upon_value]
  go_wp2_with fail
  go_ret
  exact ⟨rfl, rfl⟩
set_option maxHeartbeats 1000000 in
set_option maxRecDepth 100000 in
theorem mclone_none (w : World) : Calls Try.prog 49 #[.map none] w fun e w' => e = .returned (.map none) ∧ w' = w := by
  have hq := fun u => run_eql_map (P := Try.prog) u 64 _ _ none Try.underlying64
  go_enter Try.func49, Try.ntmps49
  go_wp2_with fail
  go_ret
  exact ⟨rfl, rfl⟩
theorem mclone_calls (r : Option Nat) (f : Int → Option Int) (w : World) (h : MpT w r f) : Calls Try.prog 49 #[.map r] w fun e w' => ∃ r', e = .returned (.map r') ∧ MpTN w w' r r' f ∧ Below w.heap.size w w' := by
  rcases h with rfl | ⟨m, es, k, rfl, h2, h3⟩
  · exact (mclone_none w).mono fun e w' ⟨he, hw⟩ => ⟨none, he, .inl ⟨rfl, rfl⟩, hw ▸ Below.refl _ _⟩
  · exact (mclone_some m es k w h2).mono fun e w' ⟨he, hw⟩ => ⟨_, he, .inr ⟨m, _, es, k, rfl, rfl, by rw [hw]; exact heap_alloc_new w _, h3, Nat.le_refl _⟩, by rw [hw]; exact (Below.refl _ w).alloc (Nat.le_refl _) _⟩

def tcopy3T : Bool × List (List Nat × List Nat) := (true, [([], []), ([0], [0]), ([1], [1]), ([2], [2]), ([3], [3]), ([4], [4]), ([], []), ([6], [6]), ([7], [7]), ([8], [8]), ([9], [9]), ([10, 5], [10]), ([5, 11], [5, 11]), ([12], [12]), ([13], [13]), ([14, 11, 0, 1, 2, 3, 4, 5, 6, 7, 8, 9, 10, 11, 12, 13, 14], [14])])
def tcopy3B : List Nat := [0, 1, 3, 7, 15, 31, 0, 64, 192, 448, 960, 2047, 4095, 8191, 16383, 32767]
theorem tcopy3_tab : rtab .any (opsOf Try.f31 3) = tcopy3T := by kernel_rfl
theorem tcopy3_bits : waitsOk tcopy3T.2 tcopy3B = true := by kernel_rfl

set_option maxHeartbeats 1000000 in
set_option maxRecDepth 100000 in
theorem tcopy_walk (T : Nat) (A : Option Addr) (n c : Nat) (r : Option Nat) (l : List (Int × Int)) (f : Int → Option Int) (w : World) (hT : T < w.heap.size) (t0 : w.cell? ⟨T, 0, none⟩ = some (.slice A n c)) (t1 : w.cell? ⟨T, 1, none⟩ = some (.map r)) (hs : SlT w A n c l) (hm : MpT w r f) (hl : l.length ≤ 100000000) :
    Calls Try.prog 31 #[.pointer (some ⟨T, 0, none⟩)] w fun e w' => ∃ (w1 w2 : World) (A' : Option Addr) (c' : Nat) (r' : Option Nat), e = .returned (.pointer (some ⟨w2.heap.size, 0, none⟩)) ∧ Below w.heap.size w w1 ∧ Below w1.heap.size w1 w2 ∧ SlTN w w1 A A' n c' l ∧ MpTN w1 w2 r r' f ∧ w' = w2.alloc (.cells #[.slice A' n c', .map r'] 68 (0, 0)) := by
  have HS := Aside.mk hs
  have HM : Aside (MpT w r f) := ⟨hm⟩
  clear hs hm
  go_enter Try.func31, Try.ntmps31
  go_upto_region 3 with fail
  refine start_ (n := 16) (S := (fun w' => w'.cell? ⟨T, 0, none⟩ = some (.slice A n c) ∧ w'.cell? ⟨T, 1, none⟩ = some (.map r))) (ds := []) #[false, false, false, false, false, false, false, false, false, false, false, false, false, false, false, false] (by kernel_rfl) rfl rfl ⟨t0, t1⟩ (fun hHeld => ?_); refine with_tabW tcopy3_tab tcopy3_bits (fun HT_ HW_ => ?_)
  refine pure_ (i := 0) (N := (some 5)) (v := ?_) (a' := ?_) #[true, false, false, false, false, false, false, false, false, false, false, false, false, false, false, false] rfl rfl (any_of HT_.out (by kernel_rfl)) (fun _ _ _ h => h) (Or.inl ⟨by rfl, ?_⟩) ?_ ?_
  rotate_left
  · intro w'
    go_simp
    with_reducible rfl
  rotate_left
  · simp only [Act.put, List.setIfInBounds_toArray, List.set_cons_zero, List.set_cons_succ, i64_w, i32_w]
    rfl
  refine pure_ (i := 1) (N := (some 6)) (v := ?_) (a' := ?_) #[true, true, false, false, false, false, false, false, false, false, false, false, false, false, false, false] rfl rfl (any_of HT_.out (by kernel_rfl)) (fun _ _ _ h => h) (Or.inl ⟨by rfl, ?_⟩) ?_ ?_
  rotate_left
  · intro w'
    go_simp
    with_reducible rfl
  rotate_left
  · simp only [Act.put, List.setIfInBounds_toArray, List.set_cons_zero, List.set_cons_succ, i64_w, i32_w]
    rfl
  refine pure_ (i := 2) (N := (some 7)) (v := ?_) (a' := ?_) #[true, true, true, false, false, false, false, false, false, false, false, false, false, false, false, false] rfl rfl (any_of HT_.out (by kernel_rfl)) (fun _ _ _ h => h) (Or.inl ⟨by rfl, ?_⟩) ?_ ?_
  rotate_left
  · intro w'
    go_simp
    with_reducible rfl
  rotate_left
  · simp only [Act.put, List.setIfInBounds_toArray, List.set_cons_zero, List.set_cons_succ, i64_w, i32_w]
    rfl
  refine pure_ (i := 3) (N := (some 8)) (v := ?_) (a' := ?_) #[true, true, true, true, false, false, false, false, false, false, false, false, false, false, false, false] rfl rfl (any_of HT_.out (by kernel_rfl)) (fun _ _ _ h => h) (Or.inl ⟨by rfl, ?_⟩) ?_ ?_
  rotate_left
  · intro w'
    go_simp
    with_reducible rfl
  rotate_left
  · simp only [Act.put, List.setIfInBounds_toArray, List.set_cons_zero, List.set_cons_succ, i64_w, i32_w]
    rfl
  refine take_ (i := 4) (N := (some 9)) (v := ?_) (a' := ?_) #[true, true, true, true, true, false, false, false, false, false, false, false, false, false, false, false] rfl rfl (take_ofW HT_.out HW_.out (by kernel_rfl)) (fun _ _ _ h => h) (Or.inl ⟨by rfl, ?_⟩) hHeld ?_ ?_
  rotate_left
  · rintro w' ⟨s1, _⟩
    go_simp
    with_reducible rfl
  rotate_left
  · simp only [Act.put, List.setIfInBounds_toArray, List.set_cons_zero, List.set_cons_succ, i64_w, i32_w]
    rfl
  refine pure_ (i := 6) (N := (some 11)) (v := ?_) (a' := ?_) #[true, true, true, true, true, false, true, false, false, false, false, false, false, false, false, false] rfl rfl (any_of HT_.out (by kernel_rfl)) (fun _ _ _ h => h) (Or.inl ⟨by rfl, ?_⟩) ?_ ?_
  rotate_left
  · intro w'
    go_simp
    with_reducible rfl
  rotate_left
  · simp only [Act.put, List.setIfInBounds_toArray, List.set_cons_zero, List.set_cons_succ, i64_w, i32_w]
    rfl
  refine pure_ (i := 7) (N := (some 12)) (v := ?_) (a' := ?_) #[true, true, true, true, true, false, true, true, false, false, false, false, false, false, false, false] rfl rfl (any_of HT_.out (by kernel_rfl)) (fun _ _ _ h => h) (Or.inl ⟨by rfl, ?_⟩) ?_ ?_
  rotate_left
  · intro w'
    go_simp
    with_reducible rfl
  rotate_left
  · simp only [Act.put, List.setIfInBounds_toArray, List.set_cons_zero, List.set_cons_succ, i64_w, i32_w]
    rfl
  refine pure_ (i := 8) (N := (some 13)) (v := ?_) (a' := ?_) #[true, true, true, true, true, false, true, true, true, false, false, false, false, false, false, false] rfl rfl (any_of HT_.out (by kernel_rfl)) (fun _ _ _ h => h) (Or.inl ⟨by rfl, ?_⟩) ?_ ?_
  rotate_left
  · intro w'
    go_simp
    with_reducible rfl
  rotate_left
  · simp only [Act.put, List.setIfInBounds_toArray, List.set_cons_zero, List.set_cons_succ, i64_w, i32_w]
    rfl
  refine pure_ (i := 9) (N := (some 14)) (v := ?_) (a' := ?_) #[true, true, true, true, true, false, true, true, true, true, false, false, false, false, false, false] rfl rfl (any_of HT_.out (by kernel_rfl)) (fun _ _ _ h => h) (Or.inl ⟨by rfl, ?_⟩) ?_ ?_
  rotate_left
  · intro w'
    go_simp
    with_reducible rfl
  rotate_left
  · simp only [Act.put, List.setIfInBounds_toArray, List.set_cons_zero, List.set_cons_succ, i64_w, i32_w]
    rfl
  refine take_ (i := 10) (N := (some 15)) (v := ?_) (a' := ?_) #[true, true, true, true, true, false, true, true, true, true, true, false, false, false, false, false] rfl rfl (take_ofW HT_.out HW_.out (by kernel_rfl)) (fun _ _ _ h => h) (Or.inl ⟨by rfl, ?_⟩) hHeld ?_ ?_
  rotate_left
  · rintro w' ⟨_, s2⟩
    go_simp
    with_reducible rfl
  rotate_left
  · simp only [Act.put, List.setIfInBounds_toArray, List.set_cons_zero, List.set_cons_succ, i64_w, i32_w]
    rfl
  refine one_ (i := 5) (N := (some 10)) #[true, true, true, true, true, true, true, true, true, true, true, false, false, false, false, false] rfl rfl (one_of HT_.out (by kernel_rfl)) (by decide) (fun K9 hK => ?_)
  refine goes_ Try.func48 (by kernel_rfl) rfl #[.slice A n c] (by rfl) rfl rfl (by (try simp only [List.map_toArray, List.map_cons, List.map_nil]); first | done | rfl) ?_
  refine (tclone_calls A n c l w.drew (HS.out.drew') hl).mono ?_
  rintro e w1 ⟨A', c', rfl, hI, hb⟩
  refine ⟨_, rfl, ?_⟩
  have HI := Aside.mk hI
  have HB := Aside.mk (below_of_drew hb)
  have t0' : w1.cell? ⟨T, 0, none⟩ = some (.slice A n c) := (HB.out.cell (p := ⟨T, 0, none⟩) hT).trans t0
  have t1' : w1.cell? ⟨T, 1, none⟩ = some (.map r) := (HB.out.cell (p := ⟨T, 1, none⟩) hT).trans t1
  have HM1 := Aside.mk (HM.out.below HB.out)
  have hT1 : T < w1.heap.size := Nat.lt_of_lt_of_le hT HB.out.size
  clear hI hb
  refine hK.out _ _ ⟨t0', t1'⟩ (fun hHeld => ?_)
  clear hK K9
  refine norm_ (a' := ?_) ?_ ?_
  rotate_left
  · show Act.put _ (some 10) _ = _
    simp only [Act.put, List.setIfInBounds_toArray, List.set_cons_zero, List.set_cons_succ]
    rfl
  refine one_ (i := 11) (N := (some 16)) #[true, true, true, true, true, true, true, true, true, true, true, true, false, false, false, false] rfl rfl (one_of HT_.out (by kernel_rfl)) (by decide) (fun K9 hK => ?_)
  refine goes_ Try.func49 (by kernel_rfl) rfl #[.map r] (by rfl) rfl rfl (by (try simp only [List.map_toArray, List.map_cons, List.map_nil]); first | done | rfl) ?_
  refine (mclone_calls r f w1 HM1.out).mono ?_
  rintro e w2 ⟨r', rfl, hI, hb⟩
  refine ⟨_, rfl, ?_⟩
  have HI2 := Aside.mk hI
  have HB2 := Aside.mk hb
  have t0'' : w2.cell? ⟨T, 0, none⟩ = some (.slice A n c) := (HB2.out.cell (p := ⟨T, 0, none⟩) hT1).trans t0'
  have t1'' : w2.cell? ⟨T, 1, none⟩ = some (.map r) := (HB2.out.cell (p := ⟨T, 1, none⟩) hT1).trans t1'
  clear hI hb
  refine hK.out _ _ ⟨t0'', t1''⟩ (fun hHeld => ?_)
  clear hK K9
  refine norm_ (a' := ?_) ?_ ?_
  rotate_left
  · show Act.put _ (some 16) _ = _
    simp only [Act.put, List.setIfInBounds_toArray, List.set_cons_zero, List.set_cons_succ]
    rfl
  refine pure_ (i := 12) (N := (some 17)) (v := ?_) (a' := ?_) #[true, true, true, true, true, true, true, true, true, true, true, true, true, false, false, false] rfl rfl (any_of HT_.out (by kernel_rfl)) (fun _ _ _ h => h) (Or.inl ⟨by rfl, ?_⟩) ?_ ?_
  rotate_left
  · intro w'
    go_simp
    with_reducible rfl
  rotate_left
  · simp only [Act.put, List.setIfInBounds_toArray, List.set_cons_zero, List.set_cons_succ, i64_w, i32_w]
    rfl
  refine pure_ (i := 13) (N := (some 18)) (v := ?_) (a' := ?_) #[true, true, true, true, true, true, true, true, true, true, true, true, true, true, false, false] rfl rfl (any_of HT_.out (by kernel_rfl)) (fun _ _ _ h => h) (Or.inl ⟨by rfl, ?_⟩) ?_ ?_
  rotate_left
  · intro w'
    go_simp
    with_reducible rfl
  rotate_left
  · simp only [Act.put, List.setIfInBounds_toArray, List.set_cons_zero, List.set_cons_succ, i64_w, i32_w]
    rfl
  refine one_ (i := 14) (N := (some 19)) #[true, true, true, true, true, true, true, true, true, true, true, true, true, true, true, false] rfl rfl (one_of HT_.out (by kernel_rfl)) (by decide) (fun K9 hK => ?_)
  refine value_ (v := .pointer (some ⟨w2.heap.size, 0, none⟩)) (w1 := w2.alloc (.cells #[.slice A' n c', .map r'] 68 (0, 0))) (by rfl) rfl (by unfold execOp; go_simp) ?_
  have hT2 : T < w2.heap.size := Nat.lt_of_lt_of_le hT1 HB2.out.size
  refine hK.out _ _ ⟨((((Below.refl _ w2).alloc (Nat.le_refl _) _).cell (p := ⟨T, 0, none⟩) hT2)).trans t0'', ((((Below.refl _ w2).alloc (Nat.le_refl _) _).cell (p := ⟨T, 1, none⟩) hT2)).trans t1''⟩ (fun hHeld => ?_)
  clear hK K9
  refine norm_ (a' := ?_) ?_ ?_
  rotate_left
  · show Act.put _ (some 19) _ = _
    simp only [Act.put, List.setIfInBounds_toArray, List.set_cons_zero, List.set_cons_succ]
    rfl
  refine pure_ (i := 15) (N := (some 2)) (v := ?_) (a' := ?_) #[true, true, true, true, true, true, true, true, true, true, true, true, true, true, true, true] rfl rfl (any_of HT_.out (by kernel_rfl)) (fun _ _ _ h => h) (Or.inl ⟨by rfl, ?_⟩) ?_ ?_
  rotate_left
  · intro w'
    go_simp
    with_reducible rfl
  rotate_left
  · simp only [Act.put, List.setIfInBounds_toArray, List.set_cons_zero, List.set_cons_succ, i64_w, i32_w]
    rfl
  refine done_ (done_of HT_.out (by kernel_rfl)) ?_
  clear HT_ HW_ hHeld
  go_wp2_with fail
  go_ret
  exact ⟨w1, w2, A', c', r', rfl, HB.out, HB2.out, HI.out, HI2.out, rfl⟩
theorem TM.sl {w : World} {T : Nat} {l : List (Int × Int)} {fp : List Nat} (h : TM w T l fp) : ∃ A n c r f, T < w.heap.size ∧ w.cell? ⟨T, 0, none⟩ = some (.slice A n c) ∧ w.cell? ⟨T, 1, none⟩ = some (.map r) ∧ SlT w A n c l ∧ MpT w r f ∧ HeapN l l.length ∧ Ids l ∧ (A = none ↔ r = none) ∧ (r ≠ none → Placed l f) := by
  rcases h with ⟨h1, rfl, _⟩ | ⟨b, c, m, f, h1, h2, _⟩
  · exact ⟨none, 0, 0, none, fun _ => none, lt_of_block h1, cell_at h1 0, cell_at h1 1, .inl ⟨rfl, rfl, rfl, rfl⟩, .inl rfl, fun k _ hk => by simp at hk, List.nodup_nil, by simp, fun q => absurd rfl q⟩
  · obtain ⟨es, k, hm, hg⟩ := h1.rep.map
    exact ⟨_, _, c, _, f, lt_of_block h1.rep.box, h1.cell, cell_at h1.rep.box 1, .inr ⟨b, rfl, rfl, h1.rep.row⟩, .inr ⟨m, es, k, rfl, hm, hg⟩, h2, h1.ids, by simp, fun _ => h1.at'⟩
theorem tcopy_calls (T : Nat) (l : List (Int × Int)) (fp : List Nat) (w : World) (hl : l.length ≤ 100000000) (h : TM w T l fp) : Calls Try.prog 31 #[.pointer (some ⟨T, 0, none⟩)] w fun e w' => ∃ T' fp', e = .returned (.pointer (some ⟨T', 0, none⟩)) ∧ TM w' T' l fp' ∧ (∀ k ∈ fp', w.heap.size ≤ k) ∧ Below w.heap.size w w' := by
  obtain ⟨A, n, c, r, f, hT, t0, t1, hs, hm, hH, hI, hAr, hP⟩ := h.sl
  refine (tcopy_walk T A n c r l f w hT t0 t1 hs hm hl).mono ?_
  rintro e w' ⟨w1, w2, A', c', r', rfl, hb1, hb2, h1, h2, rfl⟩
  have hz1 := hb1.size
  have hz2 := hb2.size
  have hb : Below w.heap.size w (w2.alloc (.cells #[.slice A' n c', .map r'] 68 (0, 0))) := (hb1.trans (hb2.mono hz1)).alloc (by omega) _
  rcases h1 with ⟨rfl, rfl, rfl, rfl, rfl⟩ | ⟨b, ⟨a, rfl⟩, rfl, rfl, hr, hbb⟩
  · rcases h2 with ⟨_, rfl⟩ | ⟨m, m', es, k, e, _⟩
    · exact ⟨_, [w2.heap.size], rfl, .inl ⟨heap_alloc_new _ _, rfl, rfl⟩, fun k hk => by rw [List.mem_singleton.1 hk]; omega, hb⟩
    · rw [hAr.1 rfl] at e; cases e
  · rcases h2 with ⟨e, _⟩ | ⟨m, m', es, k, rfl, rfl, hm', hg, hmm⟩
    · exact absurd (hAr.2 e) (by simp)
    · have hr2 : Row (w2.alloc (.cells #[.slice (some ⟨b, 0, none⟩) l.length c', .map (some m')] 68 (0, 0))) b c' l := hr.keep ((Below.heap_alloc _ _ b (Nat.lt_of_lt_of_le hr.lt hz2)).trans (hb2.block b hr.lt))
      refine ⟨_, [w2.heap.size, b, m'], rfl, .inr ⟨b, c', m', f, ⟨⟨heap_alloc_new _ _, hr2, ⟨es, k, (Below.heap_alloc _ _ m' (lt_of_block hm')).trans hm', hg⟩, fun e => by have := hr.lt; omega⟩, hI, hP (by simp)⟩, hH, rfl⟩, fun k hk => ?_, hb⟩
      simp only [List.mem_cons, List.not_mem_nil, or_false] at hk
      rcases hk with rfl | rfl | rfl
      · omega
      · exact hbb
      · omega
theorem ts_copy (T : Nat) (S : List (Int × Int)) (fp : List Nat) (w : World) (hl : S.length ≤ 100000000) (h : TS w T S fp) : Calls Try.prog 31 #[.pointer (some ⟨T, 0, none⟩)] w fun e w' => ∃ T' fp', e = .returned (.pointer (some ⟨T', 0, none⟩)) ∧ TS w' T' S fp' ∧ (∀ k ∈ fp', w.heap.size ≤ k) ∧ Below w.heap.size w w' := by
  obtain ⟨l, hp, h1⟩ := h.tm
  refine (tcopy_calls T l fp w (by rw [hp.length_eq]; exact hl) h1).mono ?_
  rintro e w' ⟨T', fp', rfl, h2, h3, h4⟩
  exact ⟨T', fp', rfl, ⟨⟨l, hp, h2⟩, h.srt⟩, h3, h4⟩
end Go.Proofs.Ytjefeoohfalcaaa.C
