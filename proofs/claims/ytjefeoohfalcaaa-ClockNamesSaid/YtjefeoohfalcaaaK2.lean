/- Clocks: slices.Clone of numbers; Copy. -/
import Derived.Test.YtjefeoohfalcaaaAW
import Derived.Test.YtjefeoohfalcaaaWTab
import Derived.WalkSpells
namespace Go.Proofs.Ytjefeoohfalcaaa.C
open Go.RowKit Go.Proofs.YtjefeoohfalcaaaW.PrintLast Go.Proofs.YtjefeoohfalcaaaW.PrintWords
set_option linter.unusedVariables false
set_option linter.unusedSimpArgs false
theorem clone_news {w : World} {b c : Nat} {l : List Int} (h : IRow w b c l) (w0 : World) : ∀ (j : Nat) (u : Value), (l.map (Value.int .i64))[j]? = some u → (w.alloc (.cells #[] 2 (0, 0))).cell? ((⟨b, 0, none⟩ : Addr).add j) = some u := by
  intro j u hu
  obtain ⟨s, hs, rfl⟩ : ∃ s, l[j]? = some s ∧ Value.int .i64 s = u := by
    rw [List.getElem?_map] at hu
    obtain ⟨s, h1, h2⟩ := Option.map_eq_some_iff.1 hu
    exact ⟨s, h1, h2⟩
  have e : (⟨b, 0, none⟩ : Addr).add j = ⟨b, j, none⟩ := by simp [Addr.add]; exact fun h => h.symm
  rw [e, World.cell?_of_block (w := w) (Below.heap_alloc w _ b h.lt)]
  exact h.at hs
theorem clone_own {w W2 : World} {o : Obj} {v' : Value} {n : Nat} {l : List Int} (hn : l.length = n) (h : W2.ownsRow w.heap.size 2 1 v' n (l.map (Value.int .i64))) (hg : (w.alloc o).grownBy W2 (Value.ownBlock (.slice (some ⟨w.heap.size, 0, none⟩) 0 0))) (hnn : v' ≠ .slice none 0 0) : ∃ g c', v' = .slice (some ⟨g, 0, none⟩) n c' ∧ IRow W2 g c' l ∧ w.heap.size ≤ g := by
  rcases h.2 with ⟨h1, _⟩ | ⟨g, cap, cur, hv, hbg, hb, hc, hm, hs, ht⟩
  · exact absurd h1 hnn
  · exact ⟨g, cap, hv, ⟨⟨cur, hb, by omega, by rw [hn]; simpa using ht⟩, by omega⟩, hbg⟩
set_option maxHeartbeats 1000000 in
set_option maxRecDepth 100000 in
theorem iclone_calls (b c : Nat) (l : List Int) (w : World) (h : IRow w b c l) (hl : l.length ≤ 16) : Calls Try.prog 41 #[.slice (some ⟨b, 0, none⟩) l.length c] w fun e w' => ∃ g c', e = .returned (.slice (some ⟨g, 0, none⟩) l.length c') ∧ IRow w' g c' l ∧ w.heap.size ≤ g ∧ Below w.heap.size w w' := by
  have H := Aside.mk h
  obtain ⟨i0, hi0, hz0, hz1, hz2⟩ := info_parts ids_info
  have HIN := Aside.mk (And.intro hi0 (And.intro hz0 (And.intro hz1 hz2)))
  obtain ⟨n, hn⟩ : ∃ n, l.length = n := ⟨_, rfl⟩
  have HN := Aside.mk hn
  rw [hn] at hl ⊢
  have hq := fun (u : World) (A : Addr) (k q : Nat) => Lib.run_eql_slice_nil (P := Try.prog) u 42 2 (some A) k q 0 0 Try.underlying42
  clear h hn hi0 hz0 hz1 hz2
  go_enter Try.func41, Try.ntmps41
  go_wp2_with (at_builtin; refine wpList_append_own _ rfl _ _ 42 rfl w.heap.size 2 i0 (.int .i64 0) 1 8 Try.underlying42 HIN.out.1 HIN.out.2.1 HIN.out.2.2.1 HIN.out.2.2.2 rfl (by decide) (.slice (some ⟨w.heap.size, 0, none⟩) 0 0) 0 [] rfl ⟨rfl, .inr ⟨w.heap.size, 0, #[], rfl, Nat.le_refl _, heap_alloc_new w _, Nat.le_refl _, Nat.zero_le _, rfl, rfl⟩⟩ ⟨b, 0, none⟩ n c (l.map (Value.int .i64)) rfl (by rw [List.length_map, HN.out, Nat.mul_one]) ?c1 ?c2 ?c3 ?c4 ?c5 ?_)
  case c1 => exact fun j u hu => clone_news H.out w j u hu
  case c2 => intro u hu; obtain ⟨x, _, rfl⟩ := List.mem_map.1 hu; rfl
  case c3 => unfold maxLen; omega
  case c4 => omega
  case c5 => simp
  intro v' W2 hown hgrow hnn
  have hn0 : n = 0 + n := by omega
  have HX : Aside (∃ g c', v' = .slice (some ⟨g, 0, none⟩) n c' ∧ IRow W2 g c' l ∧ w.heap.size ≤ g) := ⟨clone_own HN.out (by simpa using hown) hgrow (by simpa using hnn)⟩
  obtain ⟨g, c', rfl, hI, hg⟩ := HX.out
  have HR := Aside.mk (And.intro hI hg)
  have HB : Aside (Below w.heap.size w W2) := ⟨((Below.refl _ w).alloc (Nat.le_refl _) _).grown hgrow (by simp) (fun k e => by simp [Value.ownBlock] at e; omega)⟩
  clear HX hown hgrow hn0 hI hg hnn
  go_wp2_with fail
  go_ret
  exact ⟨g, c', rfl, HR.out.1, HR.out.2, HB.out⟩

def ccopy3T : Bool × List (List Nat × List Nat) := (true, [([], []), ([0], [0]), ([1], [1]), ([2], [2]), ([], []), ([4], [4]), ([5], [5]), ([6], [6]), ([7], [7]), ([3, 8], [3, 8]), ([9], [9]), ([10, 8, 0, 1, 2, 3, 4, 5, 6, 7, 8, 9, 10], [10])])
def ccopy3B : List Nat := [0, 1, 3, 7, 0, 16, 48, 112, 240, 511, 1023, 2047]
theorem ccopy3_tab : rtab .any (opsOf Try.f21 3) = ccopy3T := by kernel_rfl
theorem ccopy3_bits : waitsOk ccopy3T.2 ccopy3B = true := by kernel_rfl

set_option maxHeartbeats 1000000 in
set_option maxRecDepth 100000 in
theorem ccopy_calls (C b c : Nat) (now : Int) (sk : List Int) (w : World) (h : CRep 80 w C b c now sk) : Calls Try.prog 21 #[.pointer (some ⟨C, 0, none⟩)] w fun e w' => ∃ C' b' c', e = .returned (.pointer (some ⟨C', 0, none⟩)) ∧ CRep 80 w' C' b' c' now sk ∧ w.heap.size ≤ C' ∧ w.heap.size ≤ b' ∧ Below w.heap.size w w' := by
  have H := Aside.mk h
  clear h
  go_enter Try.func21, Try.ntmps21
  go_upto_region 3 with fail
  refine start_ (n := 12) (S := (fun w' => w'.cell? ⟨C, 0, none⟩ = some (.int .i64 now) ∧ w'.cell? ⟨C, 1, none⟩ = some (.slice (some ⟨b, 0, none⟩) sk.length c))) (ds := []) #[false, false, false, false, false, false, false, false, false, false, false, false] (by kernel_rfl) rfl rfl ⟨H.out.cell0, H.out.cell1⟩ (fun hHeld => ?_); refine with_tabW ccopy3_tab ccopy3_bits (fun HT_ HW_ => ?_)
  refine pure_ (i := 0) (N := (some 5)) (v := ?_) (a' := ?_) #[true, false, false, false, false, false, false, false, false, false, false, false] rfl rfl (any_of HT_.out (by kernel_rfl)) (fun _ _ _ h => h) (Or.inl ⟨by rfl, ?_⟩) ?_ ?_
  rotate_left
  · intro w'
    go_simp
    with_reducible rfl
  rotate_left
  · simp only [Act.put, List.setIfInBounds_toArray, List.set_cons_zero, List.set_cons_succ, i64_w, i32_w]
    rfl
  refine pure_ (i := 1) (N := (some 6)) (v := ?_) (a' := ?_) #[true, true, false, false, false, false, false, false, false, false, false, false] rfl rfl (any_of HT_.out (by kernel_rfl)) (fun _ _ _ h => h) (Or.inl ⟨by rfl, ?_⟩) ?_ ?_
  rotate_left
  · intro w'
    go_simp
    with_reducible rfl
  rotate_left
  · simp only [Act.put, List.setIfInBounds_toArray, List.set_cons_zero, List.set_cons_succ, i64_w, i32_w]
    rfl
  refine pure_ (i := 2) (N := (some 7)) (v := ?_) (a' := ?_) #[true, true, true, false, false, false, false, false, false, false, false, false] rfl rfl (any_of HT_.out (by kernel_rfl)) (fun _ _ _ h => h) (Or.inl ⟨by rfl, ?_⟩) ?_ ?_
  rotate_left
  · intro w'
    go_simp
    with_reducible rfl
  rotate_left
  · simp only [Act.put, List.setIfInBounds_toArray, List.set_cons_zero, List.set_cons_succ, i64_w, i32_w]
    rfl
  refine take_ (i := 3) (N := (some 8)) (v := ?_) (a' := ?_) #[true, true, true, true, false, false, false, false, false, false, false, false] rfl rfl (take_ofW HT_.out HW_.out (by kernel_rfl)) (fun _ _ _ h => h) (Or.inl ⟨by rfl, ?_⟩) hHeld ?_ ?_
  rotate_left
  · rintro w' ⟨s1, _⟩
    go_simp
    with_reducible rfl
  rotate_left
  · simp only [Act.put, List.setIfInBounds_toArray, List.set_cons_zero, List.set_cons_succ, i64_w, i32_w]
    rfl
  refine pure_ (i := 4) (N := (some 9)) (v := ?_) (a' := ?_) #[true, true, true, true, true, false, false, false, false, false, false, false] rfl rfl (any_of HT_.out (by kernel_rfl)) (fun _ _ _ h => h) (Or.inl ⟨by rfl, ?_⟩) ?_ ?_
  rotate_left
  · intro w'
    go_simp
    with_reducible rfl
  rotate_left
  · simp only [Act.put, List.setIfInBounds_toArray, List.set_cons_zero, List.set_cons_succ, i64_w, i32_w]
    rfl
  refine pure_ (i := 5) (N := (some 10)) (v := ?_) (a' := ?_) #[true, true, true, true, true, true, false, false, false, false, false, false] rfl rfl (any_of HT_.out (by kernel_rfl)) (fun _ _ _ h => h) (Or.inl ⟨by rfl, ?_⟩) ?_ ?_
  rotate_left
  · intro w'
    go_simp
    with_reducible rfl
  rotate_left
  · simp only [Act.put, List.setIfInBounds_toArray, List.set_cons_zero, List.set_cons_succ, i64_w, i32_w]
    rfl
  refine pure_ (i := 6) (N := (some 11)) (v := ?_) (a' := ?_) #[true, true, true, true, true, true, true, false, false, false, false, false] rfl rfl (any_of HT_.out (by kernel_rfl)) (fun _ _ _ h => h) (Or.inl ⟨by rfl, ?_⟩) ?_ ?_
  rotate_left
  · intro w'
    go_simp
    with_reducible rfl
  rotate_left
  · simp only [Act.put, List.setIfInBounds_toArray, List.set_cons_zero, List.set_cons_succ, i64_w, i32_w]
    rfl
  refine take_ (i := 7) (N := (some 12)) (v := ?_) (a' := ?_) #[true, true, true, true, true, true, true, true, false, false, false, false] rfl rfl (take_ofW HT_.out HW_.out (by kernel_rfl)) (fun _ _ _ h => h) (Or.inl ⟨by rfl, ?_⟩) hHeld ?_ ?_
  rotate_left
  · rintro w' ⟨_, s2⟩
    go_simp
    with_reducible rfl
  rotate_left
  · simp only [Act.put, List.setIfInBounds_toArray, List.set_cons_zero, List.set_cons_succ, i64_w, i32_w]
    rfl
  refine one_ (i := 8) (N := (some 13)) #[true, true, true, true, true, true, true, true, true, false, false, false] rfl rfl (one_of HT_.out (by kernel_rfl)) (by decide) (fun K9 hK => ?_)
  refine goes_ Try.func41 (by kernel_rfl) rfl #[.slice (some ⟨b, 0, none⟩) sk.length c] (by rfl) rfl rfl (by (try simp only [List.map_toArray, List.map_cons, List.map_nil]); first | done | rfl) ?_
  refine (iclone_calls b c sk w.drew (H.out.row.keep rfl) H.out.few).mono ?_
  rintro e w1 ⟨g, c', rfl, hI, hg, hb⟩
  refine ⟨_, rfl, ?_⟩
  have HI := Aside.mk hI
  have HG := Aside.mk hg
  have HB := Aside.mk hb
  have HC1 := Aside.mk (H.out.fr (Fr.of_new (F := fun _ => False) (below_of_drew hb)) (fun f => f) (fun f => f))
  clear hI hg hb
  refine hK.out _ _ ⟨HC1.out.cell0, HC1.out.cell1⟩ (fun hHeld => ?_)
  clear hK K9
  refine norm_ (a' := ?_) ?_ ?_
  rotate_left
  · show Act.put _ (some 13) _ = _
    simp only [Act.put, List.setIfInBounds_toArray, List.set_cons_zero, List.set_cons_succ]
    rfl
  refine pure_ (i := 9) (N := (some 14)) (v := ?_) (a' := ?_) #[true, true, true, true, true, true, true, true, true, true, false, false] rfl rfl (any_of HT_.out (by kernel_rfl)) (fun _ _ _ h => h) (Or.inl ⟨by rfl, ?_⟩) ?_ ?_
  rotate_left
  · intro w'
    go_simp
    with_reducible rfl
  rotate_left
  · simp only [Act.put, List.setIfInBounds_toArray, List.set_cons_zero, List.set_cons_succ, i64_w, i32_w]
    rfl
  refine one_ (i := 10) (N := (some 15)) #[true, true, true, true, true, true, true, true, true, true, true, false] rfl rfl (one_of HT_.out (by kernel_rfl)) (by decide) (fun K9 hK => ?_)
  refine value_ (v := .pointer (some ⟨w1.heap.size, 0, none⟩)) (w1 := w1.alloc (.cells #[.int .i64 now, .slice (some ⟨g, 0, none⟩) sk.length c'] 80 (0, 0))) (by rfl) rfl (by unfold execOp; go_simp) ?_
  refine hK.out _ _ ⟨cell_at (blk_alloc' HC1.out.box _) 0, cell_at (blk_alloc' HC1.out.box _) 1⟩ (fun hHeld => ?_)
  clear hK K9
  refine norm_ (a' := ?_) ?_ ?_
  rotate_left
  · show Act.put _ (some 15) _ = _
    simp only [Act.put, List.setIfInBounds_toArray, List.set_cons_zero, List.set_cons_succ]
    rfl
  refine pure_ (i := 11) (N := (some 2)) (v := ?_) (a' := ?_) #[true, true, true, true, true, true, true, true, true, true, true, true] rfl rfl (any_of HT_.out (by kernel_rfl)) (fun _ _ _ h => h) (Or.inl ⟨by rfl, ?_⟩) ?_ ?_
  rotate_left
  · intro w'
    go_simp
    with_reducible rfl
  rotate_left
  · simp only [Act.put, List.setIfInBounds_toArray, List.set_cons_zero, List.set_cons_succ, i64_w, i32_w]
    rfl
  refine done_ (done_of HT_.out (by kernel_rfl)) ?_
  clear HT_ HW_ hHeld
  go_wp2_with fail
  go_ret
  have hw1 : w.heap.size ≤ w1.heap.size := HB.out.size
  refine ⟨w1.heap.size, g, c', rfl, ⟨heap_alloc_new _ _, HI.out.keep (Below.heap_alloc _ _ _ HI.out.lt), by decide, H.out.now0, H.out.now1, H.out.few, H.out.small⟩, hw1, HG.out, (below_of_drew HB.out).trans ((Below.refl _ w1).alloc hw1 _)⟩
end Go.Proofs.Ytjefeoohfalcaaa.C
