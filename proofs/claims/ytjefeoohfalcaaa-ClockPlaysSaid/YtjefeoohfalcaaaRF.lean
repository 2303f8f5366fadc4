/- The document's clocks: New, Pass, Skew, At, Worst. -/
import Derived.Test.YtjefeoohfalcaaaAW
namespace Go.Proofs.Ytjefeoohfalcaaa.C
open Go.RowKit
set_option linter.unusedVariables false
set_option linter.unusedSimpArgs false
set_option maxHeartbeats 1000000 in
set_option maxRecDepth 100000 in
theorem rnew_calls (n : Nat) (hn : n ≤ 16) (w : World) : Calls Try.prog 18 #[.int .i64 n] w fun e w' => ∃ C b c, e = .returned (.tuple #[.pointer (some ⟨C, 0, none⟩), .int .i64 0]) ∧ CRep 44 w' C b c 0 (List.replicate n 0) ∧ w.heap.size ≤ C ∧ w.heap.size ≤ b ∧ Below w.heap.size w w' := by
  obtain ⟨i0, hi0, hz0, hz1, hz2⟩ := info_parts ids_info
  have hmk : (Instr.makeSlice 42 (.int .i64 n) (.int .i64 n)).run Try.prog w = .ok (.slice (some ⟨w.heap.size, 0, none⟩) n n) (w.alloc (.cells ((List.replicate n 0).map (Value.int .i64)).toArray 2 (0, 0))) := by
    have h := run_makeSlice (P := Try.prog) w 42 2 i0 (.int .i64 0) Try.underlying42 hi0 hz0 .i64 .i64 n n (by omega) (Int.le_refl _) (by rw [hz1]; simp; omega) (by rw [hz2]; simp; omega) (by omega)
    rw [hz1] at h
    simp only [Int.toNat_natCast] at h
    rw [made_zeros] at h
    exact h
  obtain ⟨Z, hZ⟩ : ∃ Z, ((List.replicate n (0 : Int)).map (Value.int .i64)).toArray = Z := ⟨_, rfl⟩
  rw [hZ] at hmk
  have HZ := Aside.mk hZ
  clear hZ hi0 hz0 hz1 hz2
  go_enter Try.func18, Try.ntmps18
  go_wp2_with fail
  go_ret2
  have h1 : ((w.alloc (.cells Z 2 (0, 0))).alloc (.cells #[.int .i64 0, .slice (some ⟨w.heap.size, 0, none⟩) n n] 44 (0, 0))).heap[w.heap.size + 1]? = some (.cells #[.int .i64 0, .slice (some ⟨w.heap.size, 0, none⟩) n n] 44 (0, 0)) := by simpa using heap_alloc_new (w.alloc (.cells Z 2 (0, 0))) (.cells #[.int .i64 0, .slice (some ⟨w.heap.size, 0, none⟩) n n] 44 (0, 0))
  refine ⟨w.heap.size + 1, w.heap.size, n, rfl, ⟨by rw [List.length_replicate]; exact h1, ?_, by decide, by omega, by omega, by rw [List.length_replicate]; exact hn, fun s hs => by rw [List.eq_of_mem_replicate hs]; omega⟩, by omega, by omega, ((Below.refl _ _).alloc (Nat.le_refl _) _).alloc (by simp) _⟩
  have h2 : IRow ((w.alloc (.cells Z 2 (0, 0))).alloc (.cells #[.int .i64 0, .slice (some ⟨w.heap.size, 0, none⟩) n n] 44 (0, 0))) w.heap.size (List.replicate n (0 : Int)).length (List.replicate n 0) := IRow.mk' (by rw [HZ.out]; exact blk_alloc' (heap_alloc_new w _) _)
  rw [List.length_replicate] at h2
  exact h2
set_option maxHeartbeats 1000000 in
set_option maxRecDepth 100000 in
theorem rnew_bad (n : Int) (hn : n < 0 ∨ 16 < n) (w : World) : Calls Try.prog 18 #[.int .i64 n] w fun e w' => e = .returned (.tuple #[.pointer none, .int .i64 1]) ∧ w = w' := by
  by_cases h : n < 0
  · go_enter Try.func18, Try.ntmps18
    go_wp2_with fail
    go_ret2
    exact ⟨rfl, rfl⟩
  · have h1 : 0 ≤ n := by omega
    have h2 : 16 < n := by omega
    clear h hn
    go_enter Try.func18, Try.ntmps18
    go_wp2_with fail
    go_ret2
    exact ⟨rfl, rfl⟩
set_option maxHeartbeats 1000000 in
set_option maxRecDepth 100000 in
theorem rpass_calls (C b c : Nat) (now n : Int) (sk : List Int) (w : World) (h : CRep 44 w C b c now sk) : Calls Try.prog 19 #[.pointer (some ⟨C, 0, none⟩), .int .i64 n] w fun e w' => e = .returned (.int .i64 (passI now n)) ∧ CRep 44 w' C b c (passed now n) sk ∧ Fr (fun k => k = C) w w' := by
  have t0 := h.cell0
  have tf : w.frozen? ⟨C, 0, none⟩ = false := free_at h.box 0
  have h0 := h.now0
  have h1 := h.now1
  have H := Aside.mk h
  clear h
  by_cases ha : n < 0
  · have HE : Aside (passI now n = 1 ∧ passed now n = now) := ⟨if_pos ha, by unfold passed passI; rw [if_pos ha]; rfl⟩
    go_enter Try.func19, Try.ntmps19
    go_wp2_with fail
    go_ret
    exact ⟨by rw [HE.out.1]; rfl, by rw [HE.out.2]; exact H.out, Fr.refl _ _⟩
  · have ha' : 0 ≤ n := by omega
    by_cases hc : 1125899906842624 - now < n
    · have HE : Aside (passI now n = 40 ∧ passed now n = now) := ⟨by unfold passI; rw [if_neg ha, if_pos hc], by unfold passed passI; rw [if_neg ha, if_pos hc]; rfl⟩
      clear ha
      go_enter Try.func19, Try.ntmps19
      go_wp2_with fail
      go_ret
      exact ⟨by rw [HE.out.1]; rfl, by rw [HE.out.2]; exact H.out, Fr.refl _ _⟩
    · have HE : Aside (passI now n = 0 ∧ passed now n = now + n) := ⟨by unfold passI; rw [if_neg ha, if_neg hc], by unfold passed passI; rw [if_neg ha, if_neg hc]; rfl⟩
      have hc' : n ≤ 1125899906842624 - now := by omega
      have HC := Aside.mk (H.out.turn (now + n) (by omega) (by omega))
      clear ha hc
      go_enter Try.func19, Try.ntmps19
      go_wp2_with fail
      go_ret
      exact ⟨by rw [HE.out.1]; rfl, by rw [HE.out.2]; exact HC.out, (Fr.refl (fun k => k = C) _).setCell (.inl rfl) _⟩
set_option maxHeartbeats 1000000 in
set_option maxRecDepth 100000 in
theorem rskew_calls (C b c : Nat) (now node n : Int) (sk : List Int) (w : World) (h : CRep 44 w C b c now sk) : Calls Try.prog 20 #[.pointer (some ⟨C, 0, none⟩), .int .i64 node, .int .i64 n] w fun e w' => e = .returned (.int .i64 (skewI sk.length node n)) ∧ CRep 44 w' C b c now (skewed sk node n) ∧ Fr (fun k => k = b) w w' := by
  have H := Aside.mk h
  have t1 := h.cell1
  have hf := h.few
  by_cases hb : node < 0 ∨ (sk.length : Int) ≤ node
  · have HE : Aside (skewI sk.length node n = 5 ∧ skewed sk node n = sk) := ⟨if_pos hb, by unfold skewed skewI; rw [if_pos hb]; rfl⟩
    generalize hn : sk.length = k at *
    clear h hn
    by_cases h1 : node < 0
    · clear hb
      go_enter Try.func20, Try.ntmps20
      go_wp2_with fail
      go_ret
      exact ⟨by rw [HE.out.1]; rfl, by rw [HE.out.2]; exact H.out, Fr.refl _ _⟩
    · have h2 : 0 ≤ node := by omega
      have h3 : (k : Int) ≤ node := by omega
      clear hb h1
      go_enter Try.func20, Try.ntmps20
      go_wp2_with fail
      go_ret
      exact ⟨by rw [HE.out.1]; rfl, by rw [HE.out.2]; exact H.out, Fr.refl _ _⟩
  · obtain ⟨i, rfl⟩ : ∃ i : Nat, node = (i : Int) := ⟨node.toNat, by omega⟩
    have hi : i < sk.length := by omega
    by_cases hc : n < -1073741824 ∨ 1073741824 < n
    · have HE : Aside (skewI sk.length i n = 1 ∧ skewed sk i n = sk) := ⟨by unfold skewI; rw [if_neg hb, if_pos hc], by unfold skewed skewI; rw [if_neg hb, if_pos hc]; rfl⟩
      generalize hn : sk.length = k at *
      clear h hb hn
      by_cases hd : n < -1073741824
      · clear hc
        go_enter Try.func20, Try.ntmps20
        go_wp2_with fail
        go_ret
        exact ⟨by rw [HE.out.1]; rfl, by rw [HE.out.2]; exact H.out, Fr.refl _ _⟩
      · have hd' : -1073741824 ≤ n := by omega
        have hc' : 1073741824 < n := by omega
        clear hc hd
        go_enter Try.func20, Try.ntmps20
        go_wp2_with fail
        go_ret
        exact ⟨by rw [HE.out.1]; rfl, by rw [HE.out.2]; exact H.out, Fr.refl _ _⟩
    · have HE : Aside (skewI sk.length i n = 0 ∧ skewed sk i n = sk.set i n) := ⟨by unfold skewI; rw [if_neg hb, if_neg hc], by unfold skewed skewI; rw [if_neg hb, if_neg hc]; simp⟩
      have hs : sk[i]? = some sk[i] := List.getElem?_eq_getElem hi
      obtain ⟨s, hse⟩ : ∃ s, sk[i] = s := ⟨_, rfl⟩
      rw [hse] at hs
      have t2 := h.at hs
      have t3 : w.frozen? ⟨b, i, none⟩ = false := h.row.free i
      have hd' : -1073741824 ≤ n := by omega
      have hc' : n ≤ 1073741824 := by omega
      have HC := Aside.mk (h.skew i n hd' hc')
      clear h hb hc hs hse
      generalize hn : sk.length = k at *
      clear hn
      go_enter Try.func20, Try.ntmps20
      go_wp2_with fail
      go_ret
      exact ⟨by rw [HE.out.1]; rfl, by rw [HE.out.2]; exact HC.out, (Fr.refl (fun k => k = b) _).setCell (.inl rfl) _⟩
set_option maxHeartbeats 1000000 in
set_option maxRecDepth 100000 in
theorem rat_calls (C b c : Nat) (now : Int) (sk : List Int) (node : Int) (w : World) (h : CRep 44 w C b c now sk) : Calls Try.prog 22 #[.pointer (some ⟨C, 0, none⟩), .int .i64 node] w fun e w' => e = .returned (.tuple #[.int .i64 (atI now sk node), .int .i64 (noneI sk.length node)]) ∧ Fr (fun _ => False) w w' := by
  have t1 := h.cell1
  have t0 := h.cell0
  have hf := h.few
  have hn0 := h.now0
  have hn1 := h.now1
  by_cases hb : node < 0 ∨ (sk.length : Int) ≤ node
  · have HE : Aside (atI now sk node = 0 ∧ noneI sk.length node = 5) := ⟨if_pos hb, if_pos hb⟩
    generalize hn : sk.length = k at *
    clear h hn
    by_cases h1 : node < 0
    · clear hb
      go_enter Try.func22, Try.ntmps22
      go_wp2_with fail
      go_ret2
      exact ⟨by rw [HE.out.1, HE.out.2]; rfl, Fr.refl _ _⟩
    · have h2 : 0 ≤ node := by omega
      have h3 : (k : Int) ≤ node := by omega
      clear hb h1
      go_enter Try.func22, Try.ntmps22
      go_wp2_with fail
      go_ret2
      exact ⟨by rw [HE.out.1, HE.out.2]; rfl, Fr.refl _ _⟩
  · obtain ⟨i, rfl⟩ : ∃ i : Nat, node = (i : Int) := ⟨node.toNat, by omega⟩
    have hi : i < sk.length := by omega
    have hs : sk[i]? = some sk[i] := List.getElem?_eq_getElem hi
    obtain ⟨s, hse⟩ : ∃ s, sk[i] = s := ⟨_, rfl⟩
    rw [hse] at hs
    have t2 := h.at hs
    obtain ⟨hs0, hs1⟩ := h.small s (List.mem_of_getElem? hs)
    have HE : Aside (atI now sk i = rdg now s ∧ noneI sk.length i = 0) := ⟨by unfold atI; rw [if_neg hb, Int.toNat_natCast, List.getD_eq_getElem?_getD, hs]; rfl, if_neg hb⟩
    have hw : IntKind.i64.wrap (now + s) = now + s := by rw [IntKind.wrap_i64]; omega
    have HR : Aside (∀ v, v = rdg now s → Ending.returned (.tuple #[.int .i64 v, .int .i64 0]) = Ending.returned (.tuple #[.int .i64 (rdg now s), .int .i64 0])) := ⟨fun v e => by rw [e]⟩
    clear h hb hs hse
    generalize hn : sk.length = k at *
    clear hn
    go_enter Try.func22, Try.ntmps22
    go_upto_region 3 with fail
    go_region
    clear hw
    go_wp2_with fail
    all_goals go_ret2
    all_goals exact ⟨by rw [HE.out.1, HE.out.2]; exact HR.out _ (by unfold rdg; omega), (Fr.refl _ _).drew⟩
set_option maxHeartbeats 1000000 in
set_option maxRecDepth 100000 in
theorem rworst_calls (C b c : Nat) (now : Int) (sk : List Int) (w : World) (h : CRep 44 w C b c now sk) : Calls Try.prog 23 #[.pointer (some ⟨C, 0, none⟩)] w fun e w' => e = .returned (.int .i64 (worstI now sk)) ∧ Fr (fun _ => False) w w' := by
  have H := Aside.mk h
  have h0 := h.now0
  have h1 := h.now1
  have hf := h.few
  clear h
  obtain ⟨n, hn⟩ : ∃ n, sk.length = n := ⟨_, rfl⟩
  rw [hn] at hf
  have HN := Aside.mk hn
  clear hn
  go_enter Try.func23, Try.ntmps23
  go_wp2_with fail
  go_loopw [3, 4] (fun v3 v4 wr => ∃ k : Nat, k ≤ n ∧ v4 = .int .i64 k ∧ v3 = .int .i64 (worstI now (sk.take k)) ∧ Aside (Fr (fun _ => False) w wr)) (fun _ v4 _ => n - (intOf v4).toNat)
  case atStart => exact ⟨0, by omega, rfl, rfl, ⟨Fr.refl _ _⟩⟩
  case round =>
    obtain ⟨k, hk, rfl, rfl, HF⟩ := hrel
    have HR := Aside.mk (H.out.fr HF.out (fun f => f) (fun f => f))
    have t1 := HR.out.cell1
    rw [HN.out] at t1
    by_cases hlt : k < n
    · have hs : sk[k]? = some (sk[k]'(by rw [HN.out]; exact hlt)) := List.getElem?_eq_getElem _
      obtain ⟨s, hse⟩ : ∃ s, sk[k]'(by rw [HN.out]; exact hlt) = s := ⟨_, rfl⟩
      rw [hse] at hs
      have hr := rdg_in now s
      have hwi := worstI_in now h0 h1 (sk.take k) 0 (by omega) (by omega)
      have HW := Aside.mk (worst_snoc now sk k s hs)
      have HA : Aside (atI now sk (k : Int) = rdg now s ∧ noneI sk.length (k : Int) = 0) := ⟨by unfold atI; rw [if_neg (by rw [HN.out]; omega), Int.toNat_natCast, List.getD_eq_getElem?_getD, hs]; rfl, if_neg (by rw [HN.out]; omega)⟩
      change 0 ≤ worstI now (sk.take k) ∧ worstI now (sk.take k) ≤ _ at hwi
      obtain ⟨m, hm⟩ : ∃ m, worstI now (sk.take k) = m := ⟨_, rfl⟩
      rw [hm] at hwi
      have HM := Aside.mk hm
      rw [hm]
      obtain ⟨hw0, hw1⟩ := hwi
      obtain ⟨hr0, hr1⟩ := hr
      clear hse hs hm
      go_wp2_with fail
      refine (rat_calls C b c now sk k wr HR.out).mono ?_
      rintro e w2 ⟨rfl, hF2⟩
      rw [HA.out.1, HA.out.2]
      have HF2 := Aside.mk (HF.out.then hF2 (fun _ f => f.elim))
      have HR2 := Aside.mk (HR.out.fr hF2 (fun f => f) (fun f => f))
      have t3 := HR2.out.cell0
      obtain ⟨q, hq⟩ : ∃ q, rdg now s = q := ⟨_, rfl⟩
      rw [hq] at hr0 hr1 ⊢
      have HQ := Aside.mk hq
      clear hq hF2 t1
      go_wp2_with fail
      all_goals go_roundw
      case' rel => skip
      all_goals first | exact ⟨k + 1, by omega, by go_num, int_eq (by rw [HW.out, HM.out]; unfold worseI; rw [HQ.out]; (repeat' split) <;> omega), HF2⟩ | (simp [intOf]; omega)
    · obtain rfl : k = n := by omega
      have HT : Aside (sk.take k = sk) := ⟨List.take_of_length_le (by have := HN.out; omega)⟩
      go_wp2_with fail
      go_ret
      exact ⟨by rw [HT.out]; rfl, HF.out⟩
end Go.Proofs.Ytjefeoohfalcaaa.C
