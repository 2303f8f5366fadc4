/- Clocks: Worst. -/
import Derived.Test.YtjefeoohfalcaaaK0
namespace Go.Proofs.Ytjefeoohfalcaaa.C
open Go.RowKit
set_option linter.unusedVariables false
set_option linter.unusedSimpArgs false
def worseI (now m s : Int) : Int := max m (max (rdg now s - now) (now - rdg now s))
def worstI (now : Int) (sk : List Int) : Int := sk.foldl (worseI now) 0
theorem int_eq {a b : Int} (h : a = b) : Value.int .i64 a = Value.int .i64 b := by rw [h]
theorem rdg_in (now s : Int) : 0 ≤ rdg now s ∧ rdg now s ≤ 1125899906842624 := by unfold rdg; omega
theorem worstI_in (now : Int) (h0 : 0 ≤ now) (h1 : now ≤ 1125899906842624) : ∀ (sk : List Int) (m : Int), 0 ≤ m → m ≤ 1125899906842624 → 0 ≤ sk.foldl (worseI now) m ∧ sk.foldl (worseI now) m ≤ 1125899906842624
  | [], m, a, b => ⟨a, b⟩
  | s :: r, m, a, b => by
    have := rdg_in now s
    exact worstI_in now h0 h1 r _ (by unfold worseI; omega) (by unfold worseI; omega)
theorem worst_snoc (now : Int) (sk : List Int) (k : Nat) (s : Int) (h : sk[k]? = some s) : worstI now (sk.take (k + 1)) = worseI now (worstI now (sk.take k)) s := by
  have hk := (List.getElem?_eq_some_iff.1 h).1
  unfold worstI
  rw [List.take_succ_eq_append_getElem hk, (List.getElem?_eq_some_iff.1 h).2, List.foldl_append]
  rfl
set_option maxHeartbeats 1000000 in
set_option maxRecDepth 100000 in
theorem cworst_calls (C b c : Nat) (now : Int) (sk : List Int) (w : World) (h : CRep 80 w C b c now sk) : Calls Try.prog 17 #[.pointer (some ⟨C, 0, none⟩)] w fun e w' => e = .returned (.int .i64 (worstI now sk)) ∧ Fr (fun _ => False) w w' := by
  have H := Aside.mk h
  have t1 := h.cell1
  have h0 := h.now0
  have h1 := h.now1
  have hf := h.few
  clear h
  obtain ⟨n, hn⟩ : ∃ n, sk.length = n := ⟨_, rfl⟩
  rw [hn] at t1 hf
  have HN := Aside.mk hn
  clear hn
  go_enter Try.func17, Try.ntmps17
  go_wp2_with fail
  go_loopw [3, 14] (fun v3 v14 wr => ∃ k : Nat, k ≤ n ∧ v14 = .int .i64 k ∧ v3 = .int .i64 (worstI now (sk.take k)) ∧ Aside (Fr (fun _ => False) w wr)) (fun _ v14 _ => n - (intOf v14).toNat)
  case atStart => exact ⟨0, by omega, rfl, rfl, ⟨Fr.refl _ _⟩⟩
  case round =>
    obtain ⟨k, hk, rfl, rfl, HF⟩ := hrel
    have HR := Aside.mk (H.out.fr HF.out (fun f => f) (fun f => f))
    by_cases hlt : k < n
    · have hs : sk[k]? = some (sk[k]'(by rw [HN.out]; exact hlt)) := List.getElem?_eq_getElem _
      obtain ⟨s, hse⟩ : ∃ s, sk[k]'(by rw [HN.out]; exact hlt) = s := ⟨_, rfl⟩
      rw [hse] at hs
      have t2 := HR.out.at hs
      have t3 := HR.out.cell0
      have hr := rdg_in now s
      have hwi := worstI_in now h0 h1 (sk.take k) 0 (by omega) (by omega)
      have HW := Aside.mk (worst_snoc now sk k s hs)
      have HSM := Aside.mk (HR.out.small s (List.mem_of_getElem? hs))
      change 0 ≤ worstI now (sk.take k) ∧ worstI now (sk.take k) ≤ _ at hwi
      obtain ⟨m, hm⟩ : ∃ m, worstI now (sk.take k) = m := ⟨_, rfl⟩
      rw [hm] at hwi
      have HM := Aside.mk hm
      rw [hm]
      obtain ⟨hw0, hw1⟩ := hwi
      obtain ⟨hr0, hr1⟩ := hr
      clear hse hs hm
      go_wp2_with fail
      refine (creading_calls C b c now s sk wr HR.out HSM.out).mono ?_
      rintro e w2 ⟨rfl, rfl⟩
      obtain ⟨q, hq⟩ : ∃ q, rdg now s = q := ⟨_, rfl⟩
      rw [hq] at hr0 hr1 ⊢
      have HQ := Aside.mk hq
      clear hq
      go_wp2_with fail
      go_region
      go_wp2_with fail
      go_roundw
      case rel => exact ⟨k + 1, by omega, by go_num, int_eq (by rw [HW.out, HM.out]; unfold worseI; rw [HQ.out]; (repeat' split) <;> omega), ⟨HF.out.drew⟩⟩
      case measure => simp [intOf]; omega
    · obtain rfl : k = n := by omega
      have HT : Aside (sk.take k = sk) := ⟨List.take_of_length_le (by have := HN.out; omega)⟩
      go_wp2_with fail
      go_ret
      exact ⟨by rw [HT.out]; rfl, HF.out⟩
end Go.Proofs.Ytjefeoohfalcaaa.C
