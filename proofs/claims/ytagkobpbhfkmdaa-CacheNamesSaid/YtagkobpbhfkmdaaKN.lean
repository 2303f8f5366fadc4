/- Names of keys: Name, Clusters, Cluster, Tenant. -/
import Derived.Test.YtagkobpbhfkmdaaKY
import Derived.Test.YtagkobpbhfkmdaaFR
namespace Go.Proofs.Ytagkobpbhfkmdaa.C
open Go.RowKit Go.Proofs.Ytagkobpbhfkmdaa.Q Go.Proofs.YtagkobpbhfkmdaaW.PrintLast Go.Proofs.YtagkobpbhfkmdaaW.PrintWords
set_option linter.unusedVariables false
set_option linter.unusedSimpArgs false
theorem name_is (s : ByteArray) (hs : s.size ≤ 9000000000000000000) (k : Nat) (hk : s.size + 5 < k) : keys_Name.f k s = some (nameB s) := by
  unfold keys_Name.f nameB
  by_cases h : s.toList = []
  · rw [if_pos h, h]; rfl
  · rw [if_neg h, all_is s 2 24 hs k hk]
    cases hl : s.toList with
    | nil => exact absurd hl h
    | cons a r => rfl
theorem mayTenant_is (a b : Int) : record_MayTenant.f a b = some (decide (0 ≤ b ∧ b ≤ 1099511627776 ∧ 0 ≤ a ∧ a ≤ 1048576 ∧ a ≤ b)) := by
  unfold record_MayTenant.f
  repeat' split
  all_goals (congr 1; first | (symm; rw [decide_eq_false_iff_not]; omega) | (rw [decide_eq_decide]; omega))
def mayRecB (rep : ByteArray) (ep tm : Int) : Bool := nameB rep && decide (1 ≤ ep ∧ ep ≤ 1099511627776 ∧ 0 ≤ tm ∧ tm ≤ 1125899906842624)
theorem mayRec_is (rep : ByteArray) (ep tm : Int) (g : Bool) (hs : rep.size ≤ 9000000000000000000) (k : Nat) (hk : rep.size + 5 < k) : record_May.f k rep ep tm g = some (mayRecB rep ep tm) := by
  unfold record_May.f mayRecB
  rw [name_is rep hs k hk]
  simp only [Option.bind_some]
  cases nameB rep with
  | false => rfl
  | true =>
    rw [if_pos rfl]
    repeat' split
    all_goals (congr 1; simp only [Bool.true_and]; first | (symm; rw [decide_eq_false_iff_not]; omega) | (rw [decide_eq_decide]; omega))
theorem name_calls (s : ByteArray) (hs : s.size ≤ 9000000000000000000) (w : World) : Calls Try.prog 13 #[.string s] w fun e w' => e = .returned (.bool (nameB s)) ∧ Drawn0 w w' := keys_Name.calls (s.size + 6) s _ w (name_is s hs _ (by omega))
def clustersK (t : ByteArray) : ByteArray := if nameB t then ((⟨#[99, 47]⟩ : ByteArray) ++ t) ++ (⟨#[47]⟩ : ByteArray) else ByteArray.empty
def tenantK (t : ByteArray) : ByteArray := if nameB t then (⟨#[116, 47]⟩ : ByteArray) ++ t else ByteArray.empty
def clusterK (t c : ByteArray) : ByteArray := if nameB t && nameB c then clustersK t ++ c else ByteArray.empty
theorem name_size {s : ByteArray} (h : nameB s = true) : s.size ≤ 24 := by
  unfold nameB allK at h
  simp at h
  omega
theorem drawn_fr {w w' : World} (h : Drawn0 w w') : ∃ q, w' = w.drewN q := by
  obtain ⟨n, rfl⟩ := h.out
  exact ⟨n, rfl⟩
set_option maxHeartbeats 1000000 in
set_option maxRecDepth 100000 in
theorem clusters_calls (t : ByteArray) (ht : t.size ≤ 1000000) (w : World) : Calls Try.prog 36 #[.string t] w fun e w' => e = .returned (.string (clustersK t)) ∧ ∃ q, w' = w.drewN q := by
  have hn := fun v => name_calls t (by omega) v
  unfold clustersK
  cases hb : nameB t with
  | true =>
    rw [hb] at hn
    rw [if_pos rfl]
    have ht := name_size hb
    clear hb
    go_enter Try.func36, Try.ntmps36
    go_wp2_with fail
    refine (hn _).mono ?_
    rintro e w1 ⟨rfl, hd⟩
    obtain ⟨q, rfl⟩ := drawn_fr hd
    go_wp2_with fail
    go_ret
    exact ⟨rfl, q, rfl⟩
  | false =>
    rw [hb] at hn
    rw [if_neg (by decide)]
    clear hb
    go_enter Try.func36, Try.ntmps36
    go_wp2_with fail
    refine (hn _).mono ?_
    rintro e w1 ⟨rfl, hd⟩
    obtain ⟨q, rfl⟩ := drawn_fr hd
    go_wp2_with fail
    go_ret
    exact ⟨rfl, q, rfl⟩
set_option maxHeartbeats 1000000 in
set_option maxRecDepth 100000 in
theorem tenant_calls (t : ByteArray) (ht : t.size ≤ 1000000) (w : World) : Calls Try.prog 15 #[.string t] w fun e w' => e = .returned (.string (tenantK t)) ∧ ∃ q, w' = w.drewN q := by
  have hn := fun v => name_calls t (by omega) v
  unfold tenantK
  cases hb : nameB t with
  | true =>
    rw [hb] at hn
    rw [if_pos rfl]
    have ht := name_size hb
    clear hb
    go_enter Try.func15, Try.ntmps15
    go_wp2_with fail
    refine (hn _).mono ?_
    rintro e w1 ⟨rfl, hd⟩
    obtain ⟨q, rfl⟩ := drawn_fr hd
    go_wp2_with fail
    go_ret
    exact ⟨rfl, q, rfl⟩
  | false =>
    rw [hb] at hn
    rw [if_neg (by decide)]
    clear hb
    go_enter Try.func15, Try.ntmps15
    go_wp2_with fail
    refine (hn _).mono ?_
    rintro e w1 ⟨rfl, hd⟩
    obtain ⟨q, rfl⟩ := drawn_fr hd
    go_wp2_with fail
    go_ret
    exact ⟨rfl, q, rfl⟩
set_option maxHeartbeats 1000000 in
set_option maxRecDepth 100000 in
theorem cluster_calls (t c : ByteArray) (ht : t.size ≤ 1000000) (hc : c.size ≤ 1000000) (w : World) : Calls Try.prog 14 #[.string t, .string c] w fun e w' => e = .returned (.string (clusterK t c)) ∧ ∃ q, w' = w.drewN q := by
  have hn := fun v => name_calls t (by omega) v
  have hn2 := fun v => name_calls c (by omega) v
  have hcl := fun v => clusters_calls t ht v
  unfold clusterK
  cases hb : nameB t with
  | true =>
    rw [hb] at hn
    cases hb2 : nameB c with
    | true =>
      rw [hb2] at hn2
      rw [show (true && true) = true from rfl, if_pos rfl]
      have ht := name_size hb
      have hc := name_size hb2
      have hk : (clustersK t).size ≤ 30 := by
        unfold clustersK
        rw [if_pos hb]
        simp only [ByteArray.size_append]
        show 2 + t.size + 1 ≤ 30
        omega
      obtain ⟨K, hK⟩ : ∃ K, clustersK t = K := ⟨_, rfl⟩
      rw [hK] at hk hcl ⊢
      clear hb hb2 hK
      go_enter Try.func14, Try.ntmps14
      go_wp2_with fail
      refine (hn _).mono ?_
      rintro e w1 ⟨rfl, hd⟩
      obtain ⟨q, rfl⟩ := drawn_fr hd
      go_wp2_with fail
      refine (hn2 _).mono ?_
      rintro e w1 ⟨rfl, hd⟩
      obtain ⟨q2, rfl⟩ := drawn_fr hd
      go_wp2_with fail
      refine (hcl _).mono ?_
      rintro e w1 ⟨rfl, q3, rfl⟩
      go_wp2_with fail
      go_ret
      exact ⟨rfl, q + q2 + q3, by first | rfl | rw [World.drewN_drewN] | rw [World.drewN_drewN, World.drewN_drewN]⟩
    | false =>
      rw [hb2] at hn2
      rw [if_neg (by decide)]
      clear hb hb2 hcl
      go_enter Try.func14, Try.ntmps14
      go_wp2_with fail
      refine (hn _).mono ?_
      rintro e w1 ⟨rfl, hd⟩
      obtain ⟨q, rfl⟩ := drawn_fr hd
      go_wp2_with fail
      refine (hn2 _).mono ?_
      rintro e w1 ⟨rfl, hd⟩
      obtain ⟨q2, rfl⟩ := drawn_fr hd
      go_wp2_with fail
      go_ret
      exact ⟨rfl, q + q2, rfl⟩
  | false =>
    rw [hb] at hn
    rw [if_neg (by simp)]
    clear hb hn2 hcl
    go_enter Try.func14, Try.ntmps14
    go_wp2_with fail
    refine (hn _).mono ?_
    rintro e w1 ⟨rfl, hd⟩
    obtain ⟨q, rfl⟩ := drawn_fr hd
    go_wp2_with fail
    go_ret
    exact ⟨rfl, q, rfl⟩
end Go.Proofs.Ytagkobpbhfkmdaa.C
