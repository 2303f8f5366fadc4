/- Leaves of the document's MayConfig, part 1. -/
import Derived.Test.YtijjdgmcjienlaaRCH
namespace Go.Proofs.Ytijjdgmcjienlaa.PL
open Go.RowKit Go.Proofs.Ytijjdgmcjienlaa.Q Go.Proofs.YtijjdgmcjienlaaW.PrintWords Go.Proofs.YtijjdgmcjienlaaW.PrintLast
set_option linter.unusedVariables false
set_option maxHeartbeats 2000000 in
set_option maxRecDepth 100000 in
theorem refcfg_9 (C : Array Value) (a0 a1 a2 a3 a4 a5 a6 a7 a8 a9 a10 a11 a12 a13 a14 a15 a16 a17 : Int) (n0 n1 : ByteArray) (hc0 : C[0]? = some (.int .i64 a0)) (hc1 : C[1]? = some (.int .i64 a1)) (hc2 : C[2]? = some (.int .i64 a2)) (hc3 : C[3]? = some (.int .i64 a3)) (hc4 : C[4]? = some (.int .i64 a4)) (hc5 : C[5]? = some (.int .i64 a5)) (hc6 : C[6]? = some (.int .i64 a6)) (hc7 : C[7]? = some (.int .i64 a7)) (hc8 : C[8]? = some (.int .i64 a8)) (hc9 : C[9]? = some (.int .i64 a9)) (hc10 : C[10]? = some (.int .i64 a10)) (hc11 : C[11]? = some (.int .i64 a11)) (hc12 : C[12]? = some (.int .i64 a12)) (hc13 : C[13]? = some (.int .i64 a13)) (hc14 : C[14]? = some (.int .i64 a14)) (hc15 : C[15]? = some (.int .i64 a15)) (hc16 : C[16]? = some (.int .i64 a16)) (hc17 : C[17]? = some (.int .i64 a17)) (hc18 : C[18]? = some (.string n0)) (hc19 : C[19]? = some (.string n1)) (w : World) (z0 : n0.size ≤ 140737488351232) (z1 : n1.size ≤ 140737488351232) (s0 : spanB a1 1 = true) (s1 : spanB a2 1 = true) (s2 : spanB a3 1 = true) (s3 : spanB a6 1 = true) (s4 : spanB a7 1 = true) (s5 : spanB a8 1 = true) (s6 : spanB a4 0 = true) (s7 : spanB a5 0 = true) (s8 : decide (a1 ≤ wrap64 (a3 + a4)) = false) (s9 : decide (a2 < wrap64 (a1 + wrap64 (2 * a5))) = true) :
    Calls Try.prog 24 #[.agg C] w fun e w' => e = .returned (.bool false) ∧ Below w.heap.size w w' := by
  have hu := Try.underlying25
  go_enter Try.func24, Try.ntmps24
  go_wp2_with (first | (go_at_call 37; refine (span_is _ _ _).mono ?_; rintro e w' ⟨rfl, ⟨nd, rfl⟩⟩) | (go_at_call 38; refine (count_is _ _ _).mono ?_; rintro e w' ⟨rfl, ⟨nd, rfl⟩⟩) | (go_at_call 39; refine (ref05_is _ (by assumption) _).mono ?_; rintro e w' ⟨rfl, ⟨nd, rfl⟩⟩))
  go_ret
  exact ⟨by first | rfl | (simp; done), by first | exact (Below.refl _ _).alloc (Nat.le_refl _) _ | exact lease_below_drawn ((Below.refl _ _).alloc (Nat.le_refl _) _)⟩
set_option maxHeartbeats 2000000 in
set_option maxRecDepth 100000 in
theorem refcfg_10 (C : Array Value) (a0 a1 a2 a3 a4 a5 a6 a7 a8 a9 a10 a11 a12 a13 a14 a15 a16 a17 : Int) (n0 n1 : ByteArray) (hc0 : C[0]? = some (.int .i64 a0)) (hc1 : C[1]? = some (.int .i64 a1)) (hc2 : C[2]? = some (.int .i64 a2)) (hc3 : C[3]? = some (.int .i64 a3)) (hc4 : C[4]? = some (.int .i64 a4)) (hc5 : C[5]? = some (.int .i64 a5)) (hc6 : C[6]? = some (.int .i64 a6)) (hc7 : C[7]? = some (.int .i64 a7)) (hc8 : C[8]? = some (.int .i64 a8)) (hc9 : C[9]? = some (.int .i64 a9)) (hc10 : C[10]? = some (.int .i64 a10)) (hc11 : C[11]? = some (.int .i64 a11)) (hc12 : C[12]? = some (.int .i64 a12)) (hc13 : C[13]? = some (.int .i64 a13)) (hc14 : C[14]? = some (.int .i64 a14)) (hc15 : C[15]? = some (.int .i64 a15)) (hc16 : C[16]? = some (.int .i64 a16)) (hc17 : C[17]? = some (.int .i64 a17)) (hc18 : C[18]? = some (.string n0)) (hc19 : C[19]? = some (.string n1)) (w : World) (z0 : n0.size ≤ 140737488351232) (z1 : n1.size ≤ 140737488351232) (s0 : spanB a1 1 = true) (s1 : spanB a2 1 = true) (s2 : spanB a3 1 = true) (s3 : spanB a6 1 = true) (s4 : spanB a7 1 = true) (s5 : spanB a8 1 = true) (s6 : spanB a4 0 = true) (s7 : spanB a5 0 = true) (s8 : decide (a1 ≤ wrap64 (a3 + a4)) = false) (s9 : decide (a2 < wrap64 (a1 + wrap64 (2 * a5))) = false) (s10 : decide (a6 < a2) = true) :
    Calls Try.prog 24 #[.agg C] w fun e w' => e = .returned (.bool false) ∧ Below w.heap.size w w' := by
  have hu := Try.underlying25
  go_enter Try.func24, Try.ntmps24
  go_wp2_with (first | (go_at_call 37; refine (span_is _ _ _).mono ?_; rintro e w' ⟨rfl, ⟨nd, rfl⟩⟩) | (go_at_call 38; refine (count_is _ _ _).mono ?_; rintro e w' ⟨rfl, ⟨nd, rfl⟩⟩) | (go_at_call 39; refine (ref05_is _ (by assumption) _).mono ?_; rintro e w' ⟨rfl, ⟨nd, rfl⟩⟩))
  go_ret
  exact ⟨by first | rfl | (simp; done), by first | exact (Below.refl _ _).alloc (Nat.le_refl _) _ | exact lease_below_drawn ((Below.refl _ _).alloc (Nat.le_refl _) _)⟩
set_option maxHeartbeats 2000000 in
set_option maxRecDepth 100000 in
theorem refcfg_11 (C : Array Value) (a0 a1 a2 a3 a4 a5 a6 a7 a8 a9 a10 a11 a12 a13 a14 a15 a16 a17 : Int) (n0 n1 : ByteArray) (hc0 : C[0]? = some (.int .i64 a0)) (hc1 : C[1]? = some (.int .i64 a1)) (hc2 : C[2]? = some (.int .i64 a2)) (hc3 : C[3]? = some (.int .i64 a3)) (hc4 : C[4]? = some (.int .i64 a4)) (hc5 : C[5]? = some (.int .i64 a5)) (hc6 : C[6]? = some (.int .i64 a6)) (hc7 : C[7]? = some (.int .i64 a7)) (hc8 : C[8]? = some (.int .i64 a8)) (hc9 : C[9]? = some (.int .i64 a9)) (hc10 : C[10]? = some (.int .i64 a10)) (hc11 : C[11]? = some (.int .i64 a11)) (hc12 : C[12]? = some (.int .i64 a12)) (hc13 : C[13]? = some (.int .i64 a13)) (hc14 : C[14]? = some (.int .i64 a14)) (hc15 : C[15]? = some (.int .i64 a15)) (hc16 : C[16]? = some (.int .i64 a16)) (hc17 : C[17]? = some (.int .i64 a17)) (hc18 : C[18]? = some (.string n0)) (hc19 : C[19]? = some (.string n1)) (w : World) (z0 : n0.size ≤ 140737488351232) (z1 : n1.size ≤ 140737488351232) (s0 : spanB a1 1 = true) (s1 : spanB a2 1 = true) (s2 : spanB a3 1 = true) (s3 : spanB a6 1 = true) (s4 : spanB a7 1 = true) (s5 : spanB a8 1 = true) (s6 : spanB a4 0 = true) (s7 : spanB a5 0 = true) (s8 : decide (a1 ≤ wrap64 (a3 + a4)) = false) (s9 : decide (a2 < wrap64 (a1 + wrap64 (2 * a5))) = false) (s10 : decide (a6 < a2) = false) (s11 : decide (a0 < 1) = true) :
    Calls Try.prog 24 #[.agg C] w fun e w' => e = .returned (.bool false) ∧ Below w.heap.size w w' := by
  have hu := Try.underlying25
  go_enter Try.func24, Try.ntmps24
  go_wp2_with (first | (go_at_call 37; refine (span_is _ _ _).mono ?_; rintro e w' ⟨rfl, ⟨nd, rfl⟩⟩) | (go_at_call 38; refine (count_is _ _ _).mono ?_; rintro e w' ⟨rfl, ⟨nd, rfl⟩⟩) | (go_at_call 39; refine (ref05_is _ (by assumption) _).mono ?_; rintro e w' ⟨rfl, ⟨nd, rfl⟩⟩))
  go_ret
  exact ⟨by first | rfl | (simp; done), by first | exact (Below.refl _ _).alloc (Nat.le_refl _) _ | exact lease_below_drawn ((Below.refl _ _).alloc (Nat.le_refl _) _)⟩
set_option maxHeartbeats 2000000 in
set_option maxRecDepth 100000 in
theorem refcfg_12 (C : Array Value) (a0 a1 a2 a3 a4 a5 a6 a7 a8 a9 a10 a11 a12 a13 a14 a15 a16 a17 : Int) (n0 n1 : ByteArray) (hc0 : C[0]? = some (.int .i64 a0)) (hc1 : C[1]? = some (.int .i64 a1)) (hc2 : C[2]? = some (.int .i64 a2)) (hc3 : C[3]? = some (.int .i64 a3)) (hc4 : C[4]? = some (.int .i64 a4)) (hc5 : C[5]? = some (.int .i64 a5)) (hc6 : C[6]? = some (.int .i64 a6)) (hc7 : C[7]? = some (.int .i64 a7)) (hc8 : C[8]? = some (.int .i64 a8)) (hc9 : C[9]? = some (.int .i64 a9)) (hc10 : C[10]? = some (.int .i64 a10)) (hc11 : C[11]? = some (.int .i64 a11)) (hc12 : C[12]? = some (.int .i64 a12)) (hc13 : C[13]? = some (.int .i64 a13)) (hc14 : C[14]? = some (.int .i64 a14)) (hc15 : C[15]? = some (.int .i64 a15)) (hc16 : C[16]? = some (.int .i64 a16)) (hc17 : C[17]? = some (.int .i64 a17)) (hc18 : C[18]? = some (.string n0)) (hc19 : C[19]? = some (.string n1)) (w : World) (z0 : n0.size ≤ 140737488351232) (z1 : n1.size ≤ 140737488351232) (s0 : spanB a1 1 = true) (s1 : spanB a2 1 = true) (s2 : spanB a3 1 = true) (s3 : spanB a6 1 = true) (s4 : spanB a7 1 = true) (s5 : spanB a8 1 = true) (s6 : spanB a4 0 = true) (s7 : spanB a5 0 = true) (s8 : decide (a1 ≤ wrap64 (a3 + a4)) = false) (s9 : decide (a2 < wrap64 (a1 + wrap64 (2 * a5))) = false) (s10 : decide (a6 < a2) = false) (s11 : decide (a0 < 1) = false) (s12 : decide (3 < a0) = true) :
    Calls Try.prog 24 #[.agg C] w fun e w' => e = .returned (.bool false) ∧ Below w.heap.size w w' := by
  have hu := Try.underlying25
  go_enter Try.func24, Try.ntmps24
  go_wp2_with (first | (go_at_call 37; refine (span_is _ _ _).mono ?_; rintro e w' ⟨rfl, ⟨nd, rfl⟩⟩) | (go_at_call 38; refine (count_is _ _ _).mono ?_; rintro e w' ⟨rfl, ⟨nd, rfl⟩⟩) | (go_at_call 39; refine (ref05_is _ (by assumption) _).mono ?_; rintro e w' ⟨rfl, ⟨nd, rfl⟩⟩))
  go_ret
  exact ⟨by first | rfl | (simp; done), by first | exact (Below.refl _ _).alloc (Nat.le_refl _) _ | exact lease_below_drawn ((Below.refl _ _).alloc (Nat.le_refl _) _)⟩
end Go.Proofs.Ytijjdgmcjienlaa.PL
