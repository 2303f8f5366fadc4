/- ClockPlays, whole. -/
import Derived.Test.YtjefeoohfalcaaaPLY
namespace Go.Proofs.Ytjefeoohfalcaaa.C
open Go.RowKit Go.Proofs.Ytjefeoohfalcaaa.Q Go.Proofs.YtjefeoohfalcaaaW.PrintLast Go.Proofs.YtjefeoohfalcaaaW.PrintWords
set_option linter.unusedVariables false
set_option linter.unusedSimpArgs false
set_option maxHeartbeats 4000000 in
set_option maxRecDepth 100000 in
theorem plays_long (nodes : Int) (A : Option Addr) (n c : Nat) (w : World) (h300 : 300 < n) :
    Calls Try.prog 4 #[.int .i64 nodes, .slice A n c] w fun e w' => e = .returned (.bool true) ∧ Below w.heap.size w w' := by
  go_enter Try.func4, Try.ntmps4
  go_wp2_with fail
  refine (aw_true _).mono ?_
  rintro e w3 ⟨rfl, hb⟩
  have HB := Aside.mk hb
  clear hb
  go_wp2_with fail
  go_ret
  exact ⟨rfl, HB.out⟩
set_option maxHeartbeats 4000000 in
set_option maxRecDepth 100000 in
theorem plays_bad (nodes : Int) (hn : nodes < 0 ∨ 16 < nodes) (A : Option Addr) (n c : Nat) (w : World) (h300 : n ≤ 300) :
    Calls Try.prog 4 #[.int .i64 nodes, .slice A n c] w fun e w' => e = .returned (.bool true) ∧ Below w.heap.size w w' := by
  go_enter Try.func4, Try.ntmps4
  go_wp2_with fail
  refine (cnew_bad nodes hn w).mono ?_
  rintro e w1 ⟨rfl, rfl⟩
  go_wp2_with fail
  refine (rnew_bad nodes hn w).mono ?_
  rintro e w1 ⟨rfl, rfl⟩
  go_wp2_with fail
  refine (aw_true _).mono ?_
  rintro e w3 ⟨rfl, hb⟩
  have HB := Aside.mk hb
  clear hb
  go_wp2_with fail
  go_ret
  exact ⟨rfl, HB.out⟩
set_option maxHeartbeats 4000000 in
set_option maxRecDepth 100000 in
theorem plays_nil (nodes : Nat) (hnn : nodes ≤ 16) (A : Option Addr) (c : Nat) (w : World) :
    Calls Try.prog 4 #[.int .i64 nodes, .slice A 0 c] w fun e w' => e = .returned (.bool true) ∧ Below w.heap.size w w' := by
  go_enter Try.func4, Try.ntmps4
  go_wp2_with fail
  refine (cnew_calls nodes hnn w).mono ?_
  rintro e w1 ⟨C0, b0, bc, rfl, hC, h1, h2, hb⟩
  have HB := Aside.mk hb
  clear hC h1 h2 hb
  go_wp2_with fail
  refine (rnew_calls nodes hnn w1).mono ?_
  rintro e w2 ⟨X, xb, xc, rfl, hX, h1, h2, hb⟩
  have HB2 := Aside.mk (HB.out.trans (hb.mono HB.out.size))
  clear hX h1 h2 hb HB
  go_wp2_with fail
  go_loopw [9] (fun v9 wr => v9 = .int .i64 0 ∧ Aside (Below w.heap.size w wr)) (fun _ _ => 0)
  case atStart => exact ⟨rfl, HB2⟩
  clear HB2
  case round =>
    obtain ⟨rfl, HP⟩ := hrel
    go_wp2_with fail
    refine (aw_true _).mono ?_
    rintro e w3 ⟨rfl, hb⟩
    have HB := Aside.mk (HP.out.trans (hb.mono HP.out.size))
    clear hb
    go_wp2_with fail
    go_ret
    exact ⟨rfl, HB.out⟩
theorem plays_walk (nodes : Int) (A : Option Addr) (c : Nat) (l : List S40) {pf : Prop} {po : Prop} {W : World} (wf : pf) (g : Kd.C k40 W A l.length l) (hlc : l.length ≤ c) (ok : po) :
    Calls Try.prog 4 #[.int .i64 nodes, .slice A l.length c] W fun e w' => e = .returned (.bool true) ∧ Below W.heap.size W w' := by
  by_cases h300 : l.length ≤ 300
  · by_cases hn : nodes < 0 ∨ 16 < nodes
    · exact plays_bad nodes hn A _ c W h300
    · obtain ⟨m, rfl⟩ : ∃ m : Nat, nodes = m := ⟨nodes.toNat, by omega⟩
      cases A with
      | none =>
        rcases Nat.eq_zero_or_pos l.length with h0 | h0
        · rw [h0]
          exact plays_nil m (by omega) none c W
        · obtain ⟨ad, he, _⟩ := at_T40 g (0 : Int) (by omega) (by omega)
          cases he
      | some ad => exact plays_some m (by omega) ad c l W g hlc h300
  · exact plays_long nodes A _ c W (by omega)
end Go.Proofs.Ytjefeoohfalcaaa.C
