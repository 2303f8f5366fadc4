/- Varints: Uvarint. -/
import Derived.Test.YtagkobpbhfkmdaaKY
import Derived.Test.YtagkobpbhfkmdaaSHF
import Derived.WalkMore
namespace Go.Proofs.Ytagkobpbhfkmdaa.C
open Go.RowKit Go.Proofs.Ytagkobpbhfkmdaa.Q Go.Proofs.YtagkobpbhfkmdaaW.PrintLast Go.Proofs.YtagkobpbhfkmdaaW.PrintWords
set_option linter.unusedVariables false
set_option linter.unusedSimpArgs false
theorem u64_wrap_nat (x : Nat) (h : x < 2 ^ 64) : IntKind.u64.wrap (x : Int) = x := by
  simp only [IntKind.wrap, IntKind.bits, IntKind.signed, Bool.false_and, Bool.false_eq_true, if_false]
  omega
theorem bits_or_nat (x y : Nat) (hx : x < 2 ^ 64) (hy : y < 2 ^ 64) : bits .or .u64 (x : Int) (y : Int) = ((x ||| y : Nat) : Int) := by
  show IntKind.u64.wrap (((BitVec.ofInt 64 (x : Int) ||| BitVec.ofInt 64 (y : Int)).toNat : Nat) : Int) = _
  have e1 : BitVec.ofInt 64 (x : Int) = BitVec.ofNat 64 x := by simp
  have e2 : BitVec.ofInt 64 (y : Int) = BitVec.ofNat 64 y := by simp
  rw [e1, e2, BitVec.toNat_or, BitVec.toNat_ofNat, BitVec.toNat_ofNat, Nat.mod_eq_of_lt hx, Nat.mod_eq_of_lt hy]
  exact u64_wrap_nat _ (Nat.or_lt_two_pow hx hy)
theorem or_plus (n b i : Nat) (h : n < 2 ^ i) : n ||| b * 2 ^ i = n + b * 2 ^ i := by
  have := Nat.two_pow_add_eq_or_of_lt h b
  rw [Nat.mul_comm b, Nat.or_comm, ← this, Nat.add_comm]
theorem bits_andNot_128 : ∀ b : Fin 256, 128 ≤ b.val → bits .andNot .u64 ((b.val : Nat) : Int) 128 = ((b.val - 128 : Nat) : Int) := by decide +kernel
/-- The byte at a place. -/
def byteAt (s : ByteArray) (i : Nat) : Nat := if h : i < s.size then (s[i]).toNat else 0
theorem byteAt_lt (s : ByteArray) (i : Nat) : byteAt s i < 256 := by
  unfold byteAt
  split
  · exact UInt8.toNat_lt _
  · omega
def uvG (s : ByteArray) (p : Nat) : Nat → Nat → Nat → Nat × Nat × Int
  | 0, _, _ => (0, 0, 4)
  | f + 1, i, n => if p + i = s.size then (0, 0, 8) else if i = 9 ∧ 1 < byteAt s (p + i) then (0, 0, 4) else if byteAt s (p + i) < 128 then (n + byteAt s (p + i) * 2 ^ (7 * i), p + i + 1, 0) else uvG s p f (i + 1) (n + (byteAt s (p + i) - 128) * 2 ^ (7 * i))
/-- The varint at a place: the number, where it ends, the error. -/
def uvar (s : ByteArray) (p : Nat) : Nat × Nat × Int := uvG s p 10 0 0
theorem uvG_bound (s : ByteArray) (p : Nat) : ∀ (f i n : Nat), p + i ≤ s.size → n < 2 ^ (7 * i) → i + f = 10 → (uvG s p f i n).1 < 2 ^ 64 ∧ (uvG s p f i n).2.1 ≤ s.size ∧ ((uvG s p f i n).2.2 = 0 ∨ (uvG s p f i n).2.2 = 4 ∨ (uvG s p f i n).2.2 = 8)
  | 0, i, n, _, _, _ => ⟨by show 0 < 2 ^ 64; omega, Nat.zero_le _, .inr (.inl rfl)⟩
  | f + 1, i, n, h, hn, hi => by
    unfold uvG
    by_cases h1 : p + i = s.size
    · rw [if_pos h1]; exact ⟨by show 0 < 2 ^ 64; omega, Nat.zero_le _, .inr (.inr rfl)⟩
    · rw [if_neg h1]
      by_cases h2 : i = 9 ∧ 1 < byteAt s (p + i)
      · rw [if_pos h2]; exact ⟨by show 0 < 2 ^ 64; omega, Nat.zero_le _, .inr (.inl rfl)⟩
      · rw [if_neg h2]
        have hp : 2 ^ (7 * (i + 1)) = 2 ^ (7 * i) * 128 := by rw [Nat.mul_add, Nat.pow_add]
        by_cases h3 : byteAt s (p + i) < 128
        · rw [if_pos h3]
          refine ⟨?_, by show p + i + 1 ≤ _; omega, .inl rfl⟩
          show n + byteAt s (p + i) * 2 ^ (7 * i) < 2 ^ 64
          by_cases h9 : i = 9
          · subst h9
            have hb1 : byteAt s (p + 9) ≤ 1 := by omega
            have hc : byteAt s (p + 9) * 2 ^ (7 * 9) ≤ 1 * 2 ^ (7 * 9) := Nat.mul_le_mul_right _ hb1
            have e63 : 2 ^ (7 * 9) = 9223372036854775808 := by decide
            rw [e63] at hc hn ⊢
            omega
          · have hb1 : byteAt s (p + i) ≤ 127 := by omega
            have hc : byteAt s (p + i) * 2 ^ (7 * i) ≤ 127 * 2 ^ (7 * i) := Nat.mul_le_mul_right _ hb1
            have hle : 2 ^ (7 * (i + 1)) ≤ 2 ^ 63 := Nat.pow_le_pow_right (by omega) (by omega)
            have e63 : (2 : Nat) ^ 63 = 9223372036854775808 := by decide
            omega
        · rw [if_neg h3]
          refine uvG_bound s p f (i + 1) _ (by omega) ?_ (by omega)
          have hb := byteAt_lt s (p + i)
          have hc : (byteAt s (p + i) - 128) * 2 ^ (7 * i) ≤ 127 * 2 ^ (7 * i) := Nat.mul_le_mul_right _ (by omega)
          rw [hp]
          omega
theorem uvar_bound {s : ByteArray} {p : Nat} (h : p ≤ s.size) : (uvar s p).1 < 2 ^ 64 ∧ (uvar s p).2.1 ≤ s.size ∧ ((uvar s p).2.2 = 0 ∨ (uvar s p).2.2 = 4 ∨ (uvar s p).2.2 = 8) := uvG_bound s p 10 0 0 (by omega) (by decide) rfl
set_option maxHeartbeats 4000000 in
set_option maxRecDepth 100000 in
theorem uv_calls (s : ByteArray) (p : Nat) (w : World) (h : p ≤ s.size) (hs : s.size ≤ 140737488355328) : Calls Try.prog 88 #[.string s, .int .i64 p] w fun e w' => e = .returned (.tuple #[.int .u64 (uvar s p).1, .int .i64 (uvar s p).2.1, .int .i64 (uvar s p).2.2]) ∧ w = w' := by
  obtain ⟨R, hR⟩ : ∃ R, uvar s p = R := ⟨_, rfl⟩
  have HR := Aside.mk hR
  rw [hR]
  have d0 : decide (s.size < p) = false := by simp; omega
  have d1 : decide ((p : Int) < 0) = false := by simp
  clear hR
  go_enter Try.func88, Try.ntmps88
  go_wp2_with fail
  go_step3
  go_wp2_with fail
  go_step3
  go_wp2_with fail
  go_loop [4, 7] (fun v4 v7 => ∃ (i n : Nat), i ≤ 9 ∧ p + i ≤ s.size ∧ v4 = .int .u64 n ∧ v7 = .int .i64 i ∧ Aside (n < 2 ^ (7 * i) ∧ R = uvG s p (10 - i) i n)) (fun _ v7 => 10 - (intOf v7).toNat)
  case atStart => exact ⟨0, 0, by omega, by omega, rfl, rfl, ⟨by decide, HR.out.symm⟩⟩
  case round =>
    obtain ⟨i, n, hi, hn, rfl, rfl, HI⟩ := hrel
    have hf : 10 - i = (9 - i) + 1 := by omega
    have hun : R = if p + i = s.size then (0, 0, 8) else if i = 9 ∧ 1 < byteAt s (p + i) then (0, 0, 4) else if byteAt s (p + i) < 128 then (n + byteAt s (p + i) * 2 ^ (7 * i), p + i + 1, 0) else uvG s p (9 - i) (i + 1) (n + (byteAt s (p + i) - 128) * 2 ^ (7 * i)) := by rw [HI.out.2, hf]; rfl
    have HUN := Aside.mk hun
    clear hf hun
    by_cases hlt : p + i < s.size
    · have hne : ((p : Int) + i == (s.size : Int)) = false := by rw [beq_eq_false_iff_ne]; omega
      obtain ⟨b, hb⟩ : ∃ b : UInt8, s[p + i] = b := ⟨_, rfl⟩
      have hb256 : b.toNat < 256 := UInt8.toNat_lt b
      have hba : byteAt s (p + i) = b.toNat := by unfold byteAt; rw [dif_pos hlt, hb]
      have hun := HUN.out
      rw [if_neg (by omega), hba] at hun
      have HU := Aside.mk hun
      have hwb : IntKind.u64.wrap ((b.toNat : Nat) : Int) = b.toNat := u64_wrap_nat _ (by omega)
      obtain ⟨B, hB⟩ : ∃ B : Nat, b.toNat = B := ⟨_, rfl⟩
      have HB0 := Aside.mk (And.intro hB (And.intro hb hba))
      rw [hB] at hwb hb256
      rw [hB] at HU
      clear hun HUN hba
      by_cases h9 : i = 9 ∧ 1 < B
      · obtain ⟨rfl, h1⟩ := h9
        have HE : Aside (R = (0, 0, 4)) := ⟨by rw [HU.out, if_pos ⟨rfl, h1⟩]⟩
        go_wp2_with fail
        try rw [Exit.noGoto_ret]
        go_ret3
        exact ⟨by rw [HE.out]; rfl, rfl⟩
      · have hbit : Aside (i ≤ 9 ∧ (i = 9 → B ≤ 1)) := ⟨hi, fun e => by omega⟩
        by_cases h128 : B < 128
        · have hor : bits BinOp.or IntKind.u64 (n : Int) (IntKind.u64.wrap ((B : Int) * 2 ^ (7 * i))) = ((n + B * 2 ^ (7 * i) : Nat) : Int) := by
            have e1 : ((B : Int) * 2 ^ (7 * i)) = ((B * 2 ^ (7 * i) : Nat) : Int) := by rw [Int.natCast_mul, Int.natCast_pow]; rfl
            have hlt64 : B * 2 ^ (7 * i) < 2 ^ 64 := by
              by_cases h9' : i = 9
              · subst h9'
                have hb1 : B ≤ 1 := hbit.out.2 rfl
                have hc : B * 2 ^ (7 * 9) ≤ 1 * 2 ^ (7 * 9) := Nat.mul_le_mul_right _ hb1
                have e63 : 2 ^ (7 * 9) = 9223372036854775808 := by decide
                rw [e63] at hc ⊢
                omega
              · have hc : B * 2 ^ (7 * i) ≤ 127 * 2 ^ (7 * i) := Nat.mul_le_mul_right _ (by omega)
                have hp : 2 ^ (7 * (i + 1)) = 2 ^ (7 * i) * 128 := by rw [Nat.mul_add, Nat.pow_add]
                have hle : 2 ^ (7 * (i + 1)) ≤ 2 ^ 63 := Nat.pow_le_pow_right (by omega) (by omega)
                have e63 : (2 : Nat) ^ 63 = 9223372036854775808 := by decide
                omega
            have hn64 : n < 2 ^ 64 := Nat.lt_of_lt_of_le HI.out.1 (Nat.pow_le_pow_right (by omega) (by omega))
            rw [e1, u64_wrap_nat _ hlt64, bits_or_nat _ _ hn64 hlt64, or_plus _ _ _ HI.out.1]
          have HE : Aside (R = (n + B * 2 ^ (7 * i), p + i + 1, 0)) := ⟨by rw [HU.out, if_neg h9, if_pos h128]⟩
          have d9 : decide (1 < (B : Int)) = decide (1 < B) := by simp; omega
          by_cases hi9 : i = 9
          · subst hi9
            have hb1 : ¬ 1 < B := fun h => h9 ⟨rfl, h⟩
            have hor9 : bits BinOp.or IntKind.u64 (n : Int) ((B : Int) * 9223372036854775808) = ((n + B * 2 ^ (7 * 9) : Nat) : Int) := by
              rw [← hor, show (2 : Int) ^ (7 * 9) = 9223372036854775808 by decide]
              congr 1
              have := u64_wrap_nat (B * 9223372036854775808) (by omega)
              rw [Int.natCast_mul] at this
              exact this.symm
            clear hor
            go_wp2_with fail
            try rw [Exit.noGoto_ret]
            go_ret3
            exact ⟨by rw [HE.out]; first | (simp [hor9]; done) | (simp [hor9]; omega), rfl⟩
          · have hi9' : ((i : Int) == 9) = false := by rw [beq_eq_false_iff_ne]; omega
            go_wp2_with fail
            try rw [Exit.noGoto_ret]
            go_ret3
            exact ⟨by rw [HE.out]; simp [hor], rfl⟩
        · have hi8 : i ≤ 8 := by
            rcases Nat.lt_or_ge i 9 with q | q
            · omega
            · exact absurd ⟨by omega, by omega⟩ h9
          have hi9' : ((i : Int) == 9) = false := by rw [beq_eq_false_iff_ne]; omega
          obtain ⟨C, hC⟩ : ∃ C : Nat, B - 128 = C := ⟨_, rfl⟩
          have han : bits BinOp.andNot IntKind.u64 (B : Int) 128 = (C : Int) := by
            have := bits_andNot_128 ⟨B, hb256⟩ (by show 128 ≤ B; omega)
            rw [← hC]
            exact this
          have hC1 : C ≤ 127 := by omega
          have hc : C * 2 ^ (7 * i) ≤ 127 * 2 ^ (7 * i) := Nat.mul_le_mul_right _ hC1
          have hp : 2 ^ (7 * (i + 1)) = 2 ^ (7 * i) * 128 := by rw [Nat.mul_add, Nat.pow_add]
          have hle : 2 ^ (7 * (i + 1)) ≤ 2 ^ 63 := Nat.pow_le_pow_right (by omega) (by omega)
          have e63 : (2 : Nat) ^ 63 = 9223372036854775808 := by decide
          have hn' := HI.out.1
          have hor : bits BinOp.or IntKind.u64 (n : Int) (IntKind.u64.wrap ((C : Int) * 2 ^ (7 * i))) = ((n + C * 2 ^ (7 * i) : Nat) : Int) := by
            have e1 : ((C : Int) * 2 ^ (7 * i)) = ((C * 2 ^ (7 * i) : Nat) : Int) := by rw [Int.natCast_mul, Int.natCast_pow]; rfl
            rw [e1, u64_wrap_nat _ (by omega), bits_or_nat _ _ (by omega) (by omega), or_plus _ _ _ HI.out.1]
          have HZ : Aside (n + C * 2 ^ (7 * i) < 2 ^ (7 * (i + 1)) ∧ R = uvG s p (10 - (i + 1)) (i + 1) (n + C * 2 ^ (7 * i))) := ⟨by omega, by rw [HU.out, if_neg h9, if_neg h128, hC, show 10 - (i + 1) = 9 - i by omega]⟩
          have hpi : p + (i + 1) ≤ s.size := by omega
          obtain ⟨N, hN⟩ : ∃ N, n + C * 2 ^ (7 * i) = N := ⟨_, rfl⟩
          rw [hN] at hor HZ
          clear hc hp hle e63 hn' hC hC1 hN h9
          go_wp2_with fail
          go_round
          case rel => exact ⟨i + 1, N, by omega, hpi, by first | rfl | rw [hor], by go_num, HZ⟩
          case measure => simp [intOf]; omega
    · obtain hq : p + i = s.size := by omega
      have HE : Aside (R = (0, 0, 8)) := ⟨by rw [HUN.out, if_pos hq]⟩
      have heq : ((p : Int) + i == (s.size : Int)) = true := by rw [beq_iff_eq]; omega
      go_wp2_with fail
      try rw [Exit.noGoto_ret]
      go_ret3
      exact ⟨by rw [HE.out]; rfl, rfl⟩
end Go.Proofs.Ytagkobpbhfkmdaa.C
