/- AluShifts: a shift to the left is a product with a power of 2, one to the right its quotient; shifts see six bits of b alone; to the right with the sign is the quotient cut downwards. -/
import Derived.Test.YtdlhapjlpkadnaaDoesK
import Derived.Test.YtdlhapjlpkadnaaRefHigh
set_option linter.unusedVariables false
namespace Go.Proofs.Ytdlhapjlpkadnaa
open Go.RowKit
theorem pow_rng (n : Nat) (h : n < 64) : 1 ≤ (2 : Int) ^ n ∧ (2 : Int) ^ n ≤ 9223372036854775808 := by
  have h1 : 1 ≤ 2 ^ n := Nat.one_le_two_pow
  have h2 : 2 ^ n ≤ 2 ^ 63 := Nat.pow_le_pow_right (by decide) (by omega)
  have h3 : (2 : Nat) ^ 63 = 9223372036854775808 := by decide
  rw [h3] at h2
  have e : (2 : Int) ^ n = ((2 ^ n : Nat) : Int) := by simp
  rw [e]
  generalize 2 ^ n = x at *
  omega
theorem flip_div (y T : Int) (hT : 0 < T) : (-1 - y) / T = -1 - y / T := by
  have h := Int.mul_ediv_add_emod y T
  have r0 := Int.emod_nonneg y (by omega : T ≠ 0)
  have r1 := Int.emod_lt_of_pos y hT
  have e : -1 - y = (T - 1 - y % T) + (-1 - y / T) * T := by
    rw [Int.sub_mul, Int.mul_comm (y / T) T]; omega
  rw [e, Int.add_mul_ediv_right _ _ (by omega), Int.ediv_eq_zero_of_lt (by omega) (by omega)]
  omega
set_option maxHeartbeats 1000000 in
theorem law_shifts (a b : Int) (ha0 : 0 ≤ a) (ha1 : a ≤ 18446744073709551615) (hb0 : 0 ≤ b) (hb1 : b ≤ 18446744073709551615) (w : World) :
    Calls Try.prog 9 #[.int .u64 a, .int .u64 b] w fun e w' => e = .returned (.bool true) ∧ Below w.heap.size w w' := by
  have HA := Lib.hid (show Word a from ⟨ha0, ha1⟩)
  have HB := Lib.hid (show Word b from ⟨hb0, hb1⟩)
  have hand := bits_and63 b hb0 hb1
  have HN := Lib.hid (show Word (b % 64) by unfold Word; omega)
  have h0 : 0 ≤ b % 64 := by omega
  have P := pow_rng (b % 64).toNat (by omega)
  have hsg : IntKind.u64.signed = false := rfl
  have enot := not_law a ⟨ha0, ha1⟩
  have same : doV 7 a (b % 64) = doV 7 a b := by show wrap64 a / 2 ^ (b % 64 % 64).toNat % 18446744073709551616 = wrap64 a / 2 ^ (b % 64).toNat % 18446744073709551616; rw [show b % 64 % 64 = b % 64 by omega]
  have SAME := Lib.hid same
  have T5 := Lib.hid (show doV 5 a b = a * 2 ^ (b % 64).toNat % 18446744073709551616 from rfl)
  have T6 := Lib.hid (show doV 6 a b = a / 2 ^ (b % 64).toNat from rfl)
  have T7 := Lib.hid (show doV 7 a b = wrap64 a / 2 ^ (b % 64).toNat % 18446744073709551616 from rfl)
  have T6' : doV 6 (18446744073709551615 - a) (b % 64) = (18446744073709551615 - a) / 2 ^ (b % 64).toNat := by show (18446744073709551615 - a) / 2 ^ (b % 64 % 64).toNat = _; rw [show b % 64 % 64 = b % 64 by omega]
  have T6N := Lib.hid T6'
  clear same T6'
  generalize hT : (2 : Int) ^ (b % 64).toNat = T at *
  have HT := Lib.hid hT
  clear hT
  have PW := Lib.hid (show Word T by unfold Word; omega)
  have wT : IntKind.u64.wrap T = T := by rw [wrap_u64]; omega
  have WT := Lib.hid wT
  clear wT
  have sh : 2 ^ (b % 64).toNat = T := HT.out
  by_cases hs : a < 9223372036854775808
  · have top : (a / 9223372036854775808 == 0) = true := by rw [beq_iff_eq]; omega
    have ar : wrap64 a / T % 18446744073709551616 = a / T := by
      rw [wrap64_low a ha0 hs]
      have q0 : 0 ≤ a / T := Int.ediv_nonneg ha0 (by omega)
      have q1 : a / T ≤ a := Int.ediv_le_self _ ha0
      omega
    have AR := Lib.hid ar
    clear ar hs
    go_enter Try.func9, Try.ntmps9
    go_wp2_with fail
    refine (does_5 a b HA.out HB.out _).mono ?_
    rintro e w1 ⟨rfl, k1⟩
    go_wp2_with fail
    refine (does_6 a b HA.out HB.out _).mono ?_
    rintro e w2 ⟨rfl, k2⟩
    go_wp2_with fail
    refine (does_7 a b HA.out HB.out _).mono ?_
    rintro e w3 ⟨rfl, k3⟩
    go_wp2_with fail
    refine (does_7 a (b % 64) HA.out HN.out _).mono ?_
    rintro e w4 ⟨rfl, k4⟩
    rw [SAME.out, T7.out, T5.out, T6.out, AR.out]
    go_wp2_with fail
    refine (does_10 a T HA.out PW.out _).mono ?_
    rintro e w5 ⟨rfl, k5⟩
    rw [show doV 10 a T = a * T % 18446744073709551616 from rfl]
    go_wp2_with fail
    refine (does_16 a T HA.out PW.out _).mono ?_
    rintro e w6 ⟨rfl, k6⟩
    rw [show doV 16 a T = a / T from if_neg (by have := P.1; omega)]
    go_wp2_with fail
    go_ret
    have s1 := k1.size
    have s2 := k2.size
    have s3 := k3.size
    have s4 := k4.size
    have s5 := k5.size
    exact ⟨ret_bool (by simp), (((((k1.trans (k2.mono (by omega))).trans (k3.mono (by omega))).trans (k4.mono (by omega))).trans (k5.mono (by omega))).trans (k6.mono (by omega)))⟩
  · have top : (a / 9223372036854775808 == 0) = false := by rw [beq_eq_false_iff_ne]; omega
    have ar : wrap64 a / T % 18446744073709551616 = 18446744073709551615 - (18446744073709551615 - a) / T := by
      rw [wrap64_high a (by omega) ha1, show a - 18446744073709551616 = -1 - (18446744073709551615 - a) by omega, flip_div _ T (by have := P.1; omega)]
      have q0 : 0 ≤ (18446744073709551615 - a) / T := Int.ediv_nonneg (by omega) (by omega)
      have q1 : (18446744073709551615 - a) / T ≤ 18446744073709551615 - a := Int.ediv_le_self _ (by omega)
      omega
    have wq : Word ((18446744073709551615 - a) / T) := by
      have q0 : 0 ≤ (18446744073709551615 - a) / T := Int.ediv_nonneg (by omega) (by omega)
      have q1 : (18446744073709551615 - a) / T ≤ 18446744073709551615 - a := Int.ediv_le_self _ (by omega)
      unfold Word; omega
    have enot2 := not_law _ wq
    have AR := Lib.hid ar
    have WA := Lib.hid (show Word (18446744073709551615 - a) by unfold Word; omega)
    clear ar hs wq
    generalize (18446744073709551615 - a) / T = nq at *
    go_enter Try.func9, Try.ntmps9
    go_wp2_with fail
    refine (does_5 a b HA.out HB.out _).mono ?_
    rintro e w1 ⟨rfl, k1⟩
    go_wp2_with fail
    refine (does_6 a b HA.out HB.out _).mono ?_
    rintro e w2 ⟨rfl, k2⟩
    go_wp2_with fail
    refine (does_7 a b HA.out HB.out _).mono ?_
    rintro e w3 ⟨rfl, k3⟩
    go_wp2_with fail
    refine (does_7 a (b % 64) HA.out HN.out _).mono ?_
    rintro e w4 ⟨rfl, k4⟩
    rw [SAME.out, T7.out, T5.out, T6.out, AR.out]
    go_wp2_with fail
    refine (does_10 a T HA.out PW.out _).mono ?_
    rintro e w5 ⟨rfl, k5⟩
    rw [show doV 10 a T = a * T % 18446744073709551616 from rfl]
    go_wp2_with fail
    refine (does_16 a T HA.out PW.out _).mono ?_
    rintro e w6 ⟨rfl, k6⟩
    rw [show doV 16 a T = a / T from if_neg (by have := P.1; omega)]
    go_wp2_with fail
    refine (does_6 _ (b % 64) WA.out HN.out _).mono ?_
    rintro e w7 ⟨rfl, k7⟩
    rw [T6N.out]
    go_wp2_with fail
    have s6 := k6.size
    go_ret
    have s1 := k1.size
    have s2 := k2.size
    have s3 := k3.size
    have s4 := k4.size
    have s5 := k5.size
    exact ⟨ret_bool (by simp), (((((k1.trans (k2.mono (by omega))).trans (k3.mono (by omega))).trans (k4.mono (by omega))).trans (k5.mono (by omega))).trans (k6.mono (by omega))).trans (k7.mono (by omega))⟩
end Go.Proofs.Ytdlhapjlpkadnaa
