/- AluHigh: the three upper halves of a product are one another's, and with the low half they are the whole product, by halves as at school. -/
import Derived.Test.YtdlhapjlpkadnaaDoesK
set_option linter.unusedVariables false
namespace Go.Proofs.Ytdlhapjlpkadnaa
open Go.RowKit
theorem hiS_key (a b : Int) (sa sb : Bool) (ha : Word a) (hb : Word b) : hiS sa sb a b = (a * b / 18446744073709551616 - (if sa = true ∧ wrap64 a < 0 then b else 0) - (if sb = true ∧ wrap64 b < 0 then a else 0)) % 18446744073709551616 := by
  unfold hiS
  have wa : wrap64 a = if wrap64 a < 0 then a - 18446744073709551616 else a := by have := ha.1; have := ha.2; unfold wrap64; split <;> omega
  have wb : wrap64 b = if wrap64 b < 0 then b - 18446744073709551616 else b := by have := hb.1; have := hb.2; unfold wrap64; split <;> omega
  generalize wrap64 a = x at *; generalize wrap64 b = y at *
  cases sa <;> cases sb <;> simp only [Bool.false_eq_true, if_true, if_false, true_and, false_and]
  · simp
  · by_cases h : y < 0
    · rw [if_pos h] at wb ⊢
      rw [wb, Int.mul_sub, hiS_add]; simp
    · rw [if_neg h] at wb ⊢
      rw [wb]; simp
  · by_cases h : x < 0
    · rw [if_pos h] at wa ⊢
      rw [wa, Int.mul_comm, Int.mul_sub, hiS_add, Int.mul_comm b a]; simp
    · rw [if_neg h] at wa ⊢
      rw [wa]; simp
  · by_cases h : x < 0 <;> by_cases h' : y < 0
    · rw [if_pos h] at wa ⊢; rw [if_pos h'] at wb ⊢
      have e : x * y = a * b - (a + b - 18446744073709551616) * 18446744073709551616 := by
        rw [wa, wb, Int.mul_sub, Int.sub_mul, Int.sub_mul, Int.sub_mul, Int.add_mul, Int.mul_comm 18446744073709551616 b]; omega
      rw [e, hiS_add]
      generalize a * b / 18446744073709551616 = z
      omega
    · rw [if_pos h] at wa ⊢; rw [if_neg h'] at wb ⊢
      rw [wa, wb, Int.mul_comm, Int.mul_sub, hiS_add, Int.mul_comm b a]; simp
    · rw [if_neg h] at wa ⊢; rw [if_pos h'] at wb ⊢
      rw [wa, wb, Int.mul_sub, hiS_add]; simp
    · rw [if_neg h] at wa ⊢; rw [if_neg h'] at wb ⊢
      rw [wa, wb]; simp

theorem top_bit (a : Int) (ha : Word a) : a / 9223372036854775808 = if wrap64 a < 0 then 1 else 0 := by
  obtain ⟨a0, a1⟩ := ha
  unfold wrap64; split <;> omega
theorem high_mixed (a b : Int) (ha : Word a) (hb : Word b) (uu : Int) (h : a * b / 18446744073709551616 = uu) : doV 13 a b = IntKind.u64.wrap (uu - IntKind.u64.wrap (b * (a / 9223372036854775808))) := by
  show hiS true false a b = _
  rw [hiS_key a b true false ha hb, h, top_bit a ha]
  obtain ⟨b0, b1⟩ := hb
  by_cases h1 : wrap64 a < 0 <;> simp [h1, wrap_u64] <;> omega
theorem high_both (a b : Int) (ha : Word a) (hb : Word b) (uu : Int) (h : a * b / 18446744073709551616 = uu) : doV 11 a b = IntKind.u64.wrap (IntKind.u64.wrap (uu - IntKind.u64.wrap (b * (a / 9223372036854775808))) - IntKind.u64.wrap (a * (b / 9223372036854775808))) := by
  show hiS true true a b = _
  rw [hiS_key a b true true ha hb, h, top_bit a ha, top_bit b hb]
  obtain ⟨a0, a1⟩ := ha; obtain ⟨b0, b1⟩ := hb
  by_cases h1 : wrap64 a < 0 <;> by_cases h2 : wrap64 b < 0 <;> simp [h1, h2, wrap_u64] <;> omega
theorem high_plain (a b : Int) (ha : Word a) (hb : Word b) : doV 12 a b = a * b / 18446744073709551616 := by
  show hiS false false a b = _
  have h0 : 0 ≤ a * b := Int.mul_nonneg ha.1 hb.1
  have h1 : a * b ≤ 18446744073709551615 * 18446744073709551615 := Int.mul_le_mul ha.2 hb.2 hb.1 (by omega)
  show a * b / 18446744073709551616 % 18446744073709551616 = _
  omega
set_option maxHeartbeats 1000000 in
theorem law_high (a b : Int) (ha0 : 0 ≤ a) (ha1 : a ≤ 18446744073709551615) (hb0 : 0 ≤ b) (hb1 : b ≤ 18446744073709551615) (w : World) :
    Calls Try.prog 8 #[.int .u64 a, .int .u64 b] w fun e w' => e = .returned (.bool true) ∧ Below w.heap.size w w' := by
  have HA := Lib.hid (show Word a from ⟨ha0, ha1⟩)
  have HB := Lib.hid (show Word b from ⟨hb0, hb1⟩)
  have ea := andlow a ha0 ha1
  have eb := andlow b hb0 hb1
  have elow : (a * b % 18446744073709551616 != IntKind.u64.wrap (a * b)) = false := by rw [wrap_u64]; simp
  go_enter Try.func8, Try.ntmps8
  go_wp2_with fail
  refine (does_10 a b HA.out HB.out _).mono ?_
  rintro e w1 ⟨rfl, k1⟩
  rw [show doV 10 a b = a * b % 18446744073709551616 from rfl]
  go_wp2_with fail
  refine (does_12 a b HA.out HB.out _).mono ?_
  rintro e w2 ⟨rfl, k2⟩
  rw [high_plain a b HA.out HB.out]
  go_wp2_with fail
  refine (does_11 a b HA.out HB.out _).mono ?_
  rintro e w3 ⟨rfl, k3⟩
  rw [high_both a b HA.out HB.out _ rfl]
  go_wp2_with fail
  refine (does_13 a b HA.out HB.out _).mono ?_
  rintro e w4 ⟨rfl, k4⟩
  rw [high_mixed a b HA.out HB.out _ rfl]
  go_wp2_with fail
  refine (mul16_any a b HA.out HB.out _).mono ?_
  rintro e w5 ⟨rfl, k5⟩
  generalize hu : a * b / 18446744073709551616 = uu
  have HU := Lib.hid hu
  clear hu
  go_wp2_with fail
  go_ret
  have s1 := k1.size
  have s2 := k2.size
  have s3 := k3.size
  have s4 := k4.size
  have s5 := k5.size
  refine ⟨ret_bool ?_, ((((k1.trans (k2.mono (by omega))).trans (k3.mono (by omega))).trans (k4.mono (by omega))).trans (k5.mono (by omega))).alloc (by omega) _⟩
  clear k1 k2 k3 k4 k5 s1 s2 s3 s4 s5
  rw [beq_iff_eq, ← HU.out, school a b]
  have al : Half (a % 4294967296) := by unfold Half; omega
  have bl : Half (b % 4294967296) := by unfold Half; omega
  have ah : Half (a / 4294967296) := by unfold Half; omega
  have bh : Half (b / 4294967296) := by unfold Half; omega
  obtain ⟨p0, p1⟩ := half_prod al bl
  obtain ⟨q0, q1⟩ := half_prod ah bl
  obtain ⟨r0, r1⟩ := half_prod al bh
  obtain ⟨s0, s1⟩ := half_prod ah bh
  generalize a / 4294967296 * (b / 4294967296) = S at *
  generalize a % 4294967296 * (b / 4294967296) = R at *
  generalize a / 4294967296 * (b % 4294967296) = Q at *
  generalize a % 4294967296 * (b % 4294967296) = P at *
  clear HU HA HB elow ea eb al bl ah bh ha0 ha1 hb0 hb1
  have wq : IntKind.u64.wrap Q = Q := by rw [wrap_u64]; omega
  have wr : IntKind.u64.wrap R = R := by rw [wrap_u64]; omega
  have wp : IntKind.u64.wrap P = P := by rw [wrap_u64]; omega
  have wsS : IntKind.u64.wrap S = S := by rw [wrap_u64]; omega
  rw [wq, wr, wp, wsS, andlow Q q0 (by omega), andlow R r0 (by omega)]
  simp only [wrap_u64]
  omega
end Go.Proofs.Ytdlhapjlpkadnaa
