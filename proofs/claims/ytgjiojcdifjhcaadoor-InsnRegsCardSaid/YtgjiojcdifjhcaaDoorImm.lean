/- Plain laws of a piece of a number: what lay, bits, signed, part and cut come to. By an AI agent. -/
import Derived.Test.YtgjiojcdifjhcaaDoorBits
import Derived.RowKit
import Derived.Laws.BitsLemmas
set_option linter.unusedVariables false
namespace Go.Proofs.YtgjiojcdifjhcaaDoor
open Go.RowKit
theorem pow_le (n m : Nat) (h : n ≤ m) : (2 : Int) ^ n ≤ 2 ^ m := by exact_mod_cast Nat.pow_le_pow_right (by decide : 0 < 2) h
theorem pow_pos2 (n : Nat) : (0 : Int) < 2 ^ n := Int.pow_pos (by decide)
theorem and_i64 (x : Int) (n : Nat) (hn : n ≤ 62) : bits .and .i64 x (2 ^ n - 1) = x % 2 ^ n := by
  have hp := pow_pos2 n
  have hp2 : (2 : Int) ^ n ≤ 4611686018427387904 := pow_le n 62 hn
  have hd : (18446744073709551616 : Int) = 2 ^ n * 2 ^ (64 - n) := by rw [← Int.pow_add, show n + (64 - n) = 64 by omega]; rfl
  have hm : (BitVec.ofInt 64 (2 ^ n - 1)).toNat = 2 ^ n - 1 := by
    rw [BitVec.toNat_ofInt]
    have : ((2 : Int) ^ n - 1) % ((2 ^ 64 : Nat) : Int) = 2 ^ n - 1 := by
      refine Int.emod_eq_of_lt (by omega) ?_
      show _ < (18446744073709551616 : Int); omega
    rw [this]
    have h1 : (1 : Nat) ≤ 2 ^ n := Nat.one_le_two_pow
    have : ((2 : Int) ^ n - 1) = ((2 ^ n - 1 : Nat) : Int) := by rw [Int.natCast_sub h1]; simp
    rw [this, Int.toNat_natCast]
  have key : (BitVec.ofInt 64 x &&& BitVec.ofInt 64 (2 ^ n - 1)).toNat = (x % ((2 ^ 64 : Nat) : Int)).toNat % 2 ^ n := by
    rw [BitVec.toNat_and, BitVec.toNat_ofInt, hm, Nat.and_two_pow_sub_one_eq_mod]
  show IntKind.i64.wrap ((BitVec.ofInt 64 x &&& BitVec.ofInt 64 (2 ^ n - 1)).toNat : Nat) = x % 2 ^ n
  have e : (((x % ((2 ^ 64 : Nat) : Int)).toNat % 2 ^ n : Nat) : Int) = x % 2 ^ n := by
    have h0 : 0 ≤ x % (18446744073709551616 : Int) := Int.emod_nonneg _ (by decide)
    have hc : ((2 ^ n : Nat) : Int) = 2 ^ n := by simp
    show (((x % (18446744073709551616 : Int)).toNat % 2 ^ n : Nat) : Int) = _
    rw [Int.natCast_emod, Int.toNat_of_nonneg h0, hc, hd, Int.emod_emod_of_dvd _ (Int.dvd_mul_right _ _)]
  have r0 := Int.emod_nonneg x (Int.ne_of_gt hp)
  have r1 := Int.emod_lt_of_pos x hp
  rw [key, e, IntKind.wrap_i64]
  omega
theorem and_u32 (x : Int) (n : Nat) (hn : n ≤ 32) (h0 : 0 ≤ x) (h1 : x < 4294967296) : bits .and .u32 x (2 ^ n - 1) = x % 2 ^ n :=
  bits_mask .u32 32 (by decide) (fun n a b => by rw [IntKind.wrap_u32]; have : (2 : Int) ^ 32 = 4294967296 := rfl; omega) n hn x h0 (by have : (2 : Int) ^ 32 = 4294967296 := rfl; omega)
theorem one_i64 (n : Nat) (hn : n ≤ 40) : IntKind.i64.wrap (1 * 2 ^ n) = 2 ^ n := by
  have hp := pow_pos2 n
  have hp2 : (2 : Int) ^ n ≤ 1099511627776 := pow_le n 40 hn
  rw [Int.one_mul, IntKind.wrap_i64]; omega
theorem one_u32 (n : Nat) (hn : n ≤ 20) : IntKind.u32.wrap (1 * 2 ^ n) = 2 ^ n := by
  have hp := pow_pos2 n
  have hp2 : (2 : Int) ^ n ≤ 1048576 := pow_le n 20 hn
  rw [Int.one_mul, IntKind.wrap_u32]; omega
theorem mod_mul_lt (x : Int) (n l : Nat) (hl : n + l ≤ 32) : 0 ≤ x % 2 ^ n * 2 ^ l ∧ x % 2 ^ n * 2 ^ l < 4294967296 := by
  have r0 := Int.emod_nonneg x (Int.ne_of_gt (pow_pos2 n))
  have r1 := Int.emod_lt_of_pos x (pow_pos2 n)
  have h2 : x % 2 ^ n * 2 ^ l < 2 ^ n * 2 ^ l := Int.mul_lt_mul_of_pos_right r1 (pow_pos2 l)
  have h3 : (2 : Int) ^ n * 2 ^ l ≤ 4294967296 := by rw [← Int.pow_add]; exact pow_le (n + l) 32 hl
  exact ⟨Int.mul_nonneg r0 (Int.le_of_lt (pow_pos2 l)), by omega⟩
/-- v / 2^lo % 2^n is the same of v as 64 bits, as 32 bits. -/
theorem piece_u64 (v : Int) (lo n : Nat) (h : lo + n ≤ 32) : v % 18446744073709551616 / 2 ^ lo % 4294967296 % 2 ^ n = v / 2 ^ lo % 2 ^ n := by
  have d1 : (4294967296 : Int) = 2 ^ n * 2 ^ (32 - n) := by rw [← Int.pow_add, show n + (32 - n) = 32 by omega]; rfl
  have d2 : (18446744073709551616 : Int) = 2 ^ lo * (2 ^ n * 2 ^ (64 - lo - n)) := by rw [← Int.pow_add, ← Int.pow_add, show lo + (n + (64 - lo - n)) = 64 by omega]; rfl
  rw [d1, Int.emod_emod_of_dvd _ (Int.dvd_mul_right _ _), d2]
  have d3 : v % (2 ^ lo * (2 ^ n * 2 ^ (64 - lo - n))) = v - 2 ^ lo * ((2 ^ n * 2 ^ (64 - lo - n)) * (v / (2 ^ lo * (2 ^ n * 2 ^ (64 - lo - n))))) := by rw [Int.emod_def, Int.mul_assoc]
  rw [d3, Int.sub_mul_ediv_left _ _ (Int.ne_of_gt (pow_pos2 lo)), Int.mul_assoc, Int.sub_mul_emod_self_left]
/-- 'or' of a multiple of a power and a number below it, signed words. -/
theorem or_i64 (i : Nat) (x y : Int) (hi : i ≤ 40) (h0 : -4611686018427387904 ≤ x) (h1 : x ≤ 4611686018427387904) (hx : x % 2 ^ i = 0) (h2 : 0 ≤ y) (h3 : y < 2 ^ i) : bits .or .i64 x y = x + y := by
  have hp := pow_pos2 i
  have hp2 : (2 : Int) ^ i ≤ 1099511627776 := pow_le i 40 hi
  have hd : (18446744073709551616 : Int) = 2 ^ i * 2 ^ (64 - i) := by rw [← Int.pow_add, show i + (64 - i) = 64 by omega]; rfl
  obtain ⟨Y, rfl⟩ := Int.eq_ofNat_of_zero_le h2
  obtain ⟨X, hX⟩ := Int.eq_ofNat_of_zero_le (Int.emod_nonneg x (by decide : (18446744073709551616 : Int) ≠ 0))
  have eX : (BitVec.ofInt 64 x).toNat = X := by
    rw [BitVec.toNat_ofInt]; show (x % (18446744073709551616 : Int)).toNat = X; rw [hX, Int.toNat_natCast]
  have eY : (BitVec.ofInt 64 (Y : Int)).toNat = Y := by
    rw [BitVec.toNat_ofInt]; show ((Y : Int) % (18446744073709551616 : Int)).toNat = Y
    rw [Int.emod_eq_of_lt (by omega) (by omega), Int.toNat_natCast]
  have hXm : X % 2 ^ i = 0 := by
    have : ((X : Int)) % 2 ^ i = 0 := by rw [← hX, hd, Int.emod_emod_of_dvd _ (Int.dvd_mul_right _ _)]; exact hx
    exact_mod_cast this
  have hor : X ||| Y = X + Y := by
    have hY : Y < 2 ^ i := by exact_mod_cast h3
    have hq : X = 2 ^ i * (X / 2 ^ i) := by have := Nat.div_add_mod X (2 ^ i); omega
    rw [hq, ← Nat.two_pow_add_eq_or_of_lt hY (X / 2 ^ i)]
  show IntKind.i64.wrap ((BitVec.ofInt 64 x ||| BitVec.ofInt 64 (Y : Int)).toNat : Nat) = x + Y
  rw [BitVec.toNat_or, eX, eY, hor, IntKind.wrap_i64]
  push_cast
  rw [← hX]
  omega
end Go.Proofs.YtgjiojcdifjhcaaDoor
