/- Numbers out of bytes, bytes out of numbers. Plain. By an AI agent. -/
import Derived.Test.YtdklggmeigogcaaDoorBytes
import Derived.Laws.BitsAllLaws
set_option linter.unusedVariables false
set_option linter.unusedSimpArgs false
namespace Go.Proofs.YtdklggmeigogcaaDoor
open Go.RowKit
/-- The number that k bytes are, the low one first. -/
def vsum (X : Nat → Nat) : Nat → Nat
  | 0 => 0
  | k + 1 => vsum X k + X k * 256 ^ k
theorem vsum_lt (X : Nat → Nat) (hX : ∀ i, X i < 256) : ∀ k, vsum X k < 256 ^ k
  | 0 => by simp [vsum]
  | k + 1 => by
    have h := vsum_lt X hX k
    have h2 : X k * 256 ^ k ≤ 255 * 256 ^ k := Nat.mul_le_mul_right _ (by have := hX k; omega)
    have e : 256 ^ (k + 1) = 256 ^ k * 256 := Nat.pow_succ ..
    simp only [vsum]
    omega
theorem vsum_low (X : Nat → Nat) : ∀ k, vsum X (k + 1) = vsum (fun i => X (i + 1)) k * 256 + X 0
  | 0 => by simp [vsum]
  | k + 1 => by
    have h := vsum_low X k
    have e : 256 ^ (k + 1) = 256 ^ k * 256 := Nat.pow_succ ..
    rw [vsum, h, vsum, e, Nat.add_mul, Nat.mul_assoc]
    omega
theorem vsum_congr {X Y : Nat → Nat} : ∀ k, (∀ i, i < k → X i = Y i) → vsum X k = vsum Y k
  | 0, _ => rfl
  | k + 1, h => by rw [vsum, vsum, vsum_congr k (fun i hi => h i (by omega)), h k (by omega)]
theorem pow_le8 (j : Nat) (h : j ≤ 8) : 256 ^ j ≤ 18446744073709551616 := by
  have := Nat.pow_le_pow_right (n := 256) (by decide) h
  simpa using this
theorem pow_28 (j : Nat) : 2 ^ (8 * j) = 256 ^ j := by rw [Nat.pow_mul]
theorem pow_28i (j : Nat) : (2 : Int) ^ (8 * j) = ((256 ^ j : Nat) : Int) := by rw [← pow_28]; simp
theorem or_step (V x j : Nat) (hj : j < 8) (hV : V < 256 ^ j) (hx : x < 256) :
    bits .or .u64 (V : Int) (IntKind.u64.wrap (IntKind.u64.wrap (x : Int) * 2 ^ (8 * j))) = ((V + x * 256 ^ j : Nat) : Int) := by
  have e1 : IntKind.u64.wrap (x : Int) = x := by rw [IntKind.wrap_u64]; omega
  have h8 := pow_le8 (j + 1) (by omega)
  have e : 256 ^ (j + 1) = 256 ^ j * 256 := Nat.pow_succ ..
  have hx2 : x * 256 ^ j ≤ 255 * 256 ^ j := Nat.mul_le_mul_right _ (by omega)
  have hlt : x * 256 ^ j < 18446744073709551616 := by omega
  have e2 : IntKind.u64.wrap ((x : Int) * 2 ^ (8 * j)) = ((x * 256 ^ j : Nat) : Int) := by
    rw [pow_28i, ← Int.natCast_mul, IntKind.wrap_u64]; omega
  rw [e1, e2, u64_or_nat V (x * 256 ^ j) (by omega) hlt, Nat.or_comm, nat_join (8 * j) (x * 256 ^ j) V ?_ ?_]
  · rw [Nat.add_comm]
  · rw [pow_28]; exact Nat.mul_mod_left _ _
  · rw [pow_28]; exact hV
theorem or_low (V x : Nat) (hV : V < 72057594037927936) (hx : x < 256) : bits .or .u64 (IntKind.u64.wrap ((V : Int) * 256)) (x : Int) = ((V * 256 + x : Nat) : Int) := by
  have e2 : IntKind.u64.wrap ((V : Int) * 256) = ((V * 256 : Nat) : Int) := by rw [IntKind.wrap_u64]; omega
  rw [e2, u64_or_nat (V * 256) x (by omega) (by omega), nat_join 8 (V * 256) x (by omega) (by omega)]
/-- A number's byte. -/
def nb (v i : Nat) : Nat := v / 256 ^ i % 256
def num (v k : Nat) : List Nat := (List.range k).map (nb v)
theorem num_length (v k : Nat) : (num v k).length = k := by simp [num]
theorem nb_lt (v i : Nat) : nb v i < 256 := Nat.mod_lt _ (by decide)
theorem nb_wrap (v j : Nat) : IntKind.u8.wrap ((v : Int) / 2 ^ (8 * j)) = ((nb v j : Nat) : Int) := by
  rw [pow_28i, ← Int.natCast_ediv, IntKind.wrap_u8]; unfold nb; omega
theorem nb_succ (v i : Nat) : nb (v / 256) i = nb v (i + 1) := by
  unfold nb; rw [Nat.div_div_eq_div_mul, Nat.pow_succ, Nat.mul_comm]
theorem vsum_nb (v : Nat) : ∀ k, vsum (nb v) k = v % 256 ^ k
  | 0 => by simp [vsum, Nat.mod_one]
  | k + 1 => by
    rw [vsum, vsum_nb v k, nb, Nat.pow_succ, Nat.mod_mul, Nat.mul_comm (256 ^ k)]
end Go.Proofs.YtdklggmeigogcaaDoor
