/- Plain laws of the alu's loops, as the print tells them: long division bit by bit is division, the product bit by bit is the product, a shift to the right bit by bit is a quotient. No condition but that the words are words. -/
import Derived.Test.YtdlhapjlpkadnaaPAluDoesx3
import Derived.Laws.BitsAllLaws
import Derived.Laws.MathBits
import Derived.Lib.Hide
set_option linter.unusedVariables false
namespace Go.Proofs.Ytdlhapjlpkadnaa
open Go.RowKit Go.Proofs.Ytdlhapjlpkadnaa.PAluDoes Go.Proofs.YtdlhapjlpkadnaaW.PrintWords Go.Proofs.YtdlhapjlpkadnaaW.PrintLast Go.Proofs.YtdlhapjlpkadnaaW.PrintMore

theorem wrap_u64 (x : Int) : IntKind.u64.wrap x = x % 18446744073709551616 := IntKind.wrap_u64 x
theorem wraps_u64 (n : Int) (h₀ : 0 ≤ n) (h₁ : n < 2 ^ 64) : IntKind.u64.wrap n = n := by rw [wrap_u64]; omega
theorem and1 (x : Int) (h0 : 0 ≤ x) (h1 : x ≤ 18446744073709551615) : bits .and .u64 x 1 = x % 2 := bits_mask .u64 64 (by decide) wraps_u64 1 (by decide) x h0 (by show _ < (18446744073709551616 : Int); omega)
theorem and63 (x : Int) (h0 : 0 ≤ x) (h1 : x ≤ 18446744073709551615) : bits .and .u64 x 63 = x % 64 := bits_mask .u64 64 (by decide) wraps_u64 6 (by decide) x h0 (by show _ < (18446744073709551616 : Int); omega)
theorem and31 (x : Int) (h0 : 0 ≤ x) (h1 : x ≤ 18446744073709551615) : bits .and .u64 x 31 = x % 32 := bits_mask .u64 64 (by decide) wraps_u64 5 (by decide) x h0 (by show _ < (18446744073709551616 : Int); omega)
theorem andlow (x : Int) (h0 : 0 ≤ x) (h1 : x ≤ 18446744073709551615) : bits .and .u64 x 4294967295 = x % 4294967296 := bits_mask .u64 64 (by decide) wraps_u64 32 (by decide) x h0 (by show _ < (18446744073709551616 : Int); omega)
theorem orJoin (i : Nat) (x y : Int) (h0 : 0 ≤ x) (h1 : x ≤ 18446744073709551615) (h2 : 0 ≤ y) (h3 : y < 2 ^ i) (h4 : x % 2 ^ i = 0) (h5 : y ≤ 18446744073709551615) : bits .or .u64 x y = x + y := by
  rw [u64_or x y h0 (by omega) h2 (by omega)]
  obtain ⟨X, rfl⟩ := Int.eq_ofNat_of_zero_le h0
  obtain ⟨Y, rfl⟩ := Int.eq_ofNat_of_zero_le h2
  simp only [Int.toNat_natCast]
  rw [nat_join i X Y (by exact_mod_cast h4) (by exact_mod_cast h3)]
  omega
theorem or1 (x y : Int) (h0 : 0 ≤ x) (h1 : x ≤ 18446744073709551615) (hx : x % 2 = 0) (h2 : 0 ≤ y) (h3 : y < 2) : bits .or .u64 x y = x + y := orJoin 1 x y h0 h1 h2 (by simpa using h3) (by simpa using hx) (by omega)

theorem shr_nat (x : Int) (i : Nat) (hi : i ≤ 64) : shr .u64 x (IntKind.u64.wrap (i : Int)) = x / 2 ^ i := by
  unfold shr
  rw [wrap_u64, Int.emod_eq_of_lt (by omega) (by omega), Int.toNat_natCast]
  rw [Nat.min_eq_left (by show i ≤ 64; omega)]

/-- One round of the long division. -/
theorem long_round (d r q L : Int) (i k : Nat) (H0 L0 : Int) (hi : i < 64) (hd : 0 < d) (hdm : d ≤ 18446744073709551615) (hr : 0 ≤ r) (hrd : r < d) (hq : 0 ≤ q) (hqm : q * 2 + 1 ≤ 18446744073709551615) (hL : 0 ≤ L) (hLm : L ≤ 18446744073709551615) :
    hartixref2_long.l0 (k + 1) d r q (i : Int) H0 L = if 2 * r + L / 2 ^ i % 2 < d then hartixref2_long.l0 k d (2 * r + L / 2 ^ i % 2) (2 * q) ((i : Int) - 1) H0 L else hartixref2_long.l0 k d (2 * r + L / 2 ^ i % 2 - d) (2 * q + 1) ((i : Int) - 1) H0 L := by
  have hb0 : 0 ≤ L / 2 ^ i := Int.ediv_nonneg hL (Int.le_of_lt (Int.pow_pos (by decide)))
  have hb1 : L / 2 ^ i ≤ 18446744073709551615 := Int.le_trans (Int.ediv_le_self _ hL) hLm
  have hw : wrap64 ((i : Int) - 1) = (i : Int) - 1 := by unfold wrap64; omega
  have hn : (0 : Int) ≤ IntKind.u64.wrap (i : Int) := by rw [wrap_u64]; omega
  simp only [hartixref2_long.l0]
  rw [if_pos (by omega : (i : Int) ≥ 0), if_pos hn, shr_nat L i (by omega), and1 _ hb0 hb1, hw]
  generalize hbit : L / 2 ^ i % 2 = bit
  have b0 : 0 ≤ bit := by omega
  have b1 : bit < 2 := by omega
  have eq2 : bits .or .u64 (IntKind.u64.wrap (q * 2)) 1 = 2 * q + 1 := by
    rw [wrap_u64, or1 _ _ (by omega) (by omega) (by omega) (by omega) (by omega)]; omega
  have eq3 : IntKind.u64.wrap (q * 2) = 2 * q := by rw [wrap_u64]; omega
  have er : bits .or .u64 (IntKind.u64.wrap (r * 2)) bit = (2 * r + bit) % 18446744073709551616 := by
    rw [wrap_u64, or1 _ _ (by omega) (by omega) (by omega) b0 b1]; omega
  rw [er, eq2, eq3]
  by_cases ht : r / 9223372036854775808 = 1
  · rw [if_pos ht, if_neg (by omega)]
    congr 1
    rw [wrap_u64]; omega
  · rw [if_neg ht]
    have e2 : (2 * r + bit) % 18446744073709551616 = 2 * r + bit := by omega
    rw [e2]
    by_cases hc : 2 * r + bit < d
    · rw [if_neg (by omega), if_pos hc]
    · rw [if_pos (by omega), if_neg hc]
      congr 1
      rw [wrap_u64]; omega
theorem pow_pos' (i : Nat) : (0 : Int) < 2 ^ i := Int.pow_pos (by decide)
theorem emod_succ (L : Int) (h : 0 ≤ L) (i : Nat) : L % 2 ^ (i + 1) = (L / 2 ^ i % 2) * 2 ^ i + L % 2 ^ i := by
  obtain ⟨n, rfl⟩ := Int.eq_ofNat_of_zero_le h
  have := Nat.mod_mul (x := n) (a := 2 ^ i) (b := 2)
  rw [← Nat.pow_succ] at this
  have h2 : n % 2 ^ (i + 1) = (n / 2 ^ i % 2) * 2 ^ i + n % 2 ^ i := by rw [this, Nat.mul_comm]; omega
  exact_mod_cast h2
/-- The long division, with i bits to go. -/
theorem long_go (d L H0 : Int) (hd : 0 < d) (hdm : d ≤ 18446744073709551615) (hL : 0 ≤ L) (hLm : L ≤ 18446744073709551615) : ∀ (i : Nat), i ≤ 64 → ∀ (k : Nat) (r q : Int), i < k → 0 ≤ r → r < d → 0 ≤ q → q < 2 ^ (64 - i) →
    hartixref2_long.l0 k d r q ((i : Int) - 1) H0 L = some (q * 2 ^ i + (r * 2 ^ i + L % 2 ^ i) / d, (r * 2 ^ i + L % 2 ^ i) % d) := by
  intro i
  induction i with
  | zero =>
    intro _ k r q hk hr hrd hq hqm
    obtain ⟨k, rfl⟩ : ∃ m, k = m + 1 := ⟨k - 1, by omega⟩
    simp only [hartixref2_long.l0]
    rw [if_neg (by omega)]
    have e1 : r / d = 0 := Int.ediv_eq_zero_of_lt hr hrd
    have e2 : r % d = r := Int.emod_eq_of_lt hr hrd
    simp [e1, e2]
  | succ i ih =>
    intro hi k r q hk hr hrd hq hqm
    obtain ⟨k, rfl⟩ : ∃ m, k = m + 1 := ⟨k - 1, by omega⟩
    have hp : (0 : Int) < 2 ^ i := Int.pow_pos (by decide)
    have h64 : 64 - i = (64 - (i + 1)) + 1 := by omega
    have hq2 : 2 * q + 1 < 2 ^ (64 - i) := by rw [h64, Int.pow_succ]; omega
    have hM : (2 : Int) ^ (64 - i) ≤ 18446744073709551616 := by
      have : (2 : Int) ^ (64 - i) ≤ 2 ^ 64 := by exact_mod_cast Nat.pow_le_pow_right (by decide) (by omega : 64 - i ≤ 64)
      simpa using this
    have e0 : ((i + 1 : Nat) : Int) - 1 = (i : Int) := by omega
    rw [e0, long_round d r q L i k H0 0 (by omega) hd hdm hr hrd hq (by omega) hL hLm]
    rw [emod_succ L hL i, Int.pow_succ]
    have hb0 : 0 ≤ L / 2 ^ i % 2 := by omega
    have hb1 : L / 2 ^ i % 2 < 2 := by omega
    generalize L / 2 ^ i % 2 = bit at *
    by_cases hc : 2 * r + bit < d
    · rw [if_pos hc, ih (by omega) k _ _ (by omega) (by omega) hc (by omega) (by omega)]
      have e1 : (2 * r + bit) * 2 ^ i + L % 2 ^ i = r * (2 ^ i * 2) + (bit * 2 ^ i + L % 2 ^ i) := by
        generalize (2 : Int) ^ i = P; generalize L % P = m
        rw [Int.add_mul, Int.mul_comm 2 r, Int.mul_assoc r 2 P, Int.mul_comm 2 P]; omega
      have e2 : 2 * q * 2 ^ i = q * (2 ^ i * 2) := by rw [Int.mul_comm 2 q, Int.mul_assoc, Int.mul_comm 2]
      rw [e1, e2]
    · rw [if_neg hc, ih (by omega) k _ _ (by omega) (by omega) (by omega) (by omega) hq2]
      have e1 : r * (2 ^ i * 2) + (bit * 2 ^ i + L % 2 ^ i) = ((2 * r + bit - d) * 2 ^ i + L % 2 ^ i) + 2 ^ i * d := by
        generalize (2 : Int) ^ i = P; generalize L % P = m
        rw [Int.sub_mul, Int.add_mul, Int.mul_comm 2 r, Int.mul_assoc r 2 P, Int.mul_comm 2 P, Int.mul_comm d P]; omega
      have e2 : (2 * q + 1) * 2 ^ i = q * (2 ^ i * 2) + 2 ^ i := by rw [Int.add_mul, Int.mul_comm 2 q, Int.mul_assoc, Int.mul_comm 2]; omega
      rw [e1, e2, Int.add_mul_ediv_right _ _ (by omega), Int.add_mul_emod_self_right]
      congr 2
      omega

/-- The document's long division is the division. -/
theorem long_law (H L d : Int) (hd : 0 < d) (hdm : d ≤ 18446744073709551615) (hH : 0 ≤ H) (hHd : H < d) (hL : 0 ≤ L) (hLm : L ≤ 18446744073709551615) :
    hartixref2_long.f 65 H L d = some ((H * 18446744073709551616 + L) / d, (H * 18446744073709551616 + L) % d) := by
  have h := long_go d L H hd hdm hL hLm 64 (Nat.le_refl _) 65 H 0 (by omega) hH hHd (by omega) (by decide)
  have e : L % 2 ^ 64 = L := Int.emod_eq_of_lt hL (by show L < (18446744073709551616 : Int); omega)
  unfold hartixref2_long.f
  have e2 : ((64 : Nat) : Int) - 1 = 63 := rfl
  rw [e2, e] at h
  rw [h]
  congr 2
  simp

/-- 'add' of two wide numbers. -/
theorem add_law (h1 l1 h2 l2 : Int) (a1 : 0 ≤ h1) (a2 : h1 ≤ 18446744073709551615) (b1 : 0 ≤ l1) (b2 : l1 ≤ 18446744073709551615) (c1 : 0 ≤ h2) (c2 : h2 ≤ 18446744073709551615) (d1 : 0 ≤ l2) (d2 : l2 ≤ 18446744073709551615) (V : Int) (hV : V = (h1 * 18446744073709551616 + l1 + (h2 * 18446744073709551616 + l2)) % 340282366920938463463374607431768211456) :
    hartixref2_add.f h1 l1 h2 l2 = some (V / 18446744073709551616, V % 18446744073709551616) := by
  unfold hartixref2_add.f
  simp only [wrap_u64]
  split
  · congr 2 <;> omega
  · congr 2 <;> omega

theorem wrap_next (i : Nat) (h : i < 64) : wrap64 ((i : Int) + 1) = ((i + 1 : Nat) : Int) := by unfold wrap64; omega
theorem wrap_nonneg (i : Nat) : (0 : Int) ≤ IntKind.u64.wrap (i : Int) := by rw [wrap_u64]; omega
theorem hi_rng (p : Int) (h : 0 ≤ p) (h' : p < 340282366920938463463374607431768211456) : 0 ≤ p / 18446744073709551616 ∧ p / 18446744073709551616 ≤ 18446744073709551615 ∧ 0 ≤ p % 18446744073709551616 ∧ p % 18446744073709551616 ≤ 18446744073709551615 := by omega
theorem mod_rng (p : Int) : 0 ≤ p % 340282366920938463463374607431768211456 ∧ p % 340282366920938463463374607431768211456 < 340282366920938463463374607431768211456 := by omega
theorem join_sum (p x : Int) : (p / 18446744073709551616 * 18446744073709551616 + p % 18446744073709551616 + (x / 18446744073709551616 * 18446744073709551616 + x % 18446744073709551616)) % 340282366920938463463374607431768211456 = (p + x) % 340282366920938463463374607431768211456 := by
  rw [Int.ediv_mul_add_emod, Int.ediv_mul_add_emod]
theorem emod_congr {a b m : Int} (h : a = b) : a % m = b % m := by rw [h]
/-- The product bit by bit, j bits to go: p and x as wide numbers. -/
theorem mul_go (b : Int) (hb : 0 ≤ b) (hbm : b ≤ 18446744073709551615) : ∀ (j : Nat), j ≤ 64 → ∀ (k : Nat) (p x : Int), j < k → 0 ≤ p → p < 340282366920938463463374607431768211456 → 0 ≤ x → x < 340282366920938463463374607431768211456 →
    ∀ V, V = (p + x * (b / 2 ^ (64 - j))) % 340282366920938463463374607431768211456 →
    hartixref2_Mul.l0 k b ((64 - j : Nat) : Int) (p / 18446744073709551616) (p % 18446744073709551616) (x / 18446744073709551616) (x % 18446744073709551616) = some (V / 18446744073709551616, V % 18446744073709551616) := by
  intro j
  induction j with
  | zero =>
    intro _ k p x hk hp hpm hx hxm V hV
    obtain ⟨k, rfl⟩ : ∃ m, k = m + 1 := ⟨k - 1, by omega⟩
    simp only [hartixref2_Mul.l0]
    rw [if_neg (by omega)]
    have e : b / 2 ^ (64 - 0) = 0 := Int.ediv_eq_zero_of_lt hb (by show b < (18446744073709551616 : Int); omega)
    rw [e] at hV
    have : V = p := by rw [hV]; simp; omega
    rw [this]
  | succ j ih =>
    intro hj k p x hk hp hpm hx hxm V hV
    have HV := Lib.hid hV
    clear hV
    obtain ⟨k, rfl⟩ : ∃ m, k = m + 1 := ⟨k - 1, by omega⟩
    have hi : 64 - (j + 1) + 1 = 64 - j := by omega
    generalize hii : 64 - (j + 1) = i at *
    have hi64 : i < 64 := by omega
    have hw : wrap64 ((i : Int) + 1) = ((64 - j : Nat) : Int) := by rw [wrap_next i hi64, hi]
    have hn := wrap_nonneg i
    have hil : (i : Int) < 64 := by omega
    obtain ⟨p0, p1, p2, p3⟩ := hi_rng p hp hpm
    obtain ⟨x0, x1, x2, x3⟩ := hi_rng x hx hxm
    have q0 : 0 ≤ b / 2 ^ i := Int.ediv_nonneg hb (Int.le_of_lt (pow_pos' i))
    have q1 : b / 2 ^ i ≤ 18446744073709551615 := Int.le_trans (Int.ediv_le_self _ hb) hbm
    simp only [hartixref2_Mul.l0]
    rw [if_pos hil, if_pos hn, shr_nat b i (by omega), and1 _ q0 q1, hw]
    have hx2 := add_law (x / 18446744073709551616) (x % 18446744073709551616) (x / 18446744073709551616) (x % 18446744073709551616) x0 x1 x2 x3 x0 x1 x2 x3 ((x + x) % 340282366920938463463374607431768211456) (join_sum x x).symm
    have hc : b / 2 ^ (64 - j) = b / 2 ^ i / 2 := by rw [← hi, Int.pow_succ, Int.ediv_ediv_of_nonneg (Int.le_of_lt (pow_pos' i))]
    rw [hx2]
    generalize hq : b / 2 ^ i = c at *
    by_cases ht : c % 2 = 1
    · rw [if_pos ht]
      have hp2 := add_law (p / 18446744073709551616) (p % 18446744073709551616) (x / 18446744073709551616) (x % 18446744073709551616) p0 p1 p2 p3 x0 x1 x2 x3 ((p + x) % 340282366920938463463374607431768211456) (join_sum p x).symm
      rw [hp2]
      simp only [Option.bind_some]
      refine ih (by omega) k _ _ (by omega) (mod_rng _).1 (mod_rng _).2 (mod_rng _).1 (mod_rng _).2 V ?_
      rw [HV.out, hc]
      have e : c = 2 * (c / 2) + 1 := by omega
      generalize c / 2 = c2 at *
      rw [e, Int.mul_add, Int.mul_one, ← Int.mul_assoc, Int.mul_comm x 2, Int.two_mul]
      rw [Int.add_emod ((p + x) % _), Int.emod_emod_of_dvd _ (Int.dvd_refl _), Int.mul_emod ((x + x) % _), Int.emod_emod_of_dvd _ (Int.dvd_refl _), ← Int.mul_emod, ← Int.add_emod]
      exact emod_congr (by omega)
    · rw [if_neg ht]
      simp only [Option.bind_some]
      refine ih (by omega) k _ _ (by omega) hp hpm (mod_rng _).1 (mod_rng _).2 V ?_
      rw [HV.out, hc]
      have e : c = 2 * (c / 2) := by omega
      generalize c / 2 = c2 at *
      rw [e, ← Int.mul_assoc, Int.mul_comm x 2, Int.two_mul]
      rw [Int.add_emod p ((x + x) % _ * _), Int.mul_emod ((x + x) % _), Int.emod_emod_of_dvd _ (Int.dvd_refl _), ← Int.mul_emod, ← Int.add_emod]

theorem mul_law (a b : Int) (ha : 0 ≤ a) (ham : a ≤ 18446744073709551615) (hb : 0 ≤ b) (hbm : b ≤ 18446744073709551615) :
    hartixref2_Mul.f 65 a b = some (a * b / 18446744073709551616, a * b % 18446744073709551616) := by
  have hab : 0 ≤ a * b := Int.mul_nonneg ha hb
  have hlt : a * b < 340282366920938463463374607431768211456 := by
    have : a * b ≤ 18446744073709551615 * 18446744073709551615 := Int.mul_le_mul ham hbm hb (by omega)
    omega
  have h := mul_go b hb hbm 64 (Nat.le_refl _) 65 0 a (by omega) (by omega) (by omega) ha (by omega) (a * b) (by simp; omega)
  have e1 : a / 18446744073709551616 = 0 := by omega
  have e2 : a % 18446744073709551616 = a := by omega
  rw [e1, e2] at h
  exact h

theorem half_step (x : Int) (h0 : 0 ≤ x) (h1 : x ≤ 18446744073709551615) : bits .or .u64 (x / 2) 9223372036854775808 = x / 2 + 9223372036854775808 := by
  have hc : bits .or .u64 (x / 2) 9223372036854775808 = bits .or .u64 9223372036854775808 (x / 2) := by
    rw [u64_or _ _ (by omega) (by omega) (by omega) (by omega), u64_or _ _ (by omega) (by omega) (by omega) (by omega), Nat.or_comm]
  rw [hc, orJoin 63 9223372036854775808 (x / 2) (by omega) (by omega) (by omega) (by show _ < (9223372036854775808 : Int); omega) (by decide) (by omega)]
  omega
theorem wrap_step (i : Nat) (h : i < 64) : IntKind.u64.wrap ((i : Int) + 1) = ((i + 1 : Nat) : Int) := by rw [wrap_u64]; omega
/-- A shift to the right bit by bit, zeros coming in. -/
theorem right_zero (n : Nat) (hn : n ≤ 64) : ∀ (j : Nat), j ≤ n → ∀ (k : Nat) (x : Int), j < k → 0 ≤ x → hartixref2_right.l0 k x (n : Int) false ((n - j : Nat) : Int) = some (x / 2 ^ j) := by
  intro j
  induction j with
  | zero =>
    intro _ k x hk hx
    obtain ⟨k, rfl⟩ : ∃ m, k = m + 1 := ⟨k - 1, by omega⟩
    simp only [hartixref2_right.l0]
    rw [if_neg (by omega)]; simp
  | succ j ih =>
    intro hj k x hk hx
    obtain ⟨k, rfl⟩ : ∃ m, k = m + 1 := ⟨k - 1, by omega⟩
    simp only [hartixref2_right.l0]
    rw [if_pos (by omega), if_neg (by simp), wrap_step _ (by omega)]
    have e : n - (j + 1) + 1 = n - j := by omega
    rw [e, ih (by omega) k (x / 2) (by omega) (by omega), Int.ediv_ediv_of_nonneg (by omega), Int.pow_succ, Int.mul_comm]
/-- .. and ones. -/
theorem right_one (n : Nat) (hn : n ≤ 64) : ∀ (j : Nat), j ≤ n → ∀ (k : Nat) (x : Int), j < k → 9223372036854775808 ≤ x → x ≤ 18446744073709551615 → hartixref2_right.l0 k x (n : Int) true ((n - j : Nat) : Int) = some ((x - 18446744073709551616) / 2 ^ j + 18446744073709551616) := by
  intro j
  induction j with
  | zero =>
    intro _ k x hk hx hx1
    obtain ⟨k, rfl⟩ : ∃ m, k = m + 1 := ⟨k - 1, by omega⟩
    simp only [hartixref2_right.l0]
    rw [if_neg (by omega)]; simp
  | succ j ih =>
    intro hj k x hk hx hx1
    obtain ⟨k, rfl⟩ : ∃ m, k = m + 1 := ⟨k - 1, by omega⟩
    simp only [hartixref2_right.l0]
    rw [if_pos (by omega), if_pos trivial, wrap_step _ (by omega), half_step x (by omega) hx1]
    have e : n - (j + 1) + 1 = n - j := by omega
    rw [e, ih (by omega) k _ (by omega) (by omega) (by omega)]
    have e2 : x / 2 + 9223372036854775808 - 18446744073709551616 = (x - 18446744073709551616) / 2 := by omega
    rw [e2, Int.ediv_ediv_of_nonneg (by omega), Int.pow_succ, Int.mul_comm]
theorem right_law0 (x : Int) (n : Nat) (hn : n < 64) (h0 : 0 ≤ x) : hartixref2_right.f 65 x (n : Int) false = some (x / 2 ^ n) := by
  have := right_zero n (by omega) n (Nat.le_refl _) 65 x (by omega) h0
  simpa [hartixref2_right.f] using this
theorem right_law1 (x : Int) (n : Nat) (hn : n < 64) (h0 : 9223372036854775808 ≤ x) (h1 : x ≤ 18446744073709551615) : hartixref2_right.f 65 x (n : Int) true = some ((x - 18446744073709551616) / 2 ^ n + 18446744073709551616) := by
  have := right_one n (by omega) n (Nat.le_refl _) 65 x (by omega) h0 h1
  simpa [hartixref2_right.f] using this

/-- What a word is as it is signed. -/
theorem wrap64_low (x : Int) (h0 : 0 ≤ x) (h1 : x < 9223372036854775808) : wrap64 x = x := by unfold wrap64; omega
theorem wrap64_high (x : Int) (h0 : 9223372036854775808 ≤ x) (h1 : x ≤ 18446744073709551615) : wrap64 x = x - 18446744073709551616 := by unfold wrap64; omega

/-- The shift with the sign, as the document shifts. -/
theorem right_signed (x : Int) (n : Nat) (hn : n < 64) (h0 : 0 ≤ x) (h1 : x ≤ 18446744073709551615) : hartixref2_right.f 65 x (n : Int) (x / 9223372036854775808 == 1) = some (wrap64 x / 2 ^ n % 18446744073709551616) := by
  by_cases h : x < 9223372036854775808
  · have e : (x / 9223372036854775808 == 1) = false := by simp; omega
    rw [e, right_law0 x n hn h0, wrap64_low x h0 h]
    have a1 : 0 ≤ x / 2 ^ n := Int.ediv_nonneg h0 (Int.le_of_lt (pow_pos' n))
    have a2 : x / 2 ^ n ≤ x := Int.ediv_le_self _ h0
    generalize x / 2 ^ n = y at *
    congr 1; omega
  · have e : (x / 9223372036854775808 == 1) = true := by simp; omega
    rw [e, right_law1 x n hn (by omega) h1, wrap64_high x (by omega) h1]
    have a1 : (x - 18446744073709551616) / 2 ^ n < 0 := Int.ediv_neg_of_neg_of_pos (by omega) (pow_pos' n)
    have a2 : x - 18446744073709551616 ≤ (x - 18446744073709551616) / 2 ^ n := by
      rw [Int.le_ediv_iff_mul_le (pow_pos' n)]
      have : (1 : Int) ≤ 2 ^ n := pow_pos' n
      have := Int.mul_le_mul_of_nonpos_left (a := x - 18446744073709551616) (by omega) this
      simpa using this
    generalize (x - 18446744073709551616) / 2 ^ n = y at *
    congr 1; omega

def mag (x : Int) : Int := if x < 9223372036854775808 then x else 18446744073709551616 - x
theorem below_law (x : Int) (h0 : 0 ≤ x) (h1 : x ≤ 18446744073709551615) : hartixref2_below.f x = some (decide (9223372036854775807 < x)) := by
  unfold hartixref2_below.f
  congr 1; rw [Bool.eq_iff_iff]; simp; omega
theorem amount_law (x : Int) (h0 : 0 ≤ x) (h1 : x ≤ 18446744073709551615) : hartixref2_amount.f x = some (mag x) := by
  unfold hartixref2_amount.f mag
  rw [below_law x h0 h1]
  simp only [Option.bind_some, wrap_u64]
  by_cases h : x < 9223372036854775808
  · rw [if_pos h, if_neg (by simp; omega)]
  · rw [if_neg h, if_pos (by simp; omega)]; congr 1; omega
theorem unsigned_law (a b : Int) (a0 : 0 ≤ a) (a1 : a ≤ 18446744073709551615) (b0 : 0 ≤ b) (b1 : b ≤ 18446744073709551615) :
    hartixref2_unsigned.f 65 a b = some (if b = 0 then 18446744073709551615 else a / b, if b = 0 then a else a % b) := by
  unfold hartixref2_unsigned.f
  by_cases h : b = 0
  · simp [h]
  · rw [if_neg h, if_neg h, if_neg h, long_law 0 a b (by omega) b1 (by omega) (by omega) a0 a1]
    simp
def sdiv (a b : Int) : Int := if b = 0 then 18446744073709551615 else (wrap64 a).tdiv (wrap64 b) % 18446744073709551616
def srem (a b : Int) : Int := if b = 0 then a else (wrap64 a).tmod (wrap64 b) % 18446744073709551616
theorem signed_law (a b : Int) (a0 : 0 ≤ a) (a1 : a ≤ 18446744073709551615) (b0 : 0 ≤ b) (b1 : b ≤ 18446744073709551615) :
    hartixref2_signed.f 65 a b = some (sdiv a b, srem a b) := by
  unfold hartixref2_signed.f sdiv srem
  by_cases h : b = 0
  · simp [h]
  rw [if_neg h, if_neg h, if_neg h, amount_law a a0 a1, amount_law b b0 b1, below_law a a0 a1, below_law b b0 b1]
  have m1 : 0 < mag b ∧ mag b ≤ 18446744073709551615 := by unfold mag; omega
  have m2 : 0 ≤ mag a ∧ mag a ≤ 18446744073709551615 := by unfold mag; omega
  simp only [Option.bind_some]
  rw [long_law 0 (mag a) (mag b) m1.1 m1.2 (by omega) m1.1 m2.1 m2.2]
  have hq0 : 0 ≤ mag a / mag b := Int.ediv_nonneg m2.1 (by omega)
  have hq1 : mag a / mag b ≤ mag a := Int.ediv_le_self _ m2.1
  have hr0 : 0 ≤ mag a % mag b := Int.emod_nonneg _ (by omega)
  have hr1 : mag a % mag b < mag b := Int.emod_lt_of_pos _ m1.1
  simp only [Option.bind_some, wrap_u64, Int.zero_mul, Int.zero_add]
  have td : ∀ x y : Int, 0 ≤ x → x.tdiv y = x / y := fun x y hx => Int.tdiv_eq_ediv_of_nonneg hx
  have tm : ∀ x y : Int, 0 ≤ x → x.tmod y = x % y := fun x y hx => Int.tmod_eq_emod_of_nonneg hx
  by_cases ha : a < 9223372036854775808 <;> by_cases hb : b < 9223372036854775808
  · have ea : wrap64 a = mag a := by rw [wrap64_low a a0 ha]; unfold mag; rw [if_pos ha]
    have eb : wrap64 b = mag b := by rw [wrap64_low b b0 hb]; unfold mag; rw [if_pos hb]
    rw [ea, eb, td _ _ m2.1, tm _ _ m2.1]
    generalize mag a / mag b = q at *; generalize mag a % mag b = r at *
    rw [if_neg (by simp; omega), if_neg (by simp; omega)]
    congr 2 <;> omega
  · have ea : wrap64 a = mag a := by rw [wrap64_low a a0 ha]; unfold mag; rw [if_pos ha]
    have eb : wrap64 b = -mag b := by rw [wrap64_high b (by omega) b1]; unfold mag; rw [if_neg hb]; omega
    rw [ea, eb, Int.tdiv_neg, Int.tmod_neg, td _ _ m2.1, tm _ _ m2.1]
    generalize mag a / mag b = q at *; generalize mag a % mag b = r at *
    rw [if_pos (by simp; omega), if_neg (by simp; omega)]
    congr 2; omega
  · have ea : wrap64 a = -mag a := by rw [wrap64_high a (by omega) a1]; unfold mag; rw [if_neg ha]; omega
    have eb : wrap64 b = mag b := by rw [wrap64_low b b0 hb]; unfold mag; rw [if_pos hb]
    rw [ea, eb, Int.neg_tdiv, Int.neg_tmod, td _ _ m2.1, tm _ _ m2.1]
    generalize mag a / mag b = q at *; generalize mag a % mag b = r at *
    rw [if_pos (by simp; omega), if_pos (by simp; omega)]
  · have ea : wrap64 a = -mag a := by rw [wrap64_high a (by omega) a1]; unfold mag; rw [if_neg ha]; omega
    have eb : wrap64 b = -mag b := by rw [wrap64_high b (by omega) b1]; unfold mag; rw [if_neg hb]; omega
    rw [ea, eb, Int.neg_tdiv, Int.neg_tmod, Int.tdiv_neg, Int.tmod_neg, td _ _ m2.1, tm _ _ m2.1]
    generalize mag a / mag b = q at *; generalize mag a % mag b = r at *
    rw [if_neg (by simp; omega), if_pos (by simp; omega), Int.neg_neg]
    congr 2; omega

/-- A number of 32 bits, widened. -/
def wd (x : Int) : Int := wrap32 x % 18446744073709551616
theorem widen_law (x : Int) (h0 : 0 ≤ x) (h1 : x ≤ 18446744073709551615) : hartixref2_widen.f x = some (wd x) := by
  unfold hartixref2_widen.f wd wrap32
  rw [andlow x h0 h1, wrap_u64]
  split <;> (congr 1; omega)
theorem wd_mod (x y : Int) (h : x % 4294967296 = y % 4294967296) : wd x = wd y := by unfold wd wrap32; omega
theorem wd_rng (x : Int) : 0 ≤ wd x ∧ wd x ≤ 18446744073709551615 := by unfold wd; omega
theorem wd_signed (x : Int) : wrap64 (wd x) = wrap32 x := by unfold wd wrap32 wrap64; omega
end Go.Proofs.Ytdlhapjlpkadnaa
