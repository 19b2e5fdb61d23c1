/- The document's Do: any operation on any two words, the same in plain numbers. -/
import Derived.Test.YtdlhapjlpkadnaaRefHigh
set_option linter.unusedVariables false
namespace Go.Proofs.Ytdlhapjlpkadnaa
open Go.RowKit Go.Proofs.Ytdlhapjlpkadnaa.PAluDoes Go.Proofs.YtdlhapjlpkadnaaW.PrintWords

theorem min_bits (n : Nat) (h : n ≤ 64) : min n IntKind.u64.bits = n := Nat.min_eq_left h
theorem sdiv_rng (a b : Int) : 0 ≤ sdiv a b ∧ sdiv a b ≤ 18446744073709551615 := by unfold sdiv; split <;> omega
theorem srem_rng (a b : Int) (h0 : 0 ≤ a) (h1 : a ≤ 18446744073709551615) : 0 ≤ srem a b ∧ srem a b ≤ 18446744073709551615 := by unfold srem; split <;> omega
theorem half_law (j : Nat) (hj : j < 10) (a b : Int) (ha : Word a) (hb : Word b) : hartixref2_half.f 65 (opN (18 + j)) (a % 4294967296) (b % 4294967296) = some (doV (18 + j) a b, true) := by
  have a0 : 0 ≤ a % 4294967296 := by omega
  have a1 : a % 4294967296 ≤ 4294967295 := by omega
  have b0 : 0 ≤ b % 4294967296 := by omega
  have b1 : b % 4294967296 ≤ 4294967295 := by omega
  have hs : bits .and .u64 (b % 4294967296) 31 = b % 32 := by rw [and31 _ b0 (by omega)]; omega
  have hn : ((b % 32).toNat : Int) = b % 32 := by omega
  have hn64 : (b % 32).toNat < 64 := by omega
  have W : ∀ x : Int, hartixref2_widen.f (IntKind.u64.wrap x) = some (wd x) := fun x => by
    rw [wrap_u64, widen_law _ (by omega) (by omega), wd_mod (x % 18446744073709551616) x (by omega)]
  have wm : ∀ x : Int, wd (x % 4294967296) = wd x := fun x => wd_mod _ _ (by omega)
  have h : j = 0 ∨ j = 1 ∨ j = 2 ∨ j = 3 ∨ j = 4 ∨ j = 5 ∨ j = 6 ∨ j = 7 ∨ j = 8 ∨ j = 9 := by omega
  unfold hartixref2_half.f
  rcases h with rfl | rfl | rfl | rfl | rfl | rfl | rfl | rfl | rfl | rfl
  · rw [show opN (18 + 0) = 45 from rfl]
    rw [if_pos rfl, W]
    exact congrArg some (Prod.ext (wd_mod _ _ (by omega)) rfl)
  · rw [show opN (18 + 1) = 46 from rfl]
    rw [if_neg (by decide), if_pos rfl, W]
    exact congrArg some (Prod.ext (wd_mod _ _ (by omega)) rfl)
  · rw [show opN (18 + 2) = 58 from rfl]
    rw [if_neg (by decide), if_neg (by decide), if_pos rfl, W]
    exact congrArg some (Prod.ext (wd_mod _ _ (by rw [← Int.mul_emod])) rfl)
  · rw [show opN (18 + 3) = 47 from rfl]
    rw [if_neg (by decide), if_neg (by decide), if_neg (by decide), if_pos rfl, hs, if_pos (by omega)]
    unfold shl
    rw [min_bits _ (by omega), W]
    rfl
  · rw [show opN (18 + 4) = 48 from rfl]
    rw [if_neg (by decide), if_neg (by decide), if_neg (by decide), if_neg (by decide), if_pos rfl, hs, ← hn, right_law0 _ _ hn64 a0]
    have q0 : 0 ≤ a % 4294967296 / 2 ^ (b % 32).toNat := Int.ediv_nonneg a0 (Int.le_of_lt (pow_pos' _))
    have q1 : a % 4294967296 / 2 ^ (b % 32).toNat ≤ a % 4294967296 := Int.ediv_le_self _ a0
    simp only [Option.bind_some]
    rw [widen_law _ q0 (by omega)]
    rfl
  · rw [show opN (18 + 5) = 49 from rfl]
    rw [if_neg (by decide), if_neg (by decide), if_neg (by decide), if_neg (by decide), if_neg (by decide), if_pos rfl, hs, ← hn, widen_law _ a0 (by omega)]
    simp only [Option.bind_some]
    rw [wm]
    have f : decide (a % 4294967296 ≥ 2147483648) = (wd a / 9223372036854775808 == 1) := by rw [Bool.eq_iff_iff]; unfold wd wrap32; simp; omega
    rw [f, right_signed _ _ hn64 (wd_rng a).1 (wd_rng a).2, wd_signed]
    simp only [Option.bind_some]
    rw [widen_law _ (by omega) (by omega)]
    exact congrArg some (Prod.ext (wd_mod _ _ (by rw [Int.emod_emod_of_dvd _ (by decide)])) rfl)
  · rw [show opN (18 + 6) = 59 from rfl]
    rw [if_neg (by decide), if_neg (by decide), if_neg (by decide), if_neg (by decide), if_neg (by decide), if_neg (by decide), if_pos rfl, widen_law _ a0 (by omega), widen_law _ b0 (by omega)]
    simp only [Option.bind_some]
    rw [wm, wm, signed_law _ _ (wd_rng a).1 (wd_rng a).2 (wd_rng b).1 (wd_rng b).2]
    simp only [Option.bind_some]
    have q := sdiv_rng (wd a) (wd b)
    rw [widen_law _ q.1 q.2]
    rfl
  · rw [show opN (18 + 7) = 61 from rfl]
    rw [if_neg (by decide), if_neg (by decide), if_neg (by decide), if_neg (by decide), if_neg (by decide), if_neg (by decide), if_neg (by decide), if_pos rfl, widen_law _ a0 (by omega), widen_law _ b0 (by omega)]
    simp only [Option.bind_some]
    rw [wm, wm, signed_law _ _ (wd_rng a).1 (wd_rng a).2 (wd_rng b).1 (wd_rng b).2]
    simp only [Option.bind_some]
    have q := srem_rng (wd a) (wd b) (wd_rng a).1 (wd_rng a).2
    rw [widen_law _ q.1 q.2]
    rfl
  · rw [show opN (18 + 8) = 60 from rfl]
    rw [if_neg (by decide), if_neg (by decide), if_neg (by decide), if_neg (by decide), if_neg (by decide), if_neg (by decide), if_neg (by decide), if_neg (by decide), if_pos rfl, unsigned_law _ _ a0 (by omega) b0 (by omega)]
    simp only [Option.bind_some]
    have q : 0 ≤ (if b % 4294967296 = 0 then 18446744073709551615 else a % 4294967296 / (b % 4294967296)) ∧ (if b % 4294967296 = 0 then 18446744073709551615 else a % 4294967296 / (b % 4294967296)) ≤ 18446744073709551615 := by
      have q0 : 0 ≤ a % 4294967296 / (b % 4294967296) := Int.ediv_nonneg a0 b0
      have q1 : a % 4294967296 / (b % 4294967296) ≤ a % 4294967296 := Int.ediv_le_self _ a0
      split <;> omega
    rw [widen_law _ q.1 q.2]
    rfl
  · rw [show opN (18 + 9) = 62 from rfl]
    rw [if_neg (by decide), if_neg (by decide), if_neg (by decide), if_neg (by decide), if_neg (by decide), if_neg (by decide), if_neg (by decide), if_neg (by decide), if_neg (by decide), if_pos rfl, unsigned_law _ _ a0 (by omega) b0 (by omega)]
    simp only [Option.bind_some]
    have q : 0 ≤ (if b % 4294967296 = 0 then a % 4294967296 else a % 4294967296 % (b % 4294967296)) ∧ (if b % 4294967296 = 0 then a % 4294967296 else a % 4294967296 % (b % 4294967296)) ≤ 18446744073709551615 := by
      split
      · omega
      · have q0 : 0 ≤ a % 4294967296 % (b % 4294967296) := Int.emod_nonneg _ (by omega)
        have q1 : a % 4294967296 % (b % 4294967296) < b % 4294967296 := Int.emod_lt_of_pos _ (by omega)
        omega
    rw [widen_law _ q.1 q.2]
    rfl

theorem half_no (op a b : Int) (h : ∀ k, k < 28 → opN k ≠ op) : hartixref2_half.f 65 op a b = some (0, false) := by
  have n18 : op ≠ 45 := (h 18 (by omega)).symm
  have n19 : op ≠ 46 := (h 19 (by omega)).symm
  have n20 : op ≠ 58 := (h 20 (by omega)).symm
  have n21 : op ≠ 47 := (h 21 (by omega)).symm
  have n22 : op ≠ 48 := (h 22 (by omega)).symm
  have n23 : op ≠ 49 := (h 23 (by omega)).symm
  have n24 : op ≠ 59 := (h 24 (by omega)).symm
  have n25 : op ≠ 61 := (h 25 (by omega)).symm
  have n26 : op ≠ 60 := (h 26 (by omega)).symm
  have n27 : op ≠ 62 := (h 27 (by omega)).symm
  unfold hartixref2_half.f
  rw [if_neg n18, if_neg n19, if_neg n20, if_neg n21, if_neg n22, if_neg n23, if_neg n24, if_neg n25, if_neg n26, if_neg n27]

theorem rightz_any (a n : Int) (ha : 0 ≤ a) (h0 : 0 ≤ n) (h1 : n < 64) (w : World) : Calls Try.prog 75 #[.int .u64 a, .int .u64 n, .bool false] w fun e w' => e = .returned (.int .u64 (a / 2 ^ n.toNat)) ∧ Below w.heap.size w w' := by
  have := right_law0 a n.toNat (by omega) ha
  rw [Int.toNat_of_nonneg h0] at this
  exact (hartixref2_right.calls 65 a n false _ w this).mono fun _ _ ⟨h, h'⟩ => ⟨h, h'.below⟩
theorem rights_any (a n : Int) (ha : Word a) (h0 : 0 ≤ n) (h1 : n < 64) (w : World) : Calls Try.prog 75 #[.int .u64 a, .int .u64 n, .bool (a / 9223372036854775808 == 1)] w fun e w' => e = .returned (.int .u64 (wrap64 a / 2 ^ n.toNat % 18446744073709551616)) ∧ Below w.heap.size w w' := by
  have := right_signed a n.toNat (by omega) ha.1 ha.2
  rw [Int.toNat_of_nonneg h0] at this
  exact (hartixref2_right.calls 65 a n _ _ w this).mono fun _ _ ⟨h, h'⟩ => ⟨h, h'.below⟩
theorem bit_any (b : Bool) (w : World) : Calls Try.prog 76 #[.bool b] w fun e w' => e = .returned (.int .u64 (if b then 1 else 0)) ∧ Below w.heap.size w w' :=
  (hartixref2_bit.calls b _ w (by unfold hartixref2_bit.f; cases b <;> rfl)).mono fun _ _ ⟨h, h'⟩ => ⟨h, h'.below⟩
theorem signed_any (a b : Int) (ha : Word a) (hb : Word b) (w : World) : Calls Try.prog 78 #[.int .u64 a, .int .u64 b] w fun e w' => e = .returned (.tuple #[.int .u64 (sdiv a b), .int .u64 (srem a b)]) ∧ Below w.heap.size w w' :=
  hartixref2_signed.calls 65 a b _ _ w (signed_law a b ha.1 ha.2 hb.1 hb.2)
theorem unsigned_any (a b : Int) (ha : Word a) (hb : Word b) (w : World) : Calls Try.prog 79 #[.int .u64 a, .int .u64 b] w fun e w' => e = .returned (.tuple #[.int .u64 (doV 16 a b), .int .u64 (doV 17 a b)]) ∧ Below w.heap.size w w' :=
  hartixref2_unsigned.calls 65 a b _ _ w (unsigned_law a b ha.1 ha.2 hb.1 hb.2)
attribute [local go_sem] field35_0 field35_1
theorem ret_t {x y : Int} {b : Bool} (h : x = y) : Ending.returned (.tuple #[.int .u64 x, .bool b]) = .returned (.tuple #[.int .u64 y, .bool b]) := by rw [h]
def WholeP (v : Int) (ok : Bool) (w : World) (e : Ending) (w' : World) : Prop := e = .returned (.tuple #[.int .u64 v, .bool ok]) ∧ Below w.heap.size w w'
theorem whole_0 (a b : Int) (ha : Word a) (hb : Word b) (w : World) : Calls Try.prog 34 #[.int .i64 31, .int .u64 a, .int .u64 b] w (WholeP (doV 0 a b) true w) := by
  go_enter Try.func34, Try.ntmps34
  go_wp2_with fail
  go_ret2
  exact ⟨ret_t (by rw [wrap_u64]; rfl), Below.refl _ _⟩
theorem whole_1 (a b : Int) (ha : Word a) (hb : Word b) (w : World) : Calls Try.prog 34 #[.int .i64 32, .int .u64 a, .int .u64 b] w (WholeP (doV 1 a b) true w) := by
  go_enter Try.func34, Try.ntmps34
  go_wp2_with fail
  go_ret2
  exact ⟨ret_t (by rw [wrap_u64]; rfl), Below.refl _ _⟩
theorem whole_2 (a b : Int) (ha : Word a) (hb : Word b) (w : World) : Calls Try.prog 34 #[.int .i64 36, .int .u64 a, .int .u64 b] w (WholeP (doV 2 a b) true w) := by
  go_enter Try.func34, Try.ntmps34
  go_wp2_with fail
  go_ret2
  exact ⟨ret_t (rfl), Below.refl _ _⟩
theorem whole_3 (a b : Int) (ha : Word a) (hb : Word b) (w : World) : Calls Try.prog 34 #[.int .i64 39, .int .u64 a, .int .u64 b] w (WholeP (doV 3 a b) true w) := by
  go_enter Try.func34, Try.ntmps34
  go_wp2_with fail
  go_ret2
  exact ⟨ret_t (rfl), Below.refl _ _⟩
theorem whole_4 (a b : Int) (ha : Word a) (hb : Word b) (w : World) : Calls Try.prog 34 #[.int .i64 40, .int .u64 a, .int .u64 b] w (WholeP (doV 4 a b) true w) := by
  go_enter Try.func34, Try.ntmps34
  go_wp2_with fail
  go_ret2
  exact ⟨ret_t (rfl), Below.refl _ _⟩
theorem whole_5 (a b : Int) (ha : Word a) (hb : Word b) (w : World) : Calls Try.prog 34 #[.int .i64 33, .int .u64 a, .int .u64 b] w (WholeP (doV 5 a b) true w) := by
  have hand := bits_and63 b hb.1 hb.2
  have h0 : 0 ≤ b % 64 := by omega
  have h1 : b % 64 < 64 := by omega
  go_enter Try.func34, Try.ntmps34
  go_wp2_with fail
  go_ret2
  exact ⟨ret_t (by rw [wrap_u64]; rfl), Below.refl _ _⟩
theorem whole_6 (a b : Int) (ha : Word a) (hb : Word b) (w : World) : Calls Try.prog 34 #[.int .i64 37, .int .u64 a, .int .u64 b] w (WholeP (doV 6 a b) true w) := by
  have hand := bits_and63 b hb.1 hb.2
  have h0 : 0 ≤ b % 64 := by omega
  have h1 : b % 64 < 64 := by omega
  go_enter Try.func34, Try.ntmps34
  go_wp2_with (first | (go_at_call 75; refine (rightz_any _ _ ha.1 h0 h1 _).mono ?_; rintro e w' ⟨rfl, hb1⟩))
  go_ret2
  exact ⟨ret_t (rfl), by assumption⟩
theorem whole_7 (a b : Int) (ha : Word a) (hb : Word b) (w : World) : Calls Try.prog 34 #[.int .i64 38, .int .u64 a, .int .u64 b] w (WholeP (doV 7 a b) true w) := by
  have hand := bits_and63 b hb.1 hb.2
  have h0 : 0 ≤ b % 64 := by omega
  have h1 : b % 64 < 64 := by omega
  go_enter Try.func34, Try.ntmps34
  go_wp2_with (first | (go_at_call 42; refine (below_any _ _).mono ?_; rintro e w' ⟨rfl, rfl⟩) | (go_at_call 75; refine (rights_any _ _ ha h0 h1 _).mono ?_; rintro e w' ⟨rfl, hb1⟩))
  go_ret2
  exact ⟨ret_t (rfl), by assumption⟩
theorem whole_8 (a b : Int) (ha : Word a) (hb : Word b) (w : World) : Calls Try.prog 34 #[.int .i64 34, .int .u64 a, .int .u64 b] w (WholeP (doV 8 a b) true w) := by
  go_enter Try.func34, Try.ntmps34
  go_wp2_with (first | (go_at_call 27; refine (less_any _ _ ha.1 ha.2 hb.1 hb.2 _).mono ?_; rintro e w' ⟨rfl, rfl⟩) | (go_at_call 76; refine (bit_any _ _).mono ?_; rintro e w' ⟨rfl, hb1⟩))
  all_goals
    go_ret2
    exact ⟨ret_t (by first | exact (if_pos (by assumption)).symm | exact (if_neg (by omega)).symm), by assumption⟩
theorem whole_9 (a b : Int) (ha : Word a) (hb : Word b) (w : World) : Calls Try.prog 34 #[.int .i64 35, .int .u64 a, .int .u64 b] w (WholeP (doV 9 a b) true w) := by
  go_enter Try.func34, Try.ntmps34
  go_wp2_with (first | (go_at_call 76; refine (bit_any _ _).mono ?_; rintro e w' ⟨rfl, hb1⟩))
  all_goals
    go_ret2
    exact ⟨ret_t (by first | exact (if_pos (by assumption)).symm | exact (if_neg (by omega)).symm), by assumption⟩
theorem whole_10 (a b : Int) (ha : Word a) (hb : Word b) (w : World) : Calls Try.prog 34 #[.int .i64 50, .int .u64 a, .int .u64 b] w (WholeP (doV 10 a b) true w) := by
  go_enter Try.func34, Try.ntmps34
  go_wp2_with (first | (go_at_call 17; refine (refmul_any _ _ ha hb _).mono ?_; rintro e w' ⟨rfl, hb1⟩))
  go_ret2
  exact ⟨ret_t (rfl), by assumption⟩
theorem whole_11 (a b : Int) (ha : Word a) (hb : Word b) (w : World) : Calls Try.prog 34 #[.int .i64 51, .int .u64 a, .int .u64 b] w (WholeP (doV 11 a b) true w) := by
  go_enter Try.func34, Try.ntmps34
  go_wp2_with (first | (go_at_call 77; refine (refhigh_any _ _ _ _ ha hb _).mono ?_; rintro e w' ⟨rfl, hb1⟩))
  go_ret2
  exact ⟨ret_t (rfl), by assumption⟩
theorem whole_12 (a b : Int) (ha : Word a) (hb : Word b) (w : World) : Calls Try.prog 34 #[.int .i64 53, .int .u64 a, .int .u64 b] w (WholeP (doV 12 a b) true w) := by
  go_enter Try.func34, Try.ntmps34
  go_wp2_with (first | (go_at_call 77; refine (refhigh_any _ _ _ _ ha hb _).mono ?_; rintro e w' ⟨rfl, hb1⟩))
  go_ret2
  exact ⟨ret_t (rfl), by assumption⟩
theorem whole_13 (a b : Int) (ha : Word a) (hb : Word b) (w : World) : Calls Try.prog 34 #[.int .i64 52, .int .u64 a, .int .u64 b] w (WholeP (doV 13 a b) true w) := by
  go_enter Try.func34, Try.ntmps34
  go_wp2_with (first | (go_at_call 77; refine (refhigh_any _ _ _ _ ha hb _).mono ?_; rintro e w' ⟨rfl, hb1⟩))
  go_ret2
  exact ⟨ret_t (rfl), by assumption⟩
theorem whole_14 (a b : Int) (ha : Word a) (hb : Word b) (w : World) : Calls Try.prog 34 #[.int .i64 54, .int .u64 a, .int .u64 b] w (WholeP (doV 14 a b) true w) := by
  go_enter Try.func34, Try.ntmps34
  go_wp2_with (first | (go_at_call 78; refine (signed_any _ _ ha hb _).mono ?_; rintro e w' ⟨rfl, hb1⟩))
  go_ret2
  exact ⟨ret_t (rfl), by assumption⟩
theorem whole_15 (a b : Int) (ha : Word a) (hb : Word b) (w : World) : Calls Try.prog 34 #[.int .i64 56, .int .u64 a, .int .u64 b] w (WholeP (doV 15 a b) true w) := by
  go_enter Try.func34, Try.ntmps34
  go_wp2_with (first | (go_at_call 78; refine (signed_any _ _ ha hb _).mono ?_; rintro e w' ⟨rfl, hb1⟩))
  go_ret2
  exact ⟨ret_t (rfl), by assumption⟩
theorem whole_16 (a b : Int) (ha : Word a) (hb : Word b) (w : World) : Calls Try.prog 34 #[.int .i64 55, .int .u64 a, .int .u64 b] w (WholeP (doV 16 a b) true w) := by
  go_enter Try.func34, Try.ntmps34
  go_wp2_with (first | (go_at_call 79; refine (unsigned_any _ _ ha hb _).mono ?_; rintro e w' ⟨rfl, hb1⟩))
  go_ret2
  exact ⟨ret_t (rfl), by assumption⟩
theorem whole_17 (a b : Int) (ha : Word a) (hb : Word b) (w : World) : Calls Try.prog 34 #[.int .i64 57, .int .u64 a, .int .u64 b] w (WholeP (doV 17 a b) true w) := by
  go_enter Try.func34, Try.ntmps34
  go_wp2_with (first | (go_at_call 79; refine (unsigned_any _ _ ha hb _).mono ?_; rintro e w' ⟨rfl, hb1⟩))
  go_ret2
  exact ⟨ret_t (rfl), by assumption⟩

theorem whole_yes (k : Nat) (hk : k < 18) (a b : Int) (ha : Word a) (hb : Word b) (w : World) : Calls Try.prog 34 #[.int .i64 (opN k), .int .u64 a, .int .u64 b] w (WholeP (doV k a b) true w) := by
  rcases k18 k hk with rfl | rfl | rfl | rfl | rfl | rfl | rfl | rfl | rfl | rfl | rfl | rfl | rfl | rfl | rfl | rfl | rfl | rfl
  · exact whole_0 a b ha hb w
  · exact whole_1 a b ha hb w
  · exact whole_2 a b ha hb w
  · exact whole_3 a b ha hb w
  · exact whole_4 a b ha hb w
  · exact whole_5 a b ha hb w
  · exact whole_6 a b ha hb w
  · exact whole_7 a b ha hb w
  · exact whole_8 a b ha hb w
  · exact whole_9 a b ha hb w
  · exact whole_10 a b ha hb w
  · exact whole_11 a b ha hb w
  · exact whole_12 a b ha hb w
  · exact whole_13 a b ha hb w
  · exact whole_14 a b ha hb w
  · exact whole_15 a b ha hb w
  · exact whole_16 a b ha hb w
  · exact whole_17 a b ha hb w
theorem whole_no (op a b : Int) (h : ∀ k, k < 18 → opN k ≠ op) (w : World) : Calls Try.prog 34 #[.int .i64 op, .int .u64 a, .int .u64 b] w (WholeP 0 false w) := by
  have n0 : (op == 31) = false := beq_eq_false_iff_ne.2 (h 0 (by omega)).symm
  have n1 : (op == 32) = false := beq_eq_false_iff_ne.2 (h 1 (by omega)).symm
  have n2 : (op == 36) = false := beq_eq_false_iff_ne.2 (h 2 (by omega)).symm
  have n3 : (op == 39) = false := beq_eq_false_iff_ne.2 (h 3 (by omega)).symm
  have n4 : (op == 40) = false := beq_eq_false_iff_ne.2 (h 4 (by omega)).symm
  have n5 : (op == 33) = false := beq_eq_false_iff_ne.2 (h 5 (by omega)).symm
  have n6 : (op == 37) = false := beq_eq_false_iff_ne.2 (h 6 (by omega)).symm
  have n7 : (op == 38) = false := beq_eq_false_iff_ne.2 (h 7 (by omega)).symm
  have n8 : (op == 34) = false := beq_eq_false_iff_ne.2 (h 8 (by omega)).symm
  have n9 : (op == 35) = false := beq_eq_false_iff_ne.2 (h 9 (by omega)).symm
  have n10 : (op == 50) = false := beq_eq_false_iff_ne.2 (h 10 (by omega)).symm
  have n11 : (op == 51) = false := beq_eq_false_iff_ne.2 (h 11 (by omega)).symm
  have n12 : (op == 53) = false := beq_eq_false_iff_ne.2 (h 12 (by omega)).symm
  have n13 : (op == 52) = false := beq_eq_false_iff_ne.2 (h 13 (by omega)).symm
  have n14 : (op == 54) = false := beq_eq_false_iff_ne.2 (h 14 (by omega)).symm
  have n15 : (op == 56) = false := beq_eq_false_iff_ne.2 (h 15 (by omega)).symm
  have n16 : (op == 55) = false := beq_eq_false_iff_ne.2 (h 16 (by omega)).symm
  have n17 : (op == 57) = false := beq_eq_false_iff_ne.2 (h 17 (by omega)).symm
  clear h
  go_enter Try.func34, Try.ntmps34
  go_wp2_with fail
  go_ret2
  exact ⟨rfl, Below.refl _ _⟩
theorem opN_big (k : Nat) (hk : k < 10) : ∀ j, j < 18 → opN j ≠ opN (18 + k) := by
  intro j hj e
  have := opN_ne (18 + k) (by omega) j (by omega)
  rw [e] at this; simp at this
theorem after_alloc {w w1 : World} {C : Array Value} {t : TypeId} (hb : Below (w.alloc (.cells C t)).heap.size (w.alloc (.cells C t)) w1) :
    w.heap.size < w1.heap.size ∧ (∀ o v, C[o]? = some v → w1.cell? ⟨w.heap.size, o, none⟩ = some v) ∧ (∀ o, w1.frozen? ⟨w.heap.size, o, none⟩ = false) ∧ Below w.heap.size w w1 := by
  obtain ⟨hc, hf⟩ := bcell hb
  have hz := hb.size
  simp only [World.size_alloc] at hc hf hz
  refine ⟨by omega, fun o v h => ?_, fun o => ?_, ?_⟩
  · rw [hc _ _ (by omega)]; simpa [go_sem] using h
  · rw [hf _ _ (by omega)]; simp [go_sem]
  · exact ((Below.refl _ _).alloc (Nat.le_refl _) _).trans (hb.mono (by simp))
/-- What the document tells of an operation. -/
def RefYes (v : Int) (w : World) (e : Ending) (w' : World) : Prop := e = .returned (.tuple #[.int .u64 v, .agg #[.slice none 0 0, .int .i64 0]]) ∧ Below w.heap.size w w'
theorem refdo_yes (k : Nat) (hk : k < 18) (a b : Int) (ha : Word a) (hb : Word b) (w : World) : Calls Try.prog 19 #[.int .i64 (opN k), .int .u64 a, .int .u64 b] w (RefYes (doV k a b) w) := by
  go_enter Try.func19, Try.ntmps19
  go_wp2_with fail
  refine (whole_yes k hk a b ha hb _).mono ?_
  rintro e w1 ⟨rfl, hb1⟩
  obtain ⟨z, c, f, hb2⟩ := after_alloc hb1
  have c0 := c 0 _ rfl
  have c1 := c 1 _ rfl
  have f0 := f 0
  have f1 := f 1
  clear c f
  generalize hv : doV k a b = v
  have HV := Lib.hid hv
  clear hv
  go_wp2_with (go_at_call 26; refine (none_any _).mono ?_; rintro e w2 ⟨rfl, rfl⟩)
  refine bodyPost_ret (v := .tuple #[.int .u64 v, .agg #[.slice none 0 0, .int .i64 0]]) (by simp [results, Try.results19, go_sem, c0, c1, z]) rfl ⟨by rw [← HV.out], ?_⟩
  have hz := hb2.size
  exact (by repeat' (first | exact hb2 | refine Below.alloc ?_ ?_ _ | refine Below.setCell ?_ ?_ _ | exact Nat.le_refl _ | (simp; done) | (simp; omega)))
theorem refdo_low (k : Nat) (hk : k < 10) (a b : Int) (ha : Word a) (hb : Word b) (w : World) : Calls Try.prog 19 #[.int .i64 (opN (18 + k)), .int .u64 a, .int .u64 b] w (RefYes (doV (18 + k) a b) w) := by
  have H := Lib.hid (half_law k hk a b ha hb)
  have ea := andlow a ha.1 ha.2
  have eb := andlow b hb.1 hb.2
  go_enter Try.func19, Try.ntmps19
  go_wp2_with fail
  refine (whole_no _ a b (opN_big k hk) _).mono ?_
  rintro e w1 ⟨rfl, hb1⟩
  obtain ⟨z, c, f, hb2⟩ := after_alloc hb1
  have c0 := c 0 _ rfl
  have c1 := c 1 _ rfl
  have f0 := f 0
  have f1 := f 1
  clear c f
  go_wp2_with fail
  refine (hartixref2_half.calls 65 _ _ _ _ _ _ H.out).mono ?_
  rintro e w2 ⟨rfl, hb3⟩
  obtain ⟨q, q'⟩ := bcell hb3
  have g0 := (q w.heap.size 0 z).trans c0
  have g1 := (q w.heap.size 1 z).trans c1
  have h0 := (q' w.heap.size 0 z).trans f0
  have h1 := (q' w.heap.size 1 z).trans f1
  have z2 : w.heap.size < w2.heap.size := Nat.lt_of_lt_of_le z hb3.size
  clear q q' c0 c1 f0 f1 H
  generalize hv : doV (18 + k) a b = v
  have HV := Lib.hid hv
  clear hv
  go_wp2_with (go_at_call 26; refine (none_any _).mono ?_; rintro e w2 ⟨rfl, rfl⟩)
  refine bodyPost_ret (v := .tuple #[.int .u64 v, .agg #[.slice none 0 0, .int .i64 0]]) (by simp [results, Try.results19, go_sem, g0, g1, z2]) rfl ⟨by rw [← HV.out], ?_⟩
  have hz := hb2.size
  have hb4 := hb2.trans (hb3.mono (by omega))
  exact (by repeat' (first | exact hb4 | refine Below.alloc ?_ ?_ _ | refine Below.setCell ?_ ?_ _ | exact Nat.le_refl _ | (simp; done) | (simp; omega)))
def RefNo (w : World) (e : Ending) (w' : World) : Prop := ∃ d n, e = .returned (.tuple #[.int .u64 0, .agg #[.slice (some ⟨d, 0, none⟩) 1 n, .int .i64 40]]) ∧ w'.cell? ⟨d, 0, none⟩ = some (.string ⟨#[97, 108, 117]⟩) ∧ w'.cell? ⟨d, 1, none⟩ = some (.int .i64 0) ∧ Below w.heap.size w w'
theorem refdo_no (op a b : Int) (h : ∀ k, k < 28 → opN k ≠ op) (ha : Word a) (hb : Word b) (w : World) : Calls Try.prog 19 #[.int .i64 op, .int .u64 a, .int .u64 b] w (RefNo w) := by
  have H := Lib.hid (half_no op (a % 4294967296) (b % 4294967296) h)
  have ea := andlow a ha.1 ha.2
  have eb := andlow b hb.1 hb.2
  have HW := Lib.hid (fun k (hk : k < 18) => h k (by omega))
  clear h
  go_enter Try.func19, Try.ntmps19
  go_wp2_with fail
  refine (whole_no _ a b HW.out _).mono ?_
  rintro e w1 ⟨rfl, hb1⟩
  obtain ⟨z, c, f, hb2⟩ := after_alloc hb1
  have c0 := c 0 _ rfl
  have c1 := c 1 _ rfl
  have f0 := f 0
  have f1 := f 1
  clear c f
  go_wp2_with fail
  refine (hartixref2_half.calls 65 _ _ _ _ _ _ H.out).mono ?_
  rintro e w2 ⟨rfl, hb3⟩
  obtain ⟨q, q'⟩ := bcell hb3
  have g0 := (q w.heap.size 0 z).trans c0
  have g1 := (q w.heap.size 1 z).trans c1
  have h0 := (q' w.heap.size 0 z).trans f0
  have h1 := (q' w.heap.size 1 z).trans f1
  have z2 : w.heap.size < w2.heap.size := Nat.lt_of_lt_of_le z hb3.size
  have z3 : w.heap.size < w2.heap.size + 1 := by omega
  have z4 : w.heap.size < w2.heap.size + 1 + 1 := by omega
  clear q q' c0 c1 f0 f1 H HW
  go_wp2_with (go_at_call 28; refine (refno_any _ _).mono ?_; rintro e w3 ⟨rfl, rfl⟩)
  refine bodyPost_ret (v := .tuple #[.int .u64 0, .agg #[.slice (some ⟨w2.heap.size + 1 + 1, 0, none⟩) 1 1, .int .i64 40]]) (by simp [results, Try.results19, go_sem, g0, g1, z2, z3, z4]) rfl ⟨_, _, rfl, ?_, ?_, ?_⟩
  · simp [go_sem]
  · simp [go_sem]
  · have hz := hb2.size
    have hb4 := hb2.trans (hb3.mono (by omega))
    exact (by repeat' (first | exact hb4 | refine Below.alloc ?_ ?_ _ | refine Below.setCell ?_ ?_ _ | exact Nat.le_refl _ | (simp; done) | (simp; omega)))
end Go.Proofs.Ytdlhapjlpkadnaa
