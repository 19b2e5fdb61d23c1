/- The program's Divide: a wide number by a word: quotient and remainder, or that there is none. No condition but that the words are words. -/
import Derived.Test.YtdlhapjlpkadnaaRef
set_option linter.unusedVariables false
namespace Go.Proofs.Ytdlhapjlpkadnaa
open Go.RowKit
/-- Where the division stands with j bits to go. -/
structure DivI (L d Q R : Int) (j : Nat) (r q : Int) : Prop where
  r0 : 0 ≤ r
  rd : r < d
  q0 : 0 ≤ q
  q1 : q ≤ 18446744073709551615
  qj : q % 2 ^ j = 0
  sum : q + (r * 2 ^ j + L % 2 ^ j) / d = Q
  rem : (r * 2 ^ j + L % 2 ^ j) % d = R
theorem div_none {L d Q R : Int} {j : Nat} {r q : Int} (I : DivI L d Q R (j + 1) r q) (hL : 0 ≤ L) (z : Int) (hz : z = 2 * r + L / 2 ^ j % 2) (hzd : z < d) : DivI L d Q R j z q := by
  have hb0 : 0 ≤ L / 2 ^ j % 2 := by omega
  have e : r * 2 ^ (j + 1) + L % 2 ^ (j + 1) = z * 2 ^ j + L % 2 ^ j := by
    rw [emod_succ L hL j, Int.pow_succ, hz]
    generalize L / 2 ^ j % 2 = bit; generalize (2 : Int) ^ j = P; generalize L % P = m
    rw [Int.add_mul, Int.mul_comm 2 r, Int.mul_assoc r 2 P, Int.mul_comm 2 P]; omega
  refine ⟨by have := I.r0; omega, hzd, I.q0, I.q1, ?_, ?_, ?_⟩
  · have h := I.qj
    have d := Int.emod_emod_of_dvd q (Int.dvd_mul_right (2 ^ j : Int) 2)
    rw [← Int.pow_succ, h] at d
    simpa using d.symm
  · rw [← e]; exact I.sum
  · rw [← e]; exact I.rem
theorem div_some {L d Q R : Int} {j : Nat} {r q : Int} (I : DivI L d Q R (j + 1) r q) (hL : 0 ≤ L) (z : Int) (hz : z = 2 * r + L / 2 ^ j % 2) (hzd : ¬ z < d) (hQ : Q ≤ 18446744073709551615) : DivI L d Q R j (z - d) (q + 2 ^ j) := by
  have hb0 : 0 ≤ L / 2 ^ j % 2 := by omega
  have hb1 : L / 2 ^ j % 2 < 2 := by omega
  have hd : 0 < d := by have := I.r0; have := I.rd; omega
  have e : r * 2 ^ (j + 1) + L % 2 ^ (j + 1) = ((z - d) * 2 ^ j + L % 2 ^ j) + 2 ^ j * d := by
    rw [emod_succ L hL j, Int.pow_succ, hz]
    generalize L / 2 ^ j % 2 = bit; generalize (2 : Int) ^ j = P; generalize L % P = m
    rw [Int.sub_mul, Int.add_mul, Int.mul_comm 2 r, Int.mul_assoc r 2 P, Int.mul_comm 2 P, Int.mul_comm d P]; omega
  have s := I.sum
  have m := I.rem
  rw [e, Int.add_mul_ediv_right _ _ (by omega)] at s
  rw [e, Int.add_mul_emod_self_right] at m
  have p := pow_pos' j
  have n0 : 0 ≤ ((z - d) * 2 ^ j + L % 2 ^ j) / d := Int.ediv_nonneg (Int.add_nonneg (Int.mul_nonneg (by omega) (by omega)) (Int.emod_nonneg _ (by omega))) (by omega)
  refine ⟨by omega, by have := I.rd; omega, by have := I.q0; omega, by omega, ?_, by omega, m⟩
  have h := I.qj
  have d := Int.emod_emod_of_dvd q (Int.dvd_mul_right (2 ^ j : Int) 2)
  rw [← Int.pow_succ, h] at d
  rw [Int.add_emod_right]
  simpa using d.symm
theorem pow_rng64 (n : Nat) (h : n < 64) : 1 ≤ (2 : Int) ^ n ∧ (2 : Int) ^ n ≤ 9223372036854775808 := by
  have h1 : 1 ≤ 2 ^ n := Nat.one_le_two_pow
  have h2 : 2 ^ n ≤ 2 ^ 63 := Nat.pow_le_pow_right (by decide) (by omega)
  have h3 : (2 : Nat) ^ 63 = 9223372036854775808 := by decide
  rw [h3] at h2
  have e : (2 : Int) ^ n = ((2 ^ n : Nat) : Int) := by simp
  rw [e]
  generalize 2 ^ n = x at *
  omega
theorem div_or {L d Q R : Int} {j : Nat} {r q : Int} (I : DivI L d Q R (j + 1) r q) (hj : j < 64) : bits .or .u64 q (IntKind.u64.wrap (2 ^ j)) = q + 2 ^ j := by
  have p := pow_pos' j
  have p1 : (2 : Int) ^ j ≤ 9223372036854775808 := (pow_rng64 j hj).2
  have w : IntKind.u64.wrap (2 ^ j) = 2 ^ j := by rw [wrap_u64]; omega
  rw [w]
  exact orJoin (j + 1) _ _ I.q0 I.q1 (by omega) (by rw [Int.pow_succ]; omega) I.qj (by omega)
theorem div_bit {L d Q R : Int} {j : Nat} {r q : Int} (I : DivI L d Q R (j + 1) r q) (hL : 0 ≤ L) (hLm : L ≤ 18446744073709551615) (hd : d ≤ 18446744073709551615) : bits .or .u64 (IntKind.u64.wrap (r * 2)) (bits .and .u64 (L / 2 ^ j) 1) = (2 * r + L / 2 ^ j % 2) % 18446744073709551616 := by
  have a0 : 0 ≤ L / 2 ^ j := Int.ediv_nonneg hL (Int.le_of_lt (pow_pos' j))
  have a1 : L / 2 ^ j ≤ L := Int.ediv_le_self _ hL
  have r0 := I.r0
  have r1 := I.rd
  rw [and1 _ a0 (by omega)]
  have b0 : 0 ≤ L / 2 ^ j % 2 := by omega
  have b1 : L / 2 ^ j % 2 < 2 := by omega
  generalize L / 2 ^ j % 2 = bit at *
  rw [wrap_u64, or1 _ _ (by omega) (by omega) (by omega) b0 b1]
  omega
theorem div_start (H L d : Int) (hH : 0 ≤ H) (hHd : H < d) (hL : 0 ≤ L) (hLm : L ≤ 18446744073709551615) : DivI L d ((H * 18446744073709551616 + L) / d) ((H * 18446744073709551616 + L) % d) 64 H 0 := by
  have e : L % 2 ^ 64 = L := Int.emod_eq_of_lt hL (by show L < (18446744073709551616 : Int); omega)
  refine ⟨hH, hHd, by omega, by omega, by simp, ?_, ?_⟩
  · rw [e]; simp
  · rw [e]; rfl
theorem quot_word (H L d : Int) (hH : 0 ≤ H) (hHd : H < d) (hL : 0 ≤ L) (hLm : L ≤ 18446744073709551615) : (H * 18446744073709551616 + L) / d ≤ 18446744073709551615 := by
  have : (H * 18446744073709551616 + L) / d < 18446744073709551616 := by
    rw [Int.ediv_lt_iff_lt_mul (by omega)]; omega
  omega

def DivYes (q r : Int) (w : World) (e : Ending) (w' : World) : Prop := e = .returned (.tuple #[.int .u64 q, .int .u64 r, .nilIface]) ∧ Below w.heap.size w w'
set_option maxRecDepth 100000 in
set_option maxHeartbeats 1000000 in
theorem divide_yes (H L d : Int) (hH : 0 ≤ H) (hHd : H < d) (hdm : d ≤ 18446744073709551615) (hL : 0 ≤ L) (hLm : L ≤ 18446744073709551615) (w : World) :
    Calls Try.prog 14 #[.agg #[.int .u64 H, .int .u64 L], .int .u64 d] w (DivYes ((H * 18446744073709551616 + L) / d) ((H * 18446744073709551616 + L) % d) w) := by
  have START := Lib.hid (div_start H L d hH hHd hL hLm)
  have QW := Lib.hid (quot_word H L d hH hHd hL hLm)
  generalize hQ : (H * 18446744073709551616 + L) / d = Q at *
  generalize hR : (H * 18446744073709551616 + L) % d = R at *
  clear hQ hR
  have HL := Lib.hid (And.intro hL hLm)
  clear hLm
  go_enter Try.func14, Try.ntmps14
  go_wp2_with fail
  go_step3
  go_wp2_with fail
  go_step3
  go_wp2_with fail
  go_loop [4, 5, 7] (fun vq vr vi => ∃ (j : Nat) (q r i : Int), j ≤ 64 ∧ vq = .int .u64 q ∧ vr = .int .u64 r ∧ vi = .int .i64 i ∧ i = (j : Int) - 1 ∧ Hid (DivI L d Q R j r q)) (fun _ _ vi => (intOf vi + 1).toNat)
  case atStart => exact ⟨64, 0, H, 63, by omega, rfl, rfl, rfl, by omega, START⟩
  case round =>
    obtain ⟨j, q, r, i, hj, rfl, rfl, rfl, hi, I⟩ := hrel
    rcases j with _ | j
    · obtain rfl : i = -1 := by omega
      clear hi
      have hs := I.out.sum
      have hm := I.out.rem
      have hr := I.out.r0
      have hrd := I.out.rd
      have e1 : r / d = 0 := Int.ediv_eq_zero_of_lt hr hrd
      have e2 : r % d = r := Int.emod_eq_of_lt hr hrd
      simp [e1] at hs
      simp [e2] at hm
      have HS := Lib.hid hs
      have HM := Lib.hid hm
      clear hs hm e1 e2 hr hrd
      go_wp2
      go_ret3
      exact ⟨by rw [HS.out, HM.out]; rfl, (Below.refl _ _).alloc (Nat.le_refl _) _⟩
    · obtain rfl : i = (j : Int) := by omega
      clear hi
      have eb := div_bit I.out hL HL.out.2 hdm
      have I0 := I.out.r0
      have I1 := I.out.rd
      have b0 : 0 ≤ L / 2 ^ j % 2 := by omega
      have b1 : L / 2 ^ j % 2 < 2 := by omega
      have OR := Lib.hid (div_or I.out (by omega))
      obtain ⟨z, hz⟩ : ∃ z, z = 2 * r + L / 2 ^ j % 2 := ⟨_, rfl⟩
      rw [← hz] at eb
      have z0 : 0 ≤ z := by omega
      have z1 : z ≤ 2 * r + 1 := by omega
      have HZ := Lib.hid hz
      clear hz b0 b1
      go_wp2_with fail
      · have h1 : r / 9223372036854775808 = 0 := by assumption
        have h2 : z % 18446744073709551616 < d := by assumption
        have e : z % 18446744073709551616 = z := by omega
        refine ⟨⟨j, q, _, _, by omega, rfl, by rw [e], rfl, by omega, Lib.hid (div_none I.out hL z HZ.out (by omega))⟩, by first | (simp [intOf]; done) | (simp [intOf]; omega)⟩
      · have h1 : r / 9223372036854775808 = 0 := by assumption
        have h2 : d ≤ z % 18446744073709551616 := by assumption
        have e : z % 18446744073709551616 = z := by omega
        refine ⟨⟨j, q + 2 ^ j, _, _, by omega, by rw [OR.out], by rw [e], rfl, by omega, Lib.hid (div_some I.out hL z HZ.out (by omega) QW.out)⟩, by first | (simp [intOf]; done) | (simp [intOf]; omega)⟩
      · have h1 : ¬ r / 9223372036854775808 = 0 := by assumption
        have e : IntKind.u64.wrap (z % 18446744073709551616 - d) = z - d := by rw [wrap_u64]; have := HZ.out; omega
        refine ⟨⟨j, q + 2 ^ j, _, _, by omega, by rw [OR.out], by rw [e], rfl, by omega, Lib.hid (div_some I.out hL z HZ.out (by have := HZ.out; omega) QW.out)⟩, by first | (simp [intOf]; done) | (simp [intOf]; omega)⟩
def DivNo (w : World) (e : Ending) (w' : World) : Prop := ∃ g, e = .returned (.tuple #[.int .u64 0, .int .u64 0, .iface 75 (.pointer (some ⟨g, 0, none⟩))]) ∧ w'.cell? ⟨g, 0, none⟩ = some (.string ⟨#[97, 108, 117]⟩) ∧ w'.cell? ⟨g, 1, none⟩ = some (.int .i64 0) ∧ w'.cell? ⟨g, 2, none⟩ = some (.iface 61 (.int .i64 41)) ∧ Below w.heap.size w w'
theorem divide_no (H L d : Int) (h : d ≤ H) (w : World) :
    Calls Try.prog 14 #[.agg #[.int .u64 H, .int .u64 L], .int .u64 d] w (DivNo w) := by
  go_enter Try.func14, Try.ntmps14
  go_wp2_with fail
  go_step3
  go_wp2
  rw [Exit.noGoto_ret]
  go_ret3
  exact ⟨_, rfl, by simp [go_sem], by simp [go_sem], by simp [go_sem], ((Below.refl _ _).alloc (Nat.le_refl _) _).alloc (by simp) _⟩
end Go.Proofs.Ytdlhapjlpkadnaa
