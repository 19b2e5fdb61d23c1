/- The door seat's Mul and Divide: the texts of the plain seat, with this seat's numbers. By an AI agent. -/
import Derived.Test.YtdlhapjlpkadnaaDoorRef
import Derived.Laws.BitsAllLaws
set_option linter.unusedVariables false
set_option linter.unusedSimpArgs false
namespace Go.Proofs.YtdlhapjlpkadnaaDoor
open Go.RowKit
theorem and1 (x : Int) (h0 : 0 ≤ x) (h1 : x ≤ 18446744073709551615) : bits .and .u64 x 1 = x % 2 := bits_mask .u64 64 (by decide) wraps_u64 1 (by decide) x h0 (by show _ < (18446744073709551616 : Int); omega)
theorem and63 (x : Int) (h0 : 0 ≤ x) (h1 : x ≤ 18446744073709551615) : bits .and .u64 x 63 = x % 64 := bits_mask .u64 64 (by decide) wraps_u64 6 (by decide) x h0 (by show _ < (18446744073709551616 : Int); omega)
theorem and31 (x : Int) (h0 : 0 ≤ x) (h1 : x ≤ 18446744073709551615) : bits .and .u64 x 31 = x % 32 := bits_mask .u64 64 (by decide) wraps_u64 5 (by decide) x h0 (by show _ < (18446744073709551616 : Int); omega)
theorem andlow (x : Int) (h0 : 0 ≤ x) (h1 : x ≤ 18446744073709551615) : bits .and .u64 x 4294967295 = x % 4294967296 := bits_mask .u64 64 (by decide) wraps_u64 32 (by decide) x h0 (by show _ < (18446744073709551616 : Int); omega)
theorem orJoin (i : Nat) (x y : Int) (h0 : 0 ≤ x) (h1 : x ≤ 18446744073709551615) (h2 : 0 ≤ y) (h3 : y < 2 ^ i) (h4 : x % 2 ^ i = 0) (h5 : y ≤ 18446744073709551615) : bits .or .u64 x y = x + y := by
  rw [u64_or x y h0 (by omega) h2 (by omega)]
  obtain ⟨X, rfl⟩ := Int.eq_ofNat_of_zero_le h0
  obtain ⟨Y, rfl⟩ := Int.eq_ofNat_of_zero_le h2
  simp only [Int.toNat_natCast]
  rw [nat_join i X Y (by exact_mod_cast h4) (by exact_mod_cast h3)]
  omega
theorem or1 (x y : Int) (h0 : 0 ≤ x) (h1 : x ≤ 18446744073709551615) (hx : x % 2 = 0) (h2 : 0 ≤ y) (h3 : y < 2) : bits .or .u64 x y = x + y := orJoin 1 x y h0 h1 h2 (by simpa using h3) (by simpa using hx) (by omega)

theorem pow_pos' (i : Nat) : (0 : Int) < 2 ^ i := Int.pow_pos (by decide)
theorem emod_succ (L : Int) (h : 0 ≤ L) (i : Nat) : L % 2 ^ (i + 1) = (L / 2 ^ i % 2) * 2 ^ i + L % 2 ^ i := by
  obtain ⟨n, rfl⟩ := Int.eq_ofNat_of_zero_le h
  have := Nat.mod_mul (x := n) (a := 2 ^ i) (b := 2)
  rw [← Nat.pow_succ] at this
  have h2 : n % 2 ^ (i + 1) = (n / 2 ^ i % 2) * 2 ^ i + n % 2 ^ i := by rw [this, Nat.mul_comm]; omega
  exact_mod_cast h2
/-- The long division, with i bits to go. -/
def Half (x : Int) : Prop := 0 ≤ x ∧ x ≤ 4294967295
theorem half_prod {x y : Int} (hx : Half x) (hy : Half y) : 0 ≤ x * y ∧ x * y ≤ 18446744065119617025 := by
  refine ⟨Int.mul_nonneg hx.1 hy.1, ?_⟩
  have : x * y ≤ 4294967295 * 4294967295 := Int.mul_le_mul hx.2 hy.2 hy.1 (by decide)
  omega
theorem school_hi (P Q R S : Int) (p0 : 0 ≤ P) (p1 : P ≤ 18446744065119617025) (q0 : 0 ≤ Q) (q1 : Q ≤ 18446744065119617025) (r0 : 0 ≤ R) (r1 : R ≤ 18446744065119617025) (s0 : 0 ≤ S) (s1 : S ≤ 18446744065119617025) :
    IntKind.u64.wrap (IntKind.u64.wrap (IntKind.u64.wrap S + IntKind.u64.wrap (IntKind.u64.wrap Q + IntKind.u64.wrap P / 4294967296) / 4294967296) + IntKind.u64.wrap (IntKind.u64.wrap R + bits .and .u64 (IntKind.u64.wrap (IntKind.u64.wrap Q + IntKind.u64.wrap P / 4294967296)) 4294967295) / 4294967296) = (S * 18446744073709551616 + (Q + R) * 4294967296 + P) / 18446744073709551616 := by
  have e : IntKind.u64.wrap (IntKind.u64.wrap Q + IntKind.u64.wrap P / 4294967296) = Q + P / 4294967296 := by simp only [wrap_u64]; omega
  rw [e, andlow _ (by omega) (by omega)]
  simp only [wrap_u64]; omega
theorem school_lo (P Q R S : Int) (p0 : 0 ≤ P) (p1 : P ≤ 18446744065119617025) (q0 : 0 ≤ Q) (q1 : Q ≤ 18446744065119617025) (r0 : 0 ≤ R) (r1 : R ≤ 18446744065119617025) (s0 : 0 ≤ S) (s1 : S ≤ 18446744065119617025) :
    bits .or .u64 (IntKind.u64.wrap (IntKind.u64.wrap (IntKind.u64.wrap R + bits .and .u64 (IntKind.u64.wrap (IntKind.u64.wrap Q + IntKind.u64.wrap P / 4294967296)) 4294967295) * 4294967296)) (bits .and .u64 (IntKind.u64.wrap P) 4294967295) = (S * 18446744073709551616 + (Q + R) * 4294967296 + P) % 18446744073709551616 := by
  have e : IntKind.u64.wrap (IntKind.u64.wrap Q + IntKind.u64.wrap P / 4294967296) = Q + P / 4294967296 := by simp only [wrap_u64]; omega
  have e2 : IntKind.u64.wrap P = P := by simp only [wrap_u64]; omega
  rw [e, e2, andlow _ (by omega) (by omega), andlow _ (by omega) (by omega)]
  simp only [wrap_u64]
  rw [orJoin 32 _ _ (by omega) (by omega) (by omega) (by show _ < (4294967296 : Int); omega) (by show _ % (4294967296 : Int) = 0; omega) (by omega)]
  omega
theorem school (a b : Int) : a * b = a / 4294967296 * (b / 4294967296) * 18446744073709551616 + (a / 4294967296 * (b % 4294967296) + a % 4294967296 * (b / 4294967296)) * 4294967296 + a % 4294967296 * (b % 4294967296) := by
  have ea : a = a / 4294967296 * 4294967296 + a % 4294967296 := by omega
  have eb : b = b / 4294967296 * 4294967296 + b % 4294967296 := by omega
  generalize a / 4294967296 = p at *; generalize a % 4294967296 = q at *; generalize b / 4294967296 = r at *; generalize b % 4294967296 = s at *
  subst ea eb
  simp only [Int.add_mul, Int.mul_add]
  have m1 : p * 4294967296 * (r * 4294967296) = p * r * 18446744073709551616 := by
    rw [Int.mul_assoc, Int.mul_left_comm 4294967296, ← Int.mul_assoc]; omega
  have m2 : p * 4294967296 * s = p * s * 4294967296 := by rw [Int.mul_assoc, Int.mul_comm 4294967296, Int.mul_assoc]
  have m3 : q * (r * 4294967296) = q * r * 4294967296 := by rw [Int.mul_assoc]
  rw [m1, m2, m3]; omega
set_option maxHeartbeats 1000000 in
theorem mul16_any (a b : Int) (ha : Word a) (hb : Word b) (w : World) : Calls Tryd.prog 14 #[.int .u64 a, .int .u64 b] w fun e w' => e = .returned (.agg #[.int .u64 (a * b / 18446744073709551616), .int .u64 (a * b % 18446744073709551616)]) ∧ Below w.heap.size w w' := by
  have e1 := andlow a ha.1 ha.2
  have e2 := andlow b hb.1 hb.2
  have al : Half (a % 4294967296) := by unfold Half; omega
  have bl : Half (b % 4294967296) := by unfold Half; omega
  have ah : Half (a / 4294967296) := by have := ha.1; have := ha.2; unfold Half; omega
  have bh : Half (b / 4294967296) := by have := hb.1; have := hb.2; unfold Half; omega
  have p1 := half_prod al bl
  have p2 := half_prod ah bl
  have p3 := half_prod al bh
  have p4 := half_prod ah bh
  have H1 := Lib.hid (school_hi _ _ _ _ p1.1 p1.2 p2.1 p2.2 p3.1 p3.2 p4.1 p4.2)
  have H2 := Lib.hid (school_lo _ _ _ _ p1.1 p1.2 p2.1 p2.2 p3.1 p3.2 p4.1 p4.2)
  have H3 := Lib.hid (school a b)
  clear p1 p2 p3 p4 al bl ah bh
  go_enter Tryd.func14, Tryd.ntmps14
  go_wp2_with fail
  refine bodyPost_ret (v := .agg #[.int .u64 (a * b / 18446744073709551616), .int .u64 (a * b % 18446744073709551616)]) (by simp only [H3.out, ← H1.out, ← H2.out]; simp [results, Tryd.results14, go_sem]) rfl ⟨rfl, ?_⟩
  exact (Below.refl _ _).alloc (Nat.le_refl _) _

/-- Where the division stands with j bits to go. -/
structure DivI (L d Q R : Int) (j : Nat) (r q : Int) : Prop where
  r0 : 0 ≤ r
  rd : r < d
  q0 : 0 ≤ q
  q1 : q ≤ 18446744073709551615
  qj : q % 2 ^ j = 0
  sum : q + (r * 2 ^ j + L % 2 ^ j) / d = Q
  rem : (r * 2 ^ j + L % 2 ^ j) % d = R
theorem div_none {L d Q R : Int} {j : Nat} {r q : Int} (I : DivI L d Q R (j + 1) r q) (hL : 0 ≤ L) (z : Int) (hz : z = 2 * r + L / 2 ^ j % 2) (hzd : z < d) : DivI L d Q R j z q := by
  have hb0 : 0 ≤ L / 2 ^ j % 2 := by omega
  have e : r * 2 ^ (j + 1) + L % 2 ^ (j + 1) = z * 2 ^ j + L % 2 ^ j := by
    rw [emod_succ L hL j, Int.pow_succ, hz]
    generalize L / 2 ^ j % 2 = bit; generalize (2 : Int) ^ j = P; generalize L % P = m
    rw [Int.add_mul, Int.mul_comm 2 r, Int.mul_assoc r 2 P, Int.mul_comm 2 P]; omega
  refine ⟨by have := I.r0; omega, hzd, I.q0, I.q1, ?_, ?_, ?_⟩
  · have h := I.qj
    have d := Int.emod_emod_of_dvd q (Int.dvd_mul_right (2 ^ j : Int) 2)
    rw [← Int.pow_succ, h] at d
    simpa using d.symm
  · rw [← e]; exact I.sum
  · rw [← e]; exact I.rem
theorem div_some {L d Q R : Int} {j : Nat} {r q : Int} (I : DivI L d Q R (j + 1) r q) (hL : 0 ≤ L) (z : Int) (hz : z = 2 * r + L / 2 ^ j % 2) (hzd : ¬ z < d) (hQ : Q ≤ 18446744073709551615) : DivI L d Q R j (z - d) (q + 2 ^ j) := by
  have hb0 : 0 ≤ L / 2 ^ j % 2 := by omega
  have hb1 : L / 2 ^ j % 2 < 2 := by omega
  have hd : 0 < d := by have := I.r0; have := I.rd; omega
  have e : r * 2 ^ (j + 1) + L % 2 ^ (j + 1) = ((z - d) * 2 ^ j + L % 2 ^ j) + 2 ^ j * d := by
    rw [emod_succ L hL j, Int.pow_succ, hz]
    generalize L / 2 ^ j % 2 = bit; generalize (2 : Int) ^ j = P; generalize L % P = m
    rw [Int.sub_mul, Int.add_mul, Int.mul_comm 2 r, Int.mul_assoc r 2 P, Int.mul_comm 2 P, Int.mul_comm d P]; omega
  have s := I.sum
  have m := I.rem
  rw [e, Int.add_mul_ediv_right _ _ (by omega)] at s
  rw [e, Int.add_mul_emod_self_right] at m
  have p := pow_pos' j
  have n0 : 0 ≤ ((z - d) * 2 ^ j + L % 2 ^ j) / d := Int.ediv_nonneg (Int.add_nonneg (Int.mul_nonneg (by omega) (by omega)) (Int.emod_nonneg _ (by omega))) (by omega)
  refine ⟨by omega, by have := I.rd; omega, by have := I.q0; omega, by omega, ?_, by omega, m⟩
  have h := I.qj
  have d := Int.emod_emod_of_dvd q (Int.dvd_mul_right (2 ^ j : Int) 2)
  rw [← Int.pow_succ, h] at d
  rw [Int.add_emod_right]
  simpa using d.symm
theorem pow_rng64 (n : Nat) (h : n < 64) : 1 ≤ (2 : Int) ^ n ∧ (2 : Int) ^ n ≤ 9223372036854775808 := by
  have h1 : 1 ≤ 2 ^ n := Nat.one_le_two_pow
  have h2 : 2 ^ n ≤ 2 ^ 63 := Nat.pow_le_pow_right (by decide) (by omega)
  have h3 : (2 : Nat) ^ 63 = 9223372036854775808 := by decide
  rw [h3] at h2
  have e : (2 : Int) ^ n = ((2 ^ n : Nat) : Int) := by simp
  rw [e]
  generalize 2 ^ n = x at *
  omega
theorem div_or {L d Q R : Int} {j : Nat} {r q : Int} (I : DivI L d Q R (j + 1) r q) (hj : j < 64) : bits .or .u64 q (IntKind.u64.wrap (2 ^ j)) = q + 2 ^ j := by
  have p := pow_pos' j
  have p1 : (2 : Int) ^ j ≤ 9223372036854775808 := (pow_rng64 j hj).2
  have w : IntKind.u64.wrap (2 ^ j) = 2 ^ j := by rw [wrap_u64]; omega
  rw [w]
  exact orJoin (j + 1) _ _ I.q0 I.q1 (by omega) (by rw [Int.pow_succ]; omega) I.qj (by omega)
theorem div_bit {L d Q R : Int} {j : Nat} {r q : Int} (I : DivI L d Q R (j + 1) r q) (hL : 0 ≤ L) (hLm : L ≤ 18446744073709551615) (hd : d ≤ 18446744073709551615) : bits .or .u64 (IntKind.u64.wrap (r * 2)) (bits .and .u64 (L / 2 ^ j) 1) = (2 * r + L / 2 ^ j % 2) % 18446744073709551616 := by
  have a0 : 0 ≤ L / 2 ^ j := Int.ediv_nonneg hL (Int.le_of_lt (pow_pos' j))
  have a1 : L / 2 ^ j ≤ L := Int.ediv_le_self _ hL
  have r0 := I.r0
  have r1 := I.rd
  rw [and1 _ a0 (by omega)]
  have b0 : 0 ≤ L / 2 ^ j % 2 := by omega
  have b1 : L / 2 ^ j % 2 < 2 := by omega
  generalize L / 2 ^ j % 2 = bit at *
  rw [wrap_u64, or1 _ _ (by omega) (by omega) (by omega) b0 b1]
  omega
theorem div_start (H L d : Int) (hH : 0 ≤ H) (hHd : H < d) (hL : 0 ≤ L) (hLm : L ≤ 18446744073709551615) : DivI L d ((H * 18446744073709551616 + L) / d) ((H * 18446744073709551616 + L) % d) 64 H 0 := by
  have e : L % 2 ^ 64 = L := Int.emod_eq_of_lt hL (by show L < (18446744073709551616 : Int); omega)
  refine ⟨hH, hHd, by omega, by omega, by simp, ?_, ?_⟩
  · rw [e]; simp
  · rw [e]; rfl
theorem quot_word (H L d : Int) (hH : 0 ≤ H) (hHd : H < d) (hL : 0 ≤ L) (hLm : L ≤ 18446744073709551615) : (H * 18446744073709551616 + L) / d ≤ 18446744073709551615 := by
  have : (H * 18446744073709551616 + L) / d < 18446744073709551616 := by
    rw [Int.ediv_lt_iff_lt_mul (by omega)]; omega
  omega

def DivYes (q r : Int) (w : World) (e : Ending) (w' : World) : Prop := e = .returned (.tuple #[.int .u64 q, .int .u64 r, .nilIface]) ∧ Below w.heap.size w w'
set_option maxRecDepth 100000 in
set_option maxHeartbeats 1000000 in
theorem divide_yes (H L d : Int) (hH : 0 ≤ H) (hHd : H < d) (hdm : d ≤ 18446744073709551615) (hL : 0 ≤ L) (hLm : L ≤ 18446744073709551615) (w : World) :
    Calls Tryd.prog 13 #[.agg #[.int .u64 H, .int .u64 L], .int .u64 d] w (DivYes ((H * 18446744073709551616 + L) / d) ((H * 18446744073709551616 + L) % d) w) := by
  have START := Lib.hid (div_start H L d hH hHd hL hLm)
  have QW := Lib.hid (quot_word H L d hH hHd hL hLm)
  generalize hQ : (H * 18446744073709551616 + L) / d = Q at *
  generalize hR : (H * 18446744073709551616 + L) % d = R at *
  clear hQ hR
  have HL := Lib.hid (And.intro hL hLm)
  clear hLm
  go_enter Tryd.func13, Tryd.ntmps13
  go_wp2_with fail
  go_step3
  go_wp2_with fail
  go_step3
  go_wp2_with fail
  go_loop [4, 5, 7] (fun vq vr vi => ∃ (j : Nat) (q r i : Int), j ≤ 64 ∧ vq = .int .u64 q ∧ vr = .int .u64 r ∧ vi = .int .i64 i ∧ i = (j : Int) - 1 ∧ Hid (DivI L d Q R j r q)) (fun _ _ vi => (intOf vi + 1).toNat)
  case atStart => exact ⟨64, 0, H, 63, by omega, rfl, rfl, rfl, by omega, START⟩
  case round =>
    obtain ⟨j, q, r, i, hj, rfl, rfl, rfl, hi, I⟩ := hrel
    rcases j with _ | j
    · obtain rfl : i = -1 := by omega
      clear hi
      have hs := I.out.sum
      have hm := I.out.rem
      have hr := I.out.r0
      have hrd := I.out.rd
      have e1 : r / d = 0 := Int.ediv_eq_zero_of_lt hr hrd
      have e2 : r % d = r := Int.emod_eq_of_lt hr hrd
      simp [e1] at hs
      simp [e2] at hm
      have HS := Lib.hid hs
      have HM := Lib.hid hm
      clear hs hm e1 e2 hr hrd
      go_wp2
      go_ret3
      exact ⟨by rw [HS.out, HM.out]; rfl, (Below.refl _ _).alloc (Nat.le_refl _) _⟩
    · obtain rfl : i = (j : Int) := by omega
      clear hi
      have eb := div_bit I.out hL HL.out.2 hdm
      have I0 := I.out.r0
      have I1 := I.out.rd
      have b0 : 0 ≤ L / 2 ^ j % 2 := by omega
      have b1 : L / 2 ^ j % 2 < 2 := by omega
      have OR := Lib.hid (div_or I.out (by omega))
      obtain ⟨z, hz⟩ : ∃ z, z = 2 * r + L / 2 ^ j % 2 := ⟨_, rfl⟩
      rw [← hz] at eb
      have z0 : 0 ≤ z := by omega
      have z1 : z ≤ 2 * r + 1 := by omega
      have HZ := Lib.hid hz
      clear hz b0 b1
      go_wp2_with fail
      · have h1 : r / 9223372036854775808 = 0 := by assumption
        have h2 : z % 18446744073709551616 < d := by assumption
        have e : z % 18446744073709551616 = z := by omega
        refine ⟨⟨j, q, _, _, by omega, rfl, by rw [e], rfl, by omega, Lib.hid (div_none I.out hL z HZ.out (by omega))⟩, by first | (simp [intOf]; done) | (simp [intOf]; omega)⟩
      · have h1 : r / 9223372036854775808 = 0 := by assumption
        have h2 : d ≤ z % 18446744073709551616 := by assumption
        have e : z % 18446744073709551616 = z := by omega
        refine ⟨⟨j, q + 2 ^ j, _, _, by omega, by rw [OR.out], by rw [e], rfl, by omega, Lib.hid (div_some I.out hL z HZ.out (by omega) QW.out)⟩, by first | (simp [intOf]; done) | (simp [intOf]; omega)⟩
      · have h1 : ¬ r / 9223372036854775808 = 0 := by assumption
        have e : IntKind.u64.wrap (z % 18446744073709551616 - d) = z - d := by rw [wrap_u64]; have := HZ.out; omega
        refine ⟨⟨j, q + 2 ^ j, _, _, by omega, by rw [OR.out], by rw [e], rfl, by omega, Lib.hid (div_some I.out hL z HZ.out (by have := HZ.out; omega) QW.out)⟩, by first | (simp [intOf]; done) | (simp [intOf]; omega)⟩
def DivNo (w : World) (e : Ending) (w' : World) : Prop := ∃ g, e = .returned (.tuple #[.int .u64 0, .int .u64 0, .iface 59 (.pointer (some ⟨g, 0, none⟩))]) ∧ w'.cell? ⟨g, 0, none⟩ = some (.string ⟨#[97, 108, 117]⟩) ∧ w'.cell? ⟨g, 1, none⟩ = some (.int .i64 0) ∧ w'.cell? ⟨g, 2, none⟩ = some (.iface 49 (.int .i64 41)) ∧ Below w.heap.size w w'
theorem divide_no (H L d : Int) (h : d ≤ H) (w : World) :
    Calls Tryd.prog 13 #[.agg #[.int .u64 H, .int .u64 L], .int .u64 d] w (DivNo w) := by
  go_enter Tryd.func13, Tryd.ntmps13
  go_wp2_with fail
  go_step3
  go_wp2
  rw [Exit.noGoto_ret]
  go_ret3
  exact ⟨_, rfl, by simp [go_sem], by simp [go_sem], by simp [go_sem], ((Below.refl _ _).alloc (Nat.le_refl _) _).alloc (by simp) _⟩
end Go.Proofs.YtdlhapjlpkadnaaDoor
