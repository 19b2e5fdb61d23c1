/- AluParts: quotient and remainder belong together, of 64 bits and of 32, signed and not. -/
import Derived.Test.YtdlhapjlpkadnaaDoesK
set_option linter.unusedVariables false
namespace Go.Proofs.Ytdlhapjlpkadnaa
open Go.RowKit
theorem wrap64_mod (x : Int) (h : Word x) : wrap64 x % 18446744073709551616 = x := by obtain ⟨a, b⟩ := h; unfold wrap64; omega
theorem mag_pos (b : Int) (hb : Word b) (h : b ≠ 0) : 0 < mag b ∧ mag b ≤ 9223372036854775808 := by obtain ⟨x, y⟩ := hb; unfold mag; omega
theorem mag_all (b : Int) (hb : Word b) : 0 ≤ mag b ∧ mag b ≤ 9223372036854775808 := by obtain ⟨x, y⟩ := hb; unfold mag; omega
theorem wrap64_mag (x : Int) (hx : Word x) : wrap64 x = if x < 9223372036854775808 then mag x else -mag x := by
  obtain ⟨a, b⟩ := hx
  unfold wrap64 mag; split <;> omega
theorem srem_form (a b : Int) (ha : Word a) (hb : Word b) (h : b ≠ 0) : srem a b = if a < 9223372036854775808 then mag a % mag b else -(mag a % mag b) % 18446744073709551616 := by
  have mp := mag_pos b hb h
  have ma := mag_all a ha
  have r0 := Int.emod_nonneg (mag a) (by omega : mag b ≠ 0)
  have r1 := Int.emod_lt_of_pos (mag a) mp.1
  have tm : (mag a).tmod (mag b) = mag a % mag b := Int.tmod_eq_emod_of_nonneg ma.1
  unfold srem
  rw [if_neg h, wrap64_mag a ha, wrap64_mag b hb]
  by_cases h1 : a < 9223372036854775808 <;> by_cases h2 : b < 9223372036854775808 <;> simp only [h1, h2, if_true, if_false, Int.tmod_neg, Int.neg_tmod, tm]
  all_goals first | rfl | (generalize mag a % mag b = r at *; omega)
theorem parts_sum (a b : Int) (ha : Word a) (hb : Word b) (h : b ≠ 0) : (sdiv a b * b + srem a b) % 18446744073709551616 = a := by
  unfold sdiv srem
  rw [if_neg h, if_neg h]
  have e := Int.mul_tdiv_add_tmod (wrap64 a) (wrap64 b)
  rw [Int.add_emod, Int.mul_emod, Int.emod_emod_of_dvd _ (Int.dvd_refl _), Int.emod_emod_of_dvd _ (Int.dvd_refl _)]
  conv => lhs; lhs; lhs; lhs; rhs; rw [← wrap64_mod b hb]
  rw [Int.emod_emod_of_dvd _ (Int.dvd_refl _), ← Int.mul_emod, ← Int.add_emod, Int.mul_comm, e, wrap64_mod a ha]
theorem parts_lt (a b : Int) (ha : Word a) (hb : Word b) (h : b ≠ 0) : mag (srem a b) < mag b ∧ (srem a b ≠ 0 → srem a b / 9223372036854775808 = a / 9223372036854775808) ∧ Word (srem a b) := by
  have mp := mag_pos b hb h
  have ma := mag_all a ha
  have r0 := Int.emod_nonneg (mag a) (by omega : mag b ≠ 0)
  have r1 := Int.emod_lt_of_pos (mag a) mp.1
  have r2 : mag a % mag b ≤ mag a := by
    have e := Int.mul_ediv_add_emod (mag a) (mag b)
    have p := Int.mul_nonneg (Int.le_of_lt mp.1) (Int.ediv_nonneg ma.1 (Int.le_of_lt mp.1))
    generalize mag b * (mag a / mag b) = z at *
    omega
  rw [srem_form a b ha hb h]
  obtain ⟨a0, a1⟩ := ha
  generalize mag a % mag b = r at *
  generalize mag b = m at *
  have hma : a < 9223372036854775808 → mag a = a := fun h => by unfold mag; rw [if_pos h]
  unfold mag Word
  by_cases h1 : a < 9223372036854775808
  · rw [if_pos h1]
    have := hma h1
    refine ⟨?_, ?_, ?_⟩
    · split <;> omega
    · intro _; omega
    · omega
  · rw [if_neg h1]
    refine ⟨?_, ?_, ?_⟩
    · split <;> omega
    · intro _; omega
    · omega

theorem amount2_any (a : Int) (ha : Word a) (w : World) : Calls Try.prog 21 #[.int .u64 a] w fun e w' => e = .returned (.int .u64 (mag a)) ∧ w = w' := by
  obtain ⟨a0, a1⟩ := ha
  by_cases h : 9223372036854775807 < a
  · have e : (a / 9223372036854775808 == 1) = true := by rw [beq_iff_eq]; omega
    have M := Lib.hid (show mag a = IntKind.u64.wrap (0 - a) by unfold mag; rw [if_neg (by omega), wrap_u64]; omega)
    clear h
    go_enter Try.func21, Try.ntmps21
    go_wp2_with fail
    go_ret
    exact ⟨ret_int (by rw [M.out]; congr 1; omega), rfl⟩
  · have e : (a / 9223372036854775808 == 1) = false := by rw [beq_eq_false_iff_ne]; omega
    have M := Lib.hid (show mag a = a by unfold mag; rw [if_pos (by omega)])
    clear h
    go_enter Try.func21, Try.ntmps21
    go_wp2_with fail
    go_ret
    exact ⟨ret_int (by rw [M.out]), rfl⟩
theorem half2_any (a : Int) (w : World) : Calls Try.prog 22 #[.int .u64 a] w fun e w' => e = .returned (.int .u64 (wd a)) ∧ w = w' := by
  go_enter Try.func22, Try.ntmps22
  go_wp2_with fail
  go_ret
  exact ⟨ret_int (by unfold wd; rw [wrap_u64]; unfold wrap64 wrap32; omega), rfl⟩

/-- What the first half of the statement asks. -/
structure Whole (a b q r u s : Int) : Prop where
  hq : doV 14 a b = q
  hr : doV 15 a b = r
  hu : doV 16 a b = u
  hs : doV 17 a b = s
/-- .. and the second. -/
structure Halves (a b x y q r u s : Int) : Prop where
  hx : wd a = x
  hy : wd b = y
  hq : doV 24 a b = q
  hr : doV 25 a b = r
  hu : doV 26 a b = u
  hs : doV 27 a b = s
  g1 : wd (IntKind.u64.wrap (IntKind.u64.wrap (q * y) + r)) = x
  g2 : wd (IntKind.u64.wrap (IntKind.u64.wrap (u * b) + s)) = x
set_option maxRecDepth 100000 in
set_option maxHeartbeats 8000000 in
theorem p_zero (a x : Int) (ha : Word a) (W : Whole a 0 18446744073709551615 a 18446744073709551615 a) (V : Halves a 0 x 0 18446744073709551615 x 18446744073709551615 x) (w : World) :
    Calls Try.prog 6 #[.int .u64 a, .int .u64 0] w fun e w' => e = .returned (.bool true) ∧ Below w.heap.size w w' := by
  have HA := Lib.hid ha
  have HB := Lib.hid (show Word 0 from ⟨by omega, by omega⟩)
  have WQ := Lib.hid W.hq
  have WR := Lib.hid W.hr
  have WU := Lib.hid W.hu
  have WS := Lib.hid W.hs
  have VX := Lib.hid V.hx
  have VY := Lib.hid V.hy
  have VQ := Lib.hid V.hq
  have VR := Lib.hid V.hr
  have VU := Lib.hid V.hu
  have VS := Lib.hid V.hs
  have e1 : (IntKind.u64.wrap a != a) = false := by rw [wrap_u64]; have := ha.1; have := ha.2; simp; omega
  have e0 : IntKind.u64.wrap 18446744073709551616 = 0 := by rw [wrap_u64]; rfl
  have G1 := Lib.hid (show wd (IntKind.u64.wrap x) = x from by have := V.g1; simpa [wrap_u64] using this)
  have G2 := Lib.hid (show wd (IntKind.u64.wrap x) = x from by have := V.g2; simpa [wrap_u64] using this)
  clear W V ha
  go_enter Try.func6, Try.ntmps6
  go_wp2_with fail
  refine (does_14 a 0 HA.out HB.out _).mono ?_
  rintro e w1 ⟨rfl, k1⟩
  rw [WQ.out]
  go_wp2_with fail
  refine (does_15 a 0 HA.out HB.out _).mono ?_
  rintro e w2 ⟨rfl, k2⟩
  rw [WR.out]
  go_wp2_with fail
  refine (does_16 a 0 HA.out HB.out _).mono ?_
  rintro e w3 ⟨rfl, k3⟩
  rw [WU.out]
  go_wp2_with fail
  refine (does_17 a 0 HA.out HB.out _).mono ?_
  rintro e w4 ⟨rfl, k4⟩
  rw [WS.out]
  go_wp2_with fail
  refine (half2_any _ _).mono ?_
  rintro e w' ⟨rfl, rfl⟩
  rw [VX.out]
  go_wp2_with fail
  refine (half2_any _ _).mono ?_
  rintro e w' ⟨rfl, rfl⟩
  rw [VY.out]
  go_wp2_with fail
  refine (does_24 a 0 HA.out HB.out _).mono ?_
  rintro e w5 ⟨rfl, k5⟩
  rw [VQ.out]
  go_wp2_with fail
  refine (does_25 a 0 HA.out HB.out _).mono ?_
  rintro e w6 ⟨rfl, k6⟩
  rw [VR.out]
  go_wp2_with fail
  refine (does_26 a 0 HA.out HB.out _).mono ?_
  rintro e w7 ⟨rfl, k7⟩
  rw [VU.out]
  go_wp2_with fail
  refine (does_27 a 0 HA.out HB.out _).mono ?_
  rintro e w8 ⟨rfl, k8⟩
  rw [VS.out]
  go_wp2_with fail
  refine (half2_any _ _).mono ?_
  rintro e w' ⟨rfl, rfl⟩
  rw [G1.out]
  go_wp2_with fail
  refine (half2_any _ _).mono ?_
  rintro e w' ⟨rfl, rfl⟩
  rw [G2.out]
  go_wp2_with fail
  go_ret
  have s1 := k1.size
  have s2 := k2.size
  have s3 := k3.size
  have s4 := k4.size
  have s5 := k5.size
  have s6 := k6.size
  have s7 := k7.size
  have j1 := ((k1.trans (k2.mono (by omega))).trans (k3.mono (by omega))).trans (k4.mono (by omega))
  exact ⟨ret_bool (by first | rfl | simp), (((j1.trans (k5.mono (by omega))).trans (k6.mono (by omega))).trans (k7.mono (by omega))).trans (k8.mono (by omega))⟩
set_option maxRecDepth 100000 in
set_option maxHeartbeats 8000000 in
theorem p_z_zero (a b q r u s x : Int) (ha : Word a) (hb : Word b) (W : Whole a b q r u s) (V : Halves a b x 0 18446744073709551615 x 18446744073709551615 x) (hb0 : (b != 0) = true) (hb1 : (b == 0) = false) (f1 : (IntKind.u64.wrap (IntKind.u64.wrap (q * b) + r) != a) = false) (f2 : (IntKind.u64.wrap (IntKind.u64.wrap (u * b) + s) != a) = false) (f3 : mag r < mag b) (f4 : s < b) (f5 : u ≤ a) (wr : Word r) (f6 : (r != 0) = false) (w : World) :
    Calls Try.prog 6 #[.int .u64 a, .int .u64 b] w fun e w' => e = .returned (.bool true) ∧ Below w.heap.size w w' := by
  have HA := Lib.hid ha
  have HB := Lib.hid (show Word b from hb)
  have WQ := Lib.hid W.hq
  have WR := Lib.hid W.hr
  have WU := Lib.hid W.hu
  have WS := Lib.hid W.hs
  have VX := Lib.hid V.hx
  have VY := Lib.hid V.hy
  have VQ := Lib.hid V.hq
  have VR := Lib.hid V.hr
  have VU := Lib.hid V.hu
  have VS := Lib.hid V.hs
  have WRr := Lib.hid wr
  clear wr
  have e0 : IntKind.u64.wrap 18446744073709551616 = 0 := by rw [wrap_u64]; rfl
  have G1 := Lib.hid (show wd (IntKind.u64.wrap x) = x from by have := V.g1; simpa [wrap_u64] using this)
  have G2 := Lib.hid V.g2
  clear W V ha hb
  go_enter Try.func6, Try.ntmps6
  go_wp2_with fail
  refine (does_14 a b HA.out HB.out _).mono ?_
  rintro e w1 ⟨rfl, k1⟩
  rw [WQ.out]
  go_wp2_with fail
  refine (does_15 a b HA.out HB.out _).mono ?_
  rintro e w2 ⟨rfl, k2⟩
  rw [WR.out]
  go_wp2_with fail
  refine (does_16 a b HA.out HB.out _).mono ?_
  rintro e w3 ⟨rfl, k3⟩
  rw [WU.out]
  go_wp2_with fail
  refine (does_17 a b HA.out HB.out _).mono ?_
  rintro e w4 ⟨rfl, k4⟩
  rw [WS.out]
  go_wp2_with fail
  refine (amount2_any _ WRr.out _).mono ?_
  rintro e w' ⟨rfl, rfl⟩
  go_wp2_with fail
  refine (amount2_any _ HB.out _).mono ?_
  rintro e w' ⟨rfl, rfl⟩
  go_wp2_with fail
  refine (half2_any _ _).mono ?_
  rintro e w' ⟨rfl, rfl⟩
  rw [VX.out]
  go_wp2_with fail
  refine (half2_any _ _).mono ?_
  rintro e w' ⟨rfl, rfl⟩
  rw [VY.out]
  go_wp2_with fail
  refine (does_24 a b HA.out HB.out _).mono ?_
  rintro e w5 ⟨rfl, k5⟩
  rw [VQ.out]
  go_wp2_with fail
  refine (does_25 a b HA.out HB.out _).mono ?_
  rintro e w6 ⟨rfl, k6⟩
  rw [VR.out]
  go_wp2_with fail
  refine (does_26 a b HA.out HB.out _).mono ?_
  rintro e w7 ⟨rfl, k7⟩
  rw [VU.out]
  go_wp2_with fail
  refine (does_27 a b HA.out HB.out _).mono ?_
  rintro e w8 ⟨rfl, k8⟩
  rw [VS.out]
  go_wp2_with fail
  refine (half2_any _ _).mono ?_
  rintro e w' ⟨rfl, rfl⟩
  rw [G1.out]
  go_wp2_with fail
  refine (half2_any _ _).mono ?_
  rintro e w' ⟨rfl, rfl⟩
  rw [G2.out]
  go_wp2_with fail
  go_ret
  have s1 := k1.size
  have s2 := k2.size
  have s3 := k3.size
  have s4 := k4.size
  have s5 := k5.size
  have s6 := k6.size
  have s7 := k7.size
  have j1 := ((k1.trans (k2.mono (by omega))).trans (k3.mono (by omega))).trans (k4.mono (by omega))
  exact ⟨ret_bool (by first | rfl | simp), (((j1.trans (k5.mono (by omega))).trans (k6.mono (by omega))).trans (k7.mono (by omega))).trans (k8.mono (by omega))⟩
set_option maxRecDepth 100000 in
set_option maxHeartbeats 8000000 in
theorem p_z_z (a b q r u s x y q2 r2 u2 s2 : Int) (ha : Word a) (hb : Word b) (W : Whole a b q r u s) (V : Halves a b x y q2 r2 u2 s2) (hb0 : (b != 0) = true) (hb1 : (b == 0) = false) (f1 : (IntKind.u64.wrap (IntKind.u64.wrap (q * b) + r) != a) = false) (f2 : (IntKind.u64.wrap (IntKind.u64.wrap (u * b) + s) != a) = false) (f3 : mag r < mag b) (f4 : s < b) (f5 : u ≤ a) (wr : Word r) (f6 : (r != 0) = false) (hy : (y == 0) = false) (h1 : mag r2 < mag y) (h2 : s2 % 4294967296 < b % 4294967296) (wr2 : Word r2) (wy : Word y) (h3 : (r2 == 0) = true) (w : World) :
    Calls Try.prog 6 #[.int .u64 a, .int .u64 b] w fun e w' => e = .returned (.bool true) ∧ Below w.heap.size w w' := by
  have HA := Lib.hid ha
  have HB := Lib.hid (show Word b from hb)
  have WQ := Lib.hid W.hq
  have WR := Lib.hid W.hr
  have WU := Lib.hid W.hu
  have WS := Lib.hid W.hs
  have VX := Lib.hid V.hx
  have VY := Lib.hid V.hy
  have VQ := Lib.hid V.hq
  have VR := Lib.hid V.hr
  have VU := Lib.hid V.hu
  have VS := Lib.hid V.hs
  have WRr := Lib.hid wr
  clear wr
  have e0 : IntKind.u64.wrap 18446744073709551616 = 0 := by rw [wrap_u64]; rfl
  have G1 := Lib.hid V.g1
  have WR2 := Lib.hid wr2
  have WY := Lib.hid wy
  clear wr2 wy
  have G2 := Lib.hid V.g2
  clear W V ha hb
  go_enter Try.func6, Try.ntmps6
  go_wp2_with fail
  refine (does_14 a b HA.out HB.out _).mono ?_
  rintro e w1 ⟨rfl, k1⟩
  rw [WQ.out]
  go_wp2_with fail
  refine (does_15 a b HA.out HB.out _).mono ?_
  rintro e w2 ⟨rfl, k2⟩
  rw [WR.out]
  go_wp2_with fail
  refine (does_16 a b HA.out HB.out _).mono ?_
  rintro e w3 ⟨rfl, k3⟩
  rw [WU.out]
  go_wp2_with fail
  refine (does_17 a b HA.out HB.out _).mono ?_
  rintro e w4 ⟨rfl, k4⟩
  rw [WS.out]
  go_wp2_with fail
  refine (amount2_any _ WRr.out _).mono ?_
  rintro e w' ⟨rfl, rfl⟩
  go_wp2_with fail
  refine (amount2_any _ HB.out _).mono ?_
  rintro e w' ⟨rfl, rfl⟩
  go_wp2_with fail
  refine (half2_any _ _).mono ?_
  rintro e w' ⟨rfl, rfl⟩
  rw [VX.out]
  go_wp2_with fail
  refine (half2_any _ _).mono ?_
  rintro e w' ⟨rfl, rfl⟩
  rw [VY.out]
  go_wp2_with fail
  refine (does_24 a b HA.out HB.out _).mono ?_
  rintro e w5 ⟨rfl, k5⟩
  rw [VQ.out]
  go_wp2_with fail
  refine (does_25 a b HA.out HB.out _).mono ?_
  rintro e w6 ⟨rfl, k6⟩
  rw [VR.out]
  go_wp2_with fail
  refine (does_26 a b HA.out HB.out _).mono ?_
  rintro e w7 ⟨rfl, k7⟩
  rw [VU.out]
  go_wp2_with fail
  refine (does_27 a b HA.out HB.out _).mono ?_
  rintro e w8 ⟨rfl, k8⟩
  rw [VS.out]
  go_wp2_with fail
  refine (half2_any _ _).mono ?_
  rintro e w' ⟨rfl, rfl⟩
  rw [G1.out]
  go_wp2_with fail
  refine (half2_any _ _).mono ?_
  rintro e w' ⟨rfl, rfl⟩
  rw [G2.out]
  go_wp2_with fail
  refine (amount2_any _ WR2.out _).mono ?_
  rintro e w' ⟨rfl, rfl⟩
  go_wp2_with fail
  refine (amount2_any _ WY.out _).mono ?_
  rintro e w' ⟨rfl, rfl⟩
  go_wp2_with fail
  go_ret
  have s1 := k1.size
  have s2 := k2.size
  have s3 := k3.size
  have s4 := k4.size
  have s5 := k5.size
  have s6 := k6.size
  have s7 := k7.size
  have j1 := ((k1.trans (k2.mono (by omega))).trans (k3.mono (by omega))).trans (k4.mono (by omega))
  exact ⟨ret_bool (by first | rfl | simp), (((j1.trans (k5.mono (by omega))).trans (k6.mono (by omega))).trans (k7.mono (by omega))).trans (k8.mono (by omega))⟩
set_option maxRecDepth 100000 in
set_option maxHeartbeats 8000000 in
theorem p_z_n (a b q r u s x y q2 r2 u2 s2 : Int) (ha : Word a) (hb : Word b) (W : Whole a b q r u s) (V : Halves a b x y q2 r2 u2 s2) (hb0 : (b != 0) = true) (hb1 : (b == 0) = false) (f1 : (IntKind.u64.wrap (IntKind.u64.wrap (q * b) + r) != a) = false) (f2 : (IntKind.u64.wrap (IntKind.u64.wrap (u * b) + s) != a) = false) (f3 : mag r < mag b) (f4 : s < b) (f5 : u ≤ a) (wr : Word r) (f6 : (r != 0) = false) (hy : (y == 0) = false) (h1 : mag r2 < mag y) (h2 : s2 % 4294967296 < b % 4294967296) (wr2 : Word r2) (wy : Word y) (h3 : (r2 == 0) = false) (h4 : (r2 / 9223372036854775808 == x / 9223372036854775808) = true) (w : World) :
    Calls Try.prog 6 #[.int .u64 a, .int .u64 b] w fun e w' => e = .returned (.bool true) ∧ Below w.heap.size w w' := by
  have HA := Lib.hid ha
  have HB := Lib.hid (show Word b from hb)
  have WQ := Lib.hid W.hq
  have WR := Lib.hid W.hr
  have WU := Lib.hid W.hu
  have WS := Lib.hid W.hs
  have VX := Lib.hid V.hx
  have VY := Lib.hid V.hy
  have VQ := Lib.hid V.hq
  have VR := Lib.hid V.hr
  have VU := Lib.hid V.hu
  have VS := Lib.hid V.hs
  have WRr := Lib.hid wr
  clear wr
  have e0 : IntKind.u64.wrap 18446744073709551616 = 0 := by rw [wrap_u64]; rfl
  have G1 := Lib.hid V.g1
  have WR2 := Lib.hid wr2
  have WY := Lib.hid wy
  clear wr2 wy
  have G2 := Lib.hid V.g2
  clear W V ha hb
  go_enter Try.func6, Try.ntmps6
  go_wp2_with fail
  refine (does_14 a b HA.out HB.out _).mono ?_
  rintro e w1 ⟨rfl, k1⟩
  rw [WQ.out]
  go_wp2_with fail
  refine (does_15 a b HA.out HB.out _).mono ?_
  rintro e w2 ⟨rfl, k2⟩
  rw [WR.out]
  go_wp2_with fail
  refine (does_16 a b HA.out HB.out _).mono ?_
  rintro e w3 ⟨rfl, k3⟩
  rw [WU.out]
  go_wp2_with fail
  refine (does_17 a b HA.out HB.out _).mono ?_
  rintro e w4 ⟨rfl, k4⟩
  rw [WS.out]
  go_wp2_with fail
  refine (amount2_any _ WRr.out _).mono ?_
  rintro e w' ⟨rfl, rfl⟩
  go_wp2_with fail
  refine (amount2_any _ HB.out _).mono ?_
  rintro e w' ⟨rfl, rfl⟩
  go_wp2_with fail
  refine (half2_any _ _).mono ?_
  rintro e w' ⟨rfl, rfl⟩
  rw [VX.out]
  go_wp2_with fail
  refine (half2_any _ _).mono ?_
  rintro e w' ⟨rfl, rfl⟩
  rw [VY.out]
  go_wp2_with fail
  refine (does_24 a b HA.out HB.out _).mono ?_
  rintro e w5 ⟨rfl, k5⟩
  rw [VQ.out]
  go_wp2_with fail
  refine (does_25 a b HA.out HB.out _).mono ?_
  rintro e w6 ⟨rfl, k6⟩
  rw [VR.out]
  go_wp2_with fail
  refine (does_26 a b HA.out HB.out _).mono ?_
  rintro e w7 ⟨rfl, k7⟩
  rw [VU.out]
  go_wp2_with fail
  refine (does_27 a b HA.out HB.out _).mono ?_
  rintro e w8 ⟨rfl, k8⟩
  rw [VS.out]
  go_wp2_with fail
  refine (half2_any _ _).mono ?_
  rintro e w' ⟨rfl, rfl⟩
  rw [G1.out]
  go_wp2_with fail
  refine (half2_any _ _).mono ?_
  rintro e w' ⟨rfl, rfl⟩
  rw [G2.out]
  go_wp2_with fail
  refine (amount2_any _ WR2.out _).mono ?_
  rintro e w' ⟨rfl, rfl⟩
  go_wp2_with fail
  refine (amount2_any _ WY.out _).mono ?_
  rintro e w' ⟨rfl, rfl⟩
  go_wp2_with fail
  go_ret
  have s1 := k1.size
  have s2 := k2.size
  have s3 := k3.size
  have s4 := k4.size
  have s5 := k5.size
  have s6 := k6.size
  have s7 := k7.size
  have j1 := ((k1.trans (k2.mono (by omega))).trans (k3.mono (by omega))).trans (k4.mono (by omega))
  exact ⟨ret_bool (by first | rfl | simp), (((j1.trans (k5.mono (by omega))).trans (k6.mono (by omega))).trans (k7.mono (by omega))).trans (k8.mono (by omega))⟩
set_option maxRecDepth 100000 in
set_option maxHeartbeats 8000000 in
theorem p_n_zero (a b q r u s x : Int) (ha : Word a) (hb : Word b) (W : Whole a b q r u s) (V : Halves a b x 0 18446744073709551615 x 18446744073709551615 x) (hb0 : (b != 0) = true) (hb1 : (b == 0) = false) (f1 : (IntKind.u64.wrap (IntKind.u64.wrap (q * b) + r) != a) = false) (f2 : (IntKind.u64.wrap (IntKind.u64.wrap (u * b) + s) != a) = false) (f3 : mag r < mag b) (f4 : s < b) (f5 : u ≤ a) (wr : Word r) (f6 : (r != 0) = true) (f7 : (r / 9223372036854775808 != a / 9223372036854775808) = false) (w : World) :
    Calls Try.prog 6 #[.int .u64 a, .int .u64 b] w fun e w' => e = .returned (.bool true) ∧ Below w.heap.size w w' := by
  have HA := Lib.hid ha
  have HB := Lib.hid (show Word b from hb)
  have WQ := Lib.hid W.hq
  have WR := Lib.hid W.hr
  have WU := Lib.hid W.hu
  have WS := Lib.hid W.hs
  have VX := Lib.hid V.hx
  have VY := Lib.hid V.hy
  have VQ := Lib.hid V.hq
  have VR := Lib.hid V.hr
  have VU := Lib.hid V.hu
  have VS := Lib.hid V.hs
  have WRr := Lib.hid wr
  clear wr
  have e0 : IntKind.u64.wrap 18446744073709551616 = 0 := by rw [wrap_u64]; rfl
  have G1 := Lib.hid (show wd (IntKind.u64.wrap x) = x from by have := V.g1; simpa [wrap_u64] using this)
  have G2 := Lib.hid V.g2
  clear W V ha hb
  go_enter Try.func6, Try.ntmps6
  go_wp2_with fail
  refine (does_14 a b HA.out HB.out _).mono ?_
  rintro e w1 ⟨rfl, k1⟩
  rw [WQ.out]
  go_wp2_with fail
  refine (does_15 a b HA.out HB.out _).mono ?_
  rintro e w2 ⟨rfl, k2⟩
  rw [WR.out]
  go_wp2_with fail
  refine (does_16 a b HA.out HB.out _).mono ?_
  rintro e w3 ⟨rfl, k3⟩
  rw [WU.out]
  go_wp2_with fail
  refine (does_17 a b HA.out HB.out _).mono ?_
  rintro e w4 ⟨rfl, k4⟩
  rw [WS.out]
  go_wp2_with fail
  refine (amount2_any _ WRr.out _).mono ?_
  rintro e w' ⟨rfl, rfl⟩
  go_wp2_with fail
  refine (amount2_any _ HB.out _).mono ?_
  rintro e w' ⟨rfl, rfl⟩
  go_wp2_with fail
  refine (half2_any _ _).mono ?_
  rintro e w' ⟨rfl, rfl⟩
  rw [VX.out]
  go_wp2_with fail
  refine (half2_any _ _).mono ?_
  rintro e w' ⟨rfl, rfl⟩
  rw [VY.out]
  go_wp2_with fail
  refine (does_24 a b HA.out HB.out _).mono ?_
  rintro e w5 ⟨rfl, k5⟩
  rw [VQ.out]
  go_wp2_with fail
  refine (does_25 a b HA.out HB.out _).mono ?_
  rintro e w6 ⟨rfl, k6⟩
  rw [VR.out]
  go_wp2_with fail
  refine (does_26 a b HA.out HB.out _).mono ?_
  rintro e w7 ⟨rfl, k7⟩
  rw [VU.out]
  go_wp2_with fail
  refine (does_27 a b HA.out HB.out _).mono ?_
  rintro e w8 ⟨rfl, k8⟩
  rw [VS.out]
  go_wp2_with fail
  refine (half2_any _ _).mono ?_
  rintro e w' ⟨rfl, rfl⟩
  rw [G1.out]
  go_wp2_with fail
  refine (half2_any _ _).mono ?_
  rintro e w' ⟨rfl, rfl⟩
  rw [G2.out]
  go_wp2_with fail
  go_ret
  have s1 := k1.size
  have s2 := k2.size
  have s3 := k3.size
  have s4 := k4.size
  have s5 := k5.size
  have s6 := k6.size
  have s7 := k7.size
  have j1 := ((k1.trans (k2.mono (by omega))).trans (k3.mono (by omega))).trans (k4.mono (by omega))
  exact ⟨ret_bool (by first | rfl | simp), (((j1.trans (k5.mono (by omega))).trans (k6.mono (by omega))).trans (k7.mono (by omega))).trans (k8.mono (by omega))⟩
set_option maxRecDepth 100000 in
set_option maxHeartbeats 8000000 in
theorem p_n_z (a b q r u s x y q2 r2 u2 s2 : Int) (ha : Word a) (hb : Word b) (W : Whole a b q r u s) (V : Halves a b x y q2 r2 u2 s2) (hb0 : (b != 0) = true) (hb1 : (b == 0) = false) (f1 : (IntKind.u64.wrap (IntKind.u64.wrap (q * b) + r) != a) = false) (f2 : (IntKind.u64.wrap (IntKind.u64.wrap (u * b) + s) != a) = false) (f3 : mag r < mag b) (f4 : s < b) (f5 : u ≤ a) (wr : Word r) (f6 : (r != 0) = true) (f7 : (r / 9223372036854775808 != a / 9223372036854775808) = false) (hy : (y == 0) = false) (h1 : mag r2 < mag y) (h2 : s2 % 4294967296 < b % 4294967296) (wr2 : Word r2) (wy : Word y) (h3 : (r2 == 0) = true) (w : World) :
    Calls Try.prog 6 #[.int .u64 a, .int .u64 b] w fun e w' => e = .returned (.bool true) ∧ Below w.heap.size w w' := by
  have HA := Lib.hid ha
  have HB := Lib.hid (show Word b from hb)
  have WQ := Lib.hid W.hq
  have WR := Lib.hid W.hr
  have WU := Lib.hid W.hu
  have WS := Lib.hid W.hs
  have VX := Lib.hid V.hx
  have VY := Lib.hid V.hy
  have VQ := Lib.hid V.hq
  have VR := Lib.hid V.hr
  have VU := Lib.hid V.hu
  have VS := Lib.hid V.hs
  have WRr := Lib.hid wr
  clear wr
  have e0 : IntKind.u64.wrap 18446744073709551616 = 0 := by rw [wrap_u64]; rfl
  have G1 := Lib.hid V.g1
  have WR2 := Lib.hid wr2
  have WY := Lib.hid wy
  clear wr2 wy
  have G2 := Lib.hid V.g2
  clear W V ha hb
  go_enter Try.func6, Try.ntmps6
  go_wp2_with fail
  refine (does_14 a b HA.out HB.out _).mono ?_
  rintro e w1 ⟨rfl, k1⟩
  rw [WQ.out]
  go_wp2_with fail
  refine (does_15 a b HA.out HB.out _).mono ?_
  rintro e w2 ⟨rfl, k2⟩
  rw [WR.out]
  go_wp2_with fail
  refine (does_16 a b HA.out HB.out _).mono ?_
  rintro e w3 ⟨rfl, k3⟩
  rw [WU.out]
  go_wp2_with fail
  refine (does_17 a b HA.out HB.out _).mono ?_
  rintro e w4 ⟨rfl, k4⟩
  rw [WS.out]
  go_wp2_with fail
  refine (amount2_any _ WRr.out _).mono ?_
  rintro e w' ⟨rfl, rfl⟩
  go_wp2_with fail
  refine (amount2_any _ HB.out _).mono ?_
  rintro e w' ⟨rfl, rfl⟩
  go_wp2_with fail
  refine (half2_any _ _).mono ?_
  rintro e w' ⟨rfl, rfl⟩
  rw [VX.out]
  go_wp2_with fail
  refine (half2_any _ _).mono ?_
  rintro e w' ⟨rfl, rfl⟩
  rw [VY.out]
  go_wp2_with fail
  refine (does_24 a b HA.out HB.out _).mono ?_
  rintro e w5 ⟨rfl, k5⟩
  rw [VQ.out]
  go_wp2_with fail
  refine (does_25 a b HA.out HB.out _).mono ?_
  rintro e w6 ⟨rfl, k6⟩
  rw [VR.out]
  go_wp2_with fail
  refine (does_26 a b HA.out HB.out _).mono ?_
  rintro e w7 ⟨rfl, k7⟩
  rw [VU.out]
  go_wp2_with fail
  refine (does_27 a b HA.out HB.out _).mono ?_
  rintro e w8 ⟨rfl, k8⟩
  rw [VS.out]
  go_wp2_with fail
  refine (half2_any _ _).mono ?_
  rintro e w' ⟨rfl, rfl⟩
  rw [G1.out]
  go_wp2_with fail
  refine (half2_any _ _).mono ?_
  rintro e w' ⟨rfl, rfl⟩
  rw [G2.out]
  go_wp2_with fail
  refine (amount2_any _ WR2.out _).mono ?_
  rintro e w' ⟨rfl, rfl⟩
  go_wp2_with fail
  refine (amount2_any _ WY.out _).mono ?_
  rintro e w' ⟨rfl, rfl⟩
  go_wp2_with fail
  go_ret
  have s1 := k1.size
  have s2 := k2.size
  have s3 := k3.size
  have s4 := k4.size
  have s5 := k5.size
  have s6 := k6.size
  have s7 := k7.size
  have j1 := ((k1.trans (k2.mono (by omega))).trans (k3.mono (by omega))).trans (k4.mono (by omega))
  exact ⟨ret_bool (by first | rfl | simp), (((j1.trans (k5.mono (by omega))).trans (k6.mono (by omega))).trans (k7.mono (by omega))).trans (k8.mono (by omega))⟩
set_option maxRecDepth 100000 in
set_option maxHeartbeats 8000000 in
theorem p_n_n (a b q r u s x y q2 r2 u2 s2 : Int) (ha : Word a) (hb : Word b) (W : Whole a b q r u s) (V : Halves a b x y q2 r2 u2 s2) (hb0 : (b != 0) = true) (hb1 : (b == 0) = false) (f1 : (IntKind.u64.wrap (IntKind.u64.wrap (q * b) + r) != a) = false) (f2 : (IntKind.u64.wrap (IntKind.u64.wrap (u * b) + s) != a) = false) (f3 : mag r < mag b) (f4 : s < b) (f5 : u ≤ a) (wr : Word r) (f6 : (r != 0) = true) (f7 : (r / 9223372036854775808 != a / 9223372036854775808) = false) (hy : (y == 0) = false) (h1 : mag r2 < mag y) (h2 : s2 % 4294967296 < b % 4294967296) (wr2 : Word r2) (wy : Word y) (h3 : (r2 == 0) = false) (h4 : (r2 / 9223372036854775808 == x / 9223372036854775808) = true) (w : World) :
    Calls Try.prog 6 #[.int .u64 a, .int .u64 b] w fun e w' => e = .returned (.bool true) ∧ Below w.heap.size w w' := by
  have HA := Lib.hid ha
  have HB := Lib.hid (show Word b from hb)
  have WQ := Lib.hid W.hq
  have WR := Lib.hid W.hr
  have WU := Lib.hid W.hu
  have WS := Lib.hid W.hs
  have VX := Lib.hid V.hx
  have VY := Lib.hid V.hy
  have VQ := Lib.hid V.hq
  have VR := Lib.hid V.hr
  have VU := Lib.hid V.hu
  have VS := Lib.hid V.hs
  have WRr := Lib.hid wr
  clear wr
  have e0 : IntKind.u64.wrap 18446744073709551616 = 0 := by rw [wrap_u64]; rfl
  have G1 := Lib.hid V.g1
  have WR2 := Lib.hid wr2
  have WY := Lib.hid wy
  clear wr2 wy
  have G2 := Lib.hid V.g2
  clear W V ha hb
  go_enter Try.func6, Try.ntmps6
  go_wp2_with fail
  refine (does_14 a b HA.out HB.out _).mono ?_
  rintro e w1 ⟨rfl, k1⟩
  rw [WQ.out]
  go_wp2_with fail
  refine (does_15 a b HA.out HB.out _).mono ?_
  rintro e w2 ⟨rfl, k2⟩
  rw [WR.out]
  go_wp2_with fail
  refine (does_16 a b HA.out HB.out _).mono ?_
  rintro e w3 ⟨rfl, k3⟩
  rw [WU.out]
  go_wp2_with fail
  refine (does_17 a b HA.out HB.out _).mono ?_
  rintro e w4 ⟨rfl, k4⟩
  rw [WS.out]
  go_wp2_with fail
  refine (amount2_any _ WRr.out _).mono ?_
  rintro e w' ⟨rfl, rfl⟩
  go_wp2_with fail
  refine (amount2_any _ HB.out _).mono ?_
  rintro e w' ⟨rfl, rfl⟩
  go_wp2_with fail
  refine (half2_any _ _).mono ?_
  rintro e w' ⟨rfl, rfl⟩
  rw [VX.out]
  go_wp2_with fail
  refine (half2_any _ _).mono ?_
  rintro e w' ⟨rfl, rfl⟩
  rw [VY.out]
  go_wp2_with fail
  refine (does_24 a b HA.out HB.out _).mono ?_
  rintro e w5 ⟨rfl, k5⟩
  rw [VQ.out]
  go_wp2_with fail
  refine (does_25 a b HA.out HB.out _).mono ?_
  rintro e w6 ⟨rfl, k6⟩
  rw [VR.out]
  go_wp2_with fail
  refine (does_26 a b HA.out HB.out _).mono ?_
  rintro e w7 ⟨rfl, k7⟩
  rw [VU.out]
  go_wp2_with fail
  refine (does_27 a b HA.out HB.out _).mono ?_
  rintro e w8 ⟨rfl, k8⟩
  rw [VS.out]
  go_wp2_with fail
  refine (half2_any _ _).mono ?_
  rintro e w' ⟨rfl, rfl⟩
  rw [G1.out]
  go_wp2_with fail
  refine (half2_any _ _).mono ?_
  rintro e w' ⟨rfl, rfl⟩
  rw [G2.out]
  go_wp2_with fail
  refine (amount2_any _ WR2.out _).mono ?_
  rintro e w' ⟨rfl, rfl⟩
  go_wp2_with fail
  refine (amount2_any _ WY.out _).mono ?_
  rintro e w' ⟨rfl, rfl⟩
  go_wp2_with fail
  go_ret
  have s1 := k1.size
  have s2 := k2.size
  have s3 := k3.size
  have s4 := k4.size
  have s5 := k5.size
  have s6 := k6.size
  have s7 := k7.size
  have j1 := ((k1.trans (k2.mono (by omega))).trans (k3.mono (by omega))).trans (k4.mono (by omega))
  exact ⟨ret_bool (by first | rfl | simp), (((j1.trans (k5.mono (by omega))).trans (k6.mono (by omega))).trans (k7.mono (by omega))).trans (k8.mono (by omega))⟩
end Go.Proofs.Ytdlhapjlpkadnaa
