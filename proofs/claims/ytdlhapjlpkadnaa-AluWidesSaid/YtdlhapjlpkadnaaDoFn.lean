/- The program's operations of the alu, one contract each: what it reckons, in plain numbers. No condition but that the words are words. -/
import Derived.Test.YtdlhapjlpkadnaaHolds
import Derived.Test.YtdlhapjlpkadnaaMath
set_option linter.unusedVariables false
namespace Go.Proofs.Ytdlhapjlpkadnaa
open Go.RowKit

theorem bits_and63 (x : Int) (h0 : 0 ≤ x) (h1 : x ≤ 18446744073709551615) : bits .and .u64 x 63 = x % 64 := and63 x h0 h1
theorem and31w (x : Int) (h0 : 0 ≤ x) (h1 : x ≤ 4294967295) : bits .and .u32 x 31 = x % 32 := bits_mask .u32 32 (by decide) (fun n a b => by rw [IntKind.wrap_u32]; omega) 5 (by decide) x h0 (by show _ < (4294967296 : Int); omega)

def hiS (sa sb : Bool) (a b : Int) : Int := (if sa then wrap64 a else a) * (if sb then wrap64 b else b) / 18446744073709551616 % 18446744073709551616
/-- The operations on two words, by the place of their row. -/
def doV (k : Nat) (a b : Int) : Int := match k with
  | 0 => (a + b) % 18446744073709551616
  | 1 => (a - b) % 18446744073709551616
  | 2 => bits .xor .u64 a b
  | 3 => bits .or .u64 a b
  | 4 => bits .and .u64 a b
  | 5 => a * 2 ^ (b % 64).toNat % 18446744073709551616
  | 6 => a / 2 ^ (b % 64).toNat
  | 7 => wrap64 a / 2 ^ (b % 64).toNat % 18446744073709551616
  | 8 => if wrap64 a < wrap64 b then 1 else 0
  | 9 => if a < b then 1 else 0
  | 10 => a * b % 18446744073709551616
  | 11 => hiS true true a b
  | 12 => hiS false false a b
  | 13 => hiS true false a b
  | 14 => sdiv a b
  | 15 => srem a b
  | 16 => if b = 0 then 18446744073709551615 else a / b
  | 17 => if b = 0 then a else a % b
  | 18 => wd (a + b)
  | 19 => wd (a - b)
  | 20 => wd (a * b)
  | 21 => wd (a % 4294967296 * 2 ^ (b % 32).toNat)
  | 22 => wd (a % 4294967296 / 2 ^ (b % 32).toNat)
  | 23 => wd (wrap32 a / 2 ^ (b % 32).toNat)
  | 24 => wd (sdiv (wd a) (wd b))
  | 25 => wd (srem (wd a) (wd b))
  | 26 => wd (if b % 4294967296 = 0 then 18446744073709551615 else a % 4294967296 / (b % 4294967296))
  | _ => wd (if b % 4294967296 = 0 then a % 4294967296 else a % 4294967296 % (b % 4294967296))

/-- A word. -/
def Word (x : Int) : Prop := 0 ≤ x ∧ x ≤ 18446744073709551615

theorem one_any (b : Bool) (w : World) : Calls Try.prog 53 #[.bool b] w fun e w' => e = .returned (.int .u64 (if b then 1 else 0)) ∧ w = w' := by
  cases b
  all_goals
    go_enter Try.func53, Try.ntmps53
    go_wp2_with fail
    go_ret
    exact ⟨rfl, rfl⟩
theorem f44_any (a b : Int) (w : World) : Calls Try.prog 44 #[.int .u64 a, .int .u64 b] w fun e w' => e = .returned (.int .u64 (doV 0 a b)) ∧ w = w' := by
  go_enter Try.func44, Try.ntmps44
  go_wp2_with fail
  go_ret
  exact ⟨ret_int (by first | rfl | (unfold doV; rw [wrap_u64])), rfl⟩
theorem f45_any (a b : Int) (w : World) : Calls Try.prog 45 #[.int .u64 a, .int .u64 b] w fun e w' => e = .returned (.int .u64 (doV 1 a b)) ∧ w = w' := by
  go_enter Try.func45, Try.ntmps45
  go_wp2_with fail
  go_ret
  exact ⟨ret_int (by first | rfl | (unfold doV; rw [wrap_u64])), rfl⟩
theorem f46_any (a b : Int) (w : World) : Calls Try.prog 46 #[.int .u64 a, .int .u64 b] w fun e w' => e = .returned (.int .u64 (doV 2 a b)) ∧ w = w' := by
  go_enter Try.func46, Try.ntmps46
  go_wp2_with fail
  go_ret
  exact ⟨ret_int (by first | rfl | (unfold doV; rw [wrap_u64])), rfl⟩
theorem f47_any (a b : Int) (w : World) : Calls Try.prog 47 #[.int .u64 a, .int .u64 b] w fun e w' => e = .returned (.int .u64 (doV 3 a b)) ∧ w = w' := by
  go_enter Try.func47, Try.ntmps47
  go_wp2_with fail
  go_ret
  exact ⟨ret_int (by first | rfl | (unfold doV; rw [wrap_u64])), rfl⟩
theorem f48_any (a b : Int) (w : World) : Calls Try.prog 48 #[.int .u64 a, .int .u64 b] w fun e w' => e = .returned (.int .u64 (doV 4 a b)) ∧ w = w' := by
  go_enter Try.func48, Try.ntmps48
  go_wp2_with fail
  go_ret
  exact ⟨ret_int (by first | rfl | (unfold doV; rw [wrap_u64])), rfl⟩
theorem f55_any (a b : Int) (w : World) : Calls Try.prog 55 #[.int .u64 a, .int .u64 b] w fun e w' => e = .returned (.int .u64 (doV 10 a b)) ∧ w = w' := by
  go_enter Try.func55, Try.ntmps55
  go_wp2_with fail
  go_ret
  exact ⟨ret_int (by first | rfl | (unfold doV; rw [wrap_u64])), rfl⟩
theorem f49_any (a b : Int) (hb : Word b) (w : World) : Calls Try.prog 49 #[.int .u64 a, .int .u64 b] w fun e w' => e = .returned (.int .u64 (doV 5 a b)) ∧ w = w' := by
  have hand := bits_and63 b hb.1 hb.2
  have h0 : 0 ≤ b % 64 := by omega
  go_enter Try.func49, Try.ntmps49
  go_wp2_with fail
  go_ret
  exact ⟨ret_int (by first | rfl | (unfold doV; rw [wrap_u64])), rfl⟩
theorem f50_any (a b : Int) (hb : Word b) (w : World) : Calls Try.prog 50 #[.int .u64 a, .int .u64 b] w fun e w' => e = .returned (.int .u64 (doV 6 a b)) ∧ w = w' := by
  have hand := bits_and63 b hb.1 hb.2
  have h0 : 0 ≤ b % 64 := by omega
  go_enter Try.func50, Try.ntmps50
  go_wp2_with fail
  go_ret
  exact ⟨ret_int (by first | rfl | (unfold doV; rw [wrap_u64])), rfl⟩
theorem f51_any (a b : Int) (hb : Word b) (w : World) : Calls Try.prog 51 #[.int .u64 a, .int .u64 b] w fun e w' => e = .returned (.int .u64 (doV 7 a b)) ∧ w = w' := by
  have hand := bits_and63 b hb.1 hb.2
  have h0 : 0 ≤ b % 64 := by omega
  go_enter Try.func51, Try.ntmps51
  go_wp2_with fail
  go_ret
  exact ⟨ret_int (by first | rfl | (unfold doV; rw [wrap_u64])), rfl⟩
theorem f52_any (a b : Int) (w : World) : Calls Try.prog 52 #[.int .u64 a, .int .u64 b] w fun e w' => e = .returned (.int .u64 (doV 8 a b)) ∧ w = w' := by
  go_enter Try.func52, Try.ntmps52
  go_wp2_with (go_at_call 53; refine (one_any _ _).mono ?_; rintro e w' ⟨rfl, rfl⟩)
  all_goals
    go_ret
    exact ⟨ret_int (by first | exact (if_pos (by assumption)).symm | exact (if_neg (by omega)).symm), rfl⟩
theorem f54_any (a b : Int) (w : World) : Calls Try.prog 54 #[.int .u64 a, .int .u64 b] w fun e w' => e = .returned (.int .u64 (doV 9 a b)) ∧ w = w' := by
  go_enter Try.func54, Try.ntmps54
  go_wp2_with (go_at_call 53; refine (one_any _ _).mono ?_; rintro e w' ⟨rfl, rfl⟩)
  all_goals
    go_ret
    exact ⟨ret_int (by first | exact (if_pos (by assumption)).symm | exact (if_neg (by omega)).symm), rfl⟩

open Go.Proofs.Ytdlhapjlpkadnaa.PAluDoes

theorem div_law (a b : Int) (ha : Word a) (hb : Word b) : alu_div.f a b = some (doV 14 a b) := by
  obtain ⟨a0, a1⟩ := ha; obtain ⟨b0, b1⟩ := hb
  unfold alu_div.f
  show _ = some (sdiv a b)
  unfold sdiv
  by_cases h : b = 0
  · rw [if_pos h, if_pos h]
  rw [if_neg h, if_neg h]
  by_cases h1 : b = 18446744073709551615
  · rw [if_pos h1, wrap_u64]
    have e : wrap64 b = -1 := by rw [h1]; unfold wrap64; omega
    rw [e, Int.tdiv_neg, Int.tdiv_one]
    congr 1
    unfold wrap64; omega
  · have hne : wrap64 b ≠ 0 := by unfold wrap64; omega
    rw [if_neg h1, if_neg hne, wrap_u64]
    congr 1
    generalize (wrap64 a).tdiv (wrap64 b) = q
    unfold wrap64; omega
theorem rem_law (a b : Int) (ha : Word a) (hb : Word b) : alu_rem.f a b = some (doV 15 a b) := by
  obtain ⟨a0, a1⟩ := ha; obtain ⟨b0, b1⟩ := hb
  unfold alu_rem.f
  show _ = some (srem a b)
  unfold srem
  by_cases h : b = 0
  · rw [if_pos h, if_pos h]
  rw [if_neg h, if_neg h]
  by_cases h1 : b = 18446744073709551615
  · rw [if_pos h1]
    have e : wrap64 b = -1 := by rw [h1]; unfold wrap64; omega
    rw [e, Int.tmod_neg, Int.tmod_one]
    rfl
  · have hne : wrap64 b ≠ 0 := by unfold wrap64; omega
    rw [if_neg h1, if_neg hne, wrap_u64]
theorem divu_law (a b : Int) (ha : Word a) (hb : Word b) : alu_divu.f a b = some (doV 16 a b) := by
  obtain ⟨a0, a1⟩ := ha; obtain ⟨b0, b1⟩ := hb
  unfold alu_divu.f
  show _ = some (if b = 0 then 18446744073709551615 else a / b)
  by_cases h : b = 0
  · rw [if_pos h, if_pos h]
  · rw [if_neg h, if_neg h, Int.tdiv_eq_ediv_of_nonneg a0, wrap_u64]
    have q0 : 0 ≤ a / b := Int.ediv_nonneg a0 b0
    have q1 : a / b ≤ a := Int.ediv_le_self _ a0
    congr 1; omega
theorem remu_law (a b : Int) (ha : Word a) (hb : Word b) : alu_remu.f a b = some (doV 17 a b) := by
  obtain ⟨a0, a1⟩ := ha; obtain ⟨b0, b1⟩ := hb
  unfold alu_remu.f
  show _ = some (if b = 0 then a else a % b)
  by_cases h : b = 0
  · rw [if_pos h, if_pos h]
  · rw [if_neg h, if_neg h, Int.tmod_eq_emod_of_nonneg a0]

theorem f60_any (a b : Int) (ha : Word a) (hb : Word b) (w : World) : Calls Try.prog 60 #[.int .u64 a, .int .u64 b] w fun e w' => e = .returned (.int .u64 (doV 14 a b)) ∧ YtdlhapjlpkadnaaW.PrintWords.Drawn0 w w' := alu_div.calls a b _ w (div_law a b ha hb)
theorem f61_any (a b : Int) (ha : Word a) (hb : Word b) (w : World) : Calls Try.prog 61 #[.int .u64 a, .int .u64 b] w fun e w' => e = .returned (.int .u64 (doV 15 a b)) ∧ YtdlhapjlpkadnaaW.PrintWords.Drawn0 w w' := alu_rem.calls a b _ w (rem_law a b ha hb)
theorem f62_any (a b : Int) (ha : Word a) (hb : Word b) (w : World) : Calls Try.prog 62 #[.int .u64 a, .int .u64 b] w fun e w' => e = .returned (.int .u64 (doV 16 a b)) ∧ YtdlhapjlpkadnaaW.PrintWords.Drawn0 w w' := alu_divu.calls a b _ w (divu_law a b ha hb)
theorem f63_any (a b : Int) (ha : Word a) (hb : Word b) (w : World) : Calls Try.prog 63 #[.int .u64 a, .int .u64 b] w fun e w' => e = .returned (.int .u64 (doV 17 a b)) ∧ YtdlhapjlpkadnaaW.PrintWords.Drawn0 w w' := alu_remu.calls a b _ w (remu_law a b ha hb)

/-! ### The product by halves -/
def Half (x : Int) : Prop := 0 ≤ x ∧ x ≤ 4294967295
theorem half_prod {x y : Int} (hx : Half x) (hy : Half y) : 0 ≤ x * y ∧ x * y ≤ 18446744065119617025 := by
  refine ⟨Int.mul_nonneg hx.1 hy.1, ?_⟩
  have : x * y ≤ 4294967295 * 4294967295 := Int.mul_le_mul hx.2 hy.2 hy.1 (by decide)
  omega
theorem school_hi (P Q R S : Int) (p0 : 0 ≤ P) (p1 : P ≤ 18446744065119617025) (q0 : 0 ≤ Q) (q1 : Q ≤ 18446744065119617025) (r0 : 0 ≤ R) (r1 : R ≤ 18446744065119617025) (s0 : 0 ≤ S) (s1 : S ≤ 18446744065119617025) :
    IntKind.u64.wrap (IntKind.u64.wrap (IntKind.u64.wrap S + IntKind.u64.wrap (IntKind.u64.wrap Q + IntKind.u64.wrap P / 4294967296) / 4294967296) + IntKind.u64.wrap (IntKind.u64.wrap R + bits .and .u64 (IntKind.u64.wrap (IntKind.u64.wrap Q + IntKind.u64.wrap P / 4294967296)) 4294967295) / 4294967296) = (S * 18446744073709551616 + (Q + R) * 4294967296 + P) / 18446744073709551616 := by
  have e : IntKind.u64.wrap (IntKind.u64.wrap Q + IntKind.u64.wrap P / 4294967296) = Q + P / 4294967296 := by simp only [wrap_u64]; omega
  rw [e, andlow _ (by omega) (by omega)]
  simp only [wrap_u64]; omega
theorem school_lo (P Q R S : Int) (p0 : 0 ≤ P) (p1 : P ≤ 18446744065119617025) (q0 : 0 ≤ Q) (q1 : Q ≤ 18446744065119617025) (r0 : 0 ≤ R) (r1 : R ≤ 18446744065119617025) (s0 : 0 ≤ S) (s1 : S ≤ 18446744065119617025) :
    bits .or .u64 (IntKind.u64.wrap (IntKind.u64.wrap (IntKind.u64.wrap R + bits .and .u64 (IntKind.u64.wrap (IntKind.u64.wrap Q + IntKind.u64.wrap P / 4294967296)) 4294967295) * 4294967296)) (bits .and .u64 (IntKind.u64.wrap P) 4294967295) = (S * 18446744073709551616 + (Q + R) * 4294967296 + P) % 18446744073709551616 := by
  have e : IntKind.u64.wrap (IntKind.u64.wrap Q + IntKind.u64.wrap P / 4294967296) = Q + P / 4294967296 := by simp only [wrap_u64]; omega
  have e2 : IntKind.u64.wrap P = P := by simp only [wrap_u64]; omega
  rw [e, e2, andlow _ (by omega) (by omega), andlow _ (by omega) (by omega)]
  simp only [wrap_u64]
  rw [orJoin 32 _ _ (by omega) (by omega) (by omega) (by show _ < (4294967296 : Int); omega) (by show _ % (4294967296 : Int) = 0; omega) (by omega)]
  omega
theorem school (a b : Int) : a * b = a / 4294967296 * (b / 4294967296) * 18446744073709551616 + (a / 4294967296 * (b % 4294967296) + a % 4294967296 * (b / 4294967296)) * 4294967296 + a % 4294967296 * (b % 4294967296) := by
  have ea : a = a / 4294967296 * 4294967296 + a % 4294967296 := by omega
  have eb : b = b / 4294967296 * 4294967296 + b % 4294967296 := by omega
  generalize a / 4294967296 = p at *; generalize a % 4294967296 = q at *; generalize b / 4294967296 = r at *; generalize b % 4294967296 = s at *
  subst ea eb
  simp only [Int.add_mul, Int.mul_add]
  have m1 : p * 4294967296 * (r * 4294967296) = p * r * 18446744073709551616 := by
    rw [Int.mul_assoc, Int.mul_left_comm 4294967296, ← Int.mul_assoc]; omega
  have m2 : p * 4294967296 * s = p * s * 4294967296 := by rw [Int.mul_assoc, Int.mul_comm 4294967296, Int.mul_assoc]
  have m3 : q * (r * 4294967296) = q * r * 4294967296 := by rw [Int.mul_assoc]
  rw [m1, m2, m3]; omega
set_option maxHeartbeats 1000000 in
theorem mul16_any (a b : Int) (ha : Word a) (hb : Word b) (w : World) : Calls Try.prog 16 #[.int .u64 a, .int .u64 b] w fun e w' => e = .returned (.agg #[.int .u64 (a * b / 18446744073709551616), .int .u64 (a * b % 18446744073709551616)]) ∧ Below w.heap.size w w' := by
  have e1 := andlow a ha.1 ha.2
  have e2 := andlow b hb.1 hb.2
  have al : Half (a % 4294967296) := by unfold Half; omega
  have bl : Half (b % 4294967296) := by unfold Half; omega
  have ah : Half (a / 4294967296) := by have := ha.1; have := ha.2; unfold Half; omega
  have bh : Half (b / 4294967296) := by have := hb.1; have := hb.2; unfold Half; omega
  have p1 := half_prod al bl
  have p2 := half_prod ah bl
  have p3 := half_prod al bh
  have p4 := half_prod ah bh
  have H1 := Lib.hid (school_hi _ _ _ _ p1.1 p1.2 p2.1 p2.2 p3.1 p3.2 p4.1 p4.2)
  have H2 := Lib.hid (school_lo _ _ _ _ p1.1 p1.2 p2.1 p2.2 p3.1 p3.2 p4.1 p4.2)
  have H3 := Lib.hid (school a b)
  clear p1 p2 p3 p4 al bl ah bh
  go_enter Try.func16, Try.ntmps16
  go_wp2_with fail
  refine bodyPost_ret (v := .agg #[.int .u64 (a * b / 18446744073709551616), .int .u64 (a * b % 18446744073709551616)]) (by simp only [H3.out, ← H1.out, ← H2.out]; simp [results, Try.results16, go_sem]) rfl ⟨rfl, ?_⟩
  exact (Below.refl _ _).alloc (Nat.le_refl _) _

/-! ### The upper halves -/
theorem field35_0 (x y : Int) (w : World) : (Instr.field 35 (.agg #[.int .u64 x, .int .u64 y]) 0).run Try.prog w = .ok (.int .u64 x) w := by kernel_rfl
theorem field35_1 (x y : Int) (w : World) : (Instr.field 35 (.agg #[.int .u64 x, .int .u64 y]) 1).run Try.prog w = .ok (.int .u64 y) w := by kernel_rfl
attribute [local go_sem] field35_0 field35_1
theorem hiS_add (x y c : Int) : (x * y - c * 18446744073709551616) / 18446744073709551616 = x * y / 18446744073709551616 - c := by
  rw [Int.sub_eq_add_neg, ← Int.neg_mul, Int.add_mul_ediv_right _ _ (by decide)]; omega
theorem high_any (a b : Int) (sa sb : Bool) (ha : Word a) (hb : Word b) (w : World) : Calls Try.prog 57 #[.int .u64 a, .int .u64 b, .bool sa, .bool sb] w fun e w' => e = .returned (.int .u64 (hiS sa sb a b)) ∧ Below w.heap.size w w' := by
  have hab : 0 ≤ a * b := Int.mul_nonneg ha.1 hb.1
  have hhi : a * b / 18446744073709551616 ≤ 18446744073709551615 := by
    have : a * b ≤ 18446744073709551615 * 18446744073709551615 := Int.mul_le_mul ha.2 hb.2 hb.1 (by omega)
    omega
  have hlo : 0 ≤ a * b / 18446744073709551616 := by omega
  have key : hiS sa sb a b = (a * b / 18446744073709551616 - (if sa = true ∧ wrap64 a < 0 then b else 0) - (if sb = true ∧ wrap64 b < 0 then a else 0)) % 18446744073709551616 := by
    unfold hiS
    have wa : wrap64 a = if wrap64 a < 0 then a - 18446744073709551616 else a := by have := ha.1; have := ha.2; unfold wrap64; split <;> omega
    have wb : wrap64 b = if wrap64 b < 0 then b - 18446744073709551616 else b := by have := hb.1; have := hb.2; unfold wrap64; split <;> omega
    generalize wrap64 a = x at *; generalize wrap64 b = y at *
    clear hhi hlo hab
    cases sa <;> cases sb <;> simp only [Bool.false_eq_true, if_true, if_false, true_and, false_and]
    · simp
    · by_cases h : y < 0
      · rw [if_pos h] at wb ⊢
        rw [wb, Int.mul_sub, hiS_add]; simp
      · rw [if_neg h] at wb ⊢
        rw [wb]; simp
    · by_cases h : x < 0
      · rw [if_pos h] at wa ⊢
        rw [wa, Int.mul_comm, Int.mul_sub, hiS_add, Int.mul_comm b a]; simp
      · rw [if_neg h] at wa ⊢
        rw [wa]; simp
    · by_cases h : x < 0 <;> by_cases h' : y < 0
      · rw [if_pos h] at wa ⊢; rw [if_pos h'] at wb ⊢
        have e : x * y = a * b - (a + b - 18446744073709551616) * 18446744073709551616 := by
          rw [wa, wb, Int.mul_sub, Int.sub_mul, Int.sub_mul, Int.sub_mul, Int.add_mul, Int.mul_comm 18446744073709551616 b]; omega
        rw [e, hiS_add]
        generalize a * b / 18446744073709551616 = z
        omega
      · rw [if_pos h] at wa ⊢; rw [if_neg h'] at wb ⊢
        rw [wa, wb, Int.mul_comm, Int.mul_sub, hiS_add, Int.mul_comm b a]; simp
      · rw [if_neg h] at wa ⊢; rw [if_pos h'] at wb ⊢
        rw [wa, wb, Int.mul_sub, hiS_add]; simp
      · rw [if_neg h] at wa ⊢; rw [if_neg h'] at wb ⊢
        rw [wa, wb]; simp
  have K := Lib.hid key
  clear key
  have HH := Lib.hid (And.intro hlo hhi)
  clear hlo hhi hab
  by_cases h1 : wrap64 a < 0 <;> by_cases h2 : wrap64 b < 0 <;> cases sa <;> cases sb
  all_goals
    go_enter Try.func57, Try.ntmps57
    go_wp2_with fail
    refine (mul16_any a b ha hb _).mono ?_
    rintro e w1 ⟨rfl, hb1⟩
    go_wp2_with fail
    go_ret
    refine ⟨ret_int ?_, hb1⟩
    rw [K.out]
    have q := HH.out
    generalize a * b / 18446744073709551616 = z at *
    clear K HH
    try simp only [h1, h2, wrap_u64]
    (first | omega | (simp; done) | (simp; omega))

theorem f56_any (a b : Int) (ha : Word a) (hb : Word b) (w : World) : Calls Try.prog 56 #[.int .u64 a, .int .u64 b] w fun e w' => e = .returned (.int .u64 (doV 11 a b)) ∧ Below w.heap.size w w' := by
  go_enter Try.func56, Try.ntmps56
  go_wp2_with (go_at_call 57; refine (high_any _ _ _ _ ha hb _).mono ?_; rintro e w' ⟨rfl, hb1⟩)
  go_ret
  exact ⟨rfl, by assumption⟩
theorem f58_any (a b : Int) (ha : Word a) (hb : Word b) (w : World) : Calls Try.prog 58 #[.int .u64 a, .int .u64 b] w fun e w' => e = .returned (.int .u64 (doV 12 a b)) ∧ Below w.heap.size w w' := by
  go_enter Try.func58, Try.ntmps58
  go_wp2_with (go_at_call 57; refine (high_any _ _ _ _ ha hb _).mono ?_; rintro e w' ⟨rfl, hb1⟩)
  go_ret
  exact ⟨rfl, by assumption⟩
theorem f59_any (a b : Int) (ha : Word a) (hb : Word b) (w : World) : Calls Try.prog 59 #[.int .u64 a, .int .u64 b] w fun e w' => e = .returned (.int .u64 (doV 13 a b)) ∧ Below w.heap.size w w' := by
  go_enter Try.func59, Try.ntmps59
  go_wp2_with (go_at_call 57; refine (high_any _ _ _ _ ha hb _).mono ?_; rintro e w' ⟨rfl, hb1⟩)
  go_ret
  exact ⟨rfl, by assumption⟩

/-! ### The operations of 32 bits -/
def HW (x : Int) : Prop := 0 ≤ x ∧ x ≤ 4294967295
/-- What an operation of 32 bits reckons of two halves, by the place of its row less 18. -/
def lowV (j : Nat) (a b : Int) : Int := match j with
  | 0 => (a + b) % 4294967296
  | 1 => (a - b) % 4294967296
  | 2 => a * b % 4294967296
  | 3 => a * 2 ^ (b % 32).toNat % 4294967296
  | 4 => a / 2 ^ (b % 32).toNat
  | 5 => wrap32 a / 2 ^ (b % 32).toNat % 4294967296
  | 6 => if b = 0 then 4294967295 else (wrap32 a).tdiv (wrap32 b) % 4294967296
  | 7 => if b = 0 then a else (wrap32 a).tmod (wrap32 b) % 4294967296
  | 8 => if b = 0 then 4294967295 else a / b
  | _ => if b = 0 then a else a % b
theorem wrap_u32 (x : Int) : IntKind.u32.wrap x = x % 4294967296 := IntKind.wrap_u32 x
theorem f65_any (a b : Int) (w : World) : Calls Try.prog 65 #[.int .u32 a, .int .u32 b] w fun e w' => e = .returned (.int .u32 (lowV 0 a b)) ∧ w = w' := by
  go_enter Try.func65, Try.ntmps65
  go_wp2_with fail
  go_ret
  exact ⟨ret_int (by first | rfl | (unfold lowV; rw [wrap_u32])), rfl⟩
theorem f66_any (a b : Int) (w : World) : Calls Try.prog 66 #[.int .u32 a, .int .u32 b] w fun e w' => e = .returned (.int .u32 (lowV 1 a b)) ∧ w = w' := by
  go_enter Try.func66, Try.ntmps66
  go_wp2_with fail
  go_ret
  exact ⟨ret_int (by first | rfl | (unfold lowV; rw [wrap_u32])), rfl⟩
theorem f67_any (a b : Int) (w : World) : Calls Try.prog 67 #[.int .u32 a, .int .u32 b] w fun e w' => e = .returned (.int .u32 (lowV 2 a b)) ∧ w = w' := by
  go_enter Try.func67, Try.ntmps67
  go_wp2_with fail
  go_ret
  exact ⟨ret_int (by first | rfl | (unfold lowV; rw [wrap_u32])), rfl⟩
theorem f68_any (a b : Int) (hb : HW b) (w : World) : Calls Try.prog 68 #[.int .u32 a, .int .u32 b] w fun e w' => e = .returned (.int .u32 (lowV 3 a b)) ∧ w = w' := by
  have hand := and31w b hb.1 hb.2
  have h0 : 0 ≤ b % 32 := by omega
  go_enter Try.func68, Try.ntmps68
  go_wp2_with fail
  go_ret
  exact ⟨ret_int (by first | rfl | (unfold lowV; rw [wrap_u32])), rfl⟩
theorem f69_any (a b : Int) (hb : HW b) (w : World) : Calls Try.prog 69 #[.int .u32 a, .int .u32 b] w fun e w' => e = .returned (.int .u32 (lowV 4 a b)) ∧ w = w' := by
  have hand := and31w b hb.1 hb.2
  have h0 : 0 ≤ b % 32 := by omega
  go_enter Try.func69, Try.ntmps69
  go_wp2_with fail
  go_ret
  exact ⟨ret_int (by first | rfl | (unfold lowV; rw [wrap_u32])), rfl⟩
theorem f70_any (a b : Int) (hb : HW b) (w : World) : Calls Try.prog 70 #[.int .u32 a, .int .u32 b] w fun e w' => e = .returned (.int .u32 (lowV 5 a b)) ∧ w = w' := by
  have hand := and31w b hb.1 hb.2
  have h0 : 0 ≤ b % 32 := by omega
  go_enter Try.func70, Try.ntmps70
  go_wp2_with fail
  go_ret
  exact ⟨ret_int (by first | rfl | (unfold lowV; rw [wrap_u32])), rfl⟩

theorem divw_law (a b : Int) (ha : HW a) (hb : HW b) : alu_divw.f a b = some (lowV 6 a b) := by
  obtain ⟨a0, a1⟩ := ha; obtain ⟨b0, b1⟩ := hb
  unfold alu_divw.f
  show _ = some (if b = 0 then 4294967295 else (wrap32 a).tdiv (wrap32 b) % 4294967296)
  by_cases h : b = 0
  · rw [if_pos h, if_pos h]
  rw [if_neg h, if_neg h]
  by_cases h1 : b = 4294967295
  · rw [if_pos h1]
    have e : wrap32 b = -1 := by rw [h1]; unfold wrap32; omega
    rw [e, Int.tdiv_neg, Int.tdiv_one]
    congr 1
    unfold wrap32; omega
  · have hne : wrap32 b ≠ 0 := by unfold wrap32; omega
    rw [if_neg h1, if_neg hne]
    congr 1
    generalize (wrap32 a).tdiv (wrap32 b) = q
    unfold wrap32; omega
theorem remw_law (a b : Int) (ha : HW a) (hb : HW b) : alu_remw.f a b = some (lowV 7 a b) := by
  obtain ⟨a0, a1⟩ := ha; obtain ⟨b0, b1⟩ := hb
  unfold alu_remw.f
  show _ = some (if b = 0 then a else (wrap32 a).tmod (wrap32 b) % 4294967296)
  by_cases h : b = 0
  · rw [if_pos h, if_pos h]
  rw [if_neg h, if_neg h]
  by_cases h1 : b = 4294967295
  · rw [if_pos h1]
    have e : wrap32 b = -1 := by rw [h1]; unfold wrap32; omega
    rw [e, Int.tmod_neg, Int.tmod_one]
    rfl
  · have hne : wrap32 b ≠ 0 := by unfold wrap32; omega
    rw [if_neg h1, if_neg hne]
theorem divuw_law (a b : Int) (ha : HW a) (hb : HW b) : alu_divuw.f a b = some (lowV 8 a b) := by
  obtain ⟨a0, a1⟩ := ha; obtain ⟨b0, b1⟩ := hb
  unfold alu_divuw.f
  show _ = some (if b = 0 then 4294967295 else a / b)
  by_cases h : b = 0
  · rw [if_pos h, if_pos h]
  · rw [if_neg h, if_neg h, Int.tdiv_eq_ediv_of_nonneg a0]
    have q0 : 0 ≤ a / b := Int.ediv_nonneg a0 b0
    have q1 : a / b ≤ a := Int.ediv_le_self _ a0
    congr 1; omega
theorem remuw_law (a b : Int) (ha : HW a) (hb : HW b) : alu_remuw.f a b = some (lowV 9 a b) := by
  obtain ⟨a0, a1⟩ := ha; obtain ⟨b0, b1⟩ := hb
  unfold alu_remuw.f
  show _ = some (if b = 0 then a else a % b)
  by_cases h : b = 0
  · rw [if_pos h, if_pos h]
  · rw [if_neg h, if_neg h, Int.tmod_eq_emod_of_nonneg a0]
/-- Each of the ten, in one. -/
theorem low_fn (j : Nat) (hj : j < 10) (a b : Int) (ha : HW a) (hb : HW b) (w : World) : Calls Try.prog (65 + j) #[.int .u32 a, .int .u32 b] w fun e w' => e = .returned (.int .u32 (lowV j a b)) ∧ Below w.heap.size w w' := by
  have h : j = 0 ∨ j = 1 ∨ j = 2 ∨ j = 3 ∨ j = 4 ∨ j = 5 ∨ j = 6 ∨ j = 7 ∨ j = 8 ∨ j = 9 := by omega
  rcases h with rfl | rfl | rfl | rfl | rfl | rfl | rfl | rfl | rfl | rfl
  · exact (f65_any a b w).mono fun _ _ ⟨h, h'⟩ => ⟨h, h' ▸ Below.refl _ _⟩
  · exact (f66_any a b w).mono fun _ _ ⟨h, h'⟩ => ⟨h, h' ▸ Below.refl _ _⟩
  · exact (f67_any a b w).mono fun _ _ ⟨h, h'⟩ => ⟨h, h' ▸ Below.refl _ _⟩
  · exact (f68_any a b hb w).mono fun _ _ ⟨h, h'⟩ => ⟨h, h' ▸ Below.refl _ _⟩
  · exact (f69_any a b hb w).mono fun _ _ ⟨h, h'⟩ => ⟨h, h' ▸ Below.refl _ _⟩
  · exact (f70_any a b hb w).mono fun _ _ ⟨h, h'⟩ => ⟨h, h' ▸ Below.refl _ _⟩
  · exact (alu_divw.calls a b _ w (divw_law a b ha hb)).mono fun _ _ ⟨h, h'⟩ => ⟨h, h'.below⟩
  · exact (alu_remw.calls a b _ w (remw_law a b ha hb)).mono fun _ _ ⟨h, h'⟩ => ⟨h, h'.below⟩
  · exact (alu_divuw.calls a b _ w (divuw_law a b ha hb)).mono fun _ _ ⟨h, h'⟩ => ⟨h, h'.below⟩
  · exact (alu_remuw.calls a b _ w (remuw_law a b ha hb)).mono fun _ _ ⟨h, h'⟩ => ⟨h, h'.below⟩
theorem widen_any (x : Int) (w : World) : Calls Try.prog 82 #[.int .u32 x] w fun e w' => e = .returned (.int .u64 (wd x)) ∧ w = w' := by
  go_enter Try.func82, Try.ntmps82
  go_wp2_with fail
  go_ret
  exact ⟨ret_int (by unfold wd; rw [wrap_u64]; unfold wrap64 wrap32; omega), rfl⟩
theorem enter44 (x : Array Value) (w : World) : (callFunc 44 x).run Try.prog w = .ok (.enter 44 x) w := by kernel_rfl
theorem enter45 (x : Array Value) (w : World) : (callFunc 45 x).run Try.prog w = .ok (.enter 45 x) w := by kernel_rfl
theorem enter46 (x : Array Value) (w : World) : (callFunc 46 x).run Try.prog w = .ok (.enter 46 x) w := by kernel_rfl
theorem enter47 (x : Array Value) (w : World) : (callFunc 47 x).run Try.prog w = .ok (.enter 47 x) w := by kernel_rfl
theorem enter48 (x : Array Value) (w : World) : (callFunc 48 x).run Try.prog w = .ok (.enter 48 x) w := by kernel_rfl
theorem enter49 (x : Array Value) (w : World) : (callFunc 49 x).run Try.prog w = .ok (.enter 49 x) w := by kernel_rfl
theorem enter50 (x : Array Value) (w : World) : (callFunc 50 x).run Try.prog w = .ok (.enter 50 x) w := by kernel_rfl
theorem enter51 (x : Array Value) (w : World) : (callFunc 51 x).run Try.prog w = .ok (.enter 51 x) w := by kernel_rfl
theorem enter52 (x : Array Value) (w : World) : (callFunc 52 x).run Try.prog w = .ok (.enter 52 x) w := by kernel_rfl
theorem enter54 (x : Array Value) (w : World) : (callFunc 54 x).run Try.prog w = .ok (.enter 54 x) w := by kernel_rfl
theorem enter55 (x : Array Value) (w : World) : (callFunc 55 x).run Try.prog w = .ok (.enter 55 x) w := by kernel_rfl
theorem enter56 (x : Array Value) (w : World) : (callFunc 56 x).run Try.prog w = .ok (.enter 56 x) w := by kernel_rfl
theorem enter58 (x : Array Value) (w : World) : (callFunc 58 x).run Try.prog w = .ok (.enter 58 x) w := by kernel_rfl
theorem enter59 (x : Array Value) (w : World) : (callFunc 59 x).run Try.prog w = .ok (.enter 59 x) w := by kernel_rfl
theorem enter60 (x : Array Value) (w : World) : (callFunc 60 x).run Try.prog w = .ok (.enter 60 x) w := by kernel_rfl
theorem enter61 (x : Array Value) (w : World) : (callFunc 61 x).run Try.prog w = .ok (.enter 61 x) w := by kernel_rfl
theorem enter62 (x : Array Value) (w : World) : (callFunc 62 x).run Try.prog w = .ok (.enter 62 x) w := by kernel_rfl
theorem enter63 (x : Array Value) (w : World) : (callFunc 63 x).run Try.prog w = .ok (.enter 63 x) w := by kernel_rfl
theorem enter65 (x : Array Value) (w : World) : (callFunc 65 x).run Try.prog w = .ok (.enter 65 x) w := by kernel_rfl
theorem enter66 (x : Array Value) (w : World) : (callFunc 66 x).run Try.prog w = .ok (.enter 66 x) w := by kernel_rfl
theorem enter67 (x : Array Value) (w : World) : (callFunc 67 x).run Try.prog w = .ok (.enter 67 x) w := by kernel_rfl
theorem enter68 (x : Array Value) (w : World) : (callFunc 68 x).run Try.prog w = .ok (.enter 68 x) w := by kernel_rfl
theorem enter69 (x : Array Value) (w : World) : (callFunc 69 x).run Try.prog w = .ok (.enter 69 x) w := by kernel_rfl
theorem enter70 (x : Array Value) (w : World) : (callFunc 70 x).run Try.prog w = .ok (.enter 70 x) w := by kernel_rfl
theorem enter71 (x : Array Value) (w : World) : (callFunc 71 x).run Try.prog w = .ok (.enter 71 x) w := by kernel_rfl
theorem enter72 (x : Array Value) (w : World) : (callFunc 72 x).run Try.prog w = .ok (.enter 72 x) w := by kernel_rfl
theorem enter73 (x : Array Value) (w : World) : (callFunc 73 x).run Try.prog w = .ok (.enter 73 x) w := by kernel_rfl
theorem enter74 (x : Array Value) (w : World) : (callFunc 74 x).run Try.prog w = .ok (.enter 74 x) w := by kernel_rfl

theorem low_enter (j : Nat) (hj : j < 10) (x : Array Value) (w : World) : (callFunc (65 + j) x).run Try.prog w = .ok (.enter (65 + j) x) w := by
  have h : j = 0 ∨ j = 1 ∨ j = 2 ∨ j = 3 ∨ j = 4 ∨ j = 5 ∨ j = 6 ∨ j = 7 ∨ j = 8 ∨ j = 9 := by omega
  rcases h with rfl | rfl | rfl | rfl | rfl | rfl | rfl | rfl | rfl | rfl
  · exact enter65 _ _
  · exact enter66 _ _
  · exact enter67 _ _
  · exact enter68 _ _
  · exact enter69 _ _
  · exact enter70 _ _
  · exact enter71 _ _
  · exact enter72 _ _
  · exact enter73 _ _
  · exact enter74 _ _

theorem low_law (j : Nat) (hj : j < 10) (a b : Int) (ha : Word a) (hb : Word b) : wd (lowV j (a % 4294967296) (b % 4294967296)) = doV (18 + j) a b := by
  obtain ⟨a0, a1⟩ := ha; obtain ⟨b0, b1⟩ := hb
  have h : j = 0 ∨ j = 1 ∨ j = 2 ∨ j = 3 ∨ j = 4 ∨ j = 5 ∨ j = 6 ∨ j = 7 ∨ j = 8 ∨ j = 9 := by omega
  have hs : b % 4294967296 % 32 = b % 32 := by omega
  have w32 : ∀ x : Int, wrap32 (x % 4294967296) = wrap32 x := fun x => by unfold wrap32; omega
  have z32 : ∀ x : Int, (wd x = 0) ↔ x % 4294967296 = 0 := fun x => by unfold wd wrap32; omega
  rcases h with rfl | rfl | rfl | rfl | rfl | rfl | rfl | rfl | rfl | rfl
  · exact wd_mod _ _ (by show ((a % 4294967296 + b % 4294967296) % 4294967296) % 4294967296 = _; omega)
  · exact wd_mod _ _ (by show ((a % 4294967296 - b % 4294967296) % 4294967296) % 4294967296 = _; omega)
  · refine wd_mod _ _ ?_
    show ((a % 4294967296 * (b % 4294967296)) % 4294967296) % 4294967296 = _
    rw [Int.emod_emod_of_dvd _ (Int.dvd_refl _), ← Int.mul_emod]
  · refine wd_mod _ _ ?_
    show (a % 4294967296 * 2 ^ (b % 4294967296 % 32).toNat % 4294967296) % 4294967296 = _
    rw [Int.emod_emod_of_dvd _ (Int.dvd_refl _), hs]
  · show wd (a % 4294967296 / 2 ^ (b % 4294967296 % 32).toNat) = wd (a % 4294967296 / 2 ^ (b % 32).toNat)
    rw [hs]
  · refine wd_mod _ _ ?_
    show (wrap32 (a % 4294967296) / 2 ^ (b % 4294967296 % 32).toNat % 4294967296) % 4294967296 = _
    rw [Int.emod_emod_of_dvd _ (Int.dvd_refl _), hs, w32]
  · show wd (if b % 4294967296 = 0 then 4294967295 else (wrap32 (a % 4294967296)).tdiv (wrap32 (b % 4294967296)) % 4294967296) = wd (sdiv (wd a) (wd b))
    unfold sdiv
    rw [wd_signed, wd_signed, w32, w32]
    refine wd_mod _ _ ?_
    by_cases h : b % 4294967296 = 0
    · rw [if_pos h, if_pos ((z32 b).2 h)]; omega
    · rw [if_neg h, if_neg (fun e => h ((z32 b).1 e))]
      generalize (wrap32 a).tdiv (wrap32 b) = q; omega
  · show wd (if b % 4294967296 = 0 then a % 4294967296 else (wrap32 (a % 4294967296)).tmod (wrap32 (b % 4294967296)) % 4294967296) = wd (srem (wd a) (wd b))
    unfold srem
    rw [wd_signed, wd_signed, w32, w32]
    refine wd_mod _ _ ?_
    by_cases h : b % 4294967296 = 0
    · rw [if_pos h, if_pos ((z32 b).2 h)]; unfold wd wrap32; omega
    · rw [if_neg h, if_neg (fun e => h ((z32 b).1 e))]
      generalize (wrap32 a).tmod (wrap32 b) = q; omega
  · show wd (if b % 4294967296 = 0 then 4294967295 else a % 4294967296 / (b % 4294967296)) = wd (if b % 4294967296 = 0 then 18446744073709551615 else a % 4294967296 / (b % 4294967296))
    by_cases h : b % 4294967296 = 0
    · rw [if_pos h, if_pos h]; exact wd_mod _ _ (by decide)
    · rw [if_neg h, if_neg h]
  · rfl
theorem conv32 (a : Int) : IntKind.u32.wrap a = a % 4294967296 := IntKind.wrap_u32 a
theorem low1_any (j : Nat) (hj : j < 10) (g : Nat) (a b : Int) (ha : Word a) (hb : Word b) (w : World) (hg : w.cell? ⟨g, 0, none⟩ = some (.func (Fn.func (65 + j)) #[] #[])) :
    Calls Try.prog 81 #[.int .u64 a, .int .u64 b, .pointer (some ⟨g, 0, none⟩)] w fun e w' => e = .returned (.int .u64 (doV (18 + j) a b)) ∧ Below w.heap.size w w' := by
  have hen := low_enter j hj
  have ha' : HW (a % 4294967296) := by unfold HW; omega
  have hb' : HW (b % 4294967296) := by unfold HW; omega
  go_enter Try.func81, Try.ntmps81
  go_wp2_with fail
  refine (low_fn j hj _ _ ha' hb' _).mono ?_
  rintro e w' ⟨rfl, hb1⟩
  generalize hv : lowV j (a % 4294967296) (b % 4294967296) = v
  have HV := Lib.hid hv
  clear hv
  go_wp2_with fail
  refine (widen_any _ _).mono ?_
  rintro e w' ⟨rfl, rfl⟩
  go_wp2_with fail
  go_ret
  exact ⟨ret_int (by rw [← HV.out]; exact low_law j hj a b ha hb), hb1⟩
end Go.Proofs.Ytdlhapjlpkadnaa
