/- AluParts: quotient and remainder belong together: the plain half, and the statement's contract. -/
import Derived.Test.YtdlhapjlpkadnaaParts
set_option linter.unusedVariables false
namespace Go.Proofs.Ytdlhapjlpkadnaa
open Go.RowKit
theorem wd_wd (x : Int) : wd (wd x) = wd x := wd_mod _ _ (by unfold wd wrap32; omega)
theorem wd_emod (x : Int) : wd x % 4294967296 = x % 4294967296 := by unfold wd wrap32; omega
theorem wd_zero (b : Int) : wd b = 0 ↔ b % 4294967296 = 0 := by unfold wd wrap32; omega
theorem sdiv_zero (a : Int) : sdiv a 0 = 18446744073709551615 := if_pos rfl
theorem srem_zero (a : Int) : srem a 0 = a := if_pos rfl
theorem halves_zero (a b : Int) (h : b % 4294967296 = 0) : Halves a b (wd a) 0 18446744073709551615 (wd a) 18446744073709551615 (wd a) := by
  have hy : wd b = 0 := (wd_zero b).2 h
  refine ⟨rfl, hy, ?_, ?_, ?_, ?_, ?_, ?_⟩
  · show wd (sdiv (wd a) (wd b)) = _
    rw [hy, sdiv_zero]; unfold wd wrap32; omega
  · show wd (srem (wd a) (wd b)) = _
    rw [hy, srem_zero, wd_wd]
  · show wd (if b % 4294967296 = 0 then _ else _) = _
    rw [if_pos h]; unfold wd wrap32; omega
  · show wd (if b % 4294967296 = 0 then _ else _) = _
    rw [if_pos h]; exact wd_mod _ _ (by omega)
  · have := wd_emod a
    exact (wd_mod _ _ (by simp only [wrap_u64]; omega)).trans (wd_wd a)
  · have := wd_emod a
    exact (wd_mod _ _ (by simp only [wrap_u64]; omega)).trans (wd_wd a)
theorem mod32 (x : Int) : IntKind.u64.wrap x % 4294967296 = x % 4294967296 := by rw [wrap_u64]; omega
theorem wd_sum (p r x : Int) (h : (p + r) % 4294967296 = x % 4294967296) : wd (IntKind.u64.wrap (IntKind.u64.wrap p + r)) = wd x :=
  wd_mod _ _ (by rw [mod32, Int.add_emod, mod32, ← Int.add_emod, h])
theorem halves_more (a b : Int) (ha : Word a) (hb : Word b) (h : b % 4294967296 ≠ 0) : Halves a b (wd a) (wd b) (wd (sdiv (wd a) (wd b))) (wd (srem (wd a) (wd b))) (wd (a % 4294967296 / (b % 4294967296))) (wd (a % 4294967296 % (b % 4294967296))) := by
  have hy : wd b ≠ 0 := fun e => h ((wd_zero b).1 e)
  refine ⟨rfl, rfl, rfl, rfl, ?_, ?_, ?_, ?_⟩
  · show wd (if b % 4294967296 = 0 then _ else _) = _
    rw [if_neg h]
  · show wd (if b % 4294967296 = 0 then _ else _) = _
    rw [if_neg h]
  · have e := parts_sum (wd a) (wd b) (wd_rng a) (wd_rng b) hy
    rw [wd_sum _ _ (wd a), wd_wd]
    rw [Int.add_emod, Int.mul_emod, wd_emod, wd_emod (srem _ _), ← Int.mul_emod, ← Int.add_emod]
    generalize sdiv (wd a) (wd b) * wd b + srem (wd a) (wd b) = z at *
    omega
  · rw [wd_sum _ _ a]
    rw [Int.add_emod, Int.mul_emod, wd_emod, wd_emod (_ % _), ← Int.add_emod]
    have e := Int.mul_ediv_add_emod (a % 4294967296) (b % 4294967296)
    have e2 : a % 4294967296 / (b % 4294967296) % 4294967296 = a % 4294967296 / (b % 4294967296) := by
      have q0 : 0 ≤ a % 4294967296 / (b % 4294967296) := Int.ediv_nonneg (by omega) (by omega)
      have q1 : a % 4294967296 / (b % 4294967296) ≤ a % 4294967296 := Int.ediv_le_self _ (by omega)
      omega
    rw [e2, Int.mul_comm, e, Int.emod_emod_of_dvd _ (Int.dvd_refl _)]
theorem rem_half (a b : Int) (ha : Word a) (hb : Word b) (h : b % 4294967296 ≠ 0) : wd (srem (wd a) (wd b)) = srem (wd a) (wd b) := by
  have hy : wd b ≠ 0 := fun e => h ((wd_zero b).1 e)
  have mp := mag_pos (wd b) (wd_rng b) hy
  have ml : mag (wd b) ≤ 2147483648 := by unfold mag wd wrap32; split <;> omega
  have r0 := Int.emod_nonneg (mag (wd a)) (by omega : mag (wd b) ≠ 0)
  have r1 := Int.emod_lt_of_pos (mag (wd a)) mp.1
  rw [srem_form (wd a) (wd b) (wd_rng a) (wd_rng b) hy]
  generalize mag (wd a) % mag (wd b) = r at *
  generalize wd a = x
  unfold wd wrap32
  split <;> omega
theorem law_parts (a b : Int) (ha0 : 0 ≤ a) (ha1 : a ≤ 18446744073709551615) (hb0 : 0 ≤ b) (hb1 : b ≤ 18446744073709551615) (w : World) :
    Calls Try.prog 6 #[.int .u64 a, .int .u64 b] w fun e w' => e = .returned (.bool true) ∧ Below w.heap.size w w' := by
  have ha : Word a := ⟨ha0, ha1⟩
  have hb : Word b := ⟨hb0, hb1⟩
  by_cases h : b = 0
  · subst h
    exact p_zero a (wd a) ha ⟨rfl, rfl, rfl, rfl⟩ (halves_zero a 0 rfl) w
  have W : Whole a b (sdiv a b) (srem a b) (a / b) (a % b) := ⟨rfl, rfl, if_neg h, if_neg h⟩
  have e0 : (b != 0) = true := by simpa using h
  have e1 : (b == 0) = false := by simpa using h
  have ps := parts_sum a b ha hb h
  have pl := parts_lt a b ha hb h
  have f1 : (IntKind.u64.wrap (IntKind.u64.wrap (sdiv a b * b) + srem a b) != a) = false := by
    have : IntKind.u64.wrap (IntKind.u64.wrap (sdiv a b * b) + srem a b) = a := by
      simp only [wrap_u64]
      rw [Int.add_emod, Int.emod_emod_of_dvd _ (Int.dvd_refl _), ← Int.add_emod, ps]
    rw [this]; simp
  have f2 : (IntKind.u64.wrap (IntKind.u64.wrap (a / b * b) + a % b) != a) = false := by
    have : IntKind.u64.wrap (IntKind.u64.wrap (a / b * b) + a % b) = a := by
      simp only [wrap_u64]
      rw [Int.add_emod, Int.emod_emod_of_dvd _ (Int.dvd_refl _), ← Int.add_emod, Int.ediv_mul_add_emod]
      omega
    rw [this]; simp
  have f4 : a % b < b := Int.emod_lt_of_pos _ (by omega)
  have f5 : a / b ≤ a := Int.ediv_le_self _ ha0
  have f7 : srem a b ≠ 0 → (srem a b / 9223372036854775808 != a / 9223372036854775808) = false := fun h => by simp [pl.2.1 h]
  by_cases hy : b % 4294967296 = 0
  · have V := halves_zero a b hy
    by_cases hr : srem a b = 0
    · exact p_z_zero a b _ _ _ _ _ ha hb W V e0 e1 f1 f2 pl.1 f4 f5 pl.2.2 (by simp [hr]) w
    · exact p_n_zero a b _ _ _ _ _ ha hb W V e0 e1 f1 f2 pl.1 f4 f5 pl.2.2 (by simp [hr]) (f7 hr) w
  · have V := halves_more a b ha hb hy
    have hyw : wd b ≠ 0 := fun e => hy ((wd_zero b).1 e)
    have g0 : (wd b == 0) = false := by simpa using hyw
    have rh := rem_half a b ha hb hy
    have pl2 := parts_lt (wd a) (wd b) (wd_rng a) (wd_rng b) hyw
    rw [← rh] at pl2
    have g2 : wd (a % 4294967296 % (b % 4294967296)) % 4294967296 < b % 4294967296 := by
      rw [wd_emod]
      have q0 := Int.emod_nonneg (a % 4294967296) hy
      have q1 := Int.emod_lt_of_pos (a % 4294967296) (by omega : 0 < b % 4294967296)
      generalize a % 4294967296 % (b % 4294967296) = z at *
      omega
    have g4 : wd (srem (wd a) (wd b)) ≠ 0 → (wd (srem (wd a) (wd b)) / 9223372036854775808 == wd a / 9223372036854775808) = true := fun h => by simp [pl2.2.1 h]
    by_cases hr : srem a b = 0 <;> by_cases hr2 : wd (srem (wd a) (wd b)) = 0
    · exact p_z_z a b _ _ _ _ _ _ _ _ _ _ ha hb W V e0 e1 f1 f2 pl.1 f4 f5 pl.2.2 (by simp [hr]) g0 pl2.1 g2 pl2.2.2 (wd_rng b) (by simp [hr2]) w
    · exact p_z_n a b _ _ _ _ _ _ _ _ _ _ ha hb W V e0 e1 f1 f2 pl.1 f4 f5 pl.2.2 (by simp [hr]) g0 pl2.1 g2 pl2.2.2 (wd_rng b) (by simp [hr2]) (g4 hr2) w
    · exact p_n_z a b _ _ _ _ _ _ _ _ _ _ ha hb W V e0 e1 f1 f2 pl.1 f4 f5 pl.2.2 (by simp [hr]) (f7 hr) g0 pl2.1 g2 pl2.2.2 (wd_rng b) (by simp [hr2]) w
    · exact p_n_n a b _ _ _ _ _ _ _ _ _ _ ha hb W V e0 e1 f1 f2 pl.1 f4 f5 pl.2.2 (by simp [hr]) (f7 hr) g0 pl2.1 g2 pl2.2.2 (wd_rng b) (by simp [hr2]) (g4 hr2) w
end Go.Proofs.Ytdlhapjlpkadnaa
