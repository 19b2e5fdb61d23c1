/- A word and its fields, both ways, in plain numbers. By an AI agent; printed by wip/gen_decmath.py. -/
import Derived.Test.YtgjiojcdifjhcaaDoorEnc
set_option linter.unusedVariables false
set_option linter.unusedSimpArgs false
namespace Go.Proofs.YtgjiojcdifjhcaaDoor
open Go.RowKit
/-- The bits of a word that a shape fixes. -/
def fixI (s : Nat) (W : Int) : Int := match s with
  | 1 | 4 => W % 128 + W / 4096 % 8 * 4096 + W / 33554432 % 128 * 33554432
  | 12 => W % 128 + W / 4096 % 8 * 4096 + W / 33554432 % 128 * 33554432 + W / 128 % 32 * 128
  | 3 => W % 128 + W / 4096 % 8 * 4096 + W / 67108864 % 64 * 67108864
  | 8 | 9 => W % 128
  | 11 => W
  | _ => W % 128 + W / 4096 % 8 * 4096
def sg (u h m : Int) : Int := if h ≤ u then u - m else u
/-- Imm, taken out of a word. -/
def tkI (s : Nat) (W : Int) : Int := match s with
  | 2 | 5 => sg (W / 1048576 % 4096) 2048 4096
  | 3 => W / 1048576 % 64
  | 4 => W / 1048576 % 32
  | 6 => sg (W / 33554432 % 128) 64 128 * 32 + W / 128 % 32
  | 7 => sg (W / 2147483648 % 2) 1 2 * 4096 + W / 128 % 2 * 2048 + W / 33554432 % 64 * 32 + W / 256 % 16 * 2
  | 8 => sg (W / 4096 % 1048576) 524288 1048576 * 4096
  | 9 => sg (W / 2147483648 % 2) 1 2 * 1048576 + W / 4096 % 256 * 4096 + W / 1048576 % 2 * 2048 + W / 2097152 % 1024 * 2
  | 10 => W / 1048576 % 4096
  | 14 => W / 32768 % 32
  | _ => 0
def fieldOf (s k : Nat) (W : Int) : Int := if hasB s k = true then (match k with | 0 => W / 128 % 32 | 1 => W / 32768 % 32 | 2 => W / 1048576 % 32 | _ => W / 1048576 % 4096) else 0
theorem dig (W a b c M N R : Int) (hM : 0 < M) (hR : R = M * N) (h : W = a + b * M + c * R) (a0 : 0 ≤ a) (a1 : a < M) (b0 : 0 ≤ b) (b1 : b < N) : W / M % N = b := by
  have e : W = a + M * (b + c * N) := by
    rw [h, hR, Int.mul_add, Int.mul_comm M b, Int.add_assoc, Int.mul_left_comm M c N]
  have e1 : W / M = b + c * N := by
    rw [e, Int.add_mul_ediv_left _ _ (Int.ne_of_gt hM), Int.ediv_eq_zero_of_lt a0 a1, Int.zero_add]
  rw [e1, Int.add_mul_emod_self_right, Int.emod_eq_of_lt b0 b1]
theorem dig0 (W b c N : Int) (h : W = b + c * N) (b0 : 0 ≤ b) (b1 : b < N) : W % N = b := by
  rw [h, Int.add_mul_emod_self_right, Int.emod_eq_of_lt b0 b1]
theorem split (q N : Int) (hN : 0 < N) (h0 : 0 ≤ q) : ∃ r d : Int, 0 ≤ d ∧ d < N ∧ q = d + N * r ∧ 0 ≤ r :=
  ⟨q / N, q % N, Int.emod_nonneg _ (Int.ne_of_gt hN), Int.emod_lt_of_pos _ hN, (Int.emod_add_mul_ediv q N).symm, Int.ediv_nonneg h0 (Int.le_of_lt hN)⟩
theorem tmod_emod {v k : Int} (h : v.tmod k = 0) : k ∣ v := Int.dvd_of_tmod_eq_zero h
theorem enc_word_1 (K rd r1 r2 csr v W : Int) (k0 : 0 ≤ K) (k1 : K < 4294967296) (g0 : hasB 1 0 = true → K / 128 % 32 = 0) (g1 : hasB 1 1 = true → K / 32768 % 32 = 0) (g2 : hasB 1 2 = true → K / 1048576 % 32 = 0) (g3 : hasB 1 3 = true → K / 1048576 % 4096 = 0) (gI : gapI 1 K = true) (gF : fixI 1 K = K)
    (h0 : okF 1 0 rd) (h1 : okF 1 1 r1) (h2 : okF 1 2 r2) (h3 : okF 1 3 csr) (hi : immOk 1 v) (hW : W = K + rd * 128 + r1 * 32768 + r2 * 1048576 + csr * 1048576 + immI 1 v) :
    fixI 1 W = K ∧ fieldOf 1 0 W = rd ∧ fieldOf 1 1 W = r1 ∧ fieldOf 1 2 W = r2 ∧ fieldOf 1 3 W = csr ∧ tkI 1 W = v := by
  have a0 : 0 ≤ rd ∧ rd ≤ 31 := h0
  have c0 : K / 128 % 32 = 0 := g0 rfl
  have a1 : 0 ≤ r1 ∧ r1 ≤ 31 := h1
  have c1 : K / 32768 % 32 = 0 := g1 rfl
  have a2 : 0 ≤ r2 ∧ r2 ≤ 31 := h2
  have c2 : K / 1048576 % 32 = 0 := g2 rfl
  have a3 : 0 ≤ csr ∧ csr ≤ 0 := h3
  have f0 : K % 128 + K / 4096 % 8 * 4096 + K / 33554432 % 128 * 33554432 = K := gF
  have i0 : 0 ≤ v := hi.1
  have i1 : v ≤ 0 := hi.2.1
  have e : W = K + rd * 128 + r1 * 32768 + r2 * 1048576 + csr * 1048576 + (0) := hW
  clear h0 h1 h2 h3 g0 g1 g2 g3 gI gF hi hW
  refine ⟨?_, ?_, ?_, ?_, ?_, ?_⟩
  · show W % 128 + W / 4096 % 8 * 4096 + W / 33554432 % 128 * 33554432 = K
    omega
  · show W / 128 % 32 = rd
    omega
  · show W / 32768 % 32 = r1
    omega
  · show W / 1048576 % 32 = r2
    omega
  · show 0 = csr
    omega
  · show 0 = v
    omega
theorem dec_word_1 (K W : Int) (w0 : 0 ≤ W) (w1 : W < 4294967296) (hf : fixI 1 W = K) :
    okF 1 0 (fieldOf 1 0 W) ∧ okF 1 1 (fieldOf 1 1 W) ∧ okF 1 2 (fieldOf 1 2 W) ∧ okF 1 3 (fieldOf 1 3 W) ∧ immOk 1 (tkI 1 W) ∧ K + fieldOf 1 0 W * 128 + fieldOf 1 1 W * 32768 + fieldOf 1 2 W * 1048576 + fieldOf 1 3 W * 1048576 + immI 1 (tkI 1 W) = W := by
  have f0 : W % 128 + W / 4096 % 8 * 4096 + W / 33554432 % 128 * 33554432 = K := hf
  clear hf
  have t : tkI 1 W = 0 := rfl
  generalize tkI 1 W = v at t ⊢
  refine ⟨?_, ?_, ?_, ?_, ⟨?_, ?_, ?_⟩, ?_⟩
  · show 0 ≤ (W / 128 % 32) ∧ (W / 128 % 32) ≤ 31
    omega
  · show 0 ≤ (W / 32768 % 32) ∧ (W / 32768 % 32) ≤ 31
    omega
  · show 0 ≤ (W / 1048576 % 32) ∧ (W / 1048576 % 32) ≤ 31
    omega
  · show 0 ≤ (0 : Int) ∧ 0 ≤ 0
    omega
  · show 0 ≤ v
    omega
  · show v ≤ 0
    omega
  · show v.tmod 1 = 0
    exact Int.tmod_one _
  · show K + (W / 128 % 32) * 128 + (W / 32768 % 32) * 32768 + (W / 1048576 % 32) * 1048576 + 0 * 1048576 + (0) = W
    omega
theorem enc_word_2 (K rd r1 r2 csr v W : Int) (k0 : 0 ≤ K) (k1 : K < 4294967296) (g0 : hasB 2 0 = true → K / 128 % 32 = 0) (g1 : hasB 2 1 = true → K / 32768 % 32 = 0) (g2 : hasB 2 2 = true → K / 1048576 % 32 = 0) (g3 : hasB 2 3 = true → K / 1048576 % 4096 = 0) (gI : gapI 2 K = true) (gF : fixI 2 K = K)
    (h0 : okF 2 0 rd) (h1 : okF 2 1 r1) (h2 : okF 2 2 r2) (h3 : okF 2 3 csr) (hi : immOk 2 v) (hW : W = K + rd * 128 + r1 * 32768 + r2 * 1048576 + csr * 1048576 + immI 2 v) :
    fixI 2 W = K ∧ fieldOf 2 0 W = rd ∧ fieldOf 2 1 W = r1 ∧ fieldOf 2 2 W = r2 ∧ fieldOf 2 3 W = csr ∧ tkI 2 W = v := by
  have a0 : 0 ≤ rd ∧ rd ≤ 31 := h0
  have c0 : K / 128 % 32 = 0 := g0 rfl
  have a1 : 0 ≤ r1 ∧ r1 ≤ 31 := h1
  have c1 : K / 32768 % 32 = 0 := g1 rfl
  have a2 : 0 ≤ r2 ∧ r2 ≤ 0 := h2
  have a3 : 0 ≤ csr ∧ csr ≤ 0 := h3
  have d0 : K / 1048576 % 4096 = 0 := by simpa [gapI] using gI
  have f0 : K % 128 + K / 4096 % 8 * 4096 = K := gF
  have i0 : -2048 ≤ v := hi.1
  have i1 : v ≤ 2047 := hi.2.1
  have e : W = K + rd * 128 + r1 * 32768 + r2 * 1048576 + csr * 1048576 + (v % 4096 * 1048576) := hW
  clear h0 h1 h2 h3 g0 g1 g2 g3 gI gF hi hW
  refine ⟨?_, ?_, ?_, ?_, ?_, ?_⟩
  · show W % 128 + W / 4096 % 8 * 4096 = K
    omega
  · show W / 128 % 32 = rd
    omega
  · show W / 32768 % 32 = r1
    omega
  · show 0 = r2
    omega
  · show 0 = csr
    omega
  · show (if 2048 ≤ (W / 1048576 % 4096) then (W / 1048576 % 4096) - 4096 else (W / 1048576 % 4096)) = v
    by_cases c : 2048 ≤ (W / 1048576 % 4096)
    · rw [if_pos c]; omega
    · rw [if_neg c]; omega
theorem dec_word_2 (K W : Int) (w0 : 0 ≤ W) (w1 : W < 4294967296) (hf : fixI 2 W = K) :
    okF 2 0 (fieldOf 2 0 W) ∧ okF 2 1 (fieldOf 2 1 W) ∧ okF 2 2 (fieldOf 2 2 W) ∧ okF 2 3 (fieldOf 2 3 W) ∧ immOk 2 (tkI 2 W) ∧ K + fieldOf 2 0 W * 128 + fieldOf 2 1 W * 32768 + fieldOf 2 2 W * 1048576 + fieldOf 2 3 W * 1048576 + immI 2 (tkI 2 W) = W := by
  have f0 : W % 128 + W / 4096 % 8 * 4096 = K := hf
  clear hf
  have t : tkI 2 W = (if 2048 ≤ (W / 1048576 % 4096) then (W / 1048576 % 4096) - 4096 else (W / 1048576 % 4096)) := rfl
  by_cases c : 2048 ≤ (W / 1048576 % 4096)
  · rw [if_pos c] at t
    generalize tkI 2 W = v at t ⊢
    refine ⟨?_, ?_, ?_, ?_, ⟨?_, ?_, ?_⟩, ?_⟩
    · show 0 ≤ (W / 128 % 32) ∧ (W / 128 % 32) ≤ 31
      omega
    · show 0 ≤ (W / 32768 % 32) ∧ (W / 32768 % 32) ≤ 31
      omega
    · show 0 ≤ (0 : Int) ∧ 0 ≤ 0
      omega
    · show 0 ≤ (0 : Int) ∧ 0 ≤ 0
      omega
    · show -2048 ≤ v
      omega
    · show v ≤ 2047
      omega
    · show v.tmod 1 = 0
      exact Int.tmod_one _
    · show K + (W / 128 % 32) * 128 + (W / 32768 % 32) * 32768 + 0 * 1048576 + 0 * 1048576 + (v % 4096 * 1048576) = W
      omega
  · rw [if_neg c] at t
    generalize tkI 2 W = v at t ⊢
    refine ⟨?_, ?_, ?_, ?_, ⟨?_, ?_, ?_⟩, ?_⟩
    · show 0 ≤ (W / 128 % 32) ∧ (W / 128 % 32) ≤ 31
      omega
    · show 0 ≤ (W / 32768 % 32) ∧ (W / 32768 % 32) ≤ 31
      omega
    · show 0 ≤ (0 : Int) ∧ 0 ≤ 0
      omega
    · show 0 ≤ (0 : Int) ∧ 0 ≤ 0
      omega
    · show -2048 ≤ v
      omega
    · show v ≤ 2047
      omega
    · show v.tmod 1 = 0
      exact Int.tmod_one _
    · show K + (W / 128 % 32) * 128 + (W / 32768 % 32) * 32768 + 0 * 1048576 + 0 * 1048576 + (v % 4096 * 1048576) = W
      omega
theorem enc_word_3 (K rd r1 r2 csr v W : Int) (k0 : 0 ≤ K) (k1 : K < 4294967296) (g0 : hasB 3 0 = true → K / 128 % 32 = 0) (g1 : hasB 3 1 = true → K / 32768 % 32 = 0) (g2 : hasB 3 2 = true → K / 1048576 % 32 = 0) (g3 : hasB 3 3 = true → K / 1048576 % 4096 = 0) (gI : gapI 3 K = true) (gF : fixI 3 K = K)
    (h0 : okF 3 0 rd) (h1 : okF 3 1 r1) (h2 : okF 3 2 r2) (h3 : okF 3 3 csr) (hi : immOk 3 v) (hW : W = K + rd * 128 + r1 * 32768 + r2 * 1048576 + csr * 1048576 + immI 3 v) :
    fixI 3 W = K ∧ fieldOf 3 0 W = rd ∧ fieldOf 3 1 W = r1 ∧ fieldOf 3 2 W = r2 ∧ fieldOf 3 3 W = csr ∧ tkI 3 W = v := by
  have a0 : 0 ≤ rd ∧ rd ≤ 31 := h0
  have c0 : K / 128 % 32 = 0 := g0 rfl
  have a1 : 0 ≤ r1 ∧ r1 ≤ 31 := h1
  have c1 : K / 32768 % 32 = 0 := g1 rfl
  have a2 : 0 ≤ r2 ∧ r2 ≤ 0 := h2
  have a3 : 0 ≤ csr ∧ csr ≤ 0 := h3
  have d0 : K / 1048576 % 64 = 0 := by simpa [gapI] using gI
  have f0 : K % 128 + K / 4096 % 8 * 4096 + K / 67108864 % 64 * 67108864 = K := gF
  have i0 : 0 ≤ v := hi.1
  have i1 : v ≤ 63 := hi.2.1
  have e : W = K + rd * 128 + r1 * 32768 + r2 * 1048576 + csr * 1048576 + (v % 64 * 1048576) := hW
  clear h0 h1 h2 h3 g0 g1 g2 g3 gI gF hi hW
  refine ⟨?_, ?_, ?_, ?_, ?_, ?_⟩
  · show W % 128 + W / 4096 % 8 * 4096 + W / 67108864 % 64 * 67108864 = K
    omega
  · show W / 128 % 32 = rd
    omega
  · show W / 32768 % 32 = r1
    omega
  · show 0 = r2
    omega
  · show 0 = csr
    omega
  · show W / 1048576 % 64 = v
    omega
theorem dec_word_3 (K W : Int) (w0 : 0 ≤ W) (w1 : W < 4294967296) (hf : fixI 3 W = K) :
    okF 3 0 (fieldOf 3 0 W) ∧ okF 3 1 (fieldOf 3 1 W) ∧ okF 3 2 (fieldOf 3 2 W) ∧ okF 3 3 (fieldOf 3 3 W) ∧ immOk 3 (tkI 3 W) ∧ K + fieldOf 3 0 W * 128 + fieldOf 3 1 W * 32768 + fieldOf 3 2 W * 1048576 + fieldOf 3 3 W * 1048576 + immI 3 (tkI 3 W) = W := by
  have f0 : W % 128 + W / 4096 % 8 * 4096 + W / 67108864 % 64 * 67108864 = K := hf
  clear hf
  have t : tkI 3 W = W / 1048576 % 64 := rfl
  generalize tkI 3 W = v at t ⊢
  refine ⟨?_, ?_, ?_, ?_, ⟨?_, ?_, ?_⟩, ?_⟩
  · show 0 ≤ (W / 128 % 32) ∧ (W / 128 % 32) ≤ 31
    omega
  · show 0 ≤ (W / 32768 % 32) ∧ (W / 32768 % 32) ≤ 31
    omega
  · show 0 ≤ (0 : Int) ∧ 0 ≤ 0
    omega
  · show 0 ≤ (0 : Int) ∧ 0 ≤ 0
    omega
  · show 0 ≤ v
    omega
  · show v ≤ 63
    omega
  · show v.tmod 1 = 0
    exact Int.tmod_one _
  · show K + (W / 128 % 32) * 128 + (W / 32768 % 32) * 32768 + 0 * 1048576 + 0 * 1048576 + (v % 64 * 1048576) = W
    omega
theorem enc_word_4 (K rd r1 r2 csr v W : Int) (k0 : 0 ≤ K) (k1 : K < 4294967296) (g0 : hasB 4 0 = true → K / 128 % 32 = 0) (g1 : hasB 4 1 = true → K / 32768 % 32 = 0) (g2 : hasB 4 2 = true → K / 1048576 % 32 = 0) (g3 : hasB 4 3 = true → K / 1048576 % 4096 = 0) (gI : gapI 4 K = true) (gF : fixI 4 K = K)
    (h0 : okF 4 0 rd) (h1 : okF 4 1 r1) (h2 : okF 4 2 r2) (h3 : okF 4 3 csr) (hi : immOk 4 v) (hW : W = K + rd * 128 + r1 * 32768 + r2 * 1048576 + csr * 1048576 + immI 4 v) :
    fixI 4 W = K ∧ fieldOf 4 0 W = rd ∧ fieldOf 4 1 W = r1 ∧ fieldOf 4 2 W = r2 ∧ fieldOf 4 3 W = csr ∧ tkI 4 W = v := by
  have a0 : 0 ≤ rd ∧ rd ≤ 31 := h0
  have c0 : K / 128 % 32 = 0 := g0 rfl
  have a1 : 0 ≤ r1 ∧ r1 ≤ 31 := h1
  have c1 : K / 32768 % 32 = 0 := g1 rfl
  have a2 : 0 ≤ r2 ∧ r2 ≤ 0 := h2
  have a3 : 0 ≤ csr ∧ csr ≤ 0 := h3
  have d0 : K / 1048576 % 32 = 0 := by simpa [gapI] using gI
  have f0 : K % 128 + K / 4096 % 8 * 4096 + K / 33554432 % 128 * 33554432 = K := gF
  have i0 : 0 ≤ v := hi.1
  have i1 : v ≤ 31 := hi.2.1
  have e : W = K + rd * 128 + r1 * 32768 + r2 * 1048576 + csr * 1048576 + (v % 32 * 1048576) := hW
  clear h0 h1 h2 h3 g0 g1 g2 g3 gI gF hi hW
  refine ⟨?_, ?_, ?_, ?_, ?_, ?_⟩
  · show W % 128 + W / 4096 % 8 * 4096 + W / 33554432 % 128 * 33554432 = K
    omega
  · show W / 128 % 32 = rd
    omega
  · show W / 32768 % 32 = r1
    omega
  · show 0 = r2
    omega
  · show 0 = csr
    omega
  · show W / 1048576 % 32 = v
    omega
theorem dec_word_4 (K W : Int) (w0 : 0 ≤ W) (w1 : W < 4294967296) (hf : fixI 4 W = K) :
    okF 4 0 (fieldOf 4 0 W) ∧ okF 4 1 (fieldOf 4 1 W) ∧ okF 4 2 (fieldOf 4 2 W) ∧ okF 4 3 (fieldOf 4 3 W) ∧ immOk 4 (tkI 4 W) ∧ K + fieldOf 4 0 W * 128 + fieldOf 4 1 W * 32768 + fieldOf 4 2 W * 1048576 + fieldOf 4 3 W * 1048576 + immI 4 (tkI 4 W) = W := by
  have f0 : W % 128 + W / 4096 % 8 * 4096 + W / 33554432 % 128 * 33554432 = K := hf
  clear hf
  have t : tkI 4 W = W / 1048576 % 32 := rfl
  generalize tkI 4 W = v at t ⊢
  refine ⟨?_, ?_, ?_, ?_, ⟨?_, ?_, ?_⟩, ?_⟩
  · show 0 ≤ (W / 128 % 32) ∧ (W / 128 % 32) ≤ 31
    omega
  · show 0 ≤ (W / 32768 % 32) ∧ (W / 32768 % 32) ≤ 31
    omega
  · show 0 ≤ (0 : Int) ∧ 0 ≤ 0
    omega
  · show 0 ≤ (0 : Int) ∧ 0 ≤ 0
    omega
  · show 0 ≤ v
    omega
  · show v ≤ 31
    omega
  · show v.tmod 1 = 0
    exact Int.tmod_one _
  · show K + (W / 128 % 32) * 128 + (W / 32768 % 32) * 32768 + 0 * 1048576 + 0 * 1048576 + (v % 32 * 1048576) = W
    omega
theorem enc_word_5 (K rd r1 r2 csr v W : Int) (k0 : 0 ≤ K) (k1 : K < 4294967296) (g0 : hasB 5 0 = true → K / 128 % 32 = 0) (g1 : hasB 5 1 = true → K / 32768 % 32 = 0) (g2 : hasB 5 2 = true → K / 1048576 % 32 = 0) (g3 : hasB 5 3 = true → K / 1048576 % 4096 = 0) (gI : gapI 5 K = true) (gF : fixI 5 K = K)
    (h0 : okF 5 0 rd) (h1 : okF 5 1 r1) (h2 : okF 5 2 r2) (h3 : okF 5 3 csr) (hi : immOk 5 v) (hW : W = K + rd * 128 + r1 * 32768 + r2 * 1048576 + csr * 1048576 + immI 5 v) :
    fixI 5 W = K ∧ fieldOf 5 0 W = rd ∧ fieldOf 5 1 W = r1 ∧ fieldOf 5 2 W = r2 ∧ fieldOf 5 3 W = csr ∧ tkI 5 W = v := by
  have a0 : 0 ≤ rd ∧ rd ≤ 31 := h0
  have c0 : K / 128 % 32 = 0 := g0 rfl
  have a1 : 0 ≤ r1 ∧ r1 ≤ 31 := h1
  have c1 : K / 32768 % 32 = 0 := g1 rfl
  have a2 : 0 ≤ r2 ∧ r2 ≤ 0 := h2
  have a3 : 0 ≤ csr ∧ csr ≤ 0 := h3
  have d0 : K / 1048576 % 4096 = 0 := by simpa [gapI] using gI
  have f0 : K % 128 + K / 4096 % 8 * 4096 = K := gF
  have i0 : -2048 ≤ v := hi.1
  have i1 : v ≤ 2047 := hi.2.1
  have e : W = K + rd * 128 + r1 * 32768 + r2 * 1048576 + csr * 1048576 + (v % 4096 * 1048576) := hW
  clear h0 h1 h2 h3 g0 g1 g2 g3 gI gF hi hW
  refine ⟨?_, ?_, ?_, ?_, ?_, ?_⟩
  · show W % 128 + W / 4096 % 8 * 4096 = K
    omega
  · show W / 128 % 32 = rd
    omega
  · show W / 32768 % 32 = r1
    omega
  · show 0 = r2
    omega
  · show 0 = csr
    omega
  · show (if 2048 ≤ (W / 1048576 % 4096) then (W / 1048576 % 4096) - 4096 else (W / 1048576 % 4096)) = v
    by_cases c : 2048 ≤ (W / 1048576 % 4096)
    · rw [if_pos c]; omega
    · rw [if_neg c]; omega
theorem dec_word_5 (K W : Int) (w0 : 0 ≤ W) (w1 : W < 4294967296) (hf : fixI 5 W = K) :
    okF 5 0 (fieldOf 5 0 W) ∧ okF 5 1 (fieldOf 5 1 W) ∧ okF 5 2 (fieldOf 5 2 W) ∧ okF 5 3 (fieldOf 5 3 W) ∧ immOk 5 (tkI 5 W) ∧ K + fieldOf 5 0 W * 128 + fieldOf 5 1 W * 32768 + fieldOf 5 2 W * 1048576 + fieldOf 5 3 W * 1048576 + immI 5 (tkI 5 W) = W := by
  have f0 : W % 128 + W / 4096 % 8 * 4096 = K := hf
  clear hf
  have t : tkI 5 W = (if 2048 ≤ (W / 1048576 % 4096) then (W / 1048576 % 4096) - 4096 else (W / 1048576 % 4096)) := rfl
  by_cases c : 2048 ≤ (W / 1048576 % 4096)
  · rw [if_pos c] at t
    generalize tkI 5 W = v at t ⊢
    refine ⟨?_, ?_, ?_, ?_, ⟨?_, ?_, ?_⟩, ?_⟩
    · show 0 ≤ (W / 128 % 32) ∧ (W / 128 % 32) ≤ 31
      omega
    · show 0 ≤ (W / 32768 % 32) ∧ (W / 32768 % 32) ≤ 31
      omega
    · show 0 ≤ (0 : Int) ∧ 0 ≤ 0
      omega
    · show 0 ≤ (0 : Int) ∧ 0 ≤ 0
      omega
    · show -2048 ≤ v
      omega
    · show v ≤ 2047
      omega
    · show v.tmod 1 = 0
      exact Int.tmod_one _
    · show K + (W / 128 % 32) * 128 + (W / 32768 % 32) * 32768 + 0 * 1048576 + 0 * 1048576 + (v % 4096 * 1048576) = W
      omega
  · rw [if_neg c] at t
    generalize tkI 5 W = v at t ⊢
    refine ⟨?_, ?_, ?_, ?_, ⟨?_, ?_, ?_⟩, ?_⟩
    · show 0 ≤ (W / 128 % 32) ∧ (W / 128 % 32) ≤ 31
      omega
    · show 0 ≤ (W / 32768 % 32) ∧ (W / 32768 % 32) ≤ 31
      omega
    · show 0 ≤ (0 : Int) ∧ 0 ≤ 0
      omega
    · show 0 ≤ (0 : Int) ∧ 0 ≤ 0
      omega
    · show -2048 ≤ v
      omega
    · show v ≤ 2047
      omega
    · show v.tmod 1 = 0
      exact Int.tmod_one _
    · show K + (W / 128 % 32) * 128 + (W / 32768 % 32) * 32768 + 0 * 1048576 + 0 * 1048576 + (v % 4096 * 1048576) = W
      omega
theorem enc_word_6 (K rd r1 r2 csr v W : Int) (k0 : 0 ≤ K) (k1 : K < 4294967296) (g0 : hasB 6 0 = true → K / 128 % 32 = 0) (g1 : hasB 6 1 = true → K / 32768 % 32 = 0) (g2 : hasB 6 2 = true → K / 1048576 % 32 = 0) (g3 : hasB 6 3 = true → K / 1048576 % 4096 = 0) (gI : gapI 6 K = true) (gF : fixI 6 K = K)
    (h0 : okF 6 0 rd) (h1 : okF 6 1 r1) (h2 : okF 6 2 r2) (h3 : okF 6 3 csr) (hi : immOk 6 v) (hW : W = K + rd * 128 + r1 * 32768 + r2 * 1048576 + csr * 1048576 + immI 6 v) :
    fixI 6 W = K ∧ fieldOf 6 0 W = rd ∧ fieldOf 6 1 W = r1 ∧ fieldOf 6 2 W = r2 ∧ fieldOf 6 3 W = csr ∧ tkI 6 W = v := by
  have a0 : 0 ≤ rd ∧ rd ≤ 0 := h0
  have a1 : 0 ≤ r1 ∧ r1 ≤ 31 := h1
  have a2 : 0 ≤ r2 ∧ r2 ≤ 31 := h2
  have a3 : 0 ≤ csr ∧ csr ≤ 0 := h3
  have f0 : K % 128 + K / 4096 % 8 * 4096 = K := gF
  have i0 : -2048 ≤ v := hi.1
  have i1 : v ≤ 2047 := hi.2.1
  have e : W = K + rd * 128 + r1 * 32768 + r2 * 1048576 + csr * 1048576 + (v / 32 % 128 * 33554432 + v % 32 * 128) := hW
  clear h0 h1 h2 h3 g0 g1 g2 g3 gI gF hi hW k0 k1
  obtain ⟨q0, Vq0⟩ : ∃ x, v % 32 = x := ⟨_, rfl⟩
  obtain ⟨q1, Vq1⟩ : ∃ x, v / 32 % 128 = x := ⟨_, rfl⟩
  rw [Vq0, Vq1] at e
  have bq0 : 0 ≤ q0 ∧ q0 < 32 := by omega
  have bq1 : 0 ≤ q1 ∧ q1 < 128 := by omega
  obtain ⟨k0, Vk0⟩ : ∃ x, K % 128 = x := ⟨_, rfl⟩
  obtain ⟨k1, Vk1⟩ : ∃ x, K / 4096 % 8 = x := ⟨_, rfl⟩
  have bk0 : 0 ≤ k0 ∧ k0 < 128 := by omega
  have bk1 : 0 ≤ k1 ∧ k1 < 8 := by omega
  rw [Vk0, Vk1] at f0
  have kk : K = k0 + k1 * 4096 := f0.symm
  clear Vk0 Vk1
  have HV := And.intro i0 i1
  clear f0
  have key : W % 128 = k0 ∧ W / 128 % 32 = q0 ∧ W / 4096 % 8 = k1 ∧ W / 32768 % 32 = r1 ∧ W / 1048576 % 32 = r2 ∧ W / 33554432 % 128 = q1 := by
    clear HV i0 i1  Vq0 Vq1
    have D0 : W % 128 = k0 := dig0 W k0 (q0 * 1 + k1 * 32 + r1 * 256 + r2 * 8192 + q1 * 262144) 128 (by omega) (by omega) (by omega)
    have D1 : W / 128 % 32 = q0 := dig W (k0 * 1) q0 (k1 * 1 + r1 * 8 + r2 * 256 + q1 * 8192) 128 32 4096 (by decide) (by decide) (by omega) (by omega) (by omega) (by omega) (by omega)
    have D2 : W / 4096 % 8 = k1 := dig W (k0 * 1 + q0 * 128) k1 (r1 * 1 + r2 * 32 + q1 * 1024) 4096 8 32768 (by decide) (by decide) (by omega) (by omega) (by omega) (by omega) (by omega)
    have D3 : W / 32768 % 32 = r1 := dig W (k0 * 1 + q0 * 128 + k1 * 4096) r1 (r2 * 1 + q1 * 32) 32768 32 1048576 (by decide) (by decide) (by omega) (by omega) (by omega) (by omega) (by omega)
    have D4 : W / 1048576 % 32 = r2 := dig W (k0 * 1 + q0 * 128 + k1 * 4096 + r1 * 32768) r2 (q1 * 1) 1048576 32 33554432 (by decide) (by decide) (by omega) (by omega) (by omega) (by omega) (by omega)
    have D5 : W / 33554432 % 128 = q1 := dig W (k0 * 1 + q0 * 128 + k1 * 4096 + r1 * 32768 + r2 * 1048576) q1 (0) 33554432 128 4294967296 (by decide) (by decide) (by omega) (by omega) (by omega) (by omega) (by omega)
    exact ⟨D0, D1, D2, D3, D4, D5⟩
  obtain ⟨D0, D1, D2, D3, D4, D5⟩ := key
  clear e
  refine ⟨?_, ?_, ?_, ?_, ?_, ?_⟩
  · show W % 128 + W / 4096 % 8 * 4096 = K
    rw [D0, D2]; omega
  · show 0 = rd
    omega
  · show W / 32768 % 32 = r1
    exact D3
  · show W / 1048576 % 32 = r2
    exact D4
  · show 0 = csr
    omega
  · show (if 64 ≤ (W / 33554432 % 128) then (W / 33554432 % 128) - 128 else (W / 33554432 % 128)) * 32 + W / 128 % 32 = v
    rw [D1, D5]
    clear D0 D1 D2 D3 D4 D5 kk a0 a1 a2 a3
    by_cases c : 64 ≤ q1
    · rw [if_pos c]; omega
    · rw [if_neg c]; omega
theorem dec_word_6 (K W : Int) (w0 : 0 ≤ W) (w1 : W < 4294967296) (hf : fixI 6 W = K) :
    okF 6 0 (fieldOf 6 0 W) ∧ okF 6 1 (fieldOf 6 1 W) ∧ okF 6 2 (fieldOf 6 2 W) ∧ okF 6 3 (fieldOf 6 3 W) ∧ immOk 6 (tkI 6 W) ∧ K + fieldOf 6 0 W * 128 + fieldOf 6 1 W * 32768 + fieldOf 6 2 W * 1048576 + fieldOf 6 3 W * 1048576 + immI 6 (tkI 6 W) = W := by
  have f0 : W % 128 + W / 4096 % 8 * 4096 = K := hf
  clear hf
  obtain ⟨y0, k0, l0, m0, e0, z0⟩ := split W 128 (by decide) w0
  obtain ⟨y1, q0, l1, m1, e1, z1⟩ := split y0 32 (by decide) z0
  obtain ⟨y2, k1, l2, m2, e2, z2⟩ := split y1 8 (by decide) z1
  obtain ⟨y3, r1, l3, m3, e3, z3⟩ := split y2 32 (by decide) z2
  obtain ⟨y4, r2, l4, m4, e4, z4⟩ := split y3 32 (by decide) z3
  obtain ⟨y5, q1, l5, m5, e5, z5⟩ := split y4 128 (by decide) z4
  have hs : W = k0 * 1 + q0 * 128 + k1 * 4096 + r1 * 32768 + r2 * 1048576 + q1 * 33554432 := by omega
  clear e0 z0 e1 z1 e2 z2 e3 z3 e4 z4 e5 z5
  have D0 : W % 128 = k0 := dig0 W k0 (q0 * 1 + k1 * 32 + r1 * 256 + r2 * 8192 + q1 * 262144) 128 (by omega) (by omega) (by omega)
  have D1 : W / 128 % 32 = q0 := dig W (k0 * 1) q0 (k1 * 1 + r1 * 8 + r2 * 256 + q1 * 8192) 128 32 4096 (by decide) (by decide) (by omega) (by omega) (by omega) (by omega) (by omega)
  have D2 : W / 4096 % 8 = k1 := dig W (k0 * 1 + q0 * 128) k1 (r1 * 1 + r2 * 32 + q1 * 1024) 4096 8 32768 (by decide) (by decide) (by omega) (by omega) (by omega) (by omega) (by omega)
  have D3 : W / 32768 % 32 = r1 := dig W (k0 * 1 + q0 * 128 + k1 * 4096) r1 (r2 * 1 + q1 * 32) 32768 32 1048576 (by decide) (by decide) (by omega) (by omega) (by omega) (by omega) (by omega)
  have D4 : W / 1048576 % 32 = r2 := dig W (k0 * 1 + q0 * 128 + k1 * 4096 + r1 * 32768) r2 (q1 * 1) 1048576 32 33554432 (by decide) (by decide) (by omega) (by omega) (by omega) (by omega) (by omega)
  have D5 : W / 33554432 % 128 = q1 := dig W (k0 * 1 + q0 * 128 + k1 * 4096 + r1 * 32768 + r2 * 1048576) q1 (0) 33554432 128 4294967296 (by decide) (by decide) (by omega) (by omega) (by omega) (by omega) (by omega)
  have t : tkI 6 W = (if 64 ≤ (W / 33554432 % 128) then (W / 33554432 % 128) - 128 else (W / 33554432 % 128)) * 32 + W / 128 % 32 := rfl
  have x0 : fieldOf 6 0 W = 0 := rfl
  have x1 : fieldOf 6 1 W = r1 := D3
  have x2 : fieldOf 6 2 W = r2 := D4
  have x3 : fieldOf 6 3 W = 0 := rfl
  rw [D0, D2] at f0
  rw [D1, D5] at t
  rw [x0, x1, x2, x3]
  generalize tkI 6 W = v at t ⊢
  clear w0 w1 x0 x1 x2 x3 D0 D1 D2 D3 D4 D5
  by_cases c : 64 ≤ q1
  · rw [if_pos c] at t
    have key : v % 32 = q0 ∧ v / 32 % 128 = q1 ∧ -2048 ≤ v ∧ v ≤ 2047 ∧ (1 : Int) ∣ v := by
      clear hs f0
      refine ⟨?_, ?_, ?_, ?_, ?_⟩ <;> omega
    obtain ⟨Vq0, Vq1, v0, v1, v2⟩ := key
    clear t
    refine ⟨?_, ?_, ?_, ?_, ⟨v0, v1, Int.tmod_eq_zero_of_dvd v2⟩, ?_⟩
    · show 0 ≤ (0 : Int) ∧ (0 : Int) ≤ 0
      clear hs f0; omega
    · show 0 ≤ r1 ∧ r1 ≤ 31
      clear hs f0; omega
    · show 0 ≤ r2 ∧ r2 ≤ 31
      clear hs f0; omega
    · show 0 ≤ (0 : Int) ∧ (0 : Int) ≤ 0
      clear hs f0; omega
    · show K + 0 * 128 + r1 * 32768 + r2 * 1048576 + 0 * 1048576 + (v / 32 % 128 * 33554432 + v % 32 * 128) = W
      rw [Vq0, Vq1]; omega
  · rw [if_neg c] at t
    have key : v % 32 = q0 ∧ v / 32 % 128 = q1 ∧ -2048 ≤ v ∧ v ≤ 2047 ∧ (1 : Int) ∣ v := by
      clear hs f0
      refine ⟨?_, ?_, ?_, ?_, ?_⟩ <;> omega
    obtain ⟨Vq0, Vq1, v0, v1, v2⟩ := key
    clear t
    refine ⟨?_, ?_, ?_, ?_, ⟨v0, v1, Int.tmod_eq_zero_of_dvd v2⟩, ?_⟩
    · show 0 ≤ (0 : Int) ∧ (0 : Int) ≤ 0
      clear hs f0; omega
    · show 0 ≤ r1 ∧ r1 ≤ 31
      clear hs f0; omega
    · show 0 ≤ r2 ∧ r2 ≤ 31
      clear hs f0; omega
    · show 0 ≤ (0 : Int) ∧ (0 : Int) ≤ 0
      clear hs f0; omega
    · show K + 0 * 128 + r1 * 32768 + r2 * 1048576 + 0 * 1048576 + (v / 32 % 128 * 33554432 + v % 32 * 128) = W
      rw [Vq0, Vq1]; omega
theorem enc_word_7 (K rd r1 r2 csr v W : Int) (k0 : 0 ≤ K) (k1 : K < 4294967296) (g0 : hasB 7 0 = true → K / 128 % 32 = 0) (g1 : hasB 7 1 = true → K / 32768 % 32 = 0) (g2 : hasB 7 2 = true → K / 1048576 % 32 = 0) (g3 : hasB 7 3 = true → K / 1048576 % 4096 = 0) (gI : gapI 7 K = true) (gF : fixI 7 K = K)
    (h0 : okF 7 0 rd) (h1 : okF 7 1 r1) (h2 : okF 7 2 r2) (h3 : okF 7 3 csr) (hi : immOk 7 v) (hW : W = K + rd * 128 + r1 * 32768 + r2 * 1048576 + csr * 1048576 + immI 7 v) :
    fixI 7 W = K ∧ fieldOf 7 0 W = rd ∧ fieldOf 7 1 W = r1 ∧ fieldOf 7 2 W = r2 ∧ fieldOf 7 3 W = csr ∧ tkI 7 W = v := by
  have a0 : 0 ≤ rd ∧ rd ≤ 0 := h0
  have a1 : 0 ≤ r1 ∧ r1 ≤ 31 := h1
  have a2 : 0 ≤ r2 ∧ r2 ≤ 31 := h2
  have a3 : 0 ≤ csr ∧ csr ≤ 0 := h3
  have f0 : K % 128 + K / 4096 % 8 * 4096 = K := gF
  have i0 : -4096 ≤ v := hi.1
  have i1 : v ≤ 4094 := hi.2.1
  have i2 : (2 : Int) ∣ v := tmod_emod hi.2.2
  have e : W = K + rd * 128 + r1 * 32768 + r2 * 1048576 + csr * 1048576 + (v / 4096 % 2 * 2147483648 + v / 32 % 64 * 33554432 + v / 2 % 16 * 256 + v / 2048 % 2 * 128) := hW
  clear h0 h1 h2 h3 g0 g1 g2 g3 gI gF hi hW k0 k1
  obtain ⟨q0, Vq0⟩ : ∃ x, v / 2048 % 2 = x := ⟨_, rfl⟩
  obtain ⟨q1, Vq1⟩ : ∃ x, v / 2 % 16 = x := ⟨_, rfl⟩
  obtain ⟨q2, Vq2⟩ : ∃ x, v / 32 % 64 = x := ⟨_, rfl⟩
  obtain ⟨q3, Vq3⟩ : ∃ x, v / 4096 % 2 = x := ⟨_, rfl⟩
  rw [Vq0, Vq1, Vq2, Vq3] at e
  have bq0 : 0 ≤ q0 ∧ q0 < 2 := by omega
  have bq1 : 0 ≤ q1 ∧ q1 < 16 := by omega
  have bq2 : 0 ≤ q2 ∧ q2 < 64 := by omega
  have bq3 : 0 ≤ q3 ∧ q3 < 2 := by omega
  obtain ⟨k0, Vk0⟩ : ∃ x, K % 128 = x := ⟨_, rfl⟩
  obtain ⟨k1, Vk1⟩ : ∃ x, K / 4096 % 8 = x := ⟨_, rfl⟩
  have bk0 : 0 ≤ k0 ∧ k0 < 128 := by omega
  have bk1 : 0 ≤ k1 ∧ k1 < 8 := by omega
  rw [Vk0, Vk1] at f0
  have kk : K = k0 + k1 * 4096 := f0.symm
  clear Vk0 Vk1
  have HV := And.intro i0 i1
  clear f0
  have key : W % 128 = k0 ∧ W / 128 % 2 = q0 ∧ W / 256 % 16 = q1 ∧ W / 4096 % 8 = k1 ∧ W / 32768 % 32 = r1 ∧ W / 1048576 % 32 = r2 ∧ W / 33554432 % 64 = q2 ∧ W / 2147483648 % 2 = q3 := by
    clear HV i0 i1 i2 Vq0 Vq1 Vq2 Vq3
    have D0 : W % 128 = k0 := dig0 W k0 (q0 * 1 + q1 * 2 + k1 * 32 + r1 * 256 + r2 * 8192 + q2 * 262144 + q3 * 16777216) 128 (by omega) (by omega) (by omega)
    have D1 : W / 128 % 2 = q0 := dig W (k0 * 1) q0 (q1 * 1 + k1 * 16 + r1 * 128 + r2 * 4096 + q2 * 131072 + q3 * 8388608) 128 2 256 (by decide) (by decide) (by omega) (by omega) (by omega) (by omega) (by omega)
    have D2 : W / 256 % 16 = q1 := dig W (k0 * 1 + q0 * 128) q1 (k1 * 1 + r1 * 8 + r2 * 256 + q2 * 8192 + q3 * 524288) 256 16 4096 (by decide) (by decide) (by omega) (by omega) (by omega) (by omega) (by omega)
    have D3 : W / 4096 % 8 = k1 := dig W (k0 * 1 + q0 * 128 + q1 * 256) k1 (r1 * 1 + r2 * 32 + q2 * 1024 + q3 * 65536) 4096 8 32768 (by decide) (by decide) (by omega) (by omega) (by omega) (by omega) (by omega)
    have D4 : W / 32768 % 32 = r1 := dig W (k0 * 1 + q0 * 128 + q1 * 256 + k1 * 4096) r1 (r2 * 1 + q2 * 32 + q3 * 2048) 32768 32 1048576 (by decide) (by decide) (by omega) (by omega) (by omega) (by omega) (by omega)
    have D5 : W / 1048576 % 32 = r2 := dig W (k0 * 1 + q0 * 128 + q1 * 256 + k1 * 4096 + r1 * 32768) r2 (q2 * 1 + q3 * 64) 1048576 32 33554432 (by decide) (by decide) (by omega) (by omega) (by omega) (by omega) (by omega)
    have D6 : W / 33554432 % 64 = q2 := dig W (k0 * 1 + q0 * 128 + q1 * 256 + k1 * 4096 + r1 * 32768 + r2 * 1048576) q2 (q3 * 1) 33554432 64 2147483648 (by decide) (by decide) (by omega) (by omega) (by omega) (by omega) (by omega)
    have D7 : W / 2147483648 % 2 = q3 := dig W (k0 * 1 + q0 * 128 + q1 * 256 + k1 * 4096 + r1 * 32768 + r2 * 1048576 + q2 * 33554432) q3 (0) 2147483648 2 4294967296 (by decide) (by decide) (by omega) (by omega) (by omega) (by omega) (by omega)
    exact ⟨D0, D1, D2, D3, D4, D5, D6, D7⟩
  obtain ⟨D0, D1, D2, D3, D4, D5, D6, D7⟩ := key
  clear e
  refine ⟨?_, ?_, ?_, ?_, ?_, ?_⟩
  · show W % 128 + W / 4096 % 8 * 4096 = K
    rw [D0, D3]; omega
  · show 0 = rd
    omega
  · show W / 32768 % 32 = r1
    exact D4
  · show W / 1048576 % 32 = r2
    exact D5
  · show 0 = csr
    omega
  · show (if 1 ≤ (W / 2147483648 % 2) then (W / 2147483648 % 2) - 2 else (W / 2147483648 % 2)) * 4096 + W / 128 % 2 * 2048 + W / 33554432 % 64 * 32 + W / 256 % 16 * 2 = v
    rw [D1, D2, D6, D7]
    clear D0 D1 D2 D3 D4 D5 D6 D7 kk a0 a1 a2 a3
    by_cases c : 1 ≤ q3
    · rw [if_pos c]; omega
    · rw [if_neg c]; omega
theorem dec_word_7 (K W : Int) (w0 : 0 ≤ W) (w1 : W < 4294967296) (hf : fixI 7 W = K) :
    okF 7 0 (fieldOf 7 0 W) ∧ okF 7 1 (fieldOf 7 1 W) ∧ okF 7 2 (fieldOf 7 2 W) ∧ okF 7 3 (fieldOf 7 3 W) ∧ immOk 7 (tkI 7 W) ∧ K + fieldOf 7 0 W * 128 + fieldOf 7 1 W * 32768 + fieldOf 7 2 W * 1048576 + fieldOf 7 3 W * 1048576 + immI 7 (tkI 7 W) = W := by
  have f0 : W % 128 + W / 4096 % 8 * 4096 = K := hf
  clear hf
  obtain ⟨y0, k0, l0, m0, e0, z0⟩ := split W 128 (by decide) w0
  obtain ⟨y1, q0, l1, m1, e1, z1⟩ := split y0 2 (by decide) z0
  obtain ⟨y2, q1, l2, m2, e2, z2⟩ := split y1 16 (by decide) z1
  obtain ⟨y3, k1, l3, m3, e3, z3⟩ := split y2 8 (by decide) z2
  obtain ⟨y4, r1, l4, m4, e4, z4⟩ := split y3 32 (by decide) z3
  obtain ⟨y5, r2, l5, m5, e5, z5⟩ := split y4 32 (by decide) z4
  obtain ⟨y6, q2, l6, m6, e6, z6⟩ := split y5 64 (by decide) z5
  obtain ⟨y7, q3, l7, m7, e7, z7⟩ := split y6 2 (by decide) z6
  have hs : W = k0 * 1 + q0 * 128 + q1 * 256 + k1 * 4096 + r1 * 32768 + r2 * 1048576 + q2 * 33554432 + q3 * 2147483648 := by omega
  clear e0 z0 e1 z1 e2 z2 e3 z3 e4 z4 e5 z5 e6 z6 e7 z7
  have D0 : W % 128 = k0 := dig0 W k0 (q0 * 1 + q1 * 2 + k1 * 32 + r1 * 256 + r2 * 8192 + q2 * 262144 + q3 * 16777216) 128 (by omega) (by omega) (by omega)
  have D1 : W / 128 % 2 = q0 := dig W (k0 * 1) q0 (q1 * 1 + k1 * 16 + r1 * 128 + r2 * 4096 + q2 * 131072 + q3 * 8388608) 128 2 256 (by decide) (by decide) (by omega) (by omega) (by omega) (by omega) (by omega)
  have D2 : W / 256 % 16 = q1 := dig W (k0 * 1 + q0 * 128) q1 (k1 * 1 + r1 * 8 + r2 * 256 + q2 * 8192 + q3 * 524288) 256 16 4096 (by decide) (by decide) (by omega) (by omega) (by omega) (by omega) (by omega)
  have D3 : W / 4096 % 8 = k1 := dig W (k0 * 1 + q0 * 128 + q1 * 256) k1 (r1 * 1 + r2 * 32 + q2 * 1024 + q3 * 65536) 4096 8 32768 (by decide) (by decide) (by omega) (by omega) (by omega) (by omega) (by omega)
  have D4 : W / 32768 % 32 = r1 := dig W (k0 * 1 + q0 * 128 + q1 * 256 + k1 * 4096) r1 (r2 * 1 + q2 * 32 + q3 * 2048) 32768 32 1048576 (by decide) (by decide) (by omega) (by omega) (by omega) (by omega) (by omega)
  have D5 : W / 1048576 % 32 = r2 := dig W (k0 * 1 + q0 * 128 + q1 * 256 + k1 * 4096 + r1 * 32768) r2 (q2 * 1 + q3 * 64) 1048576 32 33554432 (by decide) (by decide) (by omega) (by omega) (by omega) (by omega) (by omega)
  have D6 : W / 33554432 % 64 = q2 := dig W (k0 * 1 + q0 * 128 + q1 * 256 + k1 * 4096 + r1 * 32768 + r2 * 1048576) q2 (q3 * 1) 33554432 64 2147483648 (by decide) (by decide) (by omega) (by omega) (by omega) (by omega) (by omega)
  have D7 : W / 2147483648 % 2 = q3 := dig W (k0 * 1 + q0 * 128 + q1 * 256 + k1 * 4096 + r1 * 32768 + r2 * 1048576 + q2 * 33554432) q3 (0) 2147483648 2 4294967296 (by decide) (by decide) (by omega) (by omega) (by omega) (by omega) (by omega)
  have t : tkI 7 W = (if 1 ≤ (W / 2147483648 % 2) then (W / 2147483648 % 2) - 2 else (W / 2147483648 % 2)) * 4096 + W / 128 % 2 * 2048 + W / 33554432 % 64 * 32 + W / 256 % 16 * 2 := rfl
  have x0 : fieldOf 7 0 W = 0 := rfl
  have x1 : fieldOf 7 1 W = r1 := D4
  have x2 : fieldOf 7 2 W = r2 := D5
  have x3 : fieldOf 7 3 W = 0 := rfl
  rw [D0, D3] at f0
  rw [D1, D2, D6, D7] at t
  rw [x0, x1, x2, x3]
  generalize tkI 7 W = v at t ⊢
  clear w0 w1 x0 x1 x2 x3 D0 D1 D2 D3 D4 D5 D6 D7
  by_cases c : 1 ≤ q3
  · rw [if_pos c] at t
    have key : v / 2048 % 2 = q0 ∧ v / 2 % 16 = q1 ∧ v / 32 % 64 = q2 ∧ v / 4096 % 2 = q3 ∧ -4096 ≤ v ∧ v ≤ 4094 ∧ (2 : Int) ∣ v := by
      clear hs f0
      refine ⟨?_, ?_, ?_, ?_, ?_, ?_, ?_⟩ <;> omega
    obtain ⟨Vq0, Vq1, Vq2, Vq3, v0, v1, v2⟩ := key
    clear t
    refine ⟨?_, ?_, ?_, ?_, ⟨v0, v1, Int.tmod_eq_zero_of_dvd v2⟩, ?_⟩
    · show 0 ≤ (0 : Int) ∧ (0 : Int) ≤ 0
      clear hs f0; omega
    · show 0 ≤ r1 ∧ r1 ≤ 31
      clear hs f0; omega
    · show 0 ≤ r2 ∧ r2 ≤ 31
      clear hs f0; omega
    · show 0 ≤ (0 : Int) ∧ (0 : Int) ≤ 0
      clear hs f0; omega
    · show K + 0 * 128 + r1 * 32768 + r2 * 1048576 + 0 * 1048576 + (v / 4096 % 2 * 2147483648 + v / 32 % 64 * 33554432 + v / 2 % 16 * 256 + v / 2048 % 2 * 128) = W
      rw [Vq0, Vq1, Vq2, Vq3]; omega
  · rw [if_neg c] at t
    have key : v / 2048 % 2 = q0 ∧ v / 2 % 16 = q1 ∧ v / 32 % 64 = q2 ∧ v / 4096 % 2 = q3 ∧ -4096 ≤ v ∧ v ≤ 4094 ∧ (2 : Int) ∣ v := by
      clear hs f0
      refine ⟨?_, ?_, ?_, ?_, ?_, ?_, ?_⟩ <;> omega
    obtain ⟨Vq0, Vq1, Vq2, Vq3, v0, v1, v2⟩ := key
    clear t
    refine ⟨?_, ?_, ?_, ?_, ⟨v0, v1, Int.tmod_eq_zero_of_dvd v2⟩, ?_⟩
    · show 0 ≤ (0 : Int) ∧ (0 : Int) ≤ 0
      clear hs f0; omega
    · show 0 ≤ r1 ∧ r1 ≤ 31
      clear hs f0; omega
    · show 0 ≤ r2 ∧ r2 ≤ 31
      clear hs f0; omega
    · show 0 ≤ (0 : Int) ∧ (0 : Int) ≤ 0
      clear hs f0; omega
    · show K + 0 * 128 + r1 * 32768 + r2 * 1048576 + 0 * 1048576 + (v / 4096 % 2 * 2147483648 + v / 32 % 64 * 33554432 + v / 2 % 16 * 256 + v / 2048 % 2 * 128) = W
      rw [Vq0, Vq1, Vq2, Vq3]; omega
theorem enc_word_8 (K rd r1 r2 csr v W : Int) (k0 : 0 ≤ K) (k1 : K < 4294967296) (g0 : hasB 8 0 = true → K / 128 % 32 = 0) (g1 : hasB 8 1 = true → K / 32768 % 32 = 0) (g2 : hasB 8 2 = true → K / 1048576 % 32 = 0) (g3 : hasB 8 3 = true → K / 1048576 % 4096 = 0) (gI : gapI 8 K = true) (gF : fixI 8 K = K)
    (h0 : okF 8 0 rd) (h1 : okF 8 1 r1) (h2 : okF 8 2 r2) (h3 : okF 8 3 csr) (hi : immOk 8 v) (hW : W = K + rd * 128 + r1 * 32768 + r2 * 1048576 + csr * 1048576 + immI 8 v) :
    fixI 8 W = K ∧ fieldOf 8 0 W = rd ∧ fieldOf 8 1 W = r1 ∧ fieldOf 8 2 W = r2 ∧ fieldOf 8 3 W = csr ∧ tkI 8 W = v := by
  have a0 : 0 ≤ rd ∧ rd ≤ 31 := h0
  have c0 : K / 128 % 32 = 0 := g0 rfl
  have a1 : 0 ≤ r1 ∧ r1 ≤ 0 := h1
  have a2 : 0 ≤ r2 ∧ r2 ≤ 0 := h2
  have a3 : 0 ≤ csr ∧ csr ≤ 0 := h3
  have d0 : K / 4096 % 1048576 = 0 := by simpa [gapI] using gI
  have f0 : K % 128 = K := gF
  have i0 : -2147483648 ≤ v := hi.1
  have i1 : v ≤ 2147479552 := hi.2.1
  have i2 : (4096 : Int) ∣ v := tmod_emod hi.2.2
  have e : W = K + rd * 128 + r1 * 32768 + r2 * 1048576 + csr * 1048576 + (v / 4096 % 1048576 * 4096) := hW
  clear h0 h1 h2 h3 g0 g1 g2 g3 gI gF hi hW
  refine ⟨?_, ?_, ?_, ?_, ?_, ?_⟩
  · show W % 128 = K
    omega
  · show W / 128 % 32 = rd
    omega
  · show 0 = r1
    omega
  · show 0 = r2
    omega
  · show 0 = csr
    omega
  · show (if 524288 ≤ (W / 4096 % 1048576) then (W / 4096 % 1048576) - 1048576 else (W / 4096 % 1048576)) * 4096 = v
    by_cases c : 524288 ≤ (W / 4096 % 1048576)
    · rw [if_pos c]; omega
    · rw [if_neg c]; omega
theorem dec_word_8 (K W : Int) (w0 : 0 ≤ W) (w1 : W < 4294967296) (hf : fixI 8 W = K) :
    okF 8 0 (fieldOf 8 0 W) ∧ okF 8 1 (fieldOf 8 1 W) ∧ okF 8 2 (fieldOf 8 2 W) ∧ okF 8 3 (fieldOf 8 3 W) ∧ immOk 8 (tkI 8 W) ∧ K + fieldOf 8 0 W * 128 + fieldOf 8 1 W * 32768 + fieldOf 8 2 W * 1048576 + fieldOf 8 3 W * 1048576 + immI 8 (tkI 8 W) = W := by
  have f0 : W % 128 = K := hf
  clear hf
  have t : tkI 8 W = (if 524288 ≤ (W / 4096 % 1048576) then (W / 4096 % 1048576) - 1048576 else (W / 4096 % 1048576)) * 4096 := rfl
  by_cases c : 524288 ≤ (W / 4096 % 1048576)
  · rw [if_pos c] at t
    generalize tkI 8 W = v at t ⊢
    refine ⟨?_, ?_, ?_, ?_, ⟨?_, ?_, ?_⟩, ?_⟩
    · show 0 ≤ (W / 128 % 32) ∧ (W / 128 % 32) ≤ 31
      omega
    · show 0 ≤ (0 : Int) ∧ 0 ≤ 0
      omega
    · show 0 ≤ (0 : Int) ∧ 0 ≤ 0
      omega
    · show 0 ≤ (0 : Int) ∧ 0 ≤ 0
      omega
    · show -2147483648 ≤ v
      omega
    · show v ≤ 2147479552
      omega
    · show v.tmod 4096 = 0
      exact Int.tmod_eq_zero_of_dvd (by omega)
    · show K + (W / 128 % 32) * 128 + 0 * 32768 + 0 * 1048576 + 0 * 1048576 + (v / 4096 % 1048576 * 4096) = W
      omega
  · rw [if_neg c] at t
    generalize tkI 8 W = v at t ⊢
    refine ⟨?_, ?_, ?_, ?_, ⟨?_, ?_, ?_⟩, ?_⟩
    · show 0 ≤ (W / 128 % 32) ∧ (W / 128 % 32) ≤ 31
      omega
    · show 0 ≤ (0 : Int) ∧ 0 ≤ 0
      omega
    · show 0 ≤ (0 : Int) ∧ 0 ≤ 0
      omega
    · show 0 ≤ (0 : Int) ∧ 0 ≤ 0
      omega
    · show -2147483648 ≤ v
      omega
    · show v ≤ 2147479552
      omega
    · show v.tmod 4096 = 0
      exact Int.tmod_eq_zero_of_dvd (by omega)
    · show K + (W / 128 % 32) * 128 + 0 * 32768 + 0 * 1048576 + 0 * 1048576 + (v / 4096 % 1048576 * 4096) = W
      omega
theorem enc_word_9 (K rd r1 r2 csr v W : Int) (k0 : 0 ≤ K) (k1 : K < 4294967296) (g0 : hasB 9 0 = true → K / 128 % 32 = 0) (g1 : hasB 9 1 = true → K / 32768 % 32 = 0) (g2 : hasB 9 2 = true → K / 1048576 % 32 = 0) (g3 : hasB 9 3 = true → K / 1048576 % 4096 = 0) (gI : gapI 9 K = true) (gF : fixI 9 K = K)
    (h0 : okF 9 0 rd) (h1 : okF 9 1 r1) (h2 : okF 9 2 r2) (h3 : okF 9 3 csr) (hi : immOk 9 v) (hW : W = K + rd * 128 + r1 * 32768 + r2 * 1048576 + csr * 1048576 + immI 9 v) :
    fixI 9 W = K ∧ fieldOf 9 0 W = rd ∧ fieldOf 9 1 W = r1 ∧ fieldOf 9 2 W = r2 ∧ fieldOf 9 3 W = csr ∧ tkI 9 W = v := by
  have a0 : 0 ≤ rd ∧ rd ≤ 31 := h0
  have a1 : 0 ≤ r1 ∧ r1 ≤ 0 := h1
  have a2 : 0 ≤ r2 ∧ r2 ≤ 0 := h2
  have a3 : 0 ≤ csr ∧ csr ≤ 0 := h3
  have f0 : K % 128 = K := gF
  have i0 : -1048576 ≤ v := hi.1
  have i1 : v ≤ 1048574 := hi.2.1
  have i2 : (2 : Int) ∣ v := tmod_emod hi.2.2
  have e : W = K + rd * 128 + r1 * 32768 + r2 * 1048576 + csr * 1048576 + (v / 1048576 % 2 * 2147483648 + v / 2 % 1024 * 2097152 + v / 2048 % 2 * 1048576 + v / 4096 % 256 * 4096) := hW
  clear h0 h1 h2 h3 g0 g1 g2 g3 gI gF hi hW k0 k1
  obtain ⟨q0, Vq0⟩ : ∃ x, v / 4096 % 256 = x := ⟨_, rfl⟩
  obtain ⟨q1, Vq1⟩ : ∃ x, v / 2048 % 2 = x := ⟨_, rfl⟩
  obtain ⟨q2, Vq2⟩ : ∃ x, v / 2 % 1024 = x := ⟨_, rfl⟩
  obtain ⟨q3, Vq3⟩ : ∃ x, v / 1048576 % 2 = x := ⟨_, rfl⟩
  rw [Vq0, Vq1, Vq2, Vq3] at e
  have bq0 : 0 ≤ q0 ∧ q0 < 256 := by omega
  have bq1 : 0 ≤ q1 ∧ q1 < 2 := by omega
  have bq2 : 0 ≤ q2 ∧ q2 < 1024 := by omega
  have bq3 : 0 ≤ q3 ∧ q3 < 2 := by omega
  obtain ⟨k0, kk⟩ : ∃ x, K = x := ⟨_, rfl⟩
  have bk0 : 0 ≤ k0 ∧ k0 < 128 := by omega
  have HV := And.intro i0 i1
  clear f0
  have key : W % 128 = k0 ∧ W / 128 % 32 = rd ∧ W / 4096 % 256 = q0 ∧ W / 1048576 % 2 = q1 ∧ W / 2097152 % 1024 = q2 ∧ W / 2147483648 % 2 = q3 := by
    clear HV i0 i1 i2 Vq0 Vq1 Vq2 Vq3
    have D0 : W % 128 = k0 := dig0 W k0 (rd * 1 + q0 * 32 + q1 * 8192 + q2 * 16384 + q3 * 16777216) 128 (by omega) (by omega) (by omega)
    have D1 : W / 128 % 32 = rd := dig W (k0 * 1) rd (q0 * 1 + q1 * 256 + q2 * 512 + q3 * 524288) 128 32 4096 (by decide) (by decide) (by omega) (by omega) (by omega) (by omega) (by omega)
    have D2 : W / 4096 % 256 = q0 := dig W (k0 * 1 + rd * 128) q0 (q1 * 1 + q2 * 2 + q3 * 2048) 4096 256 1048576 (by decide) (by decide) (by omega) (by omega) (by omega) (by omega) (by omega)
    have D3 : W / 1048576 % 2 = q1 := dig W (k0 * 1 + rd * 128 + q0 * 4096) q1 (q2 * 1 + q3 * 1024) 1048576 2 2097152 (by decide) (by decide) (by omega) (by omega) (by omega) (by omega) (by omega)
    have D4 : W / 2097152 % 1024 = q2 := dig W (k0 * 1 + rd * 128 + q0 * 4096 + q1 * 1048576) q2 (q3 * 1) 2097152 1024 2147483648 (by decide) (by decide) (by omega) (by omega) (by omega) (by omega) (by omega)
    have D5 : W / 2147483648 % 2 = q3 := dig W (k0 * 1 + rd * 128 + q0 * 4096 + q1 * 1048576 + q2 * 2097152) q3 (0) 2147483648 2 4294967296 (by decide) (by decide) (by omega) (by omega) (by omega) (by omega) (by omega)
    exact ⟨D0, D1, D2, D3, D4, D5⟩
  obtain ⟨D0, D1, D2, D3, D4, D5⟩ := key
  clear e
  refine ⟨?_, ?_, ?_, ?_, ?_, ?_⟩
  · show W % 128 = K
    rw [D0]; omega
  · show W / 128 % 32 = rd
    exact D1
  · show 0 = r1
    omega
  · show 0 = r2
    omega
  · show 0 = csr
    omega
  · show (if 1 ≤ (W / 2147483648 % 2) then (W / 2147483648 % 2) - 2 else (W / 2147483648 % 2)) * 1048576 + W / 4096 % 256 * 4096 + W / 1048576 % 2 * 2048 + W / 2097152 % 1024 * 2 = v
    rw [D2, D3, D4, D5]
    clear D0 D1 D2 D3 D4 D5 kk a0 a1 a2 a3
    by_cases c : 1 ≤ q3
    · rw [if_pos c]; omega
    · rw [if_neg c]; omega
theorem dec_word_9 (K W : Int) (w0 : 0 ≤ W) (w1 : W < 4294967296) (hf : fixI 9 W = K) :
    okF 9 0 (fieldOf 9 0 W) ∧ okF 9 1 (fieldOf 9 1 W) ∧ okF 9 2 (fieldOf 9 2 W) ∧ okF 9 3 (fieldOf 9 3 W) ∧ immOk 9 (tkI 9 W) ∧ K + fieldOf 9 0 W * 128 + fieldOf 9 1 W * 32768 + fieldOf 9 2 W * 1048576 + fieldOf 9 3 W * 1048576 + immI 9 (tkI 9 W) = W := by
  have f0 : W % 128 = K := hf
  clear hf
  obtain ⟨y0, k0, l0, m0, e0, z0⟩ := split W 128 (by decide) w0
  obtain ⟨y1, rd, l1, m1, e1, z1⟩ := split y0 32 (by decide) z0
  obtain ⟨y2, q0, l2, m2, e2, z2⟩ := split y1 256 (by decide) z1
  obtain ⟨y3, q1, l3, m3, e3, z3⟩ := split y2 2 (by decide) z2
  obtain ⟨y4, q2, l4, m4, e4, z4⟩ := split y3 1024 (by decide) z3
  obtain ⟨y5, q3, l5, m5, e5, z5⟩ := split y4 2 (by decide) z4
  have hs : W = k0 * 1 + rd * 128 + q0 * 4096 + q1 * 1048576 + q2 * 2097152 + q3 * 2147483648 := by omega
  clear e0 z0 e1 z1 e2 z2 e3 z3 e4 z4 e5 z5
  have D0 : W % 128 = k0 := dig0 W k0 (rd * 1 + q0 * 32 + q1 * 8192 + q2 * 16384 + q3 * 16777216) 128 (by omega) (by omega) (by omega)
  have D1 : W / 128 % 32 = rd := dig W (k0 * 1) rd (q0 * 1 + q1 * 256 + q2 * 512 + q3 * 524288) 128 32 4096 (by decide) (by decide) (by omega) (by omega) (by omega) (by omega) (by omega)
  have D2 : W / 4096 % 256 = q0 := dig W (k0 * 1 + rd * 128) q0 (q1 * 1 + q2 * 2 + q3 * 2048) 4096 256 1048576 (by decide) (by decide) (by omega) (by omega) (by omega) (by omega) (by omega)
  have D3 : W / 1048576 % 2 = q1 := dig W (k0 * 1 + rd * 128 + q0 * 4096) q1 (q2 * 1 + q3 * 1024) 1048576 2 2097152 (by decide) (by decide) (by omega) (by omega) (by omega) (by omega) (by omega)
  have D4 : W / 2097152 % 1024 = q2 := dig W (k0 * 1 + rd * 128 + q0 * 4096 + q1 * 1048576) q2 (q3 * 1) 2097152 1024 2147483648 (by decide) (by decide) (by omega) (by omega) (by omega) (by omega) (by omega)
  have D5 : W / 2147483648 % 2 = q3 := dig W (k0 * 1 + rd * 128 + q0 * 4096 + q1 * 1048576 + q2 * 2097152) q3 (0) 2147483648 2 4294967296 (by decide) (by decide) (by omega) (by omega) (by omega) (by omega) (by omega)
  have t : tkI 9 W = (if 1 ≤ (W / 2147483648 % 2) then (W / 2147483648 % 2) - 2 else (W / 2147483648 % 2)) * 1048576 + W / 4096 % 256 * 4096 + W / 1048576 % 2 * 2048 + W / 2097152 % 1024 * 2 := rfl
  have x0 : fieldOf 9 0 W = rd := D1
  have x1 : fieldOf 9 1 W = 0 := rfl
  have x2 : fieldOf 9 2 W = 0 := rfl
  have x3 : fieldOf 9 3 W = 0 := rfl
  rw [D0] at f0
  rw [D2, D3, D4, D5] at t
  rw [x0, x1, x2, x3]
  generalize tkI 9 W = v at t ⊢
  clear w0 w1 x0 x1 x2 x3 D0 D1 D2 D3 D4 D5
  by_cases c : 1 ≤ q3
  · rw [if_pos c] at t
    have key : v / 4096 % 256 = q0 ∧ v / 2048 % 2 = q1 ∧ v / 2 % 1024 = q2 ∧ v / 1048576 % 2 = q3 ∧ -1048576 ≤ v ∧ v ≤ 1048574 ∧ (2 : Int) ∣ v := by
      clear hs f0
      refine ⟨?_, ?_, ?_, ?_, ?_, ?_, ?_⟩ <;> omega
    obtain ⟨Vq0, Vq1, Vq2, Vq3, v0, v1, v2⟩ := key
    clear t
    refine ⟨?_, ?_, ?_, ?_, ⟨v0, v1, Int.tmod_eq_zero_of_dvd v2⟩, ?_⟩
    · show 0 ≤ rd ∧ rd ≤ 31
      clear hs f0; omega
    · show 0 ≤ (0 : Int) ∧ (0 : Int) ≤ 0
      clear hs f0; omega
    · show 0 ≤ (0 : Int) ∧ (0 : Int) ≤ 0
      clear hs f0; omega
    · show 0 ≤ (0 : Int) ∧ (0 : Int) ≤ 0
      clear hs f0; omega
    · show K + rd * 128 + 0 * 32768 + 0 * 1048576 + 0 * 1048576 + (v / 1048576 % 2 * 2147483648 + v / 2 % 1024 * 2097152 + v / 2048 % 2 * 1048576 + v / 4096 % 256 * 4096) = W
      rw [Vq0, Vq1, Vq2, Vq3]; omega
  · rw [if_neg c] at t
    have key : v / 4096 % 256 = q0 ∧ v / 2048 % 2 = q1 ∧ v / 2 % 1024 = q2 ∧ v / 1048576 % 2 = q3 ∧ -1048576 ≤ v ∧ v ≤ 1048574 ∧ (2 : Int) ∣ v := by
      clear hs f0
      refine ⟨?_, ?_, ?_, ?_, ?_, ?_, ?_⟩ <;> omega
    obtain ⟨Vq0, Vq1, Vq2, Vq3, v0, v1, v2⟩ := key
    clear t
    refine ⟨?_, ?_, ?_, ?_, ⟨v0, v1, Int.tmod_eq_zero_of_dvd v2⟩, ?_⟩
    · show 0 ≤ rd ∧ rd ≤ 31
      clear hs f0; omega
    · show 0 ≤ (0 : Int) ∧ (0 : Int) ≤ 0
      clear hs f0; omega
    · show 0 ≤ (0 : Int) ∧ (0 : Int) ≤ 0
      clear hs f0; omega
    · show 0 ≤ (0 : Int) ∧ (0 : Int) ≤ 0
      clear hs f0; omega
    · show K + rd * 128 + 0 * 32768 + 0 * 1048576 + 0 * 1048576 + (v / 1048576 % 2 * 2147483648 + v / 2 % 1024 * 2097152 + v / 2048 % 2 * 1048576 + v / 4096 % 256 * 4096) = W
      rw [Vq0, Vq1, Vq2, Vq3]; omega
theorem enc_word_10 (K rd r1 r2 csr v W : Int) (k0 : 0 ≤ K) (k1 : K < 4294967296) (g0 : hasB 10 0 = true → K / 128 % 32 = 0) (g1 : hasB 10 1 = true → K / 32768 % 32 = 0) (g2 : hasB 10 2 = true → K / 1048576 % 32 = 0) (g3 : hasB 10 3 = true → K / 1048576 % 4096 = 0) (gI : gapI 10 K = true) (gF : fixI 10 K = K)
    (h0 : okF 10 0 rd) (h1 : okF 10 1 r1) (h2 : okF 10 2 r2) (h3 : okF 10 3 csr) (hi : immOk 10 v) (hW : W = K + rd * 128 + r1 * 32768 + r2 * 1048576 + csr * 1048576 + immI 10 v) :
    fixI 10 W = K ∧ fieldOf 10 0 W = rd ∧ fieldOf 10 1 W = r1 ∧ fieldOf 10 2 W = r2 ∧ fieldOf 10 3 W = csr ∧ tkI 10 W = v := by
  have a0 : 0 ≤ rd ∧ rd ≤ 31 := h0
  have c0 : K / 128 % 32 = 0 := g0 rfl
  have a1 : 0 ≤ r1 ∧ r1 ≤ 31 := h1
  have c1 : K / 32768 % 32 = 0 := g1 rfl
  have a2 : 0 ≤ r2 ∧ r2 ≤ 0 := h2
  have a3 : 0 ≤ csr ∧ csr ≤ 0 := h3
  have d0 : K / 1048576 % 4096 = 0 := by simpa [gapI] using gI
  have f0 : K % 128 + K / 4096 % 8 * 4096 = K := gF
  have i0 : 0 ≤ v := hi.1
  have i1 : v ≤ 4095 := hi.2.1
  have e : W = K + rd * 128 + r1 * 32768 + r2 * 1048576 + csr * 1048576 + (v % 4096 * 1048576) := hW
  clear h0 h1 h2 h3 g0 g1 g2 g3 gI gF hi hW
  refine ⟨?_, ?_, ?_, ?_, ?_, ?_⟩
  · show W % 128 + W / 4096 % 8 * 4096 = K
    omega
  · show W / 128 % 32 = rd
    omega
  · show W / 32768 % 32 = r1
    omega
  · show 0 = r2
    omega
  · show 0 = csr
    omega
  · show W / 1048576 % 4096 = v
    omega
theorem dec_word_10 (K W : Int) (w0 : 0 ≤ W) (w1 : W < 4294967296) (hf : fixI 10 W = K) :
    okF 10 0 (fieldOf 10 0 W) ∧ okF 10 1 (fieldOf 10 1 W) ∧ okF 10 2 (fieldOf 10 2 W) ∧ okF 10 3 (fieldOf 10 3 W) ∧ immOk 10 (tkI 10 W) ∧ K + fieldOf 10 0 W * 128 + fieldOf 10 1 W * 32768 + fieldOf 10 2 W * 1048576 + fieldOf 10 3 W * 1048576 + immI 10 (tkI 10 W) = W := by
  have f0 : W % 128 + W / 4096 % 8 * 4096 = K := hf
  clear hf
  have t : tkI 10 W = W / 1048576 % 4096 := rfl
  generalize tkI 10 W = v at t ⊢
  refine ⟨?_, ?_, ?_, ?_, ⟨?_, ?_, ?_⟩, ?_⟩
  · show 0 ≤ (W / 128 % 32) ∧ (W / 128 % 32) ≤ 31
    omega
  · show 0 ≤ (W / 32768 % 32) ∧ (W / 32768 % 32) ≤ 31
    omega
  · show 0 ≤ (0 : Int) ∧ 0 ≤ 0
    omega
  · show 0 ≤ (0 : Int) ∧ 0 ≤ 0
    omega
  · show 0 ≤ v
    omega
  · show v ≤ 4095
    omega
  · show v.tmod 1 = 0
    exact Int.tmod_one _
  · show K + (W / 128 % 32) * 128 + (W / 32768 % 32) * 32768 + 0 * 1048576 + 0 * 1048576 + (v % 4096 * 1048576) = W
    omega
theorem enc_word_11 (K rd r1 r2 csr v W : Int) (k0 : 0 ≤ K) (k1 : K < 4294967296) (g0 : hasB 11 0 = true → K / 128 % 32 = 0) (g1 : hasB 11 1 = true → K / 32768 % 32 = 0) (g2 : hasB 11 2 = true → K / 1048576 % 32 = 0) (g3 : hasB 11 3 = true → K / 1048576 % 4096 = 0) (gI : gapI 11 K = true) (gF : fixI 11 K = K)
    (h0 : okF 11 0 rd) (h1 : okF 11 1 r1) (h2 : okF 11 2 r2) (h3 : okF 11 3 csr) (hi : immOk 11 v) (hW : W = K + rd * 128 + r1 * 32768 + r2 * 1048576 + csr * 1048576 + immI 11 v) :
    fixI 11 W = K ∧ fieldOf 11 0 W = rd ∧ fieldOf 11 1 W = r1 ∧ fieldOf 11 2 W = r2 ∧ fieldOf 11 3 W = csr ∧ tkI 11 W = v := by
  have a0 : 0 ≤ rd ∧ rd ≤ 0 := h0
  have a1 : 0 ≤ r1 ∧ r1 ≤ 0 := h1
  have a2 : 0 ≤ r2 ∧ r2 ≤ 0 := h2
  have a3 : 0 ≤ csr ∧ csr ≤ 0 := h3
  have f0 : K = K := gF
  have i0 : 0 ≤ v := hi.1
  have i1 : v ≤ 0 := hi.2.1
  have e : W = K + rd * 128 + r1 * 32768 + r2 * 1048576 + csr * 1048576 + (0) := hW
  clear h0 h1 h2 h3 g0 g1 g2 g3 gI gF hi hW
  refine ⟨?_, ?_, ?_, ?_, ?_, ?_⟩
  · show W = K
    omega
  · show 0 = rd
    omega
  · show 0 = r1
    omega
  · show 0 = r2
    omega
  · show 0 = csr
    omega
  · show 0 = v
    omega
theorem dec_word_11 (K W : Int) (w0 : 0 ≤ W) (w1 : W < 4294967296) (hf : fixI 11 W = K) :
    okF 11 0 (fieldOf 11 0 W) ∧ okF 11 1 (fieldOf 11 1 W) ∧ okF 11 2 (fieldOf 11 2 W) ∧ okF 11 3 (fieldOf 11 3 W) ∧ immOk 11 (tkI 11 W) ∧ K + fieldOf 11 0 W * 128 + fieldOf 11 1 W * 32768 + fieldOf 11 2 W * 1048576 + fieldOf 11 3 W * 1048576 + immI 11 (tkI 11 W) = W := by
  have f0 : W = K := hf
  clear hf
  have t : tkI 11 W = 0 := rfl
  generalize tkI 11 W = v at t ⊢
  refine ⟨?_, ?_, ?_, ?_, ⟨?_, ?_, ?_⟩, ?_⟩
  · show 0 ≤ (0 : Int) ∧ 0 ≤ 0
    omega
  · show 0 ≤ (0 : Int) ∧ 0 ≤ 0
    omega
  · show 0 ≤ (0 : Int) ∧ 0 ≤ 0
    omega
  · show 0 ≤ (0 : Int) ∧ 0 ≤ 0
    omega
  · show 0 ≤ v
    omega
  · show v ≤ 0
    omega
  · show v.tmod 1 = 0
    exact Int.tmod_one _
  · show K + 0 * 128 + 0 * 32768 + 0 * 1048576 + 0 * 1048576 + (0) = W
    omega
theorem enc_word_12 (K rd r1 r2 csr v W : Int) (k0 : 0 ≤ K) (k1 : K < 4294967296) (g0 : hasB 12 0 = true → K / 128 % 32 = 0) (g1 : hasB 12 1 = true → K / 32768 % 32 = 0) (g2 : hasB 12 2 = true → K / 1048576 % 32 = 0) (g3 : hasB 12 3 = true → K / 1048576 % 4096 = 0) (gI : gapI 12 K = true) (gF : fixI 12 K = K)
    (h0 : okF 12 0 rd) (h1 : okF 12 1 r1) (h2 : okF 12 2 r2) (h3 : okF 12 3 csr) (hi : immOk 12 v) (hW : W = K + rd * 128 + r1 * 32768 + r2 * 1048576 + csr * 1048576 + immI 12 v) :
    fixI 12 W = K ∧ fieldOf 12 0 W = rd ∧ fieldOf 12 1 W = r1 ∧ fieldOf 12 2 W = r2 ∧ fieldOf 12 3 W = csr ∧ tkI 12 W = v := by
  have a0 : 0 ≤ rd ∧ rd ≤ 0 := h0
  have a1 : 0 ≤ r1 ∧ r1 ≤ 31 := h1
  have c1 : K / 32768 % 32 = 0 := g1 rfl
  have a2 : 0 ≤ r2 ∧ r2 ≤ 31 := h2
  have c2 : K / 1048576 % 32 = 0 := g2 rfl
  have a3 : 0 ≤ csr ∧ csr ≤ 0 := h3
  have f0 : K % 128 + K / 4096 % 8 * 4096 + K / 33554432 % 128 * 33554432 + K / 128 % 32 * 128 = K := gF
  have i0 : 0 ≤ v := hi.1
  have i1 : v ≤ 0 := hi.2.1
  have e : W = K + rd * 128 + r1 * 32768 + r2 * 1048576 + csr * 1048576 + (0) := hW
  clear h0 h1 h2 h3 g0 g1 g2 g3 gI gF hi hW
  refine ⟨?_, ?_, ?_, ?_, ?_, ?_⟩
  · show W % 128 + W / 4096 % 8 * 4096 + W / 33554432 % 128 * 33554432 + W / 128 % 32 * 128 = K
    omega
  · show 0 = rd
    omega
  · show W / 32768 % 32 = r1
    omega
  · show W / 1048576 % 32 = r2
    omega
  · show 0 = csr
    omega
  · show 0 = v
    omega
theorem dec_word_12 (K W : Int) (w0 : 0 ≤ W) (w1 : W < 4294967296) (hf : fixI 12 W = K) :
    okF 12 0 (fieldOf 12 0 W) ∧ okF 12 1 (fieldOf 12 1 W) ∧ okF 12 2 (fieldOf 12 2 W) ∧ okF 12 3 (fieldOf 12 3 W) ∧ immOk 12 (tkI 12 W) ∧ K + fieldOf 12 0 W * 128 + fieldOf 12 1 W * 32768 + fieldOf 12 2 W * 1048576 + fieldOf 12 3 W * 1048576 + immI 12 (tkI 12 W) = W := by
  have f0 : W % 128 + W / 4096 % 8 * 4096 + W / 33554432 % 128 * 33554432 + W / 128 % 32 * 128 = K := hf
  clear hf
  have t : tkI 12 W = 0 := rfl
  generalize tkI 12 W = v at t ⊢
  refine ⟨?_, ?_, ?_, ?_, ⟨?_, ?_, ?_⟩, ?_⟩
  · show 0 ≤ (0 : Int) ∧ 0 ≤ 0
    omega
  · show 0 ≤ (W / 32768 % 32) ∧ (W / 32768 % 32) ≤ 31
    omega
  · show 0 ≤ (W / 1048576 % 32) ∧ (W / 1048576 % 32) ≤ 31
    omega
  · show 0 ≤ (0 : Int) ∧ 0 ≤ 0
    omega
  · show 0 ≤ v
    omega
  · show v ≤ 0
    omega
  · show v.tmod 1 = 0
    exact Int.tmod_one _
  · show K + 0 * 128 + (W / 32768 % 32) * 32768 + (W / 1048576 % 32) * 1048576 + 0 * 1048576 + (0) = W
    omega
theorem enc_word_13 (K rd r1 r2 csr v W : Int) (k0 : 0 ≤ K) (k1 : K < 4294967296) (g0 : hasB 13 0 = true → K / 128 % 32 = 0) (g1 : hasB 13 1 = true → K / 32768 % 32 = 0) (g2 : hasB 13 2 = true → K / 1048576 % 32 = 0) (g3 : hasB 13 3 = true → K / 1048576 % 4096 = 0) (gI : gapI 13 K = true) (gF : fixI 13 K = K)
    (h0 : okF 13 0 rd) (h1 : okF 13 1 r1) (h2 : okF 13 2 r2) (h3 : okF 13 3 csr) (hi : immOk 13 v) (hW : W = K + rd * 128 + r1 * 32768 + r2 * 1048576 + csr * 1048576 + immI 13 v) :
    fixI 13 W = K ∧ fieldOf 13 0 W = rd ∧ fieldOf 13 1 W = r1 ∧ fieldOf 13 2 W = r2 ∧ fieldOf 13 3 W = csr ∧ tkI 13 W = v := by
  have a0 : 0 ≤ rd ∧ rd ≤ 31 := h0
  have c0 : K / 128 % 32 = 0 := g0 rfl
  have a1 : 0 ≤ r1 ∧ r1 ≤ 31 := h1
  have c1 : K / 32768 % 32 = 0 := g1 rfl
  have a2 : 0 ≤ r2 ∧ r2 ≤ 0 := h2
  have a3 : 0 ≤ csr ∧ csr ≤ 4095 := h3
  have c3 : K / 1048576 % 4096 = 0 := g3 rfl
  have f0 : K % 128 + K / 4096 % 8 * 4096 = K := gF
  have i0 : 0 ≤ v := hi.1
  have i1 : v ≤ 0 := hi.2.1
  have e : W = K + rd * 128 + r1 * 32768 + r2 * 1048576 + csr * 1048576 + (0) := hW
  clear h0 h1 h2 h3 g0 g1 g2 g3 gI gF hi hW
  refine ⟨?_, ?_, ?_, ?_, ?_, ?_⟩
  · show W % 128 + W / 4096 % 8 * 4096 = K
    omega
  · show W / 128 % 32 = rd
    omega
  · show W / 32768 % 32 = r1
    omega
  · show 0 = r2
    omega
  · show W / 1048576 % 4096 = csr
    omega
  · show 0 = v
    omega
theorem dec_word_13 (K W : Int) (w0 : 0 ≤ W) (w1 : W < 4294967296) (hf : fixI 13 W = K) :
    okF 13 0 (fieldOf 13 0 W) ∧ okF 13 1 (fieldOf 13 1 W) ∧ okF 13 2 (fieldOf 13 2 W) ∧ okF 13 3 (fieldOf 13 3 W) ∧ immOk 13 (tkI 13 W) ∧ K + fieldOf 13 0 W * 128 + fieldOf 13 1 W * 32768 + fieldOf 13 2 W * 1048576 + fieldOf 13 3 W * 1048576 + immI 13 (tkI 13 W) = W := by
  have f0 : W % 128 + W / 4096 % 8 * 4096 = K := hf
  clear hf
  have t : tkI 13 W = 0 := rfl
  generalize tkI 13 W = v at t ⊢
  refine ⟨?_, ?_, ?_, ?_, ⟨?_, ?_, ?_⟩, ?_⟩
  · show 0 ≤ (W / 128 % 32) ∧ (W / 128 % 32) ≤ 31
    omega
  · show 0 ≤ (W / 32768 % 32) ∧ (W / 32768 % 32) ≤ 31
    omega
  · show 0 ≤ (0 : Int) ∧ 0 ≤ 0
    omega
  · show 0 ≤ (W / 1048576 % 4096) ∧ (W / 1048576 % 4096) ≤ 4095
    omega
  · show 0 ≤ v
    omega
  · show v ≤ 0
    omega
  · show v.tmod 1 = 0
    exact Int.tmod_one _
  · show K + (W / 128 % 32) * 128 + (W / 32768 % 32) * 32768 + 0 * 1048576 + (W / 1048576 % 4096) * 1048576 + (0) = W
    omega
theorem enc_word_14 (K rd r1 r2 csr v W : Int) (k0 : 0 ≤ K) (k1 : K < 4294967296) (g0 : hasB 14 0 = true → K / 128 % 32 = 0) (g1 : hasB 14 1 = true → K / 32768 % 32 = 0) (g2 : hasB 14 2 = true → K / 1048576 % 32 = 0) (g3 : hasB 14 3 = true → K / 1048576 % 4096 = 0) (gI : gapI 14 K = true) (gF : fixI 14 K = K)
    (h0 : okF 14 0 rd) (h1 : okF 14 1 r1) (h2 : okF 14 2 r2) (h3 : okF 14 3 csr) (hi : immOk 14 v) (hW : W = K + rd * 128 + r1 * 32768 + r2 * 1048576 + csr * 1048576 + immI 14 v) :
    fixI 14 W = K ∧ fieldOf 14 0 W = rd ∧ fieldOf 14 1 W = r1 ∧ fieldOf 14 2 W = r2 ∧ fieldOf 14 3 W = csr ∧ tkI 14 W = v := by
  have a0 : 0 ≤ rd ∧ rd ≤ 31 := h0
  have c0 : K / 128 % 32 = 0 := g0 rfl
  have a1 : 0 ≤ r1 ∧ r1 ≤ 0 := h1
  have a2 : 0 ≤ r2 ∧ r2 ≤ 0 := h2
  have a3 : 0 ≤ csr ∧ csr ≤ 4095 := h3
  have c3 : K / 1048576 % 4096 = 0 := g3 rfl
  have d0 : K / 32768 % 32 = 0 := by simpa [gapI] using gI
  have f0 : K % 128 + K / 4096 % 8 * 4096 = K := gF
  have i0 : 0 ≤ v := hi.1
  have i1 : v ≤ 31 := hi.2.1
  have e : W = K + rd * 128 + r1 * 32768 + r2 * 1048576 + csr * 1048576 + (v % 32 * 32768) := hW
  clear h0 h1 h2 h3 g0 g1 g2 g3 gI gF hi hW
  refine ⟨?_, ?_, ?_, ?_, ?_, ?_⟩
  · show W % 128 + W / 4096 % 8 * 4096 = K
    omega
  · show W / 128 % 32 = rd
    omega
  · show 0 = r1
    omega
  · show 0 = r2
    omega
  · show W / 1048576 % 4096 = csr
    omega
  · show W / 32768 % 32 = v
    omega
theorem dec_word_14 (K W : Int) (w0 : 0 ≤ W) (w1 : W < 4294967296) (hf : fixI 14 W = K) :
    okF 14 0 (fieldOf 14 0 W) ∧ okF 14 1 (fieldOf 14 1 W) ∧ okF 14 2 (fieldOf 14 2 W) ∧ okF 14 3 (fieldOf 14 3 W) ∧ immOk 14 (tkI 14 W) ∧ K + fieldOf 14 0 W * 128 + fieldOf 14 1 W * 32768 + fieldOf 14 2 W * 1048576 + fieldOf 14 3 W * 1048576 + immI 14 (tkI 14 W) = W := by
  have f0 : W % 128 + W / 4096 % 8 * 4096 = K := hf
  clear hf
  have t : tkI 14 W = W / 32768 % 32 := rfl
  generalize tkI 14 W = v at t ⊢
  refine ⟨?_, ?_, ?_, ?_, ⟨?_, ?_, ?_⟩, ?_⟩
  · show 0 ≤ (W / 128 % 32) ∧ (W / 128 % 32) ≤ 31
    omega
  · show 0 ≤ (0 : Int) ∧ 0 ≤ 0
    omega
  · show 0 ≤ (0 : Int) ∧ 0 ≤ 0
    omega
  · show 0 ≤ (W / 1048576 % 4096) ∧ (W / 1048576 % 4096) ≤ 4095
    omega
  · show 0 ≤ v
    omega
  · show v ≤ 31
    omega
  · show v.tmod 1 = 0
    exact Int.tmod_one _
  · show K + (W / 128 % 32) * 128 + 0 * 32768 + 0 * 1048576 + (W / 1048576 % 4096) * 1048576 + (v % 32 * 32768) = W
    omega
end Go.Proofs.YtgjiojcdifjhcaaDoor
