/- A word and its instruction: each leads back to the other, and no word is two operations'. By an AI agent. -/
import Derived.Test.YtgjiojcdifjhcaaDoorDecMath
set_option linter.unusedVariables false
set_option linter.unusedSimpArgs false
namespace Go.Proofs.YtgjiojcdifjhcaaDoor
open Go.RowKit
theorem word_fix : ∀ op, op < 77 → 1 ≤ op → fixI (shN op) (wordOf op) = wordOf op := by decide
theorem enc_word (op : Nat) (p1 : 1 ≤ op) (p2 : op < 77) (rd r1 r2 csr v W : Int) (h0 : okF (shN op) 0 rd) (h1 : okF (shN op) 1 r1) (h2 : okF (shN op) 2 r2) (h3 : okF (shN op) 3 csr) (hi : immOk (shN op) v) (hW : W = accF (wordOf op) rd r1 r2 csr 4 + immI (shN op) v) :
    fixI (shN op) W = wordOf op ∧ fieldOf (shN op) 0 W = rd ∧ fieldOf (shN op) 1 W = r1 ∧ fieldOf (shN op) 2 W = r2 ∧ fieldOf (shN op) 3 W = csr ∧ tkI (shN op) W = v := by
  obtain ⟨k0, k1⟩ := word_rng op p2
  obtain ⟨g0, g1, g2, g3, _⟩ := word_gap op p2
  have gI := word_gapI op p2
  have gF := word_fix op p2 p1
  obtain ⟨s1, s2⟩ := shN_rng op p2 p1
  generalize shN op = s at *
  generalize wordOf op = K at *
  rcases s14 s s1 s2 with rfl | rfl | rfl | rfl | rfl | rfl | rfl | rfl | rfl | rfl | rfl | rfl | rfl | rfl
  · exact enc_word_1 K rd r1 r2 csr v W k0 k1 g0 g1 g2 g3 gI gF h0 h1 h2 h3 hi hW
  · exact enc_word_2 K rd r1 r2 csr v W k0 k1 g0 g1 g2 g3 gI gF h0 h1 h2 h3 hi hW
  · exact enc_word_3 K rd r1 r2 csr v W k0 k1 g0 g1 g2 g3 gI gF h0 h1 h2 h3 hi hW
  · exact enc_word_4 K rd r1 r2 csr v W k0 k1 g0 g1 g2 g3 gI gF h0 h1 h2 h3 hi hW
  · exact enc_word_5 K rd r1 r2 csr v W k0 k1 g0 g1 g2 g3 gI gF h0 h1 h2 h3 hi hW
  · exact enc_word_6 K rd r1 r2 csr v W k0 k1 g0 g1 g2 g3 gI gF h0 h1 h2 h3 hi hW
  · exact enc_word_7 K rd r1 r2 csr v W k0 k1 g0 g1 g2 g3 gI gF h0 h1 h2 h3 hi hW
  · exact enc_word_8 K rd r1 r2 csr v W k0 k1 g0 g1 g2 g3 gI gF h0 h1 h2 h3 hi hW
  · exact enc_word_9 K rd r1 r2 csr v W k0 k1 g0 g1 g2 g3 gI gF h0 h1 h2 h3 hi hW
  · exact enc_word_10 K rd r1 r2 csr v W k0 k1 g0 g1 g2 g3 gI gF h0 h1 h2 h3 hi hW
  · exact enc_word_11 K rd r1 r2 csr v W k0 k1 g0 g1 g2 g3 gI gF h0 h1 h2 h3 hi hW
  · exact enc_word_12 K rd r1 r2 csr v W k0 k1 g0 g1 g2 g3 gI gF h0 h1 h2 h3 hi hW
  · exact enc_word_13 K rd r1 r2 csr v W k0 k1 g0 g1 g2 g3 gI gF h0 h1 h2 h3 hi hW
  · exact enc_word_14 K rd r1 r2 csr v W k0 k1 g0 g1 g2 g3 gI gF h0 h1 h2 h3 hi hW
theorem dec_word_s (s : Nat) (s1 : 1 ≤ s) (s2 : s ≤ 14) (K W : Int) (w0 : 0 ≤ W) (w1 : W < 4294967296) (hf : fixI s W = K) :
    okF s 0 (fieldOf s 0 W) ∧ okF s 1 (fieldOf s 1 W) ∧ okF s 2 (fieldOf s 2 W) ∧ okF s 3 (fieldOf s 3 W) ∧ immOk s (tkI s W) ∧ K + fieldOf s 0 W * 128 + fieldOf s 1 W * 32768 + fieldOf s 2 W * 1048576 + fieldOf s 3 W * 1048576 + immI s (tkI s W) = W := by
  rcases s14 s s1 s2 with rfl | rfl | rfl | rfl | rfl | rfl | rfl | rfl | rfl | rfl | rfl | rfl | rfl | rfl
  · exact dec_word_1 K W w0 w1 hf
  · exact dec_word_2 K W w0 w1 hf
  · exact dec_word_3 K W w0 w1 hf
  · exact dec_word_4 K W w0 w1 hf
  · exact dec_word_5 K W w0 w1 hf
  · exact dec_word_6 K W w0 w1 hf
  · exact dec_word_7 K W w0 w1 hf
  · exact dec_word_8 K W w0 w1 hf
  · exact dec_word_9 K W w0 w1 hf
  · exact dec_word_10 K W w0 w1 hf
  · exact dec_word_11 K W w0 w1 hf
  · exact dec_word_12 K W w0 w1 hf
  · exact dec_word_13 K W w0 w1 hf
  · exact dec_word_14 K W w0 w1 hf
/-- What of a word a shape knows. -/
def f3k (s : Nat) : Bool := s != 8 && s != 9
def hi6k (s : Nat) : Bool := s == 1 || s == 3 || s == 4 || s == 11 || s == 12
def b25k (s : Nat) : Bool := s == 1 || s == 4 || s == 11 || s == 12
def sigs (s t : Nat) (K L : Int) : Bool :=
  K % 128 != L % 128 || (f3k s && f3k t && K / 4096 % 8 != L / 4096 % 8) || (hi6k s && hi6k t && K / 67108864 % 64 != L / 67108864 % 64) || (b25k s && b25k t && K / 33554432 % 2 != L / 33554432 % 2) || (s == 11 && t == 11 && K != L)
theorem sigs_all : ∀ p, p < 77 → ∀ q, q < 77 → 1 ≤ p → 1 ≤ q → p = q ∨ sigs (shN p) (shN q) (wordOf p) (wordOf q) = true := by decide +kernel
theorem fix_low (s : Nat) (s1 : 1 ≤ s) (s2 : s ≤ 14) (K W : Int) (w0 : 0 ≤ W) (w1 : W < 4294967296) (hf : fixI s W = K) :
    W % 128 = K % 128 ∧ (f3k s = true → W / 4096 % 8 = K / 4096 % 8) ∧ (hi6k s = true → W / 67108864 % 64 = K / 67108864 % 64) ∧ (b25k s = true → W / 33554432 % 2 = K / 33554432 % 2) ∧ ((s == 11) = true → W = K) := by
  have A : ∀ a b : Int, 0 ≤ a → a < 128 → 0 ≤ b → b < 8 → K = a + b * 4096 → K % 128 = a ∧ K / 4096 % 8 = b := fun a b _ _ _ _ h => by omega
  have B : ∀ a b c : Int, 0 ≤ a → a < 128 → 0 ≤ b → b < 8 → 0 ≤ c → c < 128 → K = a + b * 4096 + c * 33554432 → K % 128 = a ∧ K / 4096 % 8 = b ∧ K / 67108864 % 64 = c / 2 ∧ K / 33554432 % 2 = c % 2 := fun a b c _ _ _ _ _ _ h => by omega
  have C : W / 67108864 % 64 = W / 33554432 % 128 / 2 ∧ W / 33554432 % 2 = W / 33554432 % 128 % 2 := by omega
  rcases s14 s s1 s2 with rfl | rfl | rfl | rfl | rfl | rfl | rfl | rfl | rfl | rfl | rfl | rfl | rfl | rfl
  · have h := B (W % 128) (W / 4096 % 8) (W / 33554432 % 128) (by omega) (by omega) (by omega) (by omega) (by omega) (by omega) hf.symm
    exact ⟨h.1.symm, fun _ => h.2.1.symm, fun _ => C.1.trans h.2.2.1.symm, fun _ => C.2.trans h.2.2.2.symm, fun h => absurd h (by decide)⟩
  · have h := A (W % 128) (W / 4096 % 8) (by omega) (by omega) (by omega) (by omega) hf.symm
    exact ⟨h.1.symm, fun _ => h.2.symm, fun h => absurd h (by decide), fun h => absurd h (by decide), fun h => absurd h (by decide)⟩
  · have h : K = W % 128 + W / 4096 % 8 * 4096 + W / 67108864 % 64 * 67108864 := hf.symm
    have h2 := dig0 K (W % 128) (W / 4096 % 8 * 32 + W / 67108864 % 64 * 524288) 128 (by omega) (by omega) (by omega)
    have h3 := dig K (W % 128) (W / 4096 % 8) (W / 67108864 % 64 * 2048) 4096 8 32768 (by decide) (by decide) (by omega) (by omega) (by omega) (by omega) (by omega)
    have h4 := dig K (W % 128 + W / 4096 % 8 * 4096) (W / 67108864 % 64) 0 67108864 64 4294967296 (by decide) (by decide) (by omega) (by omega) (by omega) (by omega) (by omega)
    exact ⟨h2.symm, fun _ => h3.symm, fun _ => h4.symm, fun h => absurd h (by decide), fun h => absurd h (by decide)⟩
  · have h := B (W % 128) (W / 4096 % 8) (W / 33554432 % 128) (by omega) (by omega) (by omega) (by omega) (by omega) (by omega) hf.symm
    exact ⟨h.1.symm, fun _ => h.2.1.symm, fun _ => C.1.trans h.2.2.1.symm, fun _ => C.2.trans h.2.2.2.symm, fun h => absurd h (by decide)⟩
  iterate 3
    · have h := A (W % 128) (W / 4096 % 8) (by omega) (by omega) (by omega) (by omega) hf.symm
      exact ⟨h.1.symm, fun _ => h.2.symm, fun h => absurd h (by decide), fun h => absurd h (by decide), fun h => absurd h (by decide)⟩
  · have h : K = W % 128 := hf.symm
    exact ⟨by omega, fun h => absurd h (by decide), fun h => absurd h (by decide), fun h => absurd h (by decide), fun h => absurd h (by decide)⟩
  · have h : K = W % 128 := hf.symm
    exact ⟨by omega, fun h => absurd h (by decide), fun h => absurd h (by decide), fun h => absurd h (by decide), fun h => absurd h (by decide)⟩
  · have h := A (W % 128) (W / 4096 % 8) (by omega) (by omega) (by omega) (by omega) hf.symm
    exact ⟨h.1.symm, fun _ => h.2.symm, fun h => absurd h (by decide), fun h => absurd h (by decide), fun h => absurd h (by decide)⟩
  · have h : W = K := hf
    subst h
    exact ⟨rfl, fun _ => rfl, fun _ => rfl, fun _ => rfl, fun _ => rfl⟩
  · have h : K = W % 128 + W / 4096 % 8 * 4096 + W / 33554432 % 128 * 33554432 + W / 128 % 32 * 128 := hf.symm
    have h2 := dig0 K (W % 128) (W / 128 % 32 + W / 4096 % 8 * 32 + W / 33554432 % 128 * 262144) 128 (by omega) (by omega) (by omega)
    have h3 := dig K (W % 128 + W / 128 % 32 * 128) (W / 4096 % 8) (W / 33554432 % 128 * 1024) 4096 8 32768 (by decide) (by decide) (by omega) (by omega) (by omega) (by omega) (by omega)
    have h4 := dig K (W % 128 + W / 128 % 32 * 128 + W / 4096 % 8 * 4096) (W / 33554432 % 128) 0 33554432 128 4294967296 (by decide) (by decide) (by omega) (by omega) (by omega) (by omega) (by omega)
    have D : K / 67108864 % 64 = K / 33554432 % 128 / 2 ∧ K / 33554432 % 2 = K / 33554432 % 128 % 2 := by clear h h2 h3 h4; omega
    exact ⟨h2.symm, fun _ => h3.symm, fun _ => by rw [C.1, D.1, h4], fun _ => by rw [C.2, D.2, h4], fun h => absurd h (by decide)⟩
  · have h := A (W % 128) (W / 4096 % 8) (by omega) (by omega) (by omega) (by omega) hf.symm
    exact ⟨h.1.symm, fun _ => h.2.symm, fun h => absurd h (by decide), fun h => absurd h (by decide), fun h => absurd h (by decide)⟩
  · have h := A (W % 128) (W / 4096 % 8) (by omega) (by omega) (by omega) (by omega) hf.symm
    exact ⟨h.1.symm, fun _ => h.2.symm, fun h => absurd h (by decide), fun h => absurd h (by decide), fun h => absurd h (by decide)⟩
/-- No word is two operations'. -/
theorem one_op (p q : Nat) (p1 : 1 ≤ p) (p2 : p < 77) (q1 : 1 ≤ q) (q2 : q < 77) (W : Int) (w0 : 0 ≤ W) (w1 : W < 4294967296) (hp : fixI (shN p) W = wordOf p) (hq : fixI (shN q) W = wordOf q) : p = q := by
  rcases sigs_all p p2 q q2 p1 q1 with h | h
  · exact h
  · exfalso
    obtain ⟨a1, a2, a3, a4, a5⟩ := fix_low (shN p) (shN_rng p p2 p1).1 (shN_rng p p2 p1).2 _ W w0 w1 hp
    obtain ⟨b1, b2, b3, b4, b5⟩ := fix_low (shN q) (shN_rng q q2 q1).1 (shN_rng q q2 q1).2 _ W w0 w1 hq
    simp only [sigs, Bool.or_eq_true, Bool.and_eq_true, bne_iff_ne, ne_eq] at h
    rcases h with (((h | ⟨⟨h1, h2⟩, h⟩) | ⟨⟨h1, h2⟩, h⟩) | ⟨⟨h1, h2⟩, h⟩) | ⟨⟨h1, h2⟩, h⟩
    · exact h (a1.symm.trans b1)
    · exact h ((a2 h1).symm.trans (b2 h2))
    · exact h ((a3 h1).symm.trans (b3 h2))
    · exact h ((a4 h1).symm.trans (b4 h2))
    · exact h ((a5 h1).symm.trans (b5 h2))
end Go.Proofs.YtgjiojcdifjhcaaDoor
