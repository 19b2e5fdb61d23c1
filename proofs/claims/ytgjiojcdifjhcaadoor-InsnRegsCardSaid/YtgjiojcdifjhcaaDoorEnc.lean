/- What an instruction is laid down as, and what bars it: the plain words, off the tables. By an AI agent; printed by wip/gen_enc.py. -/
import Derived.Test.YtgjiojcdifjhcaaDoorPut
set_option linter.unusedVariables false
set_option linter.unusedSimpArgs false
namespace Go.Proofs.YtgjiojcdifjhcaaDoor
open Go.RowKit
/-- Has the shape s the field k (0 Rd, 1 Rs1, 2 Rs2, 3 Csr)? -/
def hasB (s k : Nat) : Bool := (fmFields s).toNat.testBit (([0, 1, 2, 4] : List Nat).getD k 0)
def mostF (s k : Nat) : Int := if hasB s k then (if k = 3 then 4095 else 31) else 0
def okF (s k : Nat) (x : Int) : Prop := 0 ≤ x ∧ x ≤ mostF s k
instance (s k : Nat) (x : Int) : Decidable (okF s k x) := by unfold okF; infer_instance
def immOk (s : Nat) (v : Int) : Prop := fmLeast s ≤ v ∧ v ≤ fmMost s ∧ v.tmod (fmStep s) = 0
instance (s : Nat) (v : Int) : Decidable (immOk s v) := by unfold immOk; infer_instance
/-- What bars it: the place and the number; (0, 0): nothing does. -/
def barF (s : Nat) (rd r1 r2 imm csr : Int) : Int × Int :=
  if ¬ okF s 0 rd then (1, 22) else if ¬ okF s 1 r1 then (2, 22) else if ¬ okF s 2 r2 then (3, 22) else if ¬ okF s 3 csr then (5, 22) else if ¬ immOk s imm then (4, 23) else (0, 0)
def accF (K rd r1 r2 csr : Int) : Nat → Int
  | 0 => K
  | 1 => K + rd * 128
  | 2 => K + rd * 128 + r1 * 32768
  | 3 => K + rd * 128 + r1 * 32768 + r2 * 1048576
  | _ => K + rd * 128 + r1 * 32768 + r2 * 1048576 + csr * 1048576
theorem has_and : ∀ s, s < 15 → bits .and .i64 (fmFields s) 1 = (if hasB s 0 then 1 else 0) ∧ bits .and .i64 (fmFields s) 2 = (if hasB s 1 then 2 else 0) ∧ bits .and .i64 (fmFields s) 4 = (if hasB s 2 then 4 else 0) ∧ bits .and .i64 (fmFields s) 16 = (if hasB s 3 then 16 else 0) := by decide
theorem word_rng : ∀ op, op < 77 → 0 ≤ wordOf op ∧ wordOf op < 4294967296 := by decide
theorem word_gap : ∀ op, op < 77 → (hasB (shN op) 0 = true → wordOf op / 128 % 32 = 0) ∧ (hasB (shN op) 1 = true → wordOf op / 32768 % 32 = 0) ∧ (hasB (shN op) 2 = true → wordOf op / 1048576 % 32 = 0) ∧ (hasB (shN op) 3 = true → wordOf op / 1048576 % 4096 = 0) ∧ (hasB (shN op) 2 && hasB (shN op) 3) = false := by decide
/-- The bits that Imm takes are 0 in the operation's word. -/
def gapI (s : Nat) (K : Int) : Bool := match s with
  | 2 | 5 | 10 => K / 1048576 % 4096 == 0
  | 3 => K / 1048576 % 64 == 0
  | 4 => K / 1048576 % 32 == 0
  | 6 | 7 => K / 33554432 % 128 == 0 && K / 128 % 32 == 0
  | 8 | 9 => K / 4096 % 1048576 == 0
  | 14 => K / 32768 % 32 == 0
  | _ => true
theorem word_gapI : ∀ op, op < 77 → gapI (shN op) (wordOf op) = true := by decide
theorem acc_rng (K rd r1 r2 csr : Int) (b0 b1 b2 b3 : Bool) (k0 : 0 ≤ K) (k1 : K < 4294967296) (g0 : b0 = true → K / 128 % 32 = 0) (g1 : b1 = true → K / 32768 % 32 = 0) (g2 : b2 = true → K / 1048576 % 32 = 0) (g3 : b3 = true → K / 1048576 % 4096 = 0) (g4 : (b2 && b3) = false)
    (h0 : 0 ≤ rd ∧ rd ≤ if b0 = true then 31 else 0) (h1 : 0 ≤ r1 ∧ r1 ≤ if b1 = true then 31 else 0) (h2 : 0 ≤ r2 ∧ r2 ≤ if b2 = true then 31 else 0) (h3 : 0 ≤ csr ∧ csr ≤ if b3 = true then 4095 else 0) :
    bits .or .u32 K (rd * 128) = K + rd * 128 ∧ bits .or .u32 (K + rd * 128) (r1 * 32768) = K + rd * 128 + r1 * 32768 ∧ bits .or .u32 (K + rd * 128 + r1 * 32768) (r2 * 1048576) = K + rd * 128 + r1 * 32768 + r2 * 1048576 ∧ bits .or .u32 (K + rd * 128 + r1 * 32768 + r2 * 1048576) (csr * 1048576) = K + rd * 128 + r1 * 32768 + r2 * 1048576 + csr * 1048576 ∧ 0 ≤ K + rd * 128 + r1 * 32768 + r2 * 1048576 + csr * 1048576 ∧ K + rd * 128 + r1 * 32768 + r2 * 1048576 + csr * 1048576 < 4294967296 := by
  have e0 : bits .or .u32 K (rd * 128) = K + rd * 128 := by
    cases b0 <;> simp only [Bool.false_eq_true, if_true, if_false, reduceIte, true_implies] at h0 g0
    · exact or_piece K rd 7 0 128 1 rfl rfl (by omega) (by omega) (by omega) (by omega) (by omega) (by omega)
    · exact or_piece K rd 7 5 128 32 rfl rfl (by omega) (by omega) (by omega) (by omega) (by omega) (by omega)
  have e1 : bits .or .u32 (K + rd * 128) (r1 * 32768) = K + rd * 128 + r1 * 32768 := by
    cases b0 <;> cases b1 <;> simp only [Bool.false_eq_true, if_true, if_false, reduceIte, true_implies] at h0 g0 h1 g1
    · exact or_piece _ r1 15 0 32768 1 rfl rfl (by omega) (by omega) (by omega) (by omega) (by omega) (by omega)
    · exact or_piece _ r1 15 5 32768 32 rfl rfl (by omega) (by omega) (by omega) (by omega) (by omega) (by omega)
    · exact or_piece _ r1 15 0 32768 1 rfl rfl (by omega) (by omega) (by omega) (by omega) (by omega) (by omega)
    · exact or_piece _ r1 15 5 32768 32 rfl rfl (by omega) (by omega) (by omega) (by omega) (by omega) (by omega)
  have e2 : bits .or .u32 (K + rd * 128 + r1 * 32768) (r2 * 1048576) = K + rd * 128 + r1 * 32768 + r2 * 1048576 := by
    cases b2 <;> cases b0 <;> cases b1 <;> simp only [Bool.false_eq_true, if_true, if_false, reduceIte, true_implies] at h0 g0 h1 g1 h2 g2
    iterate 4 exact or_piece _ r2 20 0 1048576 1 rfl rfl (by omega) (by omega) (by omega) (by omega) (by omega) (by omega)
    all_goals exact or_piece _ r2 20 5 1048576 32 rfl rfl (by omega) (by omega) (by omega) (by omega) (by omega) (by omega)
  refine ⟨e0, e1, e2, ?_⟩
  clear e0 e1 e2
  cases b2 <;> cases b3 <;> simp only [Bool.false_eq_true, if_true, if_false, reduceIte, true_implies, Bool.and_true, Bool.and_false, Bool.true_and, Bool.false_and] at h2 g2 h3 g3 g4
  · cases b0 <;> cases b1 <;> simp only [Bool.false_eq_true, if_true, if_false, reduceIte, true_implies] at h0 g0 h1 g1
    all_goals exact ⟨or_piece _ csr 20 0 1048576 1 rfl rfl (by omega) (by omega) (by omega) (by omega) (by omega) (by omega), by omega, by omega⟩
  · cases b0 <;> cases b1 <;> simp only [Bool.false_eq_true, if_true, if_false, reduceIte, true_implies] at h0 g0 h1 g1
    all_goals exact ⟨or_piece _ csr 20 12 1048576 4096 rfl rfl (by omega) (by omega) (by omega) (by omega) (by omega) (by omega), by omega, by omega⟩
  · cases b0 <;> cases b1 <;> simp only [Bool.false_eq_true, if_true, if_false, reduceIte, true_implies] at h0 g0 h1 g1
    all_goals exact ⟨or_piece _ csr 20 0 1048576 1 rfl rfl (by omega) (by omega) (by omega) (by omega) (by omega) (by omega), by omega, by omega⟩
  · cases g4
theorem most_if (s k : Nat) : mostF s k = if hasB s k = true then (if k = 3 then 4095 else 31) else 0 := rfl
theorem acc_sums (op : Nat) (h : op < 77) (rd r1 r2 csr : Int) (h0 : okF (shN op) 0 rd) (h1 : okF (shN op) 1 r1) (h2 : okF (shN op) 2 r2) (h3 : okF (shN op) 3 csr) :
    bits .or .u32 (wordOf op) (rd * 128) = wordOf op + rd * 128 ∧ bits .or .u32 (wordOf op + rd * 128) (r1 * 32768) = wordOf op + rd * 128 + r1 * 32768 ∧ bits .or .u32 (wordOf op + rd * 128 + r1 * 32768) (r2 * 1048576) = wordOf op + rd * 128 + r1 * 32768 + r2 * 1048576 ∧ bits .or .u32 (wordOf op + rd * 128 + r1 * 32768 + r2 * 1048576) (csr * 1048576) = wordOf op + rd * 128 + r1 * 32768 + r2 * 1048576 + csr * 1048576 ∧ 0 ≤ wordOf op + rd * 128 + r1 * 32768 + r2 * 1048576 + csr * 1048576 ∧ wordOf op + rd * 128 + r1 * 32768 + r2 * 1048576 + csr * 1048576 < 4294967296 := by
  obtain ⟨k0, k1⟩ := word_rng op h
  obtain ⟨g0, g1, g2, g3, g4⟩ := word_gap op h
  exact acc_rng _ rd r1 r2 csr _ _ _ _ k0 k1 g0 g1 g2 g3 g4 h0 h1 h2 h3
theorem okF_zero (s k : Nat) : okF s k 0 := ⟨Int.le_refl 0, by unfold mostF; split <;> (try split) <;> decide⟩
theorem acc_one (op : Nat) (h : op < 77) (k : Nat) (hk : k < 4) (rd r1 r2 csr : Int) (H : ∀ j, j ≤ k → okF (shN op) j (([rd, r1, r2, csr] : List Int).getD j 0)) :
    bits .or .u32 (accF (wordOf op) rd r1 r2 csr k) ((([rd, r1, r2, csr] : List Int).getD k 0) * (([128, 32768, 1048576, 1048576] : List Int).getD k 0)) = accF (wordOf op) rd r1 r2 csr (k + 1) := by
  have hk4 : k = 0 ∨ k = 1 ∨ k = 2 ∨ k = 3 := by omega
  rcases hk4 with rfl | rfl | rfl | rfl
  · exact (acc_sums op h rd 0 0 0 (H 0 (by decide)) (okF_zero _ _) (okF_zero _ _) (okF_zero _ _)).1
  · exact (acc_sums op h rd r1 0 0 (H 0 (by decide)) (H 1 (by decide)) (okF_zero _ _) (okF_zero _ _)).2.1
  · exact (acc_sums op h rd r1 r2 0 (H 0 (by decide)) (H 1 (by decide)) (H 2 (by decide)) (okF_zero _ _)).2.2.1
  · exact (acc_sums op h rd r1 r2 csr (H 0 (by decide)) (H 1 (by decide)) (H 2 (by decide)) (H 3 (by decide))).2.2.2.1
theorem or_sum (a x y : Int) (h : bits .or .u32 x y = x + y) (hx : 0 ≤ x) (hx1 : x < 4294967296) (hy : 0 ≤ y) (hy1 : y < 4294967296) (ha : 0 ≤ a) (ha1 : a < 4294967296) : bits .or .u32 a (x + y) = bits .or .u32 (bits .or .u32 a x) y := by
  rw [← h]
  obtain ⟨A, rfl⟩ := Int.eq_ofNat_of_zero_le ha
  obtain ⟨X, rfl⟩ := Int.eq_ofNat_of_zero_le hx
  obtain ⟨Y, rfl⟩ := Int.eq_ofNat_of_zero_le hy
  have b1 : X ||| Y < 2 ^ 32 := Nat.or_lt_two_pow (by omega) (by omega)
  have b2 : A ||| X < 2 ^ 32 := Nat.or_lt_two_pow (by omega) (by omega)
  rw [u32_or_nat X Y (by omega) (by omega), u32_or_nat A X (by omega) (by omega), u32_or_nat A _ (by omega) (by omega), u32_or_nat _ Y (by omega) (by omega), Nat.or_assoc]
theorem or_zero (a : Int) (h0 : 0 ≤ a) (h1 : a < 4294967296) : bits .or .u32 a 0 = a := by
  have h := or_piece a 0 0 0 1 1 rfl rfl h0 h1 (by omega) (by omega) (by omega) (by omega)
  simpa using h
theorem acc_imm_s (s : Nat) (s1 : 1 ≤ s) (s2 : s ≤ 14) (K rd r1 r2 csr v : Int) (k0 : 0 ≤ K) (k1 : K < 4294967296) (g0 : hasB s 0 = true → K / 128 % 32 = 0) (g1 : hasB s 1 = true → K / 32768 % 32 = 0) (g2 : hasB s 2 = true → K / 1048576 % 32 = 0) (g3 : hasB s 3 = true → K / 1048576 % 4096 = 0) (gI : gapI s K = true)
    (h0 : okF s 0 rd) (h1 : okF s 1 r1) (h2 : okF s 2 r2) (h3 : okF s 3 csr) : bits .or .u32 (K + rd * 128 + r1 * 32768 + r2 * 1048576 + csr * 1048576) (immI s v) = K + rd * 128 + r1 * 32768 + r2 * 1048576 + csr * 1048576 + immI s v ∧ 0 ≤ K + rd * 128 + r1 * 32768 + r2 * 1048576 + csr * 1048576 + immI s v ∧ K + rd * 128 + r1 * 32768 + r2 * 1048576 + csr * 1048576 + immI s v < 4294967296 := by
  rcases s14 s s1 s2 with rfl | rfl | rfl | rfl | rfl | rfl | rfl | rfl | rfl | rfl | rfl | rfl | rfl | rfl
  · have a0 : 0 ≤ rd ∧ rd ≤ 31 := h0
    have c0 : K / 128 % 32 = 0 := g0 rfl
    have a1 : 0 ≤ r1 ∧ r1 ≤ 31 := h1
    have c1 : K / 32768 % 32 = 0 := g1 rfl
    have a2 : 0 ≤ r2 ∧ r2 ≤ 31 := h2
    have c2 : K / 1048576 % 32 = 0 := g2 rfl
    have a3 : 0 ≤ csr ∧ csr ≤ 0 := h3
    clear g0 g1 g2 g3 gI h0 h1 h2 h3
    refine ⟨?_, by simp only [immI]; omega, by simp only [immI]; omega⟩
    show bits .or .u32 _ 0 = _ + 0
    rw [or_zero _ (by omega) (by omega), Int.add_zero]
  · have a0 : 0 ≤ rd ∧ rd ≤ 31 := h0
    have c0 : K / 128 % 32 = 0 := g0 rfl
    have a1 : 0 ≤ r1 ∧ r1 ≤ 31 := h1
    have c1 : K / 32768 % 32 = 0 := g1 rfl
    have a2 : 0 ≤ r2 ∧ r2 ≤ 0 := h2
    have a3 : 0 ≤ csr ∧ csr ≤ 0 := h3
    have d0 : K / 1048576 % 4096 = 0 := by simpa [gapI] using gI
    clear g0 g1 g2 g3 gI h0 h1 h2 h3
    show bits .or .u32 _ (v % 4096 * 1048576) = _ + (v % 4096 * 1048576) ∧ 0 ≤ _ + (v % 4096 * 1048576) ∧ _ + (v % 4096 * 1048576) < 4294967296
    refine ⟨?_, by omega, by omega⟩
    rw [or_piece _ (v % 4096) 20 12 1048576 4096 rfl rfl (by omega) (by omega) (by omega) (by omega) (by omega) (by omega)]
  · have a0 : 0 ≤ rd ∧ rd ≤ 31 := h0
    have c0 : K / 128 % 32 = 0 := g0 rfl
    have a1 : 0 ≤ r1 ∧ r1 ≤ 31 := h1
    have c1 : K / 32768 % 32 = 0 := g1 rfl
    have a2 : 0 ≤ r2 ∧ r2 ≤ 0 := h2
    have a3 : 0 ≤ csr ∧ csr ≤ 0 := h3
    have d0 : K / 1048576 % 64 = 0 := by simpa [gapI] using gI
    clear g0 g1 g2 g3 gI h0 h1 h2 h3
    show bits .or .u32 _ (v % 64 * 1048576) = _ + (v % 64 * 1048576) ∧ 0 ≤ _ + (v % 64 * 1048576) ∧ _ + (v % 64 * 1048576) < 4294967296
    refine ⟨?_, by omega, by omega⟩
    rw [or_piece _ (v % 64) 20 6 1048576 64 rfl rfl (by omega) (by omega) (by omega) (by omega) (by omega) (by omega)]
  · have a0 : 0 ≤ rd ∧ rd ≤ 31 := h0
    have c0 : K / 128 % 32 = 0 := g0 rfl
    have a1 : 0 ≤ r1 ∧ r1 ≤ 31 := h1
    have c1 : K / 32768 % 32 = 0 := g1 rfl
    have a2 : 0 ≤ r2 ∧ r2 ≤ 0 := h2
    have a3 : 0 ≤ csr ∧ csr ≤ 0 := h3
    have d0 : K / 1048576 % 32 = 0 := by simpa [gapI] using gI
    clear g0 g1 g2 g3 gI h0 h1 h2 h3
    show bits .or .u32 _ (v % 32 * 1048576) = _ + (v % 32 * 1048576) ∧ 0 ≤ _ + (v % 32 * 1048576) ∧ _ + (v % 32 * 1048576) < 4294967296
    refine ⟨?_, by omega, by omega⟩
    rw [or_piece _ (v % 32) 20 5 1048576 32 rfl rfl (by omega) (by omega) (by omega) (by omega) (by omega) (by omega)]
  · have a0 : 0 ≤ rd ∧ rd ≤ 31 := h0
    have c0 : K / 128 % 32 = 0 := g0 rfl
    have a1 : 0 ≤ r1 ∧ r1 ≤ 31 := h1
    have c1 : K / 32768 % 32 = 0 := g1 rfl
    have a2 : 0 ≤ r2 ∧ r2 ≤ 0 := h2
    have a3 : 0 ≤ csr ∧ csr ≤ 0 := h3
    have d0 : K / 1048576 % 4096 = 0 := by simpa [gapI] using gI
    clear g0 g1 g2 g3 gI h0 h1 h2 h3
    show bits .or .u32 _ (v % 4096 * 1048576) = _ + (v % 4096 * 1048576) ∧ 0 ≤ _ + (v % 4096 * 1048576) ∧ _ + (v % 4096 * 1048576) < 4294967296
    refine ⟨?_, by omega, by omega⟩
    rw [or_piece _ (v % 4096) 20 12 1048576 4096 rfl rfl (by omega) (by omega) (by omega) (by omega) (by omega) (by omega)]
  · have a0 : 0 ≤ rd ∧ rd ≤ 0 := h0
    have a1 : 0 ≤ r1 ∧ r1 ≤ 31 := h1
    have c1 : K / 32768 % 32 = 0 := g1 rfl
    have a2 : 0 ≤ r2 ∧ r2 ≤ 31 := h2
    have c2 : K / 1048576 % 32 = 0 := g2 rfl
    have a3 : 0 ≤ csr ∧ csr ≤ 0 := h3
    have d0 : K / 33554432 % 128 = 0 ∧ K / 128 % 32 = 0 := by simpa [gapI] using gI
    clear g0 g1 g2 g3 gI h0 h1 h2 h3
    show bits .or .u32 _ (v / 32 % 128 * 33554432 + v % 32 * 128) = _ + (v / 32 % 128 * 33554432 + v % 32 * 128) ∧ 0 ≤ _ + (v / 32 % 128 * 33554432 + v % 32 * 128) ∧ _ + (v / 32 % 128 * 33554432 + v % 32 * 128) < 4294967296
    refine ⟨?_, by omega, by omega⟩
    rw [or_sum _ _ (v % 32 * 128) (or_piece _ (v % 32) 7 5 128 32 rfl rfl (by omega) (by omega) (by omega) (by omega) (by omega) (by omega)) (by omega) (by omega) (by omega) (by omega) (by omega) (by omega)]
    rw [or_piece _ (v / 32 % 128) 25 7 33554432 128 rfl rfl (by omega) (by omega) (by omega) (by omega) (by omega) (by omega)]
    rw [or_piece _ (v % 32) 7 5 128 32 rfl rfl (by omega) (by omega) (by omega) (by omega) (by omega) (by omega)]
    omega
  · have a0 : 0 ≤ rd ∧ rd ≤ 0 := h0
    have a1 : 0 ≤ r1 ∧ r1 ≤ 31 := h1
    have c1 : K / 32768 % 32 = 0 := g1 rfl
    have a2 : 0 ≤ r2 ∧ r2 ≤ 31 := h2
    have c2 : K / 1048576 % 32 = 0 := g2 rfl
    have a3 : 0 ≤ csr ∧ csr ≤ 0 := h3
    have d0 : K / 33554432 % 128 = 0 ∧ K / 128 % 32 = 0 := by simpa [gapI] using gI
    clear g0 g1 g2 g3 gI h0 h1 h2 h3
    show bits .or .u32 _ (v / 4096 % 2 * 2147483648 + v / 32 % 64 * 33554432 + v / 2 % 16 * 256 + v / 2048 % 2 * 128) = _ + (v / 4096 % 2 * 2147483648 + v / 32 % 64 * 33554432 + v / 2 % 16 * 256 + v / 2048 % 2 * 128) ∧ 0 ≤ _ + (v / 4096 % 2 * 2147483648 + v / 32 % 64 * 33554432 + v / 2 % 16 * 256 + v / 2048 % 2 * 128) ∧ _ + (v / 4096 % 2 * 2147483648 + v / 32 % 64 * 33554432 + v / 2 % 16 * 256 + v / 2048 % 2 * 128) < 4294967296
    refine ⟨?_, by omega, by omega⟩
    rw [or_sum _ _ (v / 2048 % 2 * 128) (or_piece _ (v / 2048 % 2) 7 1 128 2 rfl rfl (by omega) (by omega) (by omega) (by omega) (by omega) (by omega)) (by omega) (by omega) (by omega) (by omega) (by omega) (by omega)]
    rw [or_sum _ _ (v / 2 % 16 * 256) (or_piece _ (v / 2 % 16) 8 4 256 16 rfl rfl (by omega) (by omega) (by omega) (by omega) (by omega) (by omega)) (by omega) (by omega) (by omega) (by omega) (by omega) (by omega)]
    rw [or_sum _ _ (v / 32 % 64 * 33554432) (or_piece _ (v / 32 % 64) 25 6 33554432 64 rfl rfl (by omega) (by omega) (by omega) (by omega) (by omega) (by omega)) (by omega) (by omega) (by omega) (by omega) (by omega) (by omega)]
    rw [or_piece _ (v / 4096 % 2) 31 1 2147483648 2 rfl rfl (by omega) (by omega) (by omega) (by omega) (by omega) (by omega)]
    rw [or_piece _ (v / 32 % 64) 25 6 33554432 64 rfl rfl (by omega) (by omega) (by omega) (by omega) (by omega) (by omega)]
    rw [or_piece _ (v / 2 % 16) 8 4 256 16 rfl rfl (by omega) (by omega) (by omega) (by omega) (by omega) (by omega)]
    rw [or_piece _ (v / 2048 % 2) 7 1 128 2 rfl rfl (by omega) (by omega) (by omega) (by omega) (by omega) (by omega)]
    omega
  · have a0 : 0 ≤ rd ∧ rd ≤ 31 := h0
    have c0 : K / 128 % 32 = 0 := g0 rfl
    have a1 : 0 ≤ r1 ∧ r1 ≤ 0 := h1
    have a2 : 0 ≤ r2 ∧ r2 ≤ 0 := h2
    have a3 : 0 ≤ csr ∧ csr ≤ 0 := h3
    have d0 : K / 4096 % 1048576 = 0 := by simpa [gapI] using gI
    clear g0 g1 g2 g3 gI h0 h1 h2 h3
    show bits .or .u32 _ (v / 4096 % 1048576 * 4096) = _ + (v / 4096 % 1048576 * 4096) ∧ 0 ≤ _ + (v / 4096 % 1048576 * 4096) ∧ _ + (v / 4096 % 1048576 * 4096) < 4294967296
    refine ⟨?_, by omega, by omega⟩
    rw [or_piece _ (v / 4096 % 1048576) 12 20 4096 1048576 rfl rfl (by omega) (by omega) (by omega) (by omega) (by omega) (by omega)]
  · have a0 : 0 ≤ rd ∧ rd ≤ 31 := h0
    have c0 : K / 128 % 32 = 0 := g0 rfl
    have a1 : 0 ≤ r1 ∧ r1 ≤ 0 := h1
    have a2 : 0 ≤ r2 ∧ r2 ≤ 0 := h2
    have a3 : 0 ≤ csr ∧ csr ≤ 0 := h3
    have d0 : K / 4096 % 1048576 = 0 := by simpa [gapI] using gI
    clear g0 g1 g2 g3 gI h0 h1 h2 h3
    show bits .or .u32 _ (v / 1048576 % 2 * 2147483648 + v / 2 % 1024 * 2097152 + v / 2048 % 2 * 1048576 + v / 4096 % 256 * 4096) = _ + (v / 1048576 % 2 * 2147483648 + v / 2 % 1024 * 2097152 + v / 2048 % 2 * 1048576 + v / 4096 % 256 * 4096) ∧ 0 ≤ _ + (v / 1048576 % 2 * 2147483648 + v / 2 % 1024 * 2097152 + v / 2048 % 2 * 1048576 + v / 4096 % 256 * 4096) ∧ _ + (v / 1048576 % 2 * 2147483648 + v / 2 % 1024 * 2097152 + v / 2048 % 2 * 1048576 + v / 4096 % 256 * 4096) < 4294967296
    refine ⟨?_, by omega, by omega⟩
    rw [or_sum _ _ (v / 4096 % 256 * 4096) (or_piece _ (v / 4096 % 256) 12 8 4096 256 rfl rfl (by omega) (by omega) (by omega) (by omega) (by omega) (by omega)) (by omega) (by omega) (by omega) (by omega) (by omega) (by omega)]
    rw [or_sum _ _ (v / 2048 % 2 * 1048576) (or_piece _ (v / 2048 % 2) 20 1 1048576 2 rfl rfl (by omega) (by omega) (by omega) (by omega) (by omega) (by omega)) (by omega) (by omega) (by omega) (by omega) (by omega) (by omega)]
    rw [or_sum _ _ (v / 2 % 1024 * 2097152) (or_piece _ (v / 2 % 1024) 21 10 2097152 1024 rfl rfl (by omega) (by omega) (by omega) (by omega) (by omega) (by omega)) (by omega) (by omega) (by omega) (by omega) (by omega) (by omega)]
    rw [or_piece _ (v / 1048576 % 2) 31 1 2147483648 2 rfl rfl (by omega) (by omega) (by omega) (by omega) (by omega) (by omega)]
    rw [or_piece _ (v / 2 % 1024) 21 10 2097152 1024 rfl rfl (by omega) (by omega) (by omega) (by omega) (by omega) (by omega)]
    rw [or_piece _ (v / 2048 % 2) 20 1 1048576 2 rfl rfl (by omega) (by omega) (by omega) (by omega) (by omega) (by omega)]
    rw [or_piece _ (v / 4096 % 256) 12 8 4096 256 rfl rfl (by omega) (by omega) (by omega) (by omega) (by omega) (by omega)]
    omega
  · have a0 : 0 ≤ rd ∧ rd ≤ 31 := h0
    have c0 : K / 128 % 32 = 0 := g0 rfl
    have a1 : 0 ≤ r1 ∧ r1 ≤ 31 := h1
    have c1 : K / 32768 % 32 = 0 := g1 rfl
    have a2 : 0 ≤ r2 ∧ r2 ≤ 0 := h2
    have a3 : 0 ≤ csr ∧ csr ≤ 0 := h3
    have d0 : K / 1048576 % 4096 = 0 := by simpa [gapI] using gI
    clear g0 g1 g2 g3 gI h0 h1 h2 h3
    show bits .or .u32 _ (v % 4096 * 1048576) = _ + (v % 4096 * 1048576) ∧ 0 ≤ _ + (v % 4096 * 1048576) ∧ _ + (v % 4096 * 1048576) < 4294967296
    refine ⟨?_, by omega, by omega⟩
    rw [or_piece _ (v % 4096) 20 12 1048576 4096 rfl rfl (by omega) (by omega) (by omega) (by omega) (by omega) (by omega)]
  · have a0 : 0 ≤ rd ∧ rd ≤ 0 := h0
    have a1 : 0 ≤ r1 ∧ r1 ≤ 0 := h1
    have a2 : 0 ≤ r2 ∧ r2 ≤ 0 := h2
    have a3 : 0 ≤ csr ∧ csr ≤ 0 := h3
    clear g0 g1 g2 g3 gI h0 h1 h2 h3
    refine ⟨?_, by simp only [immI]; omega, by simp only [immI]; omega⟩
    show bits .or .u32 _ 0 = _ + 0
    rw [or_zero _ (by omega) (by omega), Int.add_zero]
  · have a0 : 0 ≤ rd ∧ rd ≤ 0 := h0
    have a1 : 0 ≤ r1 ∧ r1 ≤ 31 := h1
    have c1 : K / 32768 % 32 = 0 := g1 rfl
    have a2 : 0 ≤ r2 ∧ r2 ≤ 31 := h2
    have c2 : K / 1048576 % 32 = 0 := g2 rfl
    have a3 : 0 ≤ csr ∧ csr ≤ 0 := h3
    clear g0 g1 g2 g3 gI h0 h1 h2 h3
    refine ⟨?_, by simp only [immI]; omega, by simp only [immI]; omega⟩
    show bits .or .u32 _ 0 = _ + 0
    rw [or_zero _ (by omega) (by omega), Int.add_zero]
  · have a0 : 0 ≤ rd ∧ rd ≤ 31 := h0
    have c0 : K / 128 % 32 = 0 := g0 rfl
    have a1 : 0 ≤ r1 ∧ r1 ≤ 31 := h1
    have c1 : K / 32768 % 32 = 0 := g1 rfl
    have a2 : 0 ≤ r2 ∧ r2 ≤ 0 := h2
    have a3 : 0 ≤ csr ∧ csr ≤ 4095 := h3
    have c3 : K / 1048576 % 4096 = 0 := g3 rfl
    clear g0 g1 g2 g3 gI h0 h1 h2 h3
    refine ⟨?_, by simp only [immI]; omega, by simp only [immI]; omega⟩
    show bits .or .u32 _ 0 = _ + 0
    rw [or_zero _ (by omega) (by omega), Int.add_zero]
  · have a0 : 0 ≤ rd ∧ rd ≤ 31 := h0
    have c0 : K / 128 % 32 = 0 := g0 rfl
    have a1 : 0 ≤ r1 ∧ r1 ≤ 0 := h1
    have a2 : 0 ≤ r2 ∧ r2 ≤ 0 := h2
    have a3 : 0 ≤ csr ∧ csr ≤ 4095 := h3
    have c3 : K / 1048576 % 4096 = 0 := g3 rfl
    have d0 : K / 32768 % 32 = 0 := by simpa [gapI] using gI
    clear g0 g1 g2 g3 gI h0 h1 h2 h3
    show bits .or .u32 _ (v % 32 * 32768) = _ + (v % 32 * 32768) ∧ 0 ≤ _ + (v % 32 * 32768) ∧ _ + (v % 32 * 32768) < 4294967296
    refine ⟨?_, by omega, by omega⟩
    rw [or_piece _ (v % 32) 15 5 32768 32 rfl rfl (by omega) (by omega) (by omega) (by omega) (by omega) (by omega)]
theorem acc_imm (op : Nat) (p1 : 1 ≤ op) (p2 : op < 77) (rd r1 r2 csr v : Int) (h0 : okF (shN op) 0 rd) (h1 : okF (shN op) 1 r1) (h2 : okF (shN op) 2 r2) (h3 : okF (shN op) 3 csr) :
    bits .or .u32 (accF (wordOf op) rd r1 r2 csr 4) (immI (shN op) v) = accF (wordOf op) rd r1 r2 csr 4 + immI (shN op) v ∧ 0 ≤ accF (wordOf op) rd r1 r2 csr 4 + immI (shN op) v ∧ accF (wordOf op) rd r1 r2 csr 4 + immI (shN op) v < 4294967296 := by
  obtain ⟨k0, k1⟩ := word_rng op p2
  obtain ⟨g0, g1, g2, g3, _⟩ := word_gap op p2
  obtain ⟨s1, s2⟩ := shN_rng op p2 p1
  exact acc_imm_s _ s1 s2 _ rd r1 r2 csr v k0 k1 g0 g1 g2 g3 (word_gapI op p2) h0 h1 h2 h3
/-- What Encode gives of any numbers as an instruction: the word, the place, the number. -/
def encR (op rd r1 r2 imm csr : Int) : Int × Int × Int :=
  if 1 ≤ op ∧ op < 77 then
    let b := barF (shN op.toNat) rd r1 r2 imm csr
    (if b.2 = 0 then accF (wordOf op.toNat) rd r1 r2 csr 4 + immI (shN op.toNat) imm else 0, b.1, b.2)
  else (0, 0, 21)
end Go.Proofs.YtgjiojcdifjhcaaDoor
