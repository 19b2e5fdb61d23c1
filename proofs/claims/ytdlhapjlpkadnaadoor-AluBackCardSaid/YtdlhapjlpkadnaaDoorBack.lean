/- AluBack: what a store keeps a load brings back; a product divided by a factor. By an AI agent. -/
import Derived.Test.YtdlhapjlpkadnaaDoorDiv
import Derived.Test.YtdlhapjlpkadnaaDoorMoves
set_option linter.unusedVariables false
set_option linter.unusedSimpArgs false
namespace Go.Proofs.YtdlhapjlpkadnaaDoor
open Go.RowKit
def barK (j : Nat) : Nat := [4, 5, 6, 3].getD j 0
theorem keep_word (k : Nat) (v : Int) (hv : Word v) : Word (keepV k v) := by
  unfold Word at *
  unfold keepV
  split <;> omega
theorem ext_keep (j : Nat) (hj : j < 4) (v : Int) : extV j (keepV (7 + j) v) = extV j v := by
  have h : j = 0 ∨ j = 1 ∨ j = 2 ∨ j = 3 := by omega
  rcases h with rfl | rfl | rfl | rfl <;> simp only [extV, keepV] <;> omega
theorem bare_keep (j : Nat) (hj : j < 4) (v : Int) : extV (barK j) (keepV (7 + j) v) = keepV (7 + j) v := by
  have h : j = 0 ∨ j = 1 ∨ j = 2 ∨ j = 3 := by omega
  rcases h with rfl | rfl | rfl | rfl <;> simp only [barK, extV, keepV, List.getD_cons_zero, List.getD_cons_succ] <;> omega
theorem nb_pow (j : Nat) (hj : j < 4) : nb (7 + j) = nb j := by
  have h : j = 0 ∨ j = 1 ∨ j = 2 ∨ j = 3 := by omega
  rcases h with rfl | rfl | rfl | rfl <;> rfl
theorem prod_back (a b : Int) (ha : Word a) (hb : Word b) (h : b ≠ 0) : 0 ≤ a * b / 18446744073709551616 ∧ a * b / 18446744073709551616 < b ∧
    (a * b / 18446744073709551616 * 18446744073709551616 + a * b % 18446744073709551616) / b = a ∧ (a * b / 18446744073709551616 * 18446744073709551616 + a * b % 18446744073709551616) % b = 0 := by
  unfold Word at ha hb
  have h0 : 0 ≤ a * b := Int.mul_nonneg ha.1 hb.1
  have h1 : a * b < 18446744073709551616 * b := Int.mul_lt_mul_of_pos_right (by omega) (by omega)
  have e : a * b / 18446744073709551616 * 18446744073709551616 + a * b % 18446744073709551616 = a * b := by omega
  rw [e]
  refine ⟨by omega, by omega, Int.mul_ediv_cancel _ h, Int.mul_emod_left _ _⟩
set_option maxRecDepth 100000 in
set_option maxHeartbeats 4000000 in
theorem law_back (v a b : Int) (hv : Word v) (ha : Word a) (hb : Word b) (w : World) (ht : Tab w) :
    Calls Tryd.prog 5 #[.int .u64 v, .int .u64 a, .int .u64 b] w fun e w' => e = .returned (.bool true) ∧ Below w.heap.size w w' := by
  have HT := Lib.hid ht
  have HA := Lib.hid ha
  have HB := Lib.hid hb
  have HV := Lib.hid hv
  clear ht ha hb hv
  go_enter Tryd.func5, Tryd.ntmps5
  go_wp2_with fail
  have hc : ∀ j : Nat, j < 4 → (((w.alloc (.cells #[.int .i64 18, .int .i64 19, .int .i64 20, .int .i64 21] 3)).alloc (.cells #[.int .i64 11, .int .i64 12, .int .i64 13, .int .i64 14] 3)).alloc (.cells #[.int .i64 15, .int .i64 16, .int .i64 17, .int .i64 14] 3)).cell? ⟨w.heap.size, j, none⟩ = some (.int .i64 (([18, 19, 20, 21] : List Int).getD j 0)) ∧ (((w.alloc (.cells #[.int .i64 18, .int .i64 19, .int .i64 20, .int .i64 21] 3)).alloc (.cells #[.int .i64 11, .int .i64 12, .int .i64 13, .int .i64 14] 3)).alloc (.cells #[.int .i64 15, .int .i64 16, .int .i64 17, .int .i64 14] 3)).cell? ⟨w.heap.size + 1, j, none⟩ = some (.int .i64 (([11, 12, 13, 14] : List Int).getD j 0)) ∧ (((w.alloc (.cells #[.int .i64 18, .int .i64 19, .int .i64 20, .int .i64 21] 3)).alloc (.cells #[.int .i64 11, .int .i64 12, .int .i64 13, .int .i64 14] 3)).alloc (.cells #[.int .i64 15, .int .i64 16, .int .i64 17, .int .i64 14] 3)).cell? ⟨w.heap.size + 1 + 1, j, none⟩ = some (.int .i64 (([15, 16, 17, 14] : List Int).getD j 0)) := by
    intro j hj
    have h : j = 0 ∨ j = 1 ∨ j = 2 ∨ j = 3 := by omega
    rcases h with rfl | rfl | rfl | rfl <;> simp [go_sem]
  have B0 : Below w.heap.size w (((w.alloc (.cells #[.int .i64 18, .int .i64 19, .int .i64 20, .int .i64 21] 3)).alloc (.cells #[.int .i64 11, .int .i64 12, .int .i64 13, .int .i64 14] 3)).alloc (.cells #[.int .i64 15, .int .i64 16, .int .i64 17, .int .i64 14] 3)) := (((Below.refl _ _).alloc (Nat.le_refl _) _).alloc (by simp) _).alloc (by simp; omega) _
  have z0 : (((w.alloc (.cells #[.int .i64 18, .int .i64 19, .int .i64 20, .int .i64 21] 3)).alloc (.cells #[.int .i64 11, .int .i64 12, .int .i64 13, .int .i64 14] 3)).alloc (.cells #[.int .i64 15, .int .i64 16, .int .i64 17, .int .i64 14] 3)).heap.size = w.heap.size + 1 + 1 + 1 := by simp
  generalize (((w.alloc (.cells #[.int .i64 18, .int .i64 19, .int .i64 20, .int .i64 21] 3)).alloc (.cells #[.int .i64 11, .int .i64 12, .int .i64 13, .int .i64 14] 3)).alloc (.cells #[.int .i64 15, .int .i64 16, .int .i64 17, .int .i64 14] 3)) = w0 at *
  have H := Lib.hid hc
  clear hc
  go_loopw [10] (fun i wr => ∃ j : Nat, j ≤ 4 ∧ i = .int .i64 j ∧ Below w0.heap.size w0 wr) (fun i _ => 4 - (intOf i).toNat)
  case atStart => exact ⟨0, Nat.zero_le _, rfl, Below.refl _ _⟩
  case round =>
    obtain ⟨j, hj, rfl, hb⟩ := hrel
    have bw := B0.trans (hb.mono (by omega))
    have zz := hb.size
    have HT1 := Lib.hid (HT.out.after bw)
    have b1 : w.heap.size < w0.heap.size := by omega
    have b2 : w.heap.size + 1 < w0.heap.size := by omega
    have b3 : w.heap.size + 1 + 1 < w0.heap.size := by omega
    by_cases hjk : j < 4
    · obtain ⟨h1, h2, h3⟩ := H.out j hjk
      have h : j = 0 ∨ j = 1 ∨ j = 2 ∨ j = 3 := by omega
      rcases h with rfl | rfl | rfl | rfl
      · have h1 : w0.cell? ⟨w.heap.size, 0, none⟩ = some (.int .i64 18) := h1
        have h2 : w0.cell? ⟨w.heap.size + 1, 0, none⟩ = some (.int .i64 11) := h2
        have h3 : w0.cell? ⟨w.heap.size + 1 + 1, 0, none⟩ = some (.int .i64 15) := h3
        have h1r : wr.cell? ⟨w.heap.size, 0, none⟩ = some (.int .i64 18) := by rw [hb.cell b1]; exact h1
        have A1 : Hid (∀ w, Tab w → Calls Tryd.prog 9 #[.int .i64 18, .int .u64 v] w (Val2 (keepV 7 v) w)) := Lib.hid fun w ht => keep_at 7 (by decide) (by decide) v HV.out w ht
        have A2 : Hid (∀ w, Tab w → Calls Tryd.prog 7 #[.int .i64 11, .int .u64 (keepV 7 v)] w (Val2 (extV 0 v) w)) := Lib.hid fun w ht => by
          have := extend_at 0 (by decide) (keepV 7 v) (keep_word _ _ HV.out) w ht
          rw [show extV 0 (keepV 7 v) = extV 0 v from ext_keep 0 (by decide) v] at this
          exact this
        have A3 : Hid (∀ w, Tab w → Calls Tryd.prog 7 #[.int .i64 11, .int .u64 v] w (Val2 (extV 0 v) w)) := Lib.hid fun w ht => extend_at 0 (by decide) v HV.out w ht
        have A4 : Hid (∀ w, Tab w → Calls Tryd.prog 7 #[.int .i64 15, .int .u64 (keepV 7 v)] w (Val2 (keepV 7 v) w)) := Lib.hid fun w ht => by
          have := extend_at 4 (by decide) (keepV 7 v) (keep_word _ _ HV.out) w ht
          rw [show extV 4 (keepV 7 v) = keepV 7 v from bare_keep 0 (by decide) v] at this
          exact this
        have A5 : Hid (∀ w, Tab w → Calls Tryd.prog 6 #[.int .i64 18] w fun e w' => e = .returned (.int .i64 1) ∧ Below w.heap.size w w') := Lib.hid fun w ht => bytes_at 7 (by decide) w ht
        have A6 : Hid (∀ w, Tab w → Calls Tryd.prog 6 #[.int .i64 11] w fun e w' => e = .returned (.int .i64 1) ∧ Below w.heap.size w w') := Lib.hid fun w ht => bytes_at 0 (by decide) w ht
        generalize keepV 7 v = k at *
        generalize extV 0 v = x at *
        have h1' := Lib.hid h1
        clear zz hj hjk h1
        go_wp2_with fail
        refine (A1.out _ HT1.out).mono ?_
        rintro e w1 ⟨rfl, k1⟩
        have s1 := k1.size
        have HT2 := Lib.hid (HT1.out.after k1)
        have kb1 := hb.trans (k1.mono hb.size)
        have h2r : w1.cell? ⟨w.heap.size + 1, 0, none⟩ = some (.int .i64 11) := by rw [kb1.cell b2]; exact h2
        clear h1r
        go_wp2_with fail
        refine (A2.out _ HT2.out).mono ?_
        rintro e w2 ⟨rfl, k2⟩
        have HT3 := Lib.hid (HT2.out.after k2)
        have kb2 := kb1.trans (k2.mono kb1.size)
        clear h2r
        have h2r : w2.cell? ⟨w.heap.size + 1, 0, none⟩ = some (.int .i64 11) := by rw [kb2.cell b2]; exact h2
        go_wp2_with fail
        refine (A3.out _ HT3.out).mono ?_
        rintro e w3 ⟨rfl, k3⟩
        have HT4 := Lib.hid (HT3.out.after k3)
        have kb3 := kb2.trans (k3.mono kb2.size)
        clear h2r
        have h3r : w3.cell? ⟨w.heap.size + 1 + 1, 0, none⟩ = some (.int .i64 15) := by rw [kb3.cell b3]; exact h3
        go_wp2_with fail
        refine (A4.out _ HT4.out).mono ?_
        rintro e w4 ⟨rfl, k4⟩
        have HT5 := Lib.hid (HT4.out.after k4)
        have kb4 := kb3.trans (k4.mono kb3.size)
        clear h3r
        have h1r : w4.cell? ⟨w.heap.size, 0, none⟩ = some (.int .i64 18) := by rw [kb4.cell b1]; exact h1'.out
        go_wp2_with fail
        refine (A5.out _ HT5.out).mono ?_
        rintro e w5 ⟨rfl, k5⟩
        have HT6 := Lib.hid (HT5.out.after k5)
        have kb5 := kb4.trans (k5.mono kb4.size)
        clear h1r
        have h2r : w5.cell? ⟨w.heap.size + 1, 0, none⟩ = some (.int .i64 11) := by rw [kb5.cell b2]; exact h2
        go_wp2_with fail
        refine (A6.out _ HT6.out).mono ?_
        rintro e w6 ⟨rfl, k6⟩
        have kb6 := kb5.trans (k6.mono kb5.size)
        go_wp2_with fail
        go_roundw
        case rel => exact ⟨0 + 1, by omega, by go_num, kb6⟩
        case measure => simp [intOf]
      · have h1 : w0.cell? ⟨w.heap.size, 1, none⟩ = some (.int .i64 19) := h1
        have h2 : w0.cell? ⟨w.heap.size + 1, 1, none⟩ = some (.int .i64 12) := h2
        have h3 : w0.cell? ⟨w.heap.size + 1 + 1, 1, none⟩ = some (.int .i64 16) := h3
        have h1r : wr.cell? ⟨w.heap.size, 1, none⟩ = some (.int .i64 19) := by rw [hb.cell b1]; exact h1
        have A1 : Hid (∀ w, Tab w → Calls Tryd.prog 9 #[.int .i64 19, .int .u64 v] w (Val2 (keepV 8 v) w)) := Lib.hid fun w ht => keep_at 8 (by decide) (by decide) v HV.out w ht
        have A2 : Hid (∀ w, Tab w → Calls Tryd.prog 7 #[.int .i64 12, .int .u64 (keepV 8 v)] w (Val2 (extV 1 v) w)) := Lib.hid fun w ht => by
          have := extend_at 1 (by decide) (keepV 8 v) (keep_word _ _ HV.out) w ht
          rw [show extV 1 (keepV 8 v) = extV 1 v from ext_keep 1 (by decide) v] at this
          exact this
        have A3 : Hid (∀ w, Tab w → Calls Tryd.prog 7 #[.int .i64 12, .int .u64 v] w (Val2 (extV 1 v) w)) := Lib.hid fun w ht => extend_at 1 (by decide) v HV.out w ht
        have A4 : Hid (∀ w, Tab w → Calls Tryd.prog 7 #[.int .i64 16, .int .u64 (keepV 8 v)] w (Val2 (keepV 8 v) w)) := Lib.hid fun w ht => by
          have := extend_at 5 (by decide) (keepV 8 v) (keep_word _ _ HV.out) w ht
          rw [show extV 5 (keepV 8 v) = keepV 8 v from bare_keep 1 (by decide) v] at this
          exact this
        have A5 : Hid (∀ w, Tab w → Calls Tryd.prog 6 #[.int .i64 19] w fun e w' => e = .returned (.int .i64 2) ∧ Below w.heap.size w w') := Lib.hid fun w ht => bytes_at 8 (by decide) w ht
        have A6 : Hid (∀ w, Tab w → Calls Tryd.prog 6 #[.int .i64 12] w fun e w' => e = .returned (.int .i64 2) ∧ Below w.heap.size w w') := Lib.hid fun w ht => bytes_at 1 (by decide) w ht
        generalize keepV 8 v = k at *
        generalize extV 1 v = x at *
        have h1' := Lib.hid h1
        clear zz hj hjk h1
        go_wp2_with fail
        refine (A1.out _ HT1.out).mono ?_
        rintro e w1 ⟨rfl, k1⟩
        have s1 := k1.size
        have HT2 := Lib.hid (HT1.out.after k1)
        have kb1 := hb.trans (k1.mono hb.size)
        have h2r : w1.cell? ⟨w.heap.size + 1, 1, none⟩ = some (.int .i64 12) := by rw [kb1.cell b2]; exact h2
        clear h1r
        go_wp2_with fail
        refine (A2.out _ HT2.out).mono ?_
        rintro e w2 ⟨rfl, k2⟩
        have HT3 := Lib.hid (HT2.out.after k2)
        have kb2 := kb1.trans (k2.mono kb1.size)
        clear h2r
        have h2r : w2.cell? ⟨w.heap.size + 1, 1, none⟩ = some (.int .i64 12) := by rw [kb2.cell b2]; exact h2
        go_wp2_with fail
        refine (A3.out _ HT3.out).mono ?_
        rintro e w3 ⟨rfl, k3⟩
        have HT4 := Lib.hid (HT3.out.after k3)
        have kb3 := kb2.trans (k3.mono kb2.size)
        clear h2r
        have h3r : w3.cell? ⟨w.heap.size + 1 + 1, 1, none⟩ = some (.int .i64 16) := by rw [kb3.cell b3]; exact h3
        go_wp2_with fail
        refine (A4.out _ HT4.out).mono ?_
        rintro e w4 ⟨rfl, k4⟩
        have HT5 := Lib.hid (HT4.out.after k4)
        have kb4 := kb3.trans (k4.mono kb3.size)
        clear h3r
        have h1r : w4.cell? ⟨w.heap.size, 1, none⟩ = some (.int .i64 19) := by rw [kb4.cell b1]; exact h1'.out
        go_wp2_with fail
        refine (A5.out _ HT5.out).mono ?_
        rintro e w5 ⟨rfl, k5⟩
        have HT6 := Lib.hid (HT5.out.after k5)
        have kb5 := kb4.trans (k5.mono kb4.size)
        clear h1r
        have h2r : w5.cell? ⟨w.heap.size + 1, 1, none⟩ = some (.int .i64 12) := by rw [kb5.cell b2]; exact h2
        go_wp2_with fail
        refine (A6.out _ HT6.out).mono ?_
        rintro e w6 ⟨rfl, k6⟩
        have kb6 := kb5.trans (k6.mono kb5.size)
        go_wp2_with fail
        go_roundw
        case rel => exact ⟨1 + 1, by omega, by go_num, kb6⟩
        case measure => simp [intOf]
      · have h1 : w0.cell? ⟨w.heap.size, 2, none⟩ = some (.int .i64 20) := h1
        have h2 : w0.cell? ⟨w.heap.size + 1, 2, none⟩ = some (.int .i64 13) := h2
        have h3 : w0.cell? ⟨w.heap.size + 1 + 1, 2, none⟩ = some (.int .i64 17) := h3
        have h1r : wr.cell? ⟨w.heap.size, 2, none⟩ = some (.int .i64 20) := by rw [hb.cell b1]; exact h1
        have A1 : Hid (∀ w, Tab w → Calls Tryd.prog 9 #[.int .i64 20, .int .u64 v] w (Val2 (keepV 9 v) w)) := Lib.hid fun w ht => keep_at 9 (by decide) (by decide) v HV.out w ht
        have A2 : Hid (∀ w, Tab w → Calls Tryd.prog 7 #[.int .i64 13, .int .u64 (keepV 9 v)] w (Val2 (extV 2 v) w)) := Lib.hid fun w ht => by
          have := extend_at 2 (by decide) (keepV 9 v) (keep_word _ _ HV.out) w ht
          rw [show extV 2 (keepV 9 v) = extV 2 v from ext_keep 2 (by decide) v] at this
          exact this
        have A3 : Hid (∀ w, Tab w → Calls Tryd.prog 7 #[.int .i64 13, .int .u64 v] w (Val2 (extV 2 v) w)) := Lib.hid fun w ht => extend_at 2 (by decide) v HV.out w ht
        have A4 : Hid (∀ w, Tab w → Calls Tryd.prog 7 #[.int .i64 17, .int .u64 (keepV 9 v)] w (Val2 (keepV 9 v) w)) := Lib.hid fun w ht => by
          have := extend_at 6 (by decide) (keepV 9 v) (keep_word _ _ HV.out) w ht
          rw [show extV 6 (keepV 9 v) = keepV 9 v from bare_keep 2 (by decide) v] at this
          exact this
        have A5 : Hid (∀ w, Tab w → Calls Tryd.prog 6 #[.int .i64 20] w fun e w' => e = .returned (.int .i64 4) ∧ Below w.heap.size w w') := Lib.hid fun w ht => bytes_at 9 (by decide) w ht
        have A6 : Hid (∀ w, Tab w → Calls Tryd.prog 6 #[.int .i64 13] w fun e w' => e = .returned (.int .i64 4) ∧ Below w.heap.size w w') := Lib.hid fun w ht => bytes_at 2 (by decide) w ht
        generalize keepV 9 v = k at *
        generalize extV 2 v = x at *
        have h1' := Lib.hid h1
        clear zz hj hjk h1
        go_wp2_with fail
        refine (A1.out _ HT1.out).mono ?_
        rintro e w1 ⟨rfl, k1⟩
        have s1 := k1.size
        have HT2 := Lib.hid (HT1.out.after k1)
        have kb1 := hb.trans (k1.mono hb.size)
        have h2r : w1.cell? ⟨w.heap.size + 1, 2, none⟩ = some (.int .i64 13) := by rw [kb1.cell b2]; exact h2
        clear h1r
        go_wp2_with fail
        refine (A2.out _ HT2.out).mono ?_
        rintro e w2 ⟨rfl, k2⟩
        have HT3 := Lib.hid (HT2.out.after k2)
        have kb2 := kb1.trans (k2.mono kb1.size)
        clear h2r
        have h2r : w2.cell? ⟨w.heap.size + 1, 2, none⟩ = some (.int .i64 13) := by rw [kb2.cell b2]; exact h2
        go_wp2_with fail
        refine (A3.out _ HT3.out).mono ?_
        rintro e w3 ⟨rfl, k3⟩
        have HT4 := Lib.hid (HT3.out.after k3)
        have kb3 := kb2.trans (k3.mono kb2.size)
        clear h2r
        have h3r : w3.cell? ⟨w.heap.size + 1 + 1, 2, none⟩ = some (.int .i64 17) := by rw [kb3.cell b3]; exact h3
        go_wp2_with fail
        refine (A4.out _ HT4.out).mono ?_
        rintro e w4 ⟨rfl, k4⟩
        have HT5 := Lib.hid (HT4.out.after k4)
        have kb4 := kb3.trans (k4.mono kb3.size)
        clear h3r
        have h1r : w4.cell? ⟨w.heap.size, 2, none⟩ = some (.int .i64 20) := by rw [kb4.cell b1]; exact h1'.out
        go_wp2_with fail
        refine (A5.out _ HT5.out).mono ?_
        rintro e w5 ⟨rfl, k5⟩
        have HT6 := Lib.hid (HT5.out.after k5)
        have kb5 := kb4.trans (k5.mono kb4.size)
        clear h1r
        have h2r : w5.cell? ⟨w.heap.size + 1, 2, none⟩ = some (.int .i64 13) := by rw [kb5.cell b2]; exact h2
        go_wp2_with fail
        refine (A6.out _ HT6.out).mono ?_
        rintro e w6 ⟨rfl, k6⟩
        have kb6 := kb5.trans (k6.mono kb5.size)
        go_wp2_with fail
        go_roundw
        case rel => exact ⟨2 + 1, by omega, by go_num, kb6⟩
        case measure => simp [intOf]
      · have h1 : w0.cell? ⟨w.heap.size, 3, none⟩ = some (.int .i64 21) := h1
        have h2 : w0.cell? ⟨w.heap.size + 1, 3, none⟩ = some (.int .i64 14) := h2
        have h3 : w0.cell? ⟨w.heap.size + 1 + 1, 3, none⟩ = some (.int .i64 14) := h3
        have h1r : wr.cell? ⟨w.heap.size, 3, none⟩ = some (.int .i64 21) := by rw [hb.cell b1]; exact h1
        have A1 : Hid (∀ w, Tab w → Calls Tryd.prog 9 #[.int .i64 21, .int .u64 v] w (Val2 (keepV 10 v) w)) := Lib.hid fun w ht => keep_at 10 (by decide) (by decide) v HV.out w ht
        have A2 : Hid (∀ w, Tab w → Calls Tryd.prog 7 #[.int .i64 14, .int .u64 (keepV 10 v)] w (Val2 (extV 3 v) w)) := Lib.hid fun w ht => by
          have := extend_at 3 (by decide) (keepV 10 v) (keep_word _ _ HV.out) w ht
          rw [show extV 3 (keepV 10 v) = extV 3 v from ext_keep 3 (by decide) v] at this
          exact this
        have A3 : Hid (∀ w, Tab w → Calls Tryd.prog 7 #[.int .i64 14, .int .u64 v] w (Val2 (extV 3 v) w)) := Lib.hid fun w ht => extend_at 3 (by decide) v HV.out w ht
        have A4 : Hid (∀ w, Tab w → Calls Tryd.prog 7 #[.int .i64 14, .int .u64 (keepV 10 v)] w (Val2 (keepV 10 v) w)) := Lib.hid fun w ht => by
          have := extend_at 3 (by decide) (keepV 10 v) (keep_word _ _ HV.out) w ht
          rw [show extV 3 (keepV 10 v) = keepV 10 v from bare_keep 3 (by decide) v] at this
          exact this
        have A5 : Hid (∀ w, Tab w → Calls Tryd.prog 6 #[.int .i64 21] w fun e w' => e = .returned (.int .i64 8) ∧ Below w.heap.size w w') := Lib.hid fun w ht => bytes_at 10 (by decide) w ht
        have A6 : Hid (∀ w, Tab w → Calls Tryd.prog 6 #[.int .i64 14] w fun e w' => e = .returned (.int .i64 8) ∧ Below w.heap.size w w') := Lib.hid fun w ht => bytes_at 3 (by decide) w ht
        generalize keepV 10 v = k at *
        generalize extV 3 v = x at *
        have h1' := Lib.hid h1
        clear zz hj hjk h1
        go_wp2_with fail
        refine (A1.out _ HT1.out).mono ?_
        rintro e w1 ⟨rfl, k1⟩
        have s1 := k1.size
        have HT2 := Lib.hid (HT1.out.after k1)
        have kb1 := hb.trans (k1.mono hb.size)
        have h2r : w1.cell? ⟨w.heap.size + 1, 3, none⟩ = some (.int .i64 14) := by rw [kb1.cell b2]; exact h2
        clear h1r
        go_wp2_with fail
        refine (A2.out _ HT2.out).mono ?_
        rintro e w2 ⟨rfl, k2⟩
        have HT3 := Lib.hid (HT2.out.after k2)
        have kb2 := kb1.trans (k2.mono kb1.size)
        clear h2r
        have h2r : w2.cell? ⟨w.heap.size + 1, 3, none⟩ = some (.int .i64 14) := by rw [kb2.cell b2]; exact h2
        go_wp2_with fail
        refine (A3.out _ HT3.out).mono ?_
        rintro e w3 ⟨rfl, k3⟩
        have HT4 := Lib.hid (HT3.out.after k3)
        have kb3 := kb2.trans (k3.mono kb2.size)
        clear h2r
        have h3r : w3.cell? ⟨w.heap.size + 1 + 1, 3, none⟩ = some (.int .i64 14) := by rw [kb3.cell b3]; exact h3
        go_wp2_with fail
        refine (A4.out _ HT4.out).mono ?_
        rintro e w4 ⟨rfl, k4⟩
        have HT5 := Lib.hid (HT4.out.after k4)
        have kb4 := kb3.trans (k4.mono kb3.size)
        clear h3r
        have h1r : w4.cell? ⟨w.heap.size, 3, none⟩ = some (.int .i64 21) := by rw [kb4.cell b1]; exact h1'.out
        go_wp2_with fail
        refine (A5.out _ HT5.out).mono ?_
        rintro e w5 ⟨rfl, k5⟩
        have HT6 := Lib.hid (HT5.out.after k5)
        have kb5 := kb4.trans (k5.mono kb4.size)
        clear h1r
        have h2r : w5.cell? ⟨w.heap.size + 1, 3, none⟩ = some (.int .i64 14) := by rw [kb5.cell b2]; exact h2
        go_wp2_with fail
        refine (A6.out _ HT6.out).mono ?_
        rintro e w6 ⟨rfl, k6⟩
        have kb6 := kb5.trans (k6.mono kb5.size)
        go_wp2_with fail
        go_roundw
        case rel => exact ⟨3 + 1, by omega, by go_num, kb6⟩
        case measure => simp [intOf]
    · obtain rfl : j = 4 := by omega
      have HN := Lib.hid hb.size
      clear zz hj hjk b1 b2 b3
      by_cases hb0 : b = 0
      · subst hb0
        go_wp2_with fail
        refine (divide_no 0 a 0 (Int.le_refl _) _).mono ?_
        rintro e w1 ⟨g, rfl, -, -, -, k1⟩
        go_wp2_with fail
        go_ret
        exact ⟨rfl, bw.trans (k1.mono bw.size)⟩
      · have e0 : (b == 0) = false := by simpa using hb0
        have Q := Lib.hid (prod_back a b HA.out HB.out hb0)
        have M := Lib.hid (fun w => mul16_any a b HA.out HB.out w)
        have b1 := HB.out
        have D := Lib.hid (fun w => divide_yes (a * b / 18446744073709551616) (a * b % 18446744073709551616) b (by have := Q.out; omega) (by have := Q.out; omega) b1.2 (by omega) (by omega) w)
        rw [Q.out.2.2.1, Q.out.2.2.2] at D
        generalize a * b / 18446744073709551616 = ph at *
        generalize a * b % 18446744073709551616 = pl at *
        clear hb0 b1
        go_wp2_with fail
        refine (M.out _).mono ?_
        rintro e w1 ⟨rfl, k1⟩
        go_wp2_with fail
        refine (D.out _).mono ?_
        rintro e w2 ⟨rfl, k2⟩
        go_wp2_with fail
        go_ret
        exact ⟨rfl, (bw.trans (k1.mono bw.size)).trans (k2.mono (Nat.le_trans bw.size k1.size))⟩
end Go.Proofs.YtdlhapjlpkadnaaDoor
