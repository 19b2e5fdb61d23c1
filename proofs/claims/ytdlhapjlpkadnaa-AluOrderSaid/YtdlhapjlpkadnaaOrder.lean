/- AluOrder: of each pair of conditions one holds; below is an order, as words are signed and as they are, and the set-less-than operations tell the same. -/
import Derived.Test.YtdlhapjlpkadnaaDoesK
set_option linter.unusedVariables false
set_option linter.unusedSimpArgs false
namespace Go.Proofs.Ytdlhapjlpkadnaa
open Go.RowKit
def HP (r : Bool) (w : World) (e : Ending) (w' : World) : Prop := e = .returned (.tuple #[.bool r, .nilIface]) ∧ Below w.heap.size w w'
theorem h5 (a b : Int) (w : World) : Calls Try.prog 11 #[.int .i64 5, .int .u64 a, .int .u64 b] w (HP (a == b) w) := holds_yes 0 (by omega) a b w
theorem h6 (a b : Int) (w : World) : Calls Try.prog 11 #[.int .i64 6, .int .u64 a, .int .u64 b] w (HP (a != b) w) := holds_yes 1 (by omega) a b w
theorem h7 (a b : Int) (w : World) : Calls Try.prog 11 #[.int .i64 7, .int .u64 a, .int .u64 b] w (HP (decide (wrap64 a < wrap64 b)) w) := holds_yes 2 (by omega) a b w
theorem h8 (a b : Int) (w : World) : Calls Try.prog 11 #[.int .i64 8, .int .u64 a, .int .u64 b] w (HP (!decide (wrap64 a < wrap64 b)) w) := holds_yes 3 (by omega) a b w
theorem h9 (a b : Int) (w : World) : Calls Try.prog 11 #[.int .i64 9, .int .u64 a, .int .u64 b] w (HP (decide (a < b)) w) := holds_yes 4 (by omega) a b w
theorem h10 (a b : Int) (w : World) : Calls Try.prog 11 #[.int .i64 10, .int .u64 a, .int .u64 b] w (HP (decide (b ≤ a)) w) := holds_yes 5 (by omega) a b w
set_option maxRecDepth 100000 in
set_option maxHeartbeats 8000000 in
theorem order_core (a b c : Int) (E L U X Y : Bool) (hE : (a == b) = E) (hN : (a != b) = !E) (hL : decide (wrap64 a < wrap64 b) = L) (hU : decide (a < b) = U) (hU' : decide (b ≤ a) = !U) (hX : decide (wrap64 b < wrap64 c) = X) (hY : decide (wrap64 a < wrap64 c) = Y)
    (s u : Int) (hs : doV 8 a b = s) (hu : doV 9 a b = u) (es : s = if L then 1 else 0) (eu : u = if U then 1 else 0) (tr : L = true → X = true → Y = true) (ha : Word a) (hb : Word b) (w : World) :
    Calls Try.prog 10 #[.int .u64 a, .int .u64 b, .int .u64 c] w fun e w' => e = .returned (.bool true) ∧ Below w.heap.size w w' := by
  have HA := Lib.hid ha
  have HB := Lib.hid hb
  have HE := Lib.hid hE
  have HN := Lib.hid hN
  have HLL := Lib.hid hL
  have HU := Lib.hid hU
  have HU' := Lib.hid hU'
  have HX := Lib.hid hX
  have HY := Lib.hid hY
  have HS := Lib.hid hs
  have HUU := Lib.hid hu
  clear hs hu hX hY hU' hN
  cases L <;> cases U <;> cases E
  all_goals
    simp only [Bool.false_eq_true, if_true, if_false] at es eu
    subst es eu
    cases X <;> cases Y <;> first | (exact absurd (tr rfl rfl) (by decide)) | skip
    all_goals
      clear tr
      go_enter Try.func10, Try.ntmps10
      go_wp2_with fail
      refine (h5 _ _ _).mono ?_
      rintro e w1 ⟨rfl, k1⟩
      rw [HE.out]
      go_wp2_with fail
      refine (h6 _ _ _).mono ?_
      rintro e w2 ⟨rfl, k2⟩
      rw [HN.out]
      go_wp2_with fail
      refine (h7 _ _ _).mono ?_
      rintro e w3 ⟨rfl, k3⟩
      rw [HLL.out]
      go_wp2_with fail
      refine (h8 _ _ _).mono ?_
      rintro e w4 ⟨rfl, k4⟩
      rw [HLL.out]
      go_wp2_with fail
      refine (h9 _ _ _).mono ?_
      rintro e w5 ⟨rfl, k5⟩
      rw [HU.out]
      go_wp2_with fail
      refine (h10 _ _ _).mono ?_
      rintro e w6 ⟨rfl, k6⟩
      rw [HU'.out]
      go_wp2_with fail
      refine (does_8 a b HA.out HB.out _).mono ?_
      rintro e w7 ⟨rfl, k7⟩
      rw [HS.out]
      go_wp2_with fail
      refine (does_9 a b HA.out HB.out _).mono ?_
      rintro e w8 ⟨rfl, k8⟩
      rw [HUU.out]
      go_wp2_with fail
      refine (h7 _ _ _).mono ?_
      rintro e w9 ⟨rfl, k9⟩
      rw [HX.out]
      go_wp2_with fail
      refine (h7 _ _ _).mono ?_
      rintro e w10 ⟨rfl, k10⟩
      rw [HY.out]
      go_wp2_with fail
      go_ret
      have s1 := k1.size
      have s2 := k2.size
      have s3 := k3.size
      have s4 := k4.size
      have s5 := k5.size
      have s6 := k6.size
      have s7 := k7.size
      have s8 := k8.size
      have s9 := k9.size
      have j1 := (((k1.trans (k2.mono (by omega))).trans (k3.mono (by omega))).trans (k4.mono (by omega))).trans (k5.mono (by omega))
      have j2 := (((j1.trans (k6.mono (by omega))).trans (k7.mono (by omega))).trans (k8.mono (by omega))).trans (k9.mono (by omega))
      exact ⟨ret_bool (by simp), j2.trans (k10.mono (by omega))⟩
theorem law_order (a b c : Int) (ha0 : 0 ≤ a) (ha1 : a ≤ 18446744073709551615) (hb0 : 0 ≤ b) (hb1 : b ≤ 18446744073709551615) (_hc0 : 0 ≤ c) (_hc1 : c ≤ 18446744073709551615) (w : World) :
    Calls Try.prog 10 #[.int .u64 a, .int .u64 b, .int .u64 c] w fun e w' => e = .returned (.bool true) ∧ Below w.heap.size w w' := by
  refine order_core a b c _ _ _ _ _ rfl rfl rfl rfl ?_ rfl rfl _ _ rfl rfl ?_ ?_ ?_ ⟨ha0, ha1⟩ ⟨hb0, hb1⟩ w
  · rw [Bool.eq_iff_iff]; simp
  · show (if wrap64 a < wrap64 b then 1 else 0) = _
    by_cases h : wrap64 a < wrap64 b <;> simp [h]
  · show (if a < b then 1 else 0) = _
    by_cases h : a < b <;> simp [h]
  · simp only [decide_eq_true_eq]; omega
end Go.Proofs.Ytdlhapjlpkadnaa
