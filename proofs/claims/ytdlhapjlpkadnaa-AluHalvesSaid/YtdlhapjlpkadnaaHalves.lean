/- AluHalves: operations of 32 bits see the low halves alone, and their results are widened. -/
import Derived.Test.YtdlhapjlpkadnaaDoesK
set_option linter.unusedVariables false
namespace Go.Proofs.Ytdlhapjlpkadnaa
open Go.RowKit
def wN (i : Nat) : Int := [45, 46, 47, 48, 49, 58, 59, 60, 61, 62].getD i 0
def pN (i : Nat) : Nat := [0, 1, 3, 4, 5, 2, 6, 8, 7, 9].getD i 0
theorem wN_at : ∀ i, i < 10 → opN (18 + pN i) = wN i ∧ pN i < 10 := by decide
theorem wd_keeps (x : Int) : wd (wd x) = wd x := wd_mod _ _ (by unfold wd wrap32; omega)
theorem low_same (j : Nat) (hj : j < 10) (a b a' b' : Int) (ha : Word a) (hb : Word b) (ha' : Word a') (hb' : Word b') (h : a' % 4294967296 = a % 4294967296) (h' : b' % 4294967296 = b % 4294967296) : doV (18 + j) a' b' = doV (18 + j) a b := by
  rw [← low_law j hj a' b' ha' hb', ← low_law j hj a b ha hb, h, h']
theorem low_wide (j : Nat) (hj : j < 10) (a b : Int) (ha : Word a) (hb : Word b) : wd (doV (18 + j) a b) = doV (18 + j) a b := by
  rw [← low_law j hj a b ha hb, wd_keeps]
theorem half3_any (a : Int) (w : World) : Calls Try.prog 22 #[.int .u64 a] w fun e w' => e = .returned (.int .u64 (wd a)) ∧ w = w' := by
  go_enter Try.func22, Try.ntmps22
  go_wp2_with fail
  go_ret
  exact ⟨ret_int (by unfold wd; rw [wrap_u64]; unfold wrap64 wrap32; omega), rfl⟩
def OpsP (w : World) (e : Ending) (w' : World) : Prop := e = .returned (.slice (some ⟨w.heap.size, 0, none⟩) 10 10) ∧ (∀ i, i < 10 → w'.cell? ⟨w.heap.size, i, none⟩ = some (.int .i64 (wN i))) ∧ Below w.heap.size w w' ∧ w.heap.size < w'.heap.size
theorem ops_any (w : World) : Calls Try.prog 23 #[] w (OpsP w) := by
  go_enter Try.func23, Try.ntmps23
  go_wp2_with fail
  go_ret
  refine ⟨rfl, ?_, (Below.refl _ _).alloc (Nat.le_refl _) _, by simp⟩
  intro k hk
  have h : k = 0 ∨ k = 1 ∨ k = 2 ∨ k = 3 ∨ k = 4 ∨ k = 5 ∨ k = 6 ∨ k = 7 ∨ k = 8 ∨ k = 9 := by omega
  rcases h with rfl | rfl | rfl | rfl | rfl | rfl | rfl | rfl | rfl | rfl <;> (simp [go_sem, wN]; done)
theorem join_word (a c : Int) (ha : Word a) (hc : Word c) : ∃ x, bits .or .u64 (a % 4294967296) (IntKind.u64.wrap (c * 4294967296)) = x ∧ Word x ∧ x % 4294967296 = a % 4294967296 := by
  have e : bits .or .u64 (a % 4294967296) (IntKind.u64.wrap (c * 4294967296)) = bits .or .u64 (IntKind.u64.wrap (c * 4294967296)) (a % 4294967296) := by
    rw [wrap_u64, u64_or _ _ (by omega) (by omega) (by omega) (by omega), u64_or _ _ (by omega) (by omega) (by omega) (by omega), Nat.or_comm]
  rw [e, wrap_u64, orJoin 32 _ _ (by omega) (by omega) (by omega) (by show _ < (4294967296 : Int); omega) (by show _ % (4294967296 : Int) = 0; omega) (by omega)]
  refine ⟨_, rfl, ?_, ?_⟩
  · unfold Word; omega
  · omega
set_option maxRecDepth 100000 in
set_option maxHeartbeats 4000000 in
theorem law_halves (a b c d : Int) (ha0 : 0 ≤ a) (ha1 : a ≤ 18446744073709551615) (hb0 : 0 ≤ b) (hb1 : b ≤ 18446744073709551615) (hc0 : 0 ≤ c) (hc1 : c ≤ 18446744073709551615) (hd0 : 0 ≤ d) (hd1 : d ≤ 18446744073709551615) (w : World) :
    Calls Try.prog 7 #[.int .u64 a, .int .u64 b, .int .u64 c, .int .u64 d] w fun e w' => e = .returned (.bool true) ∧ Below w.heap.size w w' := by
  have HA := Lib.hid (show Word a from ⟨ha0, ha1⟩)
  have HB := Lib.hid (show Word b from ⟨hb0, hb1⟩)
  obtain ⟨x, hx, wx, ex⟩ := join_word a c ⟨ha0, ha1⟩ ⟨hc0, hc1⟩
  obtain ⟨y, hy, wy, ey⟩ := join_word b d ⟨hb0, hb1⟩ ⟨hd0, hd1⟩
  have HX := Lib.hid wx
  have HY := Lib.hid wy
  have EX := Lib.hid ex
  have EY := Lib.hid ey
  clear wx wy ex ey
  have ea := andlow a ha0 ha1
  have eb := andlow b hb0 hb1
  go_enter Try.func7, Try.ntmps7
  go_wp2_with fail
  refine (does_18 _ _ ⟨by decide, by decide⟩ ⟨by decide, by decide⟩ _).mono ?_
  rintro e w1 ⟨rfl, k1⟩
  rw [show doV 18 2147483647 1 = 18446744071562067968 from by show wd _ = _; unfold wd wrap32; omega]
  go_wp2_with fail
  refine (ops_any _).mono ?_
  rintro e w2 ⟨rfl, hcells, k2, z2⟩
  have H := Lib.hid hcells
  clear hcells
  have j2 := k1.trans (k2.mono k1.size)
  have z1 := k1.size
  go_wp2_with fail
  go_loopw [12] (fun i wr => ∃ j : Nat, j ≤ 10 ∧ i = .int .i64 j ∧ Below w.heap.size w wr ∧ Below (w1.heap.size + 1) w2 wr) (fun i _ => 10 - (intOf i).toNat)
  case atStart => exact ⟨0, Nat.zero_le _, rfl, j2, Below.refl _ _⟩
  case round =>
    obtain ⟨j, hj, rfl, hb1', hb2⟩ := hrel
    have hszr := hb2.size
    by_cases hjk : j < 10
    · have hc0 : wr.cell? ⟨w1.heap.size, j, none⟩ = some (.int .i64 (wN j)) := by rw [hb2.cell (by simp)]; exact H.out j (by omega)
      have hlt : (j : Int) < 10 := by omega
      obtain ⟨hop, hp⟩ := wN_at j hjk
      have LS := Lib.hid (low_same (pN j) hp a b x y HA.out HB.out HX.out HY.out EX.out EY.out)
      have LW := Lib.hid (low_wide (pN j) hp a b HA.out HB.out)
      have D := fun a b ha hb w => does_any (18 + pN j) (by omega) a b ha hb w
      rw [hop] at D
      have DD := Lib.hid D
      clear D hop
      go_wp2_with fail
      refine (DD.out a b HA.out HB.out _).mono ?_
      rintro e w3 ⟨rfl, k3⟩
      have z3 := k3.size
      have hc1 : w3.cell? ⟨w1.heap.size, j, none⟩ = some (.int .i64 (wN j)) := by rw [k3.cell (by show w1.heap.size < _; omega)]; exact hc0
      go_wp2_with fail
      refine (DD.out x y HX.out HY.out _).mono ?_
      rintro e w4 ⟨rfl, k4⟩
      rw [LS.out]
      go_wp2_with fail
      refine (half3_any _ _).mono ?_
      rintro e w' ⟨rfl, rfl⟩
      rw [LW.out]
      go_wp2_with fail
      go_roundw
      case rel => exact ⟨j + 1, by omega, by go_num, (hb1'.trans (k3.mono (by omega))).trans (k4.mono (by omega)), (hb2.trans (k3.mono (by omega))).trans (k4.mono (by omega))⟩
      case measure => simp [intOf]; omega
    · obtain rfl : j = 10 := by omega
      go_wp2
      go_ret
      exact ⟨rfl, hb1'⟩
end Go.Proofs.Ytdlhapjlpkadnaa
