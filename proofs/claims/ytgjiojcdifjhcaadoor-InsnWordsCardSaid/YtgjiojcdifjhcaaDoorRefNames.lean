/- The document's plain, Reg and ByName: walked. By an AI agent; written by wip/gen_refnames.py. -/
import Derived.Test.YtgjiojcdifjhcaaDoorRegs
set_option linter.unusedVariables false
set_option linter.unusedSimpArgs false
namespace Go.Proofs.YtgjiojcdifjhcaaDoor
open Go.RowKit
theorem ne_list {s t : ByteArray} (h : s ≠ t) : ¬ s.toList = t.toList := fun e => h (keyL_inj (by unfold keyL; rw [← ByteArray.toList_eq, ← ByteArray.toList_eq, e]))
theorem str_given {x y : ByteArray} {w w' : World} (h : x = y) (hb : Below w.heap.size w w') : DecPost' y w (.returned (.string x)) w' := by
  subst h; exact ⟨rfl, hb⟩
set_option maxRecDepth 100000 in
theorem plain_0 (w : World) : Calls Tryd.prog 36 #[.int .i64 0] w (DecPost' (xn 0) w) := by
  go_enter Tryd.func36, Tryd.ntmps36
  go_wp2_with fail
  go_ret
  exact str_given (by decide +kernel) (Below.refl _ _)
set_option maxRecDepth 100000 in
theorem plain_1 (w : World) : Calls Tryd.prog 36 #[.int .i64 1] w (DecPost' (xn 1) w) := by
  go_enter Tryd.func36, Tryd.ntmps36
  go_wp2_with fail
  go_ret
  exact str_given (by decide +kernel) (Below.refl _ _)
set_option maxRecDepth 100000 in
theorem plain_2 (w : World) : Calls Tryd.prog 36 #[.int .i64 2] w (DecPost' (xn 2) w) := by
  go_enter Tryd.func36, Tryd.ntmps36
  go_wp2_with fail
  go_ret
  exact str_given (by decide +kernel) (Below.refl _ _)
set_option maxRecDepth 100000 in
theorem plain_3 (w : World) : Calls Tryd.prog 36 #[.int .i64 3] w (DecPost' (xn 3) w) := by
  go_enter Tryd.func36, Tryd.ntmps36
  go_wp2_with fail
  go_ret
  exact str_given (by decide +kernel) (Below.refl _ _)
set_option maxRecDepth 100000 in
theorem plain_4 (w : World) : Calls Tryd.prog 36 #[.int .i64 4] w (DecPost' (xn 4) w) := by
  go_enter Tryd.func36, Tryd.ntmps36
  go_wp2_with fail
  go_ret
  exact str_given (by decide +kernel) (Below.refl _ _)
set_option maxRecDepth 100000 in
theorem plain_5 (w : World) : Calls Tryd.prog 36 #[.int .i64 5] w (DecPost' (xn 5) w) := by
  go_enter Tryd.func36, Tryd.ntmps36
  go_wp2_with fail
  go_ret
  exact str_given (by decide +kernel) (Below.refl _ _)
set_option maxRecDepth 100000 in
theorem plain_6 (w : World) : Calls Tryd.prog 36 #[.int .i64 6] w (DecPost' (xn 6) w) := by
  go_enter Tryd.func36, Tryd.ntmps36
  go_wp2_with fail
  go_ret
  exact str_given (by decide +kernel) (Below.refl _ _)
set_option maxRecDepth 100000 in
theorem plain_7 (w : World) : Calls Tryd.prog 36 #[.int .i64 7] w (DecPost' (xn 7) w) := by
  go_enter Tryd.func36, Tryd.ntmps36
  go_wp2_with fail
  go_ret
  exact str_given (by decide +kernel) (Below.refl _ _)
set_option maxRecDepth 100000 in
theorem plain_8 (w : World) : Calls Tryd.prog 36 #[.int .i64 8] w (DecPost' (xn 8) w) := by
  go_enter Tryd.func36, Tryd.ntmps36
  go_wp2_with fail
  go_ret
  exact str_given (by decide +kernel) (Below.refl _ _)
set_option maxRecDepth 100000 in
theorem plain_9 (w : World) : Calls Tryd.prog 36 #[.int .i64 9] w (DecPost' (xn 9) w) := by
  go_enter Tryd.func36, Tryd.ntmps36
  go_wp2_with fail
  go_ret
  exact str_given (by decide +kernel) (Below.refl _ _)
set_option maxRecDepth 100000 in
theorem plain_10 (w : World) : Calls Tryd.prog 36 #[.int .i64 10] w (DecPost' (xn 10) w) := by
  go_enter Tryd.func36, Tryd.ntmps36
  go_wp2_with fail
  go_quiet (fail)
  go_wp2_with fail
  go_ret
  exact str_given (by decide +kernel) (below_drewN (Below.refl _ _) _)
set_option maxRecDepth 100000 in
theorem plain_11 (w : World) : Calls Tryd.prog 36 #[.int .i64 11] w (DecPost' (xn 11) w) := by
  go_enter Tryd.func36, Tryd.ntmps36
  go_wp2_with fail
  go_quiet (fail)
  go_wp2_with fail
  go_ret
  exact str_given (by decide +kernel) (below_drewN (Below.refl _ _) _)
set_option maxRecDepth 100000 in
theorem plain_12 (w : World) : Calls Tryd.prog 36 #[.int .i64 12] w (DecPost' (xn 12) w) := by
  go_enter Tryd.func36, Tryd.ntmps36
  go_wp2_with fail
  go_quiet (fail)
  go_wp2_with fail
  go_ret
  exact str_given (by decide +kernel) (below_drewN (Below.refl _ _) _)
set_option maxRecDepth 100000 in
theorem plain_13 (w : World) : Calls Tryd.prog 36 #[.int .i64 13] w (DecPost' (xn 13) w) := by
  go_enter Tryd.func36, Tryd.ntmps36
  go_wp2_with fail
  go_quiet (fail)
  go_wp2_with fail
  go_ret
  exact str_given (by decide +kernel) (below_drewN (Below.refl _ _) _)
set_option maxRecDepth 100000 in
theorem plain_14 (w : World) : Calls Tryd.prog 36 #[.int .i64 14] w (DecPost' (xn 14) w) := by
  go_enter Tryd.func36, Tryd.ntmps36
  go_wp2_with fail
  go_quiet (fail)
  go_wp2_with fail
  go_ret
  exact str_given (by decide +kernel) (below_drewN (Below.refl _ _) _)
set_option maxRecDepth 100000 in
theorem plain_15 (w : World) : Calls Tryd.prog 36 #[.int .i64 15] w (DecPost' (xn 15) w) := by
  go_enter Tryd.func36, Tryd.ntmps36
  go_wp2_with fail
  go_quiet (fail)
  go_wp2_with fail
  go_ret
  exact str_given (by decide +kernel) (below_drewN (Below.refl _ _) _)
set_option maxRecDepth 100000 in
theorem plain_16 (w : World) : Calls Tryd.prog 36 #[.int .i64 16] w (DecPost' (xn 16) w) := by
  go_enter Tryd.func36, Tryd.ntmps36
  go_wp2_with fail
  go_quiet (fail)
  go_wp2_with fail
  go_ret
  exact str_given (by decide +kernel) (below_drewN (Below.refl _ _) _)
set_option maxRecDepth 100000 in
theorem plain_17 (w : World) : Calls Tryd.prog 36 #[.int .i64 17] w (DecPost' (xn 17) w) := by
  go_enter Tryd.func36, Tryd.ntmps36
  go_wp2_with fail
  go_quiet (fail)
  go_wp2_with fail
  go_ret
  exact str_given (by decide +kernel) (below_drewN (Below.refl _ _) _)
set_option maxRecDepth 100000 in
theorem plain_18 (w : World) : Calls Tryd.prog 36 #[.int .i64 18] w (DecPost' (xn 18) w) := by
  go_enter Tryd.func36, Tryd.ntmps36
  go_wp2_with fail
  go_quiet (fail)
  go_wp2_with fail
  go_ret
  exact str_given (by decide +kernel) (below_drewN (Below.refl _ _) _)
set_option maxRecDepth 100000 in
theorem plain_19 (w : World) : Calls Tryd.prog 36 #[.int .i64 19] w (DecPost' (xn 19) w) := by
  go_enter Tryd.func36, Tryd.ntmps36
  go_wp2_with fail
  go_quiet (fail)
  go_wp2_with fail
  go_ret
  exact str_given (by decide +kernel) (below_drewN (Below.refl _ _) _)
set_option maxRecDepth 100000 in
theorem plain_20 (w : World) : Calls Tryd.prog 36 #[.int .i64 20] w (DecPost' (xn 20) w) := by
  go_enter Tryd.func36, Tryd.ntmps36
  go_wp2_with fail
  go_quiet (fail)
  go_wp2_with fail
  go_ret
  exact str_given (by decide +kernel) (below_drewN (Below.refl _ _) _)
set_option maxRecDepth 100000 in
theorem plain_21 (w : World) : Calls Tryd.prog 36 #[.int .i64 21] w (DecPost' (xn 21) w) := by
  go_enter Tryd.func36, Tryd.ntmps36
  go_wp2_with fail
  go_quiet (fail)
  go_wp2_with fail
  go_ret
  exact str_given (by decide +kernel) (below_drewN (Below.refl _ _) _)
set_option maxRecDepth 100000 in
theorem plain_22 (w : World) : Calls Tryd.prog 36 #[.int .i64 22] w (DecPost' (xn 22) w) := by
  go_enter Tryd.func36, Tryd.ntmps36
  go_wp2_with fail
  go_quiet (fail)
  go_wp2_with fail
  go_ret
  exact str_given (by decide +kernel) (below_drewN (Below.refl _ _) _)
set_option maxRecDepth 100000 in
theorem plain_23 (w : World) : Calls Tryd.prog 36 #[.int .i64 23] w (DecPost' (xn 23) w) := by
  go_enter Tryd.func36, Tryd.ntmps36
  go_wp2_with fail
  go_quiet (fail)
  go_wp2_with fail
  go_ret
  exact str_given (by decide +kernel) (below_drewN (Below.refl _ _) _)
set_option maxRecDepth 100000 in
theorem plain_24 (w : World) : Calls Tryd.prog 36 #[.int .i64 24] w (DecPost' (xn 24) w) := by
  go_enter Tryd.func36, Tryd.ntmps36
  go_wp2_with fail
  go_quiet (fail)
  go_wp2_with fail
  go_ret
  exact str_given (by decide +kernel) (below_drewN (Below.refl _ _) _)
set_option maxRecDepth 100000 in
theorem plain_25 (w : World) : Calls Tryd.prog 36 #[.int .i64 25] w (DecPost' (xn 25) w) := by
  go_enter Tryd.func36, Tryd.ntmps36
  go_wp2_with fail
  go_quiet (fail)
  go_wp2_with fail
  go_ret
  exact str_given (by decide +kernel) (below_drewN (Below.refl _ _) _)
set_option maxRecDepth 100000 in
theorem plain_26 (w : World) : Calls Tryd.prog 36 #[.int .i64 26] w (DecPost' (xn 26) w) := by
  go_enter Tryd.func36, Tryd.ntmps36
  go_wp2_with fail
  go_quiet (fail)
  go_wp2_with fail
  go_ret
  exact str_given (by decide +kernel) (below_drewN (Below.refl _ _) _)
set_option maxRecDepth 100000 in
theorem plain_27 (w : World) : Calls Tryd.prog 36 #[.int .i64 27] w (DecPost' (xn 27) w) := by
  go_enter Tryd.func36, Tryd.ntmps36
  go_wp2_with fail
  go_quiet (fail)
  go_wp2_with fail
  go_ret
  exact str_given (by decide +kernel) (below_drewN (Below.refl _ _) _)
set_option maxRecDepth 100000 in
theorem plain_28 (w : World) : Calls Tryd.prog 36 #[.int .i64 28] w (DecPost' (xn 28) w) := by
  go_enter Tryd.func36, Tryd.ntmps36
  go_wp2_with fail
  go_quiet (fail)
  go_wp2_with fail
  go_ret
  exact str_given (by decide +kernel) (below_drewN (Below.refl _ _) _)
set_option maxRecDepth 100000 in
theorem plain_29 (w : World) : Calls Tryd.prog 36 #[.int .i64 29] w (DecPost' (xn 29) w) := by
  go_enter Tryd.func36, Tryd.ntmps36
  go_wp2_with fail
  go_quiet (fail)
  go_wp2_with fail
  go_ret
  exact str_given (by decide +kernel) (below_drewN (Below.refl _ _) _)
set_option maxRecDepth 100000 in
theorem plain_30 (w : World) : Calls Tryd.prog 36 #[.int .i64 30] w (DecPost' (xn 30) w) := by
  go_enter Tryd.func36, Tryd.ntmps36
  go_wp2_with fail
  go_quiet (fail)
  go_wp2_with fail
  go_ret
  exact str_given (by decide +kernel) (below_drewN (Below.refl _ _) _)
set_option maxRecDepth 100000 in
theorem plain_31 (w : World) : Calls Tryd.prog 36 #[.int .i64 31] w (DecPost' (xn 31) w) := by
  go_enter Tryd.func36, Tryd.ntmps36
  go_wp2_with fail
  go_quiet (fail)
  go_wp2_with fail
  go_ret
  exact str_given (by decide +kernel) (below_drewN (Below.refl _ _) _)
theorem refplain_at (k : Nat) (hk : k < 32) (w : World) : Calls Tryd.prog 36 #[.int .i64 k] w (DecPost' (xn k) w) := by
  rcases k32 k hk with rfl | rfl | rfl | rfl | rfl | rfl | rfl | rfl | rfl | rfl | rfl | rfl | rfl | rfl | rfl | rfl | rfl | rfl | rfl | rfl | rfl | rfl | rfl | rfl | rfl | rfl | rfl | rfl | rfl | rfl | rfl | rfl
  · exact plain_0 w
  · exact plain_1 w
  · exact plain_2 w
  · exact plain_3 w
  · exact plain_4 w
  · exact plain_5 w
  · exact plain_6 w
  · exact plain_7 w
  · exact plain_8 w
  · exact plain_9 w
  · exact plain_10 w
  · exact plain_11 w
  · exact plain_12 w
  · exact plain_13 w
  · exact plain_14 w
  · exact plain_15 w
  · exact plain_16 w
  · exact plain_17 w
  · exact plain_18 w
  · exact plain_19 w
  · exact plain_20 w
  · exact plain_21 w
  · exact plain_22 w
  · exact plain_23 w
  · exact plain_24 w
  · exact plain_25 w
  · exact plain_26 w
  · exact plain_27 w
  · exact plain_28 w
  · exact plain_29 w
  · exact plain_30 w
  · exact plain_31 w
def RefNamePost (n : Int) (b : Bool) (w : World) (e : Ending) (w' : World) : Prop := e = .returned (.tuple #[.int .i64 n, .bool b]) ∧ Below w.heap.size w w'
theorem kept9 {n : Nat} {W w1 : World} (hb : Below n W w1) : (∀ b o, b < n → w1.cell? ⟨b, o, none⟩ = W.cell? ⟨b, o, none⟩) :=
  fun b o h => hb.cell (p := ⟨b, o, none⟩) h
theorem rg_in (w : World) (r : Nat) (h : r < 32) : (w.alloc (.cells rgCells 9)).cell? ⟨w.heap.size, r, none⟩ = some (.string (rgn r)) := by
  have := rg_cell r h
  simp [go_sem, this]
set_option maxRecDepth 100000 in
set_option maxHeartbeats 4000000 in
theorem refreg_rg (t : Nat) (ht : t < 32) (w : World) : Calls Tryd.prog 19 #[.string (rgn t)] w (RefNamePost t true w) := by
  have HN : Hid (∀ p, p < t → rgn p ≠ rgn t ∧ xn p ≠ rgn t) := Lib.hid fun p hp => ⟨ba_ne ((rg_inj p (by omega) t ht).resolve_left (by omega)), ba_ne (Ne.symm (rg_xn t ht p (by omega)))⟩
  go_enter Tryd.func19, Tryd.ntmps19
  go_wp2_with fail
  refine (registers_any _).mono ?_
  rintro e u1 ⟨rfl, rfl⟩
  go_wp2_with fail
  have HRG := Lib.hid (rg_in w)
  have B0 := Lib.hid ((Below.refl w.heap.size w).alloc (Nat.le_refl _) (.cells rgCells 9))
  have hs1 : (w.alloc (.cells rgCells 9)).heap.size = w.heap.size + 1 := by simp
  generalize w.alloc (.cells rgCells 9) = w1 at *
  have HS1 := Lib.hid hs1
  clear hs1
  go_loopw [5] (fun i wr => ∃ k : Nat, k ≤ t ∧ i = .int .i64 k ∧ Below w1.heap.size w1 wr) (fun i _ => 32 - (intOf i).toNat)
  case atStart => exact ⟨0, by omega, rfl, Below.refl _ _⟩
  case round =>
    obtain ⟨k, hk, rfl, hb⟩ := hrel
    have HB := Lib.hid hb
    have hz := hb.size
    rw [HS1.out] at hz
    clear hb
    have hzr : w.heap.size < wr.heap.size := by omega
    have h32 : k < 32 := by omega
    have e1 : (k : Int) < 32 := by omega
    have q0 : wr.cell? ⟨w.heap.size, k, none⟩ = some (.string (rgn k)) := by rw [kept9 HB.out _ _ (by rw [HS1.out]; omega)]; exact HRG.out k h32
    by_cases hkt : k < t
    case pos =>
      obtain ⟨n1, n2⟩ := HN.out k (by omega)
      have d3 : ¬ ((rgn t)).toList = (rgn k).toList := ne_list (Ne.symm n1)
      have d4 : ¬ ((rgn t)).toList = (xn k).toList := ne_list (Ne.symm n2)
      have d5 : (((rgn t)).toList == (rgn k).toList) = false := by simpa using d3
      have d6 : (((rgn t)).toList == (xn k).toList) = false := by simpa using d4
      clear n1 n2
      go_wp2_with fail
      refine (refplain_at k h32 _).mono ?_
      rintro e u3 ⟨rfl, hb3⟩
      have B3 := Lib.hid (HB.out.trans (hb3.mono HB.out.size))
      clear hb3 q0
      go_wp2_with fail
      go_roundw
      case rel => exact ⟨k + 1, by omega, by go_num, B3.out⟩
      case measure => simp [intOf]; omega
    obtain rfl : k = t := by omega
    go_wp2_with fail
    go_ret2
    exact ⟨rfl, B0.out.trans (HB.out.mono (by rw [HS1.out]; omega))⟩
set_option maxRecDepth 100000 in
set_option maxHeartbeats 4000000 in
theorem refreg_xn (t : Nat) (ht : t < 32) (w : World) : Calls Tryd.prog 19 #[.string (xn t)] w (RefNamePost t true w) := by
  have HN : Hid (∀ p, p < t → rgn p ≠ xn t ∧ xn p ≠ xn t) := Lib.hid fun p hp => ⟨ba_ne (rg_xn p (by omega) t ht), ba_ne ((xn_inj p (by omega) t ht).resolve_left (by omega))⟩
  have HX : Hid (rgn t ≠ xn t) := Lib.hid (ba_ne (rg_xn t ht t ht))
  go_enter Tryd.func19, Tryd.ntmps19
  go_wp2_with fail
  refine (registers_any _).mono ?_
  rintro e u1 ⟨rfl, rfl⟩
  go_wp2_with fail
  have HRG := Lib.hid (rg_in w)
  have B0 := Lib.hid ((Below.refl w.heap.size w).alloc (Nat.le_refl _) (.cells rgCells 9))
  have hs1 : (w.alloc (.cells rgCells 9)).heap.size = w.heap.size + 1 := by simp
  generalize w.alloc (.cells rgCells 9) = w1 at *
  have HS1 := Lib.hid hs1
  clear hs1
  go_loopw [5] (fun i wr => ∃ k : Nat, k ≤ t ∧ i = .int .i64 k ∧ Below w1.heap.size w1 wr) (fun i _ => 32 - (intOf i).toNat)
  case atStart => exact ⟨0, by omega, rfl, Below.refl _ _⟩
  case round =>
    obtain ⟨k, hk, rfl, hb⟩ := hrel
    have HB := Lib.hid hb
    have hz := hb.size
    rw [HS1.out] at hz
    clear hb
    have hzr : w.heap.size < wr.heap.size := by omega
    have h32 : k < 32 := by omega
    have e1 : (k : Int) < 32 := by omega
    have q0 : wr.cell? ⟨w.heap.size, k, none⟩ = some (.string (rgn k)) := by rw [kept9 HB.out _ _ (by rw [HS1.out]; omega)]; exact HRG.out k h32
    by_cases hkt : k < t
    case pos =>
      obtain ⟨n1, n2⟩ := HN.out k (by omega)
      have d3 : ¬ ((xn t)).toList = (rgn k).toList := ne_list (Ne.symm n1)
      have d4 : ¬ ((xn t)).toList = (xn k).toList := ne_list (Ne.symm n2)
      have d5 : (((xn t)).toList == (rgn k).toList) = false := by simpa using d3
      have d6 : (((xn t)).toList == (xn k).toList) = false := by simpa using d4
      clear n1 n2
      go_wp2_with fail
      refine (refplain_at k h32 _).mono ?_
      rintro e u3 ⟨rfl, hb3⟩
      have B3 := Lib.hid (HB.out.trans (hb3.mono HB.out.size))
      clear hb3 q0
      go_wp2_with fail
      go_roundw
      case rel => exact ⟨k + 1, by omega, by go_num, B3.out⟩
      case measure => simp [intOf]; omega
    obtain rfl : k = t := by omega
    have d3 : ¬ (xn k).toList = (rgn k).toList := ne_list (Ne.symm HX.out)
    have d5 : ((xn k).toList == (rgn k).toList) = false := by simpa using d3
    go_wp2_with fail
    refine (refplain_at k h32 _).mono ?_
    rintro e u3 ⟨rfl, hb3⟩
    have B3 := Lib.hid (HB.out.trans (hb3.mono HB.out.size))
    clear hb3 q0
    go_wp2_with fail
    go_ret2
    exact ⟨rfl, B0.out.trans (B3.out.mono (by rw [HS1.out]; omega))⟩
set_option maxRecDepth 100000 in
set_option maxHeartbeats 4000000 in
theorem refreg_fp (w : World) : Calls Tryd.prog 19 #[.string fpS] w (RefNamePost 8 true w) := by
  have HN : Hid (∀ p, p < 32 → rgn p ≠ fpS ∧ xn p ≠ fpS) := Lib.hid fun p hp => ⟨ba_ne (rg_fp p hp), ba_ne (xn_fp p hp)⟩
  go_enter Tryd.func19, Tryd.ntmps19
  go_wp2_with fail
  refine (registers_any _).mono ?_
  rintro e u1 ⟨rfl, rfl⟩
  go_wp2_with fail
  have HRG := Lib.hid (rg_in w)
  have B0 := Lib.hid ((Below.refl w.heap.size w).alloc (Nat.le_refl _) (.cells rgCells 9))
  have hs1 : (w.alloc (.cells rgCells 9)).heap.size = w.heap.size + 1 := by simp
  generalize w.alloc (.cells rgCells 9) = w1 at *
  have HS1 := Lib.hid hs1
  clear hs1
  go_loopw [5] (fun i wr => ∃ k : Nat, k ≤ 32 ∧ i = .int .i64 k ∧ Below w1.heap.size w1 wr) (fun i _ => 32 - (intOf i).toNat)
  case atStart => exact ⟨0, by omega, rfl, Below.refl _ _⟩
  case round =>
    obtain ⟨k, hk, rfl, hb⟩ := hrel
    have HB := Lib.hid hb
    have hz := hb.size
    rw [HS1.out] at hz
    clear hb
    have hzr : w.heap.size < wr.heap.size := by omega
    by_cases h32 : k < 32
    case pos =>
      have e1 : (k : Int) < 32 := by omega
      have q0 : wr.cell? ⟨w.heap.size, k, none⟩ = some (.string (rgn k)) := by rw [kept9 HB.out _ _ (by rw [HS1.out]; omega)]; exact HRG.out k h32
      obtain ⟨n1, n2⟩ := HN.out k (by omega)
      have d3 : ¬ (fpS).toList = (rgn k).toList := ne_list (Ne.symm n1)
      have d4 : ¬ (fpS).toList = (xn k).toList := ne_list (Ne.symm n2)
      have d5 : ((fpS).toList == (rgn k).toList) = false := by simpa using d3
      have d6 : ((fpS).toList == (xn k).toList) = false := by simpa using d4
      clear n1 n2
      go_wp2_with fail
      refine (refplain_at k h32 _).mono ?_
      rintro e u3 ⟨rfl, hb3⟩
      have B3 := Lib.hid (HB.out.trans (hb3.mono HB.out.size))
      clear hb3 q0
      go_wp2_with fail
      go_roundw
      case rel => exact ⟨k + 1, by omega, by go_num, B3.out⟩
      case measure => simp [intOf]; omega
    obtain rfl : k = 32 := by omega
    unfold fpS
    go_wp2_with fail
    go_ret2
    exact ⟨rfl, B0.out.trans (HB.out.mono (by rw [HS1.out]; omega))⟩
set_option maxRecDepth 100000 in
set_option maxHeartbeats 4000000 in
theorem refreg_none (s : ByteArray) (hf : s ≠ fpS) (hn : ∀ p, p < 32 → rgn p ≠ s ∧ xn p ≠ s) (w : World) : Calls Tryd.prog 19 #[.string s] w (RefNamePost 0 false w) := by
  have HN := Lib.hid hn
  have HF := Lib.hid hf
  clear hn hf
  go_enter Tryd.func19, Tryd.ntmps19
  go_wp2_with fail
  refine (registers_any _).mono ?_
  rintro e u1 ⟨rfl, rfl⟩
  go_wp2_with fail
  have HRG := Lib.hid (rg_in w)
  have B0 := Lib.hid ((Below.refl w.heap.size w).alloc (Nat.le_refl _) (.cells rgCells 9))
  have hs1 : (w.alloc (.cells rgCells 9)).heap.size = w.heap.size + 1 := by simp
  generalize w.alloc (.cells rgCells 9) = w1 at *
  have HS1 := Lib.hid hs1
  clear hs1
  go_loopw [5] (fun i wr => ∃ k : Nat, k ≤ 32 ∧ i = .int .i64 k ∧ Below w1.heap.size w1 wr) (fun i _ => 32 - (intOf i).toNat)
  case atStart => exact ⟨0, by omega, rfl, Below.refl _ _⟩
  case round =>
    obtain ⟨k, hk, rfl, hb⟩ := hrel
    have HB := Lib.hid hb
    have hz := hb.size
    rw [HS1.out] at hz
    clear hb
    have hzr : w.heap.size < wr.heap.size := by omega
    by_cases h32 : k < 32
    case pos =>
      have e1 : (k : Int) < 32 := by omega
      have q0 : wr.cell? ⟨w.heap.size, k, none⟩ = some (.string (rgn k)) := by rw [kept9 HB.out _ _ (by rw [HS1.out]; omega)]; exact HRG.out k h32
      obtain ⟨n1, n2⟩ := HN.out k (by omega)
      have d3 : ¬ (s).toList = (rgn k).toList := ne_list (Ne.symm n1)
      have d4 : ¬ (s).toList = (xn k).toList := ne_list (Ne.symm n2)
      have d5 : ((s).toList == (rgn k).toList) = false := by simpa using d3
      have d6 : ((s).toList == (xn k).toList) = false := by simpa using d4
      clear n1 n2
      go_wp2_with fail
      refine (refplain_at k h32 _).mono ?_
      rintro e u3 ⟨rfl, hb3⟩
      have B3 := Lib.hid (HB.out.trans (hb3.mono HB.out.size))
      clear hb3 q0
      go_wp2_with fail
      go_roundw
      case rel => exact ⟨k + 1, by omega, by go_num, B3.out⟩
      case measure => simp [intOf]; omega
    obtain rfl : k = 32 := by omega
    have d3 : ¬ s.toList = [102, 112] := by have := ne_list HF.out; rwa [show fpS.toList = [102, 112] by decide +kernel] at this
    have d5 : (s.toList == [102, 112]) = false := by simpa using d3
    go_wp2_with fail
    go_ret2
    exact ⟨rfl, B0.out.trans (HB.out.mono (by rw [HS1.out]; omega))⟩
end Go.Proofs.YtgjiojcdifjhcaaDoor
