/- hartixref1's row, Shape, Name, RegName. By an AI agent. -/
import Derived.Test.YtgjiojcdifjhcaaDoorTab
set_option linter.unusedVariables false
set_option linter.unusedSimpArgs false
namespace Go.Proofs.YtgjiojcdifjhcaaDoor
open Go.RowKit
def noRow : Array Value := #[.string ⟨#[]⟩, .int .i64 0, .int .i64 0, .int .i64 0, .int .i64 0, .int .u32 0]
set_option maxRecDepth 100000 in
theorem row_base (j : Nat) (hj : j < 40) (w : World) : Calls Tryd.prog 29 #[.int .i64 ((j : Int) + 1)] w fun e w' => e = .returned (.tuple #[.agg (rowCells (j + 1)).toArray, .bool true]) ∧ Below w.heap.size w w' := by
  have HJ := Lib.hid hj
  have e1 : (1 : Int) ≤ (j : Int) + 1 := by omega
  have e2 : (j : Int) + 1 ≤ 76 := by omega
  have e3 : (j : Int) + 1 ≤ 40 := by omega
  have e4 : wrap64 ((j : Int) + 1 - 1) = (j : Int) := by unfold wrap64; omega
  have e5 : (j : Int) < 40 := by omega
  go_enter Tryd.func29, Tryd.ntmps29
  go_wp2_with fail
  refine (base_any _).mono ?_
  rintro e w1 ⟨rfl, rfl⟩
  have B := fun r hr => base_cell j r HJ.out hr
  have b0 : (baseCells[j * 6]?) = some (.string (nm (j + 1))) := by rw [Nat.mul_comm]; exact B 0 (by decide)
  have b1 : (baseCells[j * 6 + 1]?) = some (.int .i64 (sh (j + 1))) := by rw [Nat.mul_comm]; exact B 1 (by decide)
  have b2 : (baseCells[j * 6 + 2]?) = some (.int .i64 (oc (j + 1))) := by rw [Nat.mul_comm]; exact B 2 (by decide)
  have b3 : (baseCells[j * 6 + 3]?) = some (.int .i64 (f3 (j + 1))) := by rw [Nat.mul_comm]; exact B 3 (by decide)
  have b4 : (baseCells[j * 6 + 4]?) = some (.int .i64 (f7 (j + 1))) := by rw [Nat.mul_comm]; exact B 4 (by decide)
  have b5 : (baseCells[j * 6 + 5]?) = some (.int .u32 (wd (j + 1))) := by rw [Nat.mul_comm]; exact B 5 (by decide)
  clear B hj
  go_wp2_with fail
  refine bodyPost_ret (v := .tuple #[.agg (rowCells (j + 1)).toArray, .bool true]) (by simp [results, Tryd.results29, go_sem, rowCells, b0, b1, b2, b3, b4, b5]) rfl ⟨rfl, ?_⟩
  exact (by repeat' (first | exact Below.refl _ _ | refine Below.alloc ?_ ?_ _ | refine Below.setCell ?_ ?_ _ | exact Nat.le_refl _ | (simp; done) | (simp; omega)))
set_option maxRecDepth 100000 in
theorem row_more (j : Nat) (hj : j < 36) (w : World) : Calls Tryd.prog 29 #[.int .i64 ((j : Int) + 41)] w fun e w' => e = .returned (.tuple #[.agg (rowCells (j + 41)).toArray, .bool true]) ∧ Below w.heap.size w w' := by
  have HJ := Lib.hid hj
  have e1 : (1 : Int) ≤ (j : Int) + 41 := by omega
  have e2 : (j : Int) + 41 ≤ 76 := by omega
  have e3 : ¬ (j : Int) + 41 ≤ 40 := by omega
  have e4 : wrap64 ((j : Int) + 41 - 1) = (j : Int) + 40 := by unfold wrap64; omega
  have e6 : wrap64 ((j : Int) + 40 - 40) = (j : Int) := by unfold wrap64; omega
  have e5 : (j : Int) < 36 := by omega
  go_enter Tryd.func29, Tryd.ntmps29
  go_wp2_with fail
  refine (base_any _).mono ?_
  rintro e w1 ⟨rfl, rfl⟩
  go_wp2_with fail
  refine (more_any _).mono ?_
  rintro e w1 ⟨rfl, rfl⟩
  have B := fun r hr => more_cell j r HJ.out hr
  have b0 : (moreCells[j * 6]?) = some (.string (nm (j + 41))) := by rw [Nat.mul_comm]; exact B 0 (by decide)
  have b1 : (moreCells[j * 6 + 1]?) = some (.int .i64 (sh (j + 41))) := by rw [Nat.mul_comm]; exact B 1 (by decide)
  have b2 : (moreCells[j * 6 + 2]?) = some (.int .i64 (oc (j + 41))) := by rw [Nat.mul_comm]; exact B 2 (by decide)
  have b3 : (moreCells[j * 6 + 3]?) = some (.int .i64 (f3 (j + 41))) := by rw [Nat.mul_comm]; exact B 3 (by decide)
  have b4 : (moreCells[j * 6 + 4]?) = some (.int .i64 (f7 (j + 41))) := by rw [Nat.mul_comm]; exact B 4 (by decide)
  have b5 : (moreCells[j * 6 + 5]?) = some (.int .u32 (wd (j + 41))) := by rw [Nat.mul_comm]; exact B 5 (by decide)
  clear B hj
  go_wp2_with fail
  refine bodyPost_ret (v := .tuple #[.agg (rowCells (j + 41)).toArray, .bool true]) (by simp [results, Tryd.results29, go_sem, rowCells, b0, b1, b2, b3, b4, b5]) rfl ⟨rfl, ?_⟩
  exact (by repeat' (first | exact Below.refl _ _ | refine Below.alloc ?_ ?_ _ | refine Below.setCell ?_ ?_ _ | exact Nat.le_refl _ | (simp; done) | (simp; omega)))
theorem row_at (op : Nat) (h1 : 1 ≤ op) (h2 : op < 77) (w : World) : Calls Tryd.prog 29 #[.int .i64 op] w fun e w' => e = .returned (.tuple #[.agg (rowCells op).toArray, .bool true]) ∧ Below w.heap.size w w' := by
  by_cases h : op ≤ 40
  · obtain ⟨j, rfl⟩ : ∃ j, op = j + 1 := ⟨op - 1, by omega⟩
    have := row_base j (by omega) w
    rwa [show ((j + 1 : Nat) : Int) = (j : Int) + 1 by omega]
  · obtain ⟨j, rfl⟩ : ∃ j, op = j + 41 := ⟨op - 41, by omega⟩
    have := row_more j (by omega) w
    rwa [show ((j + 41 : Nat) : Int) = (j : Int) + 41 by omega]
theorem row_no (op : Int) (h : op < 1 ∨ 77 ≤ op) (w : World) : Calls Tryd.prog 29 #[.int .i64 op] w fun e w' => e = .returned (.tuple #[.agg noRow, .bool false]) ∧ Below w.heap.size w w' := by
  rcases h with h | h
  · go_enter Tryd.func29, Tryd.ntmps29
    go_wp2_with fail
    refine bodyPost_ret (v := .tuple #[.agg noRow, .bool false]) (by simp [results, Tryd.results29, go_sem, noRow]) rfl ⟨rfl, ?_⟩
    exact (by repeat' (first | exact Below.refl _ _ | refine Below.alloc ?_ ?_ _ | refine Below.setCell ?_ ?_ _ | exact Nat.le_refl _ | (simp; done) | (simp; omega)))
  · have h1 : 1 ≤ op := by omega
    have h2 : 76 < op := by omega
    go_enter Tryd.func29, Tryd.ntmps29
    go_wp2_with fail
    refine bodyPost_ret (v := .tuple #[.agg noRow, .bool false]) (by simp [results, Tryd.results29, go_sem, noRow]) rfl ⟨rfl, ?_⟩
    exact (by repeat' (first | exact Below.refl _ _ | refine Below.alloc ?_ ?_ _ | refine Below.setCell ?_ ?_ _ | exact Nat.le_refl _ | (simp; done) | (simp; omega)))
theorem refshape_at (op : Nat) (h1 : 1 ≤ op) (h2 : op < 77) (w : World) : Calls Tryd.prog 11 #[.int .i64 op] w fun e w' => e = .returned (.int .i64 (sh op)) ∧ Below w.heap.size w w' := by
  have R := Lib.hid (fun w => row_at op h1 h2 w)
  clear h1 h2
  go_enter Tryd.func11, Tryd.ntmps11
  go_wp2_with fail
  refine (R.out _).mono ?_
  rintro e w1 ⟨rfl, hb⟩
  clear R
  unfold rowCells
  go_wp2_with fail
  go_ret
  exact ⟨rfl, by repeat' (first | exact hb | refine Below.alloc ?_ ?_ _ | exact hb.size)⟩
theorem refshape_no (op : Int) (h : op < 1 ∨ 77 ≤ op) (w : World) : Calls Tryd.prog 11 #[.int .i64 op] w fun e w' => e = .returned (.int .i64 0) ∧ Below w.heap.size w w' := by
  have R := Lib.hid (fun w => row_no op h w)
  clear h
  go_enter Tryd.func11, Tryd.ntmps11
  go_wp2_with fail
  refine (R.out _).mono ?_
  rintro e w1 ⟨rfl, hb⟩
  clear R
  unfold noRow
  go_wp2_with fail
  go_ret
  exact ⟨rfl, by repeat' (first | exact hb | refine Below.alloc ?_ ?_ _ | exact hb.size)⟩
theorem refname_at (op : Nat) (h1 : 1 ≤ op) (h2 : op < 77) (w : World) : Calls Tryd.prog 13 #[.int .i64 op] w fun e w' => e = .returned (.string (nm op)) ∧ Below w.heap.size w w' := by
  have R := Lib.hid (fun w => row_at op h1 h2 w)
  clear h1 h2
  go_enter Tryd.func13, Tryd.ntmps13
  go_wp2_with fail
  refine (R.out _).mono ?_
  rintro e w1 ⟨rfl, hb⟩
  clear R
  unfold rowCells
  go_wp2_with fail
  go_ret
  exact ⟨rfl, by repeat' (first | exact hb | refine Below.alloc ?_ ?_ _ | exact hb.size)⟩
theorem refname_no (op : Int) (h : op < 1 ∨ 77 ≤ op) (w : World) : Calls Tryd.prog 13 #[.int .i64 op] w fun e w' => e = .returned (.string ⟨#[]⟩) ∧ Below w.heap.size w w' := by
  have R := Lib.hid (fun w => row_no op h w)
  clear h
  go_enter Tryd.func13, Tryd.ntmps13
  go_wp2_with fail
  refine (R.out _).mono ?_
  rintro e w1 ⟨rfl, hb⟩
  clear R
  unfold noRow
  go_wp2_with fail
  go_ret
  exact ⟨rfl, by repeat' (first | exact hb | refine Below.alloc ?_ ?_ _ | exact hb.size)⟩
theorem refreg_at (r : Nat) (h2 : r < 32) (w : World) : Calls Tryd.prog 15 #[.int .i64 r] w fun e w' => e = .returned (.string (rg r)) ∧ Below w.heap.size w w' := by
  have c := rg_cell r h2
  have e2 : (r : Int) < 32 := by omega
  have e1 : (0 : Int) ≤ r := by omega
  have e3 : (r : Int) ≤ 31 := by omega
  go_enter Tryd.func15, Tryd.ntmps15
  go_wp2_with fail
  refine (registers_any _).mono ?_
  rintro e w1 ⟨rfl, rfl⟩
  go_wp2
  go_ret
  exact ⟨rfl, (Below.refl _ _).alloc (Nat.le_refl _) _⟩
theorem refreg_no (r : Int) (h : r < 0 ∨ 31 < r) (w : World) : Calls Tryd.prog 15 #[.int .i64 r] w fun e w' => e = .returned (.string ⟨#[]⟩) ∧ Below w.heap.size w w' := by
  rcases h with h | h
  · go_enter Tryd.func15, Tryd.ntmps15
    go_wp2
    go_ret
    exact ⟨rfl, Below.refl _ _⟩
  · have h1 : 0 ≤ r := by omega
    go_enter Tryd.func15, Tryd.ntmps15
    go_wp2
    go_ret
    exact ⟨rfl, Below.refl _ _⟩
/-! ### Each, whatever the number -/
def shO (op : Int) : Int := if 1 ≤ op ∧ op < 77 then sh op.toNat else 0
def nmO (op : Int) : ByteArray := if 1 ≤ op ∧ op < 77 then nm op.toNat else ⟨#[]⟩
def rgO (r : Int) : ByteArray := if 0 ≤ r ∧ r < 32 then rg r.toNat else ⟨#[]⟩
theorem shape_any (op : Int) (w : World) (ht : Tabs w) : Calls Tryd.prog 10 #[.int .i64 op] w fun e w' => e = .returned (.int .i64 (shO op)) ∧ w' = w := by
  by_cases h : 1 ≤ op ∧ op < 77
  · obtain ⟨k, rfl⟩ : ∃ k : Nat, op = (k : Int) := ⟨op.toNat, by omega⟩
    have := shape_at k (by omega) (by omega) w ht
    simpa [shO, h] using this
  · have := shape_no op (by omega) w
    simpa [shO, h] using this
theorem name_any (op : Int) (w : World) (ht : Tabs w) : Calls Tryd.prog 12 #[.int .i64 op] w fun e w' => e = .returned (.string (nmO op)) ∧ w' = w := by
  by_cases h : 1 ≤ op ∧ op < 77
  · obtain ⟨k, rfl⟩ : ∃ k : Nat, op = (k : Int) := ⟨op.toNat, by omega⟩
    have := name_at k (by omega) (by omega) w ht
    simpa [nmO, h] using this
  · have := name_no op (by omega) w
    simpa [nmO, h] using this
theorem regname_any (op : Int) (w : World) (ht : Tabs w) : Calls Tryd.prog 14 #[.int .i64 op] w fun e w' => e = .returned (.string (rgO op)) ∧ w' = w := by
  by_cases h : 0 ≤ op ∧ op < 32
  · obtain ⟨k, rfl⟩ : ∃ k : Nat, op = (k : Int) := ⟨op.toNat, by omega⟩
    have := regname_at k (by omega) w ht
    simpa [rgO, h] using this
  · have := regname_no op (by omega) w
    simpa [rgO, h] using this
theorem refshape_any (op : Int) (w : World) : Calls Tryd.prog 11 #[.int .i64 op] w fun e w' => e = .returned (.int .i64 (shO op)) ∧ Below w.heap.size w w' := by
  by_cases h : 1 ≤ op ∧ op < 77
  · obtain ⟨k, rfl⟩ : ∃ k : Nat, op = (k : Int) := ⟨op.toNat, by omega⟩
    have := refshape_at k (by omega) (by omega) w
    simpa [shO, h] using this
  · have := refshape_no op (by omega) w
    simpa [shO, h] using this
theorem refname_any (op : Int) (w : World) : Calls Tryd.prog 13 #[.int .i64 op] w fun e w' => e = .returned (.string (nmO op)) ∧ Below w.heap.size w w' := by
  by_cases h : 1 ≤ op ∧ op < 77
  · obtain ⟨k, rfl⟩ : ∃ k : Nat, op = (k : Int) := ⟨op.toNat, by omega⟩
    have := refname_at k (by omega) (by omega) w
    simpa [nmO, h] using this
  · have := refname_no op (by omega) w
    simpa [nmO, h] using this
theorem refreg_any (op : Int) (w : World) : Calls Tryd.prog 15 #[.int .i64 op] w fun e w' => e = .returned (.string (rgO op)) ∧ Below w.heap.size w w' := by
  by_cases h : 0 ≤ op ∧ op < 32
  · obtain ⟨k, rfl⟩ : ∃ k : Nat, op = (k : Int) := ⟨op.toNat, by omega⟩
    have := refreg_at k (by omega) w
    simpa [rgO, h] using this
  · have := refreg_no op (by omega) w
    simpa [rgO, h] using this
end Go.Proofs.YtgjiojcdifjhcaaDoor
