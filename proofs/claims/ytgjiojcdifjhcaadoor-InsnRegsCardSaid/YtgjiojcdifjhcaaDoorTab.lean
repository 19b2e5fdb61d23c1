/- The table of the operations as data: name, shape, opcode, funct3, funct7, word, by the operation's number (0: none). By an AI agent; the lists were printed by wip/gen_tab.py. -/
import Derived.Test.YtgjiojcdifjhcaaDoorRun
set_option linter.unusedVariables false
namespace Go.Proofs.YtgjiojcdifjhcaaDoor
open Go.RowKit
def nmL : List (Array UInt8) := [#[], #[108, 117, 105], #[97, 117, 105, 112, 99], #[106, 97, 108], #[106, 97, 108, 114], #[98, 101, 113], #[98, 110, 101], #[98, 108, 116], #[98, 103, 101], #[98, 108, 116, 117], #[98, 103, 101, 117], #[108, 98], #[108, 104], #[108, 119], #[108, 100], #[108, 98, 117], #[108, 104, 117], #[108, 119, 117], #[115, 98], #[115, 104], #[115, 119], #[115, 100], #[97, 100, 100, 105], #[115, 108, 116, 105], #[115, 108, 116, 105, 117], #[120, 111, 114, 105], #[111, 114, 105], #[97, 110, 100, 105], #[115, 108, 108, 105], #[115, 114, 108, 105], #[115, 114, 97, 105], #[97, 100, 100], #[115, 117, 98], #[115, 108, 108], #[115, 108, 116], #[115, 108, 116, 117], #[120, 111, 114], #[115, 114, 108], #[115, 114, 97], #[111, 114], #[97, 110, 100], #[97, 100, 100, 105, 119], #[115, 108, 108, 105, 119], #[115, 114, 108, 105, 119], #[115, 114, 97, 105, 119], #[97, 100, 100, 119], #[115, 117, 98, 119], #[115, 108, 108, 119], #[115, 114, 108, 119], #[115, 114, 97, 119], #[109, 117, 108], #[109, 117, 108, 104], #[109, 117, 108, 104, 115, 117], #[109, 117, 108, 104, 117], #[100, 105, 118], #[100, 105, 118, 117], #[114, 101, 109], #[114, 101, 109, 117], #[109, 117, 108, 119], #[100, 105, 118, 119], #[100, 105, 118, 117, 119], #[114, 101, 109, 119], #[114, 101, 109, 117, 119], #[102, 101, 110, 99, 101], #[102, 101, 110, 99, 101, 46, 105], #[101, 99, 97, 108, 108], #[101, 98, 114, 101, 97, 107], #[115, 114, 101, 116], #[109, 114, 101, 116], #[119, 102, 105], #[115, 102, 101, 110, 99, 101, 46, 118, 109, 97], #[99, 115, 114, 114, 119], #[99, 115, 114, 114, 115], #[99, 115, 114, 114, 99], #[99, 115, 114, 114, 119, 105], #[99, 115, 114, 114, 115, 105], #[99, 115, 114, 114, 99, 105]]
def shL : List Int := [0, 8, 8, 9, 2, 7, 7, 7, 7, 7, 7, 5, 5, 5, 5, 5, 5, 5, 6, 6, 6, 6, 2, 2, 2, 2, 2, 2, 3, 3, 3, 1, 1, 1, 1, 1, 1, 1, 1, 1, 1, 2, 4, 4, 4, 1, 1, 1, 1, 1, 1, 1, 1, 1, 1, 1, 1, 1, 1, 1, 1, 1, 1, 10, 10, 11, 11, 11, 11, 11, 12, 13, 13, 13, 14, 14, 14]
def ocL : List Int := [0, 55, 23, 111, 103, 99, 99, 99, 99, 99, 99, 3, 3, 3, 3, 3, 3, 3, 35, 35, 35, 35, 19, 19, 19, 19, 19, 19, 19, 19, 19, 51, 51, 51, 51, 51, 51, 51, 51, 51, 51, 27, 27, 27, 27, 59, 59, 59, 59, 59, 51, 51, 51, 51, 51, 51, 51, 51, 59, 59, 59, 59, 59, 15, 15, 115, 115, 115, 115, 115, 115, 115, 115, 115, 115, 115, 115]
def f3L : List Int := [0, 0, 0, 0, 0, 0, 1, 4, 5, 6, 7, 0, 1, 2, 3, 4, 5, 6, 0, 1, 2, 3, 0, 2, 3, 4, 6, 7, 1, 5, 5, 0, 0, 1, 2, 3, 4, 5, 5, 6, 7, 0, 1, 5, 5, 0, 0, 1, 5, 5, 0, 1, 2, 3, 4, 5, 6, 7, 0, 4, 5, 6, 7, 0, 1, 0, 0, 0, 0, 0, 0, 1, 2, 3, 5, 6, 7]
def f7L : List Int := [0, 0, 0, 0, 0, 0, 0, 0, 0, 0, 0, 0, 0, 0, 0, 0, 0, 0, 0, 0, 0, 0, 0, 0, 0, 0, 0, 0, 0, 0, 32, 0, 32, 0, 0, 0, 0, 0, 32, 0, 0, 0, 0, 0, 32, 0, 32, 0, 0, 32, 1, 1, 1, 1, 1, 1, 1, 1, 1, 1, 1, 1, 1, 0, 0, 0, 0, 0, 0, 0, 9, 0, 0, 0, 0, 0, 0]
def wdL : List Int := [0, 0, 0, 0, 0, 0, 0, 0, 0, 0, 0, 0, 0, 0, 0, 0, 0, 0, 0, 0, 0, 0, 0, 0, 0, 0, 0, 0, 0, 0, 0, 0, 0, 0, 0, 0, 0, 0, 0, 0, 0, 0, 0, 0, 0, 0, 0, 0, 0, 0, 0, 0, 0, 0, 0, 0, 0, 0, 0, 0, 0, 0, 0, 0, 0, 115, 1048691, 270532723, 807403635, 273678451, 0, 0, 0, 0, 0, 0, 0]
def nm (op : Nat) : ByteArray := ⟨nmL.getD op #[]⟩
def sh (op : Nat) : Int := shL.getD op 0
def oc (op : Nat) : Int := ocL.getD op 0
def f3 (op : Nat) : Int := f3L.getD op 0
def f7 (op : Nat) : Int := f7L.getD op 0
def wd (op : Nat) : Int := wdL.getD op 0
def rowCells (op : Nat) : List Value := [.string (nm op), .int .i64 (sh op), .int .i64 (oc op), .int .i64 (f3 op), .int .i64 (f7 op), .int .u32 (wd op)]
def baseCells : Array Value := ((List.range 40).flatMap fun j => rowCells (j + 1)).toArray
def moreCells : Array Value := ((List.range 36).flatMap fun j => rowCells (j + 41)).toArray
theorem flat_get {α : Type} {f : Nat → List α} (h6 : ∀ j, (f j).length = 6) : ∀ n, ((List.range n).flatMap f).length = 6 * n ∧ ∀ j r, j < n → r < 6 → ((List.range n).flatMap f)[6 * j + r]? = (f j)[r]?
  | 0 => ⟨by simp, fun j r h _ => absurd h (by omega)⟩
  | n + 1 => by
    obtain ⟨hl, hg⟩ := flat_get h6 n
    rw [List.range_succ, List.flatMap_append]
    refine ⟨by rw [List.length_append, hl]; simp [h6]; omega, fun j r hj hr => ?_⟩
    by_cases h : j < n
    · rw [List.getElem?_append_left (by rw [hl]; omega)]; exact hg j r h hr
    · obtain rfl : j = n := by omega
      rw [List.getElem?_append_right (by rw [hl]; omega), hl]
      simp
theorem base_cell (j r : Nat) (hj : j < 40) (hr : r < 6) : baseCells[6 * j + r]? = (rowCells (j + 1))[r]? := by
  have := (flat_get (f := fun j => rowCells (j + 1)) (fun _ => rfl) 40).2 j r hj hr
  simpa [baseCells] using this
theorem more_cell (j r : Nat) (hj : j < 36) (hr : r < 6) : moreCells[6 * j + r]? = (rowCells (j + 41))[r]? := by
  have := (flat_get (f := fun j => rowCells (j + 41)) (fun _ => rfl) 36).2 j r hj hr
  simpa [moreCells] using this
set_option maxRecDepth 100000 in
theorem base_any (w : World) : Calls Tryd.prog 32 #[] w fun e w' => e = .returned (.slice (some ⟨w.heap.size, 0, none⟩) 40 40) ∧ w' = w.alloc (.cells baseCells 59) := by
  go_enter Tryd.func32, Tryd.ntmps32
  go_wp2_with (refine wpList_to 0 (.slice (some ⟨w.heap.size, 0, none⟩) 40 40) (w.alloc (.cells baseCells 59)) (by kernel_rfl) ?_; intro b hb hd)
  have hb' : b.tmps[0]?.getD undef = .slice (some ⟨w.heap.size, 0, none⟩) 40 40 := by simpa using hb
  refine bodyPost_ret (v := .slice (some ⟨w.heap.size, 0, none⟩) 40 40) (by simp [results, Tryd.results32, hb']) hd ⟨rfl, rfl⟩
set_option maxRecDepth 100000 in
theorem more_any (w : World) : Calls Tryd.prog 33 #[] w fun e w' => e = .returned (.slice (some ⟨w.heap.size, 0, none⟩) 36 36) ∧ w' = w.alloc (.cells moreCells 59) := by
  go_enter Tryd.func33, Tryd.ntmps33
  go_wp2_with (refine wpList_to 0 (.slice (some ⟨w.heap.size, 0, none⟩) 36 36) (w.alloc (.cells moreCells 59)) (by kernel_rfl) ?_; intro b hb hd)
  have hb' : b.tmps[0]?.getD undef = .slice (some ⟨w.heap.size, 0, none⟩) 36 36 := by simpa using hb
  refine bodyPost_ret (v := .slice (some ⟨w.heap.size, 0, none⟩) 36 36) (by simp [results, Tryd.results33, hb']) hd ⟨rfl, rfl⟩
def rgL : List (Array UInt8) := [#[122, 101, 114, 111], #[114, 97], #[115, 112], #[103, 112], #[116, 112], #[116, 48], #[116, 49], #[116, 50], #[115, 48], #[115, 49], #[97, 48], #[97, 49], #[97, 50], #[97, 51], #[97, 52], #[97, 53], #[97, 54], #[97, 55], #[115, 50], #[115, 51], #[115, 52], #[115, 53], #[115, 54], #[115, 55], #[115, 56], #[115, 57], #[115, 49, 48], #[115, 49, 49], #[116, 51], #[116, 52], #[116, 53], #[116, 54]]
def rg (r : Nat) : ByteArray := ⟨rgL.getD r #[]⟩
def rgCells : Array Value := ((List.range 32).map fun r => Value.string (rg r)).toArray
theorem rg_cell (r : Nat) (h : r < 32) : rgCells[r]? = some (.string (rg r)) := by simp [rgCells, h]
set_option maxRecDepth 100000 in
theorem registers_any (w : World) : Calls Tryd.prog 30 #[] w fun e w' => e = .returned (.slice (some ⟨w.heap.size, 0, none⟩) 32 32) ∧ w' = w.alloc (.cells rgCells 9) := by
  go_enter Tryd.func30, Tryd.ntmps30
  go_wp2_with (refine wpList_to 0 (.slice (some ⟨w.heap.size, 0, none⟩) 32 32) (w.alloc (.cells rgCells 9)) (by kernel_rfl) ?_; intro b hb hd)
  have hb' : b.tmps[0]?.getD undef = .slice (some ⟨w.heap.size, 0, none⟩) 32 32 := by simpa using hb
  refine bodyPost_ret (v := .slice (some ⟨w.heap.size, 0, none⟩) 32 32) (by simp [results, Tryd.results30, hb']) hd ⟨rfl, rfl⟩
/-- The tables of the package: shapes, names, register names, words. -/
def shCells : Array Value := ((List.range 77).map fun op => Value.int .i64 (sh op)).toArray
def nmCells : Array Value := ((List.range 77).map fun op => Value.string (nm op)).toArray
structure Tabs (w : World) : Prop where
  shapes : ∃ tt fr, w.heap[0]? = some (.cells shCells tt fr)
  names : ∃ tt fr, w.heap[1]? = some (.cells nmCells tt fr)
  regs : ∃ tt fr, w.heap[2]? = some (.cells rgCells tt fr)
theorem Tabs.size {w : World} (h : Tabs w) : 2 < w.heap.size := by
  obtain ⟨_, _, h⟩ := h.regs
  rcases Nat.lt_or_ge 2 w.heap.size with e | e
  · exact e
  · simp [Array.getElem?_eq_none e] at h
theorem Tabs.after {w w' : World} (h : Tabs w) (hb : Below w.heap.size w w') : Tabs w' := by
  have hz := h.size
  refine ⟨?_, ?_, ?_⟩
  · rw [hb.block 0 (by omega)]; exact h.shapes
  · rw [hb.block 1 (by omega)]; exact h.names
  · rw [hb.block 2 (by omega)]; exact h.regs
theorem Tabs.sh {w : World} (h : Tabs w) (op : Nat) (ho : op < 77) : w.cell? ⟨0, op, none⟩ = some (.int .i64 (sh op)) := by
  obtain ⟨tt, fr, h⟩ := h.shapes
  simp [World.cell?, h, shCells, ho]
theorem Tabs.nm {w : World} (h : Tabs w) (op : Nat) (ho : op < 77) : w.cell? ⟨1, op, none⟩ = some (.string (nm op)) := by
  obtain ⟨tt, fr, h⟩ := h.names
  simp [World.cell?, h, nmCells, ho]
theorem Tabs.rg {w : World} (h : Tabs w) (r : Nat) (ho : r < 32) : w.cell? ⟨2, r, none⟩ = some (.string (rg r)) := by
  obtain ⟨tt, fr, h⟩ := h.regs
  simp [World.cell?, h, rgCells, ho]
theorem shape_at (op : Nat) (h1 : 1 ≤ op) (h2 : op < 77) (w : World) (ht : Tabs w) : Calls Tryd.prog 10 #[.int .i64 op] w fun e w' => e = .returned (.int .i64 (sh op)) ∧ w' = w := by
  have c := ht.sh op h2
  have e1 : (1 : Int) ≤ op := by omega
  have e2 : (op : Int) < 77 := by omega
  have hz : 0 < w.heap.size := by have := ht.size; omega
  go_enter Tryd.func10, Tryd.ntmps10
  go_wp2
  go_ret
  exact ⟨rfl, rfl⟩
theorem shape_no (op : Int) (h : op < 1 ∨ 77 ≤ op) (w : World) : Calls Tryd.prog 10 #[.int .i64 op] w fun e w' => e = .returned (.int .i64 0) ∧ w' = w := by
  rcases h with h | h
  · go_enter Tryd.func10, Tryd.ntmps10
    go_wp2
    go_ret
    exact ⟨rfl, rfl⟩
  · have h1 : 1 ≤ op := by omega
    go_enter Tryd.func10, Tryd.ntmps10
    go_wp2
    go_ret
    exact ⟨rfl, rfl⟩
theorem name_at (op : Nat) (h1 : 1 ≤ op) (h2 : op < 77) (w : World) (ht : Tabs w) : Calls Tryd.prog 12 #[.int .i64 op] w fun e w' => e = .returned (.string (nm op)) ∧ w' = w := by
  have c := ht.nm op h2
  have e1 : (1 : Int) ≤ op := by omega
  have e2 : (op : Int) < 77 := by omega
  have hz : 1 < w.heap.size := by have := ht.size; omega
  go_enter Tryd.func12, Tryd.ntmps12
  go_wp2
  go_ret
  exact ⟨rfl, rfl⟩
theorem name_no (op : Int) (h : op < 1 ∨ 77 ≤ op) (w : World) : Calls Tryd.prog 12 #[.int .i64 op] w fun e w' => e = .returned (.string ⟨#[]⟩) ∧ w' = w := by
  rcases h with h | h
  · go_enter Tryd.func12, Tryd.ntmps12
    go_wp2
    go_ret
    exact ⟨rfl, rfl⟩
  · have h1 : 1 ≤ op := by omega
    go_enter Tryd.func12, Tryd.ntmps12
    go_wp2
    go_ret
    exact ⟨rfl, rfl⟩
theorem regname_at (r : Nat) (h2 : r < 32) (w : World) (ht : Tabs w) : Calls Tryd.prog 14 #[.int .i64 r] w fun e w' => e = .returned (.string (rg r)) ∧ w' = w := by
  have c := ht.rg r h2
  have e1 : (0 : Int) ≤ r := by omega
  have e2 : (r : Int) < 32 := by omega
  have e3 : (r : Int) ≤ 31 := by omega
  have hz : 2 < w.heap.size := ht.size
  go_enter Tryd.func14, Tryd.ntmps14
  go_wp2
  go_ret
  exact ⟨rfl, rfl⟩
theorem regname_no (r : Int) (h : r < 0 ∨ 31 < r) (w : World) : Calls Tryd.prog 14 #[.int .i64 r] w fun e w' => e = .returned (.string ⟨#[]⟩) ∧ w' = w := by
  rcases h with h | h
  · go_enter Tryd.func14, Tryd.ntmps14
    go_wp2
    go_ret
    exact ⟨rfl, rfl⟩
  · have h1 : 0 ≤ r := by omega
    go_enter Tryd.func14, Tryd.ntmps14
    go_wp2
    go_ret
    exact ⟨rfl, rfl⟩
end Go.Proofs.YtgjiojcdifjhcaaDoor
