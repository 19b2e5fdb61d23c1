/- insn.formOf: what a shape says. By an AI agent. -/
import Derived.Test.YtgjiojcdifjhcaaDoorRow
set_option linter.unusedVariables false
set_option linter.unusedSimpArgs false
namespace Go.Proofs.YtgjiojcdifjhcaaDoor
open Go.RowKit
def fmFields (s : Nat) : Int := ([0, 7, 11, 11, 11, 11, 14, 14, 9, 9, 11, 0, 6, 19, 25] : List Int).getD s 0
def fmFixed (s : Nat) : Int := ([0, 4261441663, 28799, 4227887231, 4261441663, 28799, 28799, 28799, 127, 127, 28799, 4294967295, 4261445631, 28799, 28799] : List Int).getD s 0
def fmLeast (s : Nat) : Int := ([0, 0, -2048, 0, 0, -2048, -2048, -4096, -2147483648, -1048576, 0, 0, 0, 0, 0] : List Int).getD s 0
def fmMost (s : Nat) : Int := ([0, 0, 2047, 63, 31, 2047, 2047, 4094, 2147479552, 1048574, 4095, 0, 0, 0, 31] : List Int).getD s 0
def fmStep (s : Nat) : Int := ([1, 1, 1, 1, 1, 1, 1, 2, 4096, 2, 1, 1, 1, 1, 1] : List Int).getD s 1
def fmTake (s : Nat) : Nat := ([57, 57, 59, 61, 64, 59, 66, 69, 71, 73, 75, 57, 57, 57, 76] : List Nat).getD s 57
def fmPut (s : Nat) : Nat := ([58, 58, 60, 62, 65, 60, 68, 70, 72, 74, 60, 58, 58, 58, 77] : List Nat).getD s 58
def formCells (s : Nat) : Array Value := #[.int .i64 (fmFields s), .int .u32 (fmFixed s), .int .i64 (fmLeast s), .int .i64 (fmMost s), .int .i64 (fmStep s), .func (Fn.func (fmTake s)) #[] #[], .func (Fn.func (fmPut s)) #[] #[]]
set_option maxRecDepth 100000 in
set_option maxHeartbeats 2000000 in
theorem form_at (s : Nat) (h1 : 1 ≤ s) (h2 : s ≤ 14) (w : World) : Calls Tryd.prog 41 #[.int .i64 s] w fun e w' => e = .returned (.agg (formCells s)) ∧ Below w.heap.size w w' := by
  have hs : s = 1 ∨ s = 2 ∨ s = 3 ∨ s = 4 ∨ s = 5 ∨ s = 6 ∨ s = 7 ∨ s = 8 ∨ s = 9 ∨ s = 10 ∨ s = 11 ∨ s = 12 ∨ s = 13 ∨ s = 14 := by omega
  clear h1 h2
  rcases hs with rfl | rfl | rfl | rfl | rfl | rfl | rfl | rfl | rfl | rfl | rfl | rfl | rfl | rfl
  all_goals
    go_enter Tryd.func41, Tryd.ntmps41
    go_wp2_with fail
    refine bodyPost_ret (by simp [results, Tryd.results41, go_sem]; rfl) rfl ⟨rfl, ?_⟩
    exact (by repeat' (first | exact Below.refl _ _ | refine Below.alloc ?_ ?_ _ | refine Below.setCell ?_ ?_ _ | exact Nat.le_refl _ | (simp; done) | (simp; omega)))
theorem sh_rng : ∀ op, op < 77 → (1 ≤ op → 1 ≤ sh op ∧ sh op ≤ 14) := by decide
end Go.Proofs.YtgjiojcdifjhcaaDoor
