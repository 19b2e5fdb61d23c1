/- alu.moved: the table's row of an operation. By an AI agent. -/
import Derived.Test.YtdlhapjlpkadnaaDoorFault
import Derived.Laws.Rows
set_option linter.unusedVariables false
namespace Go.Proofs.YtdlhapjlpkadnaaDoor
open Go.RowKit
def nb (k : Nat) : Int := [1, 2, 4, 8, 1, 2, 4, 1, 2, 4, 8].getD k 0
def ld (k : Nat) : Bool := decide (k < 7)
def sg (k : Nat) : Bool := decide (k < 3)
def row (k : Nat) : Array Value := #[.int .i64 (11 + k), .int .i64 (nb k), .bool (ld k), .bool (sg k)]
def moves : Array Value := #[.int .i64 11, .int .i64 1, .bool true, .bool true, .int .i64 12, .int .i64 2, .bool true, .bool true, .int .i64 13, .int .i64 4, .bool true, .bool true, .int .i64 14, .int .i64 8, .bool true, .bool false, .int .i64 15, .int .i64 1, .bool true, .bool false, .int .i64 16, .int .i64 2, .bool true, .bool false, .int .i64 17, .int .i64 4, .bool true, .bool false, .int .i64 18, .int .i64 1, .bool false, .bool false, .int .i64 19, .int .i64 2, .bool false, .bool false, .int .i64 20, .int .i64 4, .bool false, .bool false, .int .i64 21, .int .i64 8, .bool false, .bool false]
def Tab (w : World) : Prop := ∃ tt fr, w.heap[0]? = some (.cells moves tt fr)
theorem Tab.heap {w w' : World} (h : Tab w) (hb : ∃ n, 0 < n ∧ Below n w w') : Tab w' := by
  obtain ⟨tt, fr, h⟩ := h
  obtain ⟨n, hn, hb⟩ := hb
  exact ⟨tt, fr, by rw [hb.block 0 hn]; exact h⟩
def MovedP (op : Int) (w : World) (e : Ending) (w' : World) : Prop :=
  ((∃ k : Nat, k < 11 ∧ op = 11 + (k : Int) ∧ e = .returned (.tuple #[.agg (row k), .bool true])) ∨
    ((∀ k : Nat, k < 11 → op ≠ 11 + (k : Int)) ∧ e = .returned (.tuple #[.agg #[.int .i64 0, .int .i64 0, .bool false, .bool false], .bool false]))) ∧ Below w.heap.size w w'
theorem index_row (k : Nat) (hk : k < 11) (w : World) : (Instr.index 58 (.agg moves) (.int .i64 k)).run Tryd.prog w = .ok (.agg #[.int .i64 (11 + k), .int .i64 (nb k), .bool (ld k), .bool (sg k)]) w := by
  have h : k = 0 ∨ k = 1 ∨ k = 2 ∨ k = 3 ∨ k = 4 ∨ k = 5 ∨ k = 6 ∨ k = 7 ∨ k = 8 ∨ k = 9 ∨ k = 10 := by omega
  rcases h with rfl | rfl | rfl | rfl | rfl | rfl | rfl | rfl | rfl | rfl | rfl <;> (show _ = _; kernel_rfl)
set_option maxRecDepth 100000 in
set_option maxHeartbeats 2000000 in
theorem moved_any (op : Int) (w : World) (ht : Tab w) : Calls Tryd.prog 15 #[.int .i64 op] w (MovedP op w) := by
  obtain ⟨tt, fr, ht⟩ := ht
  have h0 : 0 < w.heap.size := by
    rcases Nat.eq_zero_or_pos w.heap.size with h | h
    · simp [h] at ht
    · exact h
  go_enter Tryd.func15, Tryd.ntmps15
  have ht1 : (w.alloc (.cells #[.int .i64 0, .int .i64 0, .bool false, .bool false] 45)).heap[0]? = some (.cells moves tt fr) := by rw [Below.heap_alloc _ _ _ h0]; exact ht
  go_wp2_with (refine wpList_load_row rfl 58 _ rfl 0 rfl tt _ fr _ ht1 Tryd.underlying58 rfl (by kernel_rfl) ?_)
  have B1 : Below w.heap.size w (w.alloc (.cells #[.int .i64 0, .int .i64 0, .bool false, .bool false] 45)) := (Below.refl _ _).alloc (Nat.le_refl _) _
  have R := Lib.hid index_row
  go_loopw [7] (fun i wr => ∃ j : Nat, j ≤ 11 ∧ i = .int .i64 j ∧ (∀ k : Nat, k < j → op ≠ 11 + (k : Int)) ∧ Below (w.heap.size + 1) (w.alloc (.cells #[.int .i64 0, .int .i64 0, .bool false, .bool false] 45)) wr) (fun i _ => 11 - (intOf i).toNat)
  case atStart => exact ⟨0, Nat.zero_le _, rfl, fun k hk => by omega, Below.refl _ _⟩
  case round =>
    obtain ⟨j, hj, rfl, hno, hb⟩ := hrel
    have hz := hb.size
    simp only [World.size_alloc] at hz
    have c0 : wr.cell? ⟨w.heap.size, 0, none⟩ = some (.int .i64 0) := by rw [hb.cell (by simp)]; simp [go_sem]
    have c1 : wr.cell? ⟨w.heap.size, 1, none⟩ = some (.int .i64 0) := by rw [hb.cell (by simp)]; simp [go_sem]
    have c2 : wr.cell? ⟨w.heap.size, 2, none⟩ = some (.bool false) := by rw [hb.cell (by simp)]; simp [go_sem]
    have c3 : wr.cell? ⟨w.heap.size, 3, none⟩ = some (.bool false) := by rw [hb.cell (by simp)]; simp [go_sem]
    obtain ⟨-, hf⟩ := bcell (W := w.alloc (.cells #[.int .i64 0, .int .i64 0, .bool false, .bool false] 45)) (w1 := wr) (by simpa using hb)
    have f0 : wr.frozen? ⟨w.heap.size, 0, none⟩ = false := by rw [hf _ _ (by simp)]; simp [go_sem]
    have f1 : wr.frozen? ⟨w.heap.size, 1, none⟩ = false := by rw [hf _ _ (by simp)]; simp [go_sem]
    have f2 : wr.frozen? ⟨w.heap.size, 2, none⟩ = false := by rw [hf _ _ (by simp)]; simp [go_sem]
    have f3 : wr.frozen? ⟨w.heap.size, 3, none⟩ = false := by rw [hf _ _ (by simp)]; simp [go_sem]
    have zz : w.heap.size < wr.heap.size := by omega
    have z1 : w.heap.size < wr.heap.size + 1 := by omega
    have z2 : w.heap.size + 1 ≤ wr.heap.size := hz
    clear hf hz
    have HB := Lib.hid hb
    clear hb
    by_cases hjk : j < 11
    · have hlt : (j : Int) < 11 := by omega
      have IX := R.out j hjk
      have HN := Lib.hid hno
      clear hno
      by_cases hop : op = 11 + (j : Int)
      · have e1 : (11 + (j : Int) == op) = true := by simp [hop]
        go_wp2_with fail
        refine bodyPost_ret (v := .tuple #[.agg (row j), .bool true]) (by simp [results, Tryd.results15, go_sem, row, zz, c0, c1, c2, c3]) rfl ⟨Or.inl ⟨j, hjk, hop, rfl⟩, ?_⟩
        have hb := (B1.trans (HB.out.mono (Nat.le_succ _)))
        exact (by repeat' (first | exact hb | exact z2 | refine Below.alloc ?_ ?_ _ | refine Below.setCell ?_ ?_ _ | exact Nat.le_refl _ | (simp; done) | (simp; omega)))
      · have e1 : (11 + (j : Int) == op) = false := by simp; omega
        go_wp2_with fail
        go_roundw
        case rel => exact ⟨j + 1, by omega, by go_num, (fun k hk => by rcases Nat.lt_succ_iff_lt_or_eq.1 hk with h | rfl; exact HN.out k h; exact hop), by
          have hb := HB.out
          exact (by repeat' (first | exact hb | exact z2 | refine Below.alloc ?_ ?_ _ | refine Below.setCell ?_ ?_ _ | exact Nat.le_refl _ | (simp; done) | (simp; omega)))⟩
        case measure => simp [intOf]; omega
    · obtain rfl : j = 11 := by omega
      have HN := Lib.hid hno
      clear hno
      go_wp2_with fail
      refine bodyPost_ret (v := .tuple #[.agg #[.int .i64 0, .int .i64 0, .bool false, .bool false], .bool false]) (by simp [results, Tryd.results15, go_sem, c0, c1, c2, c3]) rfl ⟨Or.inr ⟨HN.out, rfl⟩, ?_⟩
      have hb := (B1.trans (HB.out.mono (Nat.le_succ _)))
      exact (by repeat' (first | exact hb | exact z2 | refine Below.alloc ?_ ?_ _ | refine Below.setCell ?_ ?_ _ | exact Nat.le_refl _ | (simp; done) | (simp; omega)))
end Go.Proofs.YtdlhapjlpkadnaaDoor
