/- The program's Do: any operation on any two words: what it reckons, or that it is none. -/
import Derived.Test.YtdlhapjlpkadnaaRowsAny

set_option linter.unusedVariables false
namespace Go.Proofs.Ytdlhapjlpkadnaa
open Go.RowKit

theorem opN_ne : ∀ k, k < 28 → ∀ j, j < k → (opN j == opN k) = false := by decide
theorem opN_lt (op : Int) (h : ∀ k, k < 28 → opN k ≠ op) (j : Nat) (hj : j < 28) : (opN j == op) = false := by
  have := h j hj
  simpa using this
def DoYes (r : Int) (w : World) (e : Ending) (w' : World) : Prop := e = .returned (.tuple #[.int .u64 r, .nilIface]) ∧ Below w.heap.size w w'
set_option maxHeartbeats 800000 in
theorem do_yes (k : Nat) (hk : k < 18) (a b : Int) (ha : Word a) (hb : Word b) (w : World) :
    Calls Try.prog 18 #[.int .i64 (opN k), .int .u64 a, .int .u64 b] w (DoYes (doV k a b) w) := by
  have NE := Lib.hid (opN_ne k (by omega))
  go_enter Try.func18, Try.ntmps18
  go_wp2_with fail
  refine (rows_any _).mono ?_
  rintro e w1 ⟨B, rfl, R1, R2, R3, hbel, hB, hB2⟩
  have H1 := Lib.hid R1
  have H2 := Lib.hid R2
  clear R1 R2 R3
  go_wp2_with fail
  go_loopw [12] (fun i wr => ∃ j : Nat, j ≤ k ∧ i = .int .i64 j ∧ Below w.heap.size w wr ∧ Below (B + 1) w1 wr) (fun i _ => 28 - (intOf i).toNat)
  case atStart => exact ⟨0, Nat.zero_le _, rfl, hbel, Below.refl _ _⟩
  case round =>
    obtain ⟨j, hj, rfl, hb1, hb2⟩ := hrel
    have hc0 : wr.cell? ⟨B, j*2, none⟩ = some (.int .i64 (opN j)) := by rw [hb2.cell (by simp)]; exact H1.out j (by omega)
    have hc1 : wr.cell? ⟨B, j*2+1, none⟩ = some (.func (Fn.func (fnN j)) #[] #[]) := by rw [hb2.cell (by simp)]; exact H2.out j (by omega)
    have hszr := hb2.size
    have hlt : (j : Int) < 28 := by omega
    have hs2 : B < wr.heap.size := by omega
    by_cases hjk : j = k
    · subst hjk
      have hen := do_enter j hk
      go_wp2_with fail
      refine (do_fn j hk a b ha hb _).mono ?_
      rintro e w' ⟨rfl, hb3⟩
      go_wp2_with fail
      go_ret2
      exact ⟨rfl, (hb1.alloc (by omega) _).trans (hb3.mono (by simp; omega))⟩
    · have hne : (opN j == opN k) = false := NE.out j (by omega)
      have hjl : j < k := by omega
      clear hjk
      go_wp2_with fail
      go_roundw
      case rel => exact ⟨j + 1, by omega, by go_num, hb1.alloc (by omega) _, hb2.alloc (by omega) _⟩
      case measure => simp [intOf]; omega
set_option maxHeartbeats 800000 in
theorem do_low (k : Nat) (hk : k < 10) (a b : Int) (ha : Word a) (hb : Word b) (w : World) :
    Calls Try.prog 18 #[.int .i64 (opN (18 + k)), .int .u64 a, .int .u64 b] w (DoYes (doV (18 + k) a b) w) := by
  have NE := Lib.hid (opN_ne (18 + k) (by omega))
  go_enter Try.func18, Try.ntmps18
  go_wp2_with fail
  refine (rows_any _).mono ?_
  rintro e w1 ⟨B, rfl, R1, R2, R3, hbel, hB, hB2⟩
  have H1 := Lib.hid R1
  have H2 := Lib.hid R2
  have H3 := Lib.hid R3
  clear R1 R2 R3
  go_wp2_with fail
  go_loopw [12] (fun i wr => ∃ j : Nat, j ≤ 18 + k ∧ i = .int .i64 j ∧ Below w.heap.size w wr ∧ Below (B + 1) w1 wr) (fun i _ => 28 - (intOf i).toNat)
  case atStart => exact ⟨0, Nat.zero_le _, rfl, hbel, Below.refl _ _⟩
  case round =>
    obtain ⟨j, hj, rfl, hb1, hb2⟩ := hrel
    have hc0 : wr.cell? ⟨B, j*2, none⟩ = some (.int .i64 (opN j)) := by rw [hb2.cell (by simp)]; exact H1.out j (by omega)
    have hszr := hb2.size
    have hlt : (j : Int) < 28 := by omega
    have hs2 : B < wr.heap.size := by omega
    by_cases hjk : j = 18 + k
    · subst hjk
      have hc1 : wr.cell? ⟨B, (18 + k)*2+1, none⟩ = some (.func (Fn.func 81) #[] #[.pointer (some ⟨w.heap.size + k, 0, none⟩)]) := by rw [hb2.cell (by simp)]; exact (H3.out k hk).1
      have hc2 : wr.cell? ⟨w.heap.size + k, 0, none⟩ = some (.func (Fn.func (65 + k)) #[] #[]) := by rw [hb2.cell (by simp; omega)]; exact (H3.out k hk).2
      have hgk : w.heap.size + k < wr.heap.size := by omega
      go_wp2_with fail
      refine (low1_any k hk _ a b ha hb _ (by simp [go_sem, hgk, hc2])).mono ?_
      rintro e w' ⟨rfl, hb3⟩
      go_wp2_with fail
      go_ret2
      exact ⟨rfl, (hb1.alloc (by omega) _).trans (hb3.mono (by simp; omega))⟩
    · have hne : (opN j == opN (18 + k)) = false := NE.out j (by omega)
      have hjl : j < 18 + k := by omega
      by_cases h18 : j < 18
      · have hc1 : wr.cell? ⟨B, j*2+1, none⟩ = some (.func (Fn.func (fnN j)) #[] #[]) := by rw [hb2.cell (by simp)]; exact H2.out j (by omega)
        clear hjk
        go_wp2_with fail
        go_roundw
        case rel => exact ⟨j + 1, by omega, by go_num, hb1.alloc (by omega) _, hb2.alloc (by omega) _⟩
        case measure => simp [intOf]; omega
      · have hc1 : wr.cell? ⟨B, j*2+1, none⟩ = some (.func (Fn.func 81) #[] #[.pointer (some ⟨w.heap.size + (j - 18), 0, none⟩)]) := by
          rw [hb2.cell (by simp)]
          have := (H3.out (j - 18) (by omega)).1
          rwa [show 18 + (j - 18) = j from by omega] at this
        clear hjk
        go_wp2_with fail
        go_roundw
        case rel => exact ⟨j + 1, by omega, by go_num, hb1.alloc (by omega) _, hb2.alloc (by omega) _⟩
        case measure => simp [intOf]; omega
/-- What is told of a number that is no operation. -/
def DoNo (w : World) (e : Ending) (w' : World) : Prop := ∃ g, e = .returned (.tuple #[.int .u64 0, .iface 75 (.pointer (some ⟨g, 0, none⟩))]) ∧ w'.cell? ⟨g, 0, none⟩ = some (.string ⟨#[97, 108, 117]⟩) ∧ w'.cell? ⟨g, 1, none⟩ = some (.int .i64 0) ∧ w'.cell? ⟨g, 2, none⟩ = some (.iface 61 (.int .i64 40)) ∧ Below w.heap.size w w'
set_option maxHeartbeats 800000 in
theorem do_no (op a b : Int) (h : ∀ k, k < 28 → opN k ≠ op) (w : World) :
    Calls Try.prog 18 #[.int .i64 op, .int .u64 a, .int .u64 b] w (DoNo w) := by
  have NE := Lib.hid (opN_lt op h)
  clear h
  go_enter Try.func18, Try.ntmps18
  go_wp2_with fail
  refine (rows_any _).mono ?_
  rintro e w1 ⟨B, rfl, R1, R2, R3, hbel, hB, hB2⟩
  have H1 := Lib.hid R1
  have H2 := Lib.hid R2
  have H3 := Lib.hid R3
  clear R1 R2 R3
  go_wp2_with fail
  go_loopw [12] (fun i wr => ∃ j : Nat, j ≤ 28 ∧ i = .int .i64 j ∧ Below w.heap.size w wr ∧ Below (B + 1) w1 wr) (fun i _ => 28 - (intOf i).toNat)
  case atStart => exact ⟨0, Nat.zero_le _, rfl, hbel, Below.refl _ _⟩
  case round =>
    obtain ⟨j, hj, rfl, hb1, hb2⟩ := hrel
    have hszr := hb2.size
    have hs2 : B < wr.heap.size := by omega
    by_cases hjk : j < 28
    · have hc0 : wr.cell? ⟨B, j*2, none⟩ = some (.int .i64 (opN j)) := by rw [hb2.cell (by simp)]; exact H1.out j (by omega)
      have hlt : (j : Int) < 28 := by omega
      have hne : (opN j == op) = false := NE.out j hjk
      by_cases h18 : j < 18
      · have hc1 : wr.cell? ⟨B, j*2+1, none⟩ = some (.func (Fn.func (fnN j)) #[] #[]) := by rw [hb2.cell (by simp)]; exact H2.out j (by omega)
        go_wp2_with fail
        go_roundw
        case rel => exact ⟨j + 1, by omega, by go_num, hb1.alloc (by omega) _, hb2.alloc (by omega) _⟩
        case measure => simp [intOf]; omega
      · have hc1 : wr.cell? ⟨B, j*2+1, none⟩ = some (.func (Fn.func 81) #[] #[.pointer (some ⟨w.heap.size + (j - 18), 0, none⟩)]) := by
          rw [hb2.cell (by simp)]
          have := (H3.out (j - 18) (by omega)).1
          rwa [show 18 + (j - 18) = j from by omega] at this
        go_wp2_with fail
        go_roundw
        case rel => exact ⟨j + 1, by omega, by go_num, hb1.alloc (by omega) _, hb2.alloc (by omega) _⟩
        case measure => simp [intOf]; omega
    · obtain rfl : j = 28 := by omega
      go_wp2
      go_ret2
      exact ⟨_, rfl, by simp [go_sem], by simp [go_sem], by simp [go_sem], hb1.alloc (by omega) _⟩
/-- All of them in one: the place of an operation, or that it is none. -/
theorem op_place (op : Int) : (∃ k, k < 28 ∧ opN k = op) ∨ ∀ k, k < 28 → opN k ≠ op := by
  by_cases h : ∃ k, k < 28 ∧ opN k = op
  · exact .inl h
  · exact .inr fun k hk e => h ⟨k, hk, e⟩
theorem do_all (k : Nat) (hk : k < 28) (a b : Int) (ha : Word a) (hb : Word b) (w : World) :
    Calls Try.prog 18 #[.int .i64 (opN k), .int .u64 a, .int .u64 b] w (DoYes (doV k a b) w) := by
  by_cases h : k < 18
  · exact do_yes k h a b ha hb w
  · obtain ⟨j, rfl⟩ : ∃ j, k = 18 + j := ⟨k - 18, by omega⟩
    exact do_low j (by omega) a b ha hb w
end Go.Proofs.Ytdlhapjlpkadnaa
