/- alu.Bytes, Extend, Keep: what they make of each operation of the table, and of any other. By an AI agent. -/
import Derived.Test.YtdlhapjlpkadnaaDoorMoved
set_option linter.unusedVariables false
set_option linter.unusedSimpArgs false
namespace Go.Proofs.YtdlhapjlpkadnaaDoor
open Go.RowKit
def Word (x : Int) : Prop := 0 ≤ x ∧ x ≤ 18446744073709551615
theorem wrap_u64 (x : Int) : IntKind.u64.wrap x = x % 18446744073709551616 := IntKind.wrap_u64 x
def extV (k : Nat) (v : Int) : Int := match k with
  | 0 => (v % 256 - 256 * (v / 128 % 2)) % 18446744073709551616
  | 1 => (v % 65536 - 65536 * (v / 32768 % 2)) % 18446744073709551616
  | 2 => (v % 4294967296 - 4294967296 * (v / 2147483648 % 2)) % 18446744073709551616
  | 4 => v % 256
  | 5 => v % 65536
  | 6 => v % 4294967296
  | _ => v
def keepV (k : Nat) (v : Int) : Int := match k with
  | 7 => v % 256
  | 8 => v % 65536
  | 9 => v % 4294967296
  | _ => v
theorem moved_at (k : Nat) (hk : k < 11) (w : World) (ht : Tab w) : Calls Tryd.prog 15 #[.int .i64 (11 + (k : Int))] w fun e w' => e = .returned (.tuple #[.agg (row k), .bool true]) ∧ Below w.heap.size w w' :=
  (moved_any _ w ht).mono fun e w' ⟨h, hb⟩ => by
    refine ⟨?_, hb⟩
    rcases h with ⟨j, hj, he, rfl⟩ | ⟨hn, _⟩
    · obtain rfl : k = j := by omega
      rfl
    · exact absurd rfl (hn k hk)
theorem moved_none (op : Int) (hn : ∀ k : Nat, k < 11 → op ≠ 11 + (k : Int)) (w : World) (ht : Tab w) : Calls Tryd.prog 15 #[.int .i64 op] w fun e w' => e = .returned (.tuple #[.agg #[.int .i64 0, .int .i64 0, .bool false, .bool false], .bool false]) ∧ Below w.heap.size w w' :=
  (moved_any _ w ht).mono fun e w' ⟨h, hb⟩ => by
    refine ⟨?_, hb⟩
    rcases h with ⟨j, hj, he, rfl⟩ | ⟨_, rfl⟩
    · exact absurd he (hn j hj)
    · rfl
theorem bytes_at (k : Nat) (hk : k < 11) (w : World) (ht : Tab w) : Calls Tryd.prog 6 #[.int .i64 (11 + (k : Int))] w fun e w' => e = .returned (.int .i64 (nb k)) ∧ Below w.heap.size w w' := by
  have M := Lib.hid (moved_at k hk w ht)
  go_enter Tryd.func6, Tryd.ntmps6
  go_wp2_with fail
  refine M.out.mono ?_
  rintro e w1 ⟨rfl, hb⟩
  clear M
  unfold row
  go_wp2
  go_ret
  exact ⟨rfl, by repeat' (first | exact hb | refine Below.alloc ?_ ?_ _ | exact hb.size)⟩
theorem bytes_none (op : Int) (hn : ∀ k : Nat, k < 11 → op ≠ 11 + (k : Int)) (w : World) (ht : Tab w) : Calls Tryd.prog 6 #[.int .i64 op] w fun e w' => e = .returned (.int .i64 0) ∧ Below w.heap.size w w' := by
  have M := Lib.hid (moved_none op hn w ht)
  clear hn
  go_enter Tryd.func6, Tryd.ntmps6
  go_wp2_with fail
  refine M.out.mono ?_
  rintro e w1 ⟨rfl, hb⟩
  clear M
  go_wp2
  go_ret
  exact ⟨rfl, by repeat' (first | exact hb | refine Below.alloc ?_ ?_ _ | exact hb.size)⟩
theorem ret2 {x y : Int} (h : x = y) : Ending.returned (.tuple #[.int .u64 x, .nilIface]) = .returned (.tuple #[.int .u64 y, .nilIface]) := by rw [h]
def Val2 (x : Int) (w : World) (e : Ending) (w' : World) : Prop := e = .returned (.tuple #[.int .u64 x, .nilIface]) ∧ Below w.heap.size w w'
def No2 (w : World) (e : Ending) (w' : World) : Prop := ∃ g, e = .returned (.tuple #[.int .u64 0, .iface 59 (.pointer (some ⟨g, 0, none⟩))]) ∧ w'.cell? ⟨g, 0, none⟩ = some (.string ⟨#[97, 108, 117]⟩) ∧ w'.cell? ⟨g, 1, none⟩ = some (.int .i64 0) ∧ w'.cell? ⟨g, 2, none⟩ = some (.iface 49 (.int .i64 40)) ∧ Below w.heap.size w w'
set_option maxRecDepth 100000 in
theorem extend_at (k : Nat) (hk : k < 7) (v : Int) (hv : Word v) (w : World) (ht : Tab w) : Calls Tryd.prog 7 #[.int .i64 (11 + (k : Int)), .int .u64 v] w (Val2 (extV k v) w) := by
  have M := Lib.hid (moved_at k (by omega) w ht)
  go_enter Tryd.func7, Tryd.ntmps7
  go_wp2_with fail
  refine M.out.mono ?_
  rintro e w1 ⟨rfl, hb⟩
  clear M
  have hk' : k = 0 ∨ k = 1 ∨ k = 2 ∨ k = 3 ∨ k = 4 ∨ k = 5 ∨ k = 6 := by omega
  clear hk
  obtain ⟨v0, v1⟩ := hv
  rcases hk' with rfl | rfl | rfl | rfl | rfl | rfl | rfl <;> simp only [row, nb, ld, sg, List.getD_cons_zero, List.getD_cons_succ, Nat.reduceLT, decide_true, decide_false]
  all_goals (go_wp2; go_ret2; refine ⟨ret2 (by unfold extV; (try simp only [wrap_u64]); all_goals (try unfold wrap64); all_goals omega), ?_⟩; exact (by repeat' (first | exact hb | refine Below.alloc ?_ ?_ _ | exact hb.size | (simp; done) | (simp; have := hb.size; omega))))
set_option maxRecDepth 100000 in
theorem keep_at (k : Nat) (hk7 : 7 ≤ k) (hk : k < 11) (v : Int) (hv : Word v) (w : World) (ht : Tab w) : Calls Tryd.prog 9 #[.int .i64 (11 + (k : Int)), .int .u64 v] w (Val2 (keepV k v) w) := by
  have M := Lib.hid (moved_at k (by omega) w ht)
  go_enter Tryd.func9, Tryd.ntmps9
  go_wp2_with fail
  refine M.out.mono ?_
  rintro e w1 ⟨rfl, hb⟩
  clear M
  have hk' : k = 7 ∨ k = 8 ∨ k = 9 ∨ k = 10 := by omega
  clear hk hk7
  obtain ⟨v0, v1⟩ := hv
  rcases hk' with rfl | rfl | rfl | rfl <;> simp only [row, nb, ld, sg, List.getD_cons_zero, List.getD_cons_succ, Nat.reduceLT, decide_true, decide_false]
  all_goals (go_wp2; go_ret2; refine ⟨ret2 (by unfold keepV; (try simp only [wrap_u64]); all_goals (try unfold wrap64); all_goals omega), ?_⟩; exact (by repeat' (first | exact hb | refine Below.alloc ?_ ?_ _ | exact hb.size | (simp; done) | (simp; have := hb.size; omega))))
set_option maxRecDepth 100000 in
theorem extend_no (op : Int) (hn : ∀ k : Nat, k < 7 → op ≠ 11 + (k : Int)) (v : Int) (w : World) (ht : Tab w) : Calls Tryd.prog 7 #[.int .i64 op, .int .u64 v] w (No2 w) := by
  have M := Lib.hid (moved_any op w ht)
  have HN := Lib.hid hn
  clear hn
  go_enter Tryd.func7, Tryd.ntmps7
  go_wp2_with fail
  refine M.out.mono ?_
  rintro e w1 ⟨h, hb⟩
  clear M
  rcases h with ⟨k, hk, he, rfl⟩ | ⟨hno, rfl⟩
  · have hl : ld k = false := by
      by_cases h : k < 7
      · exact absurd he (HN.out k h)
      · simp [ld, h]
    simp only [row, hl]
    clear he
    go_wp2
    go_ret2
    refine ⟨_, rfl, by simp [go_sem], by simp [go_sem], by simp [go_sem], ?_⟩
    exact (by repeat' (first | exact hb | refine Below.alloc ?_ ?_ _ | exact hb.size | (simp; done) | (simp; have := hb.size; omega)))
  · have HO := Lib.hid hno
    clear hno
    go_wp2
    go_ret2
    refine ⟨_, rfl, by simp [go_sem], by simp [go_sem], by simp [go_sem], ?_⟩
    exact (by repeat' (first | exact hb | refine Below.alloc ?_ ?_ _ | exact hb.size | (simp; done) | (simp; have := hb.size; omega)))
set_option maxRecDepth 100000 in
theorem keep_no (op : Int) (hn : ∀ k : Nat, 7 ≤ k → k < 11 → op ≠ 11 + (k : Int)) (v : Int) (w : World) (ht : Tab w) : Calls Tryd.prog 9 #[.int .i64 op, .int .u64 v] w (No2 w) := by
  have M := Lib.hid (moved_any op w ht)
  have HN := Lib.hid hn
  clear hn
  go_enter Tryd.func9, Tryd.ntmps9
  go_wp2_with fail
  refine M.out.mono ?_
  rintro e w1 ⟨h, hb⟩
  clear M
  rcases h with ⟨k, hk, he, rfl⟩ | ⟨hno, rfl⟩
  · have hl : ld k = true := by
      by_cases h : k < 7
      · simp [ld, h]
      · exact absurd he (HN.out k (by omega) hk)
    simp only [row, hl]
    clear he
    go_wp2
    go_ret2
    refine ⟨_, rfl, by simp [go_sem], by simp [go_sem], by simp [go_sem], ?_⟩
    exact (by repeat' (first | exact hb | refine Below.alloc ?_ ?_ _ | exact hb.size | (simp; done) | (simp; have := hb.size; omega)))
  · have HO := Lib.hid hno
    clear hno
    go_wp2
    go_ret2
    refine ⟨_, rfl, by simp [go_sem], by simp [go_sem], by simp [go_sem], ?_⟩
    exact (by repeat' (first | exact hb | refine Below.alloc ?_ ?_ _ | exact hb.size | (simp; done) | (simp; have := hb.size; omega)))
theorem law_names (w : World) (ht : Tab w) : Calls Tryd.prog 3 #[] w fun e w' => e = .returned (.bool true) ∧ Below w.heap.size w w' := by
  go_enter Tryd.func3, Tryd.ntmps3
  go_wp2_with fail
  refine (bytes_at 3 (by decide) w ht).mono ?_
  rintro e w1 ⟨rfl, hb⟩
  simp only [nb, List.getD_cons_zero, List.getD_cons_succ]
  go_wp2
  go_ret
  exact ⟨rfl, hb⟩
end Go.Proofs.YtdlhapjlpkadnaaDoor
