/- AluHolds, the parts: the program's Holds and the document's, as contracts over the translation. No condition but that the words are words. -/
import Derived.Test.YtdlhapjlpkadnaaFault
set_option linter.unusedVariables false
namespace Go.Proofs.Ytdlhapjlpkadnaa
open Go.RowKit
def condCells : Array Value := #[Value.int IntKind.i64 5, Value.func (Fn.func 36) #[] #[], Value.int IntKind.i64 6,
      Value.func (Fn.func 37) #[] #[], Value.int IntKind.i64 7, Value.func (Fn.func 38) #[] #[],
      Value.int IntKind.i64 8, Value.func (Fn.func 39) #[] #[], Value.int IntKind.i64 9,
      Value.func (Fn.func 40) #[] #[], Value.int IntKind.i64 10, Value.func (Fn.func 41) #[] #[]]
def CondsP (w : World) (e : Ending) (w' : World) : Prop := e = .returned (.slice (some ⟨w.heap.size, 0, none⟩) 6 6) ∧ w' = w.alloc (.cells condCells 59)
theorem conds_any (w : World) : Calls Try.prog 24 #[] w (CondsP w) := by
  go_enter Try.func24, Try.ntmps24
  go_wp2
  go_ret
  exact ⟨rfl, rfl⟩
theorem cond_cell (k : Nat) (hk : k < 6) : condCells[k*2]? = some (.int .i64 (5 + (k : Int))) ∧ condCells[k*2+1]? = some (.func (Fn.func (36 + k)) #[] #[]) := by
  have : k = 0 ∨ k = 1 ∨ k = 2 ∨ k = 3 ∨ k = 4 ∨ k = 5 := by omega
  rcases this with rfl | rfl | rfl | rfl | rfl | rfl <;> exact ⟨rfl, rfl⟩

theorem below_any (a : Int) (w : World) : Calls Try.prog 42 #[.int .u64 a] w fun e w' => e = .returned (.bool (a / 9223372036854775808 == 1)) ∧ w = w' := by
  go_enter Try.func42, Try.ntmps42
  go_wp2_with fail
  go_ret
  exact ⟨rfl, rfl⟩
theorem less_law (a b : Int) (ha : 0 ≤ a) (ha' : a ≤ 18446744073709551615) (hb : 0 ≤ b) (hb' : b ≤ 18446744073709551615) (x y : Bool) (hx : (a / 9223372036854775808 == 1) = x) (hy : (b / 9223372036854775808 == 1) = y) : decide (wrap64 a < wrap64 b) = if x != y then x else decide (a < b) := by
  have ea : x = decide (9223372036854775807 < a) := by rw [← hx, Bool.eq_iff_iff]; simp; omega
  have eb : y = decide (9223372036854775807 < b) := by rw [← hy, Bool.eq_iff_iff]; simp; omega
  unfold wrap64
  rw [ea, eb]
  by_cases h1 : 9223372036854775807 < a <;> by_cases h2 : 9223372036854775807 < b <;> simp [h1, h2] <;> (first | omega | (rw [Bool.eq_iff_iff]; simp; omega))
theorem less_any (a b : Int) (ha : 0 ≤ a) (ha' : a ≤ 18446744073709551615) (hb : 0 ≤ b) (hb' : b ≤ 18446744073709551615) (w : World) : Calls Try.prog 27 #[.int .u64 a, .int .u64 b] w fun e w' => e = .returned (.bool (decide (wrap64 a < wrap64 b))) ∧ w = w' := by
  have L := Lib.hid (less_law a b ha ha' hb hb')
  go_enter Try.func27, Try.ntmps27
  go_wp2_with fail
  refine (below_any _ _).mono ?_
  rintro e w' ⟨rfl, rfl⟩
  generalize hx : (a / 9223372036854775808 == 1) = x
  have HX := Lib.hid hx
  clear hx
  go_wp2_with fail
  refine (below_any _ _).mono ?_
  rintro e w' ⟨rfl, rfl⟩
  generalize hy : (b / 9223372036854775808 == 1) = y
  have HY := Lib.hid hy
  clear hy
  have E := Lib.hid (L.out x y HX.out HY.out)
  clear L
  cases x <;> cases y
  all_goals
    go_wp2_with (first | (go_at_call 42; refine (below_any _ _).mono ?_; rintro e w' ⟨rfl, rfl⟩; rw [HX.out]))
    go_ret
    exact ⟨by rw [E.out]; rfl, rfl⟩

theorem refno_any (c : Int) (w : World) : Calls Try.prog 28 #[.int .i64 c] w fun e w' => e = .returned (.agg #[.slice (some ⟨w.heap.size + 1 + 1, 0, none⟩) 1 1, .int .i64 c]) ∧ w' = ((w.alloc (.cells #[.slice (some ⟨w.heap.size + 1 + 1, 0, none⟩) 1 1, .int .i64 c] 29)).alloc (.cells #[.slice (some ⟨w.heap.size + 1 + 1, 0, none⟩) 1 1, .int .i64 c] 29)).alloc (.cells #[.string ⟨#[97, 108, 117]⟩, .int .i64 0] 81) := by
  go_enter Try.func28, Try.ntmps28
  go_wp2_with (first | (go_at_call 43; refine (new_any _ _ _ _).mono ?_; rintro e w' ⟨rfl, rfl⟩))
  refine bodyPost_ret (v := .agg #[.slice (some ⟨w.heap.size + 1 + 1, 0, none⟩) 1 1, .int .i64 c]) (by simp [results, Try.results28, go_sem]) rfl ⟨rfl, rfl⟩

def condOf (k : Nat) (a b : Int) : Bool := match k with
  | 0 => a == b
  | 1 => a != b
  | 2 => decide (wrap64 a < wrap64 b)
  | 3 => !decide (wrap64 a < wrap64 b)
  | 4 => decide (a < b)
  | _ => decide (b ≤ a)
theorem cond_fn (k : Nat) (hk : k < 6) (a b : Int) (w : World) : Calls Try.prog (36 + k) #[.int .u64 a, .int .u64 b] w fun e w' => e = .returned (.bool (condOf k a b)) ∧ w = w' := by
  have : k = 0 ∨ k = 1 ∨ k = 2 ∨ k = 3 ∨ k = 4 ∨ k = 5 := by omega
  rcases this with rfl | rfl | rfl | rfl | rfl | rfl
  · go_enter Try.func36, Try.ntmps36
    go_wp2
    go_ret
    exact ⟨rfl, rfl⟩
  · go_enter Try.func37, Try.ntmps37
    go_wp2
    go_ret
    exact ⟨rfl, rfl⟩
  · go_enter Try.func38, Try.ntmps38
    go_wp2
    go_ret
    exact ⟨rfl, rfl⟩
  · go_enter Try.func39, Try.ntmps39
    go_wp2
    go_ret
    exact ⟨ret_bool (by rw [Bool.eq_iff_iff]; simp [condOf]), rfl⟩
  · go_enter Try.func40, Try.ntmps40
    go_wp2
    go_ret
    exact ⟨rfl, rfl⟩
  · go_enter Try.func41, Try.ntmps41
    go_wp2
    go_ret
    exact ⟨rfl, rfl⟩

theorem enter36 (x : Array Value) (w : World) : (callFunc 36 x).run Try.prog w = .ok (.enter 36 x) w := by kernel_rfl
theorem enter37 (x : Array Value) (w : World) : (callFunc 37 x).run Try.prog w = .ok (.enter 37 x) w := by kernel_rfl
theorem enter38 (x : Array Value) (w : World) : (callFunc 38 x).run Try.prog w = .ok (.enter 38 x) w := by kernel_rfl
theorem enter39 (x : Array Value) (w : World) : (callFunc 39 x).run Try.prog w = .ok (.enter 39 x) w := by kernel_rfl
theorem enter40 (x : Array Value) (w : World) : (callFunc 40 x).run Try.prog w = .ok (.enter 40 x) w := by kernel_rfl
theorem enter41 (x : Array Value) (w : World) : (callFunc 41 x).run Try.prog w = .ok (.enter 41 x) w := by kernel_rfl
theorem cond_enter (k : Nat) (hk : k < 6) (a b : Int) (w : World) : (callFunc (36 + k) #[.int .u64 a, .int .u64 b]).run Try.prog w = .ok (.enter (36 + k) #[.int .u64 a, .int .u64 b]) w := by
  have : k = 0 ∨ k = 1 ∨ k = 2 ∨ k = 3 ∨ k = 4 ∨ k = 5 := by omega
  rcases this with rfl | rfl | rfl | rfl | rfl | rfl
  · exact enter36 _ _
  · exact enter37 _ _
  · exact enter38 _ _
  · exact enter39 _ _
  · exact enter40 _ _
  · exact enter41 _ _
def HoldsYes (r : Bool) (w : World) (e : Ending) (w' : World) : Prop := e = .returned (.tuple #[.bool r, .nilIface]) ∧ Below w.heap.size w w'
set_option maxHeartbeats 400000 in
theorem holds_yes (k : Nat) (hk : k < 6) (a b : Int) (w : World) :
    Calls Try.prog 11 #[.int .i64 (5 + (k : Int)), .int .u64 a, .int .u64 b] w (HoldsYes (condOf k a b) w) := by
  go_enter Try.func11, Try.ntmps11
  go_wp2_with fail
  refine (conds_any _).mono ?_
  rintro e w1 ⟨rfl, hw1⟩
  have hcell : ∀ j, j < 6 → w1.cell? ⟨w.heap.size, j*2, none⟩ = some (.int .i64 (5 + (j : Int))) ∧ w1.cell? ⟨w.heap.size, j*2+1, none⟩ = some (.func (Fn.func (36 + j)) #[] #[]) := by
    intro j hj
    subst hw1
    have := cond_cell j hj
    simpa [go_sem] using this
  have hbel : Below w.heap.size w w1 := by subst hw1; exact (Below.refl _ _).alloc (Nat.le_refl _) _
  have hsz : w.heap.size < w1.heap.size := by subst hw1; simp
  clear hw1
  have H := Lib.hid hcell
  clear hcell
  go_wp2_with fail
  go_loopw [12] (fun i wr => ∃ j : Nat, j ≤ k ∧ i = .int .i64 j ∧ Below w.heap.size w wr ∧ Below (w.heap.size + 1) w1 wr) (fun i _ => 6 - (intOf i).toNat)
  case atStart => exact ⟨0, Nat.zero_le _, rfl, hbel, Below.refl _ _⟩
  case round =>
    obtain ⟨j, hj, rfl, hb1, hb2⟩ := hrel
    have hc0 : wr.cell? ⟨w.heap.size, j*2, none⟩ = some (.int .i64 (5 + (j : Int))) := by rw [hb2.cell (by simp)]; exact (H.out j (by omega)).1
    have hc1 : wr.cell? ⟨w.heap.size, j*2+1, none⟩ = some (.func (Fn.func (36 + j)) #[] #[]) := by rw [hb2.cell (by simp)]; exact (H.out j (by omega)).2
    have hszr := hb2.size
    have hlt : (j : Int) < 6 := by omega
    have hs2 : w.heap.size < wr.heap.size := by omega
    by_cases hjk : j = k
    · subst hjk
      have hen := cond_enter j hk a b
      go_wp2_with fail
      refine (cond_fn j hk a b _).mono ?_
      rintro e w' ⟨rfl, rfl⟩
      go_wp2_with fail
      go_ret2
      exact ⟨rfl, hb1.alloc (by omega) _⟩
    · have hne : ((5 + (j : Int)) == (5 + (k : Int))) = false := by simp; omega
      have hjl : j < k := by omega
      clear hjk
      go_wp2_with fail
      go_roundw
      case rel => exact ⟨j + 1, by omega, by go_num, hb1.alloc (by omega) _, hb2.alloc (by omega) _⟩
      case measure => simp [intOf]; omega

def HoldsNo (w : World) (e : Ending) (w' : World) : Prop := ∃ g, e = .returned (.tuple #[.bool false, .iface 75 (.pointer (some ⟨g, 0, none⟩))]) ∧ w'.cell? ⟨g, 0, none⟩ = some (.string ⟨#[97, 108, 117]⟩) ∧ w'.cell? ⟨g, 1, none⟩ = some (.int .i64 0) ∧ w'.cell? ⟨g, 2, none⟩ = some (.iface 61 (.int .i64 40)) ∧ Below w.heap.size w w'
set_option maxHeartbeats 400000 in
theorem holds_no (op a b : Int) (h : op < 5 ∨ 10 < op) (w : World) :
    Calls Try.prog 11 #[.int .i64 op, .int .u64 a, .int .u64 b] w (HoldsNo w) := by
  go_enter Try.func11, Try.ntmps11
  go_wp2_with fail
  refine (conds_any _).mono ?_
  rintro e w1 ⟨rfl, hw1⟩
  have hcell : ∀ j, j < 6 → w1.cell? ⟨w.heap.size, j*2, none⟩ = some (.int .i64 (5 + (j : Int))) ∧ w1.cell? ⟨w.heap.size, j*2+1, none⟩ = some (.func (Fn.func (36 + j)) #[] #[]) := by
    intro j hj
    subst hw1
    have := cond_cell j hj
    simpa [go_sem] using this
  have hbel : Below w.heap.size w w1 := by subst hw1; exact (Below.refl _ _).alloc (Nat.le_refl _) _
  have hsz : w.heap.size < w1.heap.size := by subst hw1; simp
  clear hw1
  have H := Lib.hid hcell
  clear hcell
  have HO := Lib.hid h
  clear h
  go_wp2_with fail
  go_loopw [12] (fun i wr => ∃ j : Nat, j ≤ 6 ∧ i = .int .i64 j ∧ Below w.heap.size w wr ∧ Below (w.heap.size + 1) w1 wr) (fun i _ => 6 - (intOf i).toNat)
  case atStart => exact ⟨0, Nat.zero_le _, rfl, hbel, Below.refl _ _⟩
  case round =>
    obtain ⟨j, hj, rfl, hb1, hb2⟩ := hrel
    have hszr := hb2.size
    have hs2 : w.heap.size < wr.heap.size := by omega
    by_cases hjk : j < 6
    · have hc0 : wr.cell? ⟨w.heap.size, j*2, none⟩ = some (.int .i64 (5 + (j : Int))) := by rw [hb2.cell (by simp)]; exact (H.out j (by omega)).1
      have hc1 : wr.cell? ⟨w.heap.size, j*2+1, none⟩ = some (.func (Fn.func (36 + j)) #[] #[]) := by rw [hb2.cell (by simp)]; exact (H.out j (by omega)).2
      have hlt : (j : Int) < 6 := by omega
      have hne : ((5 + (j : Int)) == op) = false := by have := HO.out; simp; omega
      go_wp2_with fail
      go_roundw
      case rel => exact ⟨j + 1, by omega, by go_num, hb1.alloc (by omega) _, hb2.alloc (by omega) _⟩
      case measure => simp [intOf]; omega
    · obtain rfl : j = 6 := by omega
      go_wp2
      go_ret2
      exact ⟨_, rfl, by simp [go_sem], by simp [go_sem], by simp [go_sem], hb1.alloc (by omega) _⟩

def RefHoldsYes (r : Bool) (w : World) (e : Ending) (w' : World) : Prop := e = .returned (.tuple #[.bool r, .agg #[.slice none 0 0, .int .i64 0]]) ∧ w' = (w.alloc (.cells #[.slice none 0 0, .int .i64 0] 29)).alloc (.cells #[.slice none 0 0, .int .i64 0] 29)
theorem refholds_0 (a b : Int) (ha : 0 ≤ a) (ha' : a ≤ 18446744073709551615) (hb : 0 ≤ b) (hb' : b ≤ 18446744073709551615) (w : World) : Calls Try.prog 12 #[.int .i64 5, .int .u64 a, .int .u64 b] w (RefHoldsYes (condOf 0 a b) w) := by
  go_enter Try.func12, Try.ntmps12
  go_wp2_with (first | (go_at_call 27; refine (less_any _ _ ha ha' hb hb' _).mono ?_; rintro e w' ⟨rfl, rfl⟩) | (go_at_call 26; refine (none_any _).mono ?_; rintro e w' ⟨rfl, rfl⟩))
  refine bodyPost_ret (v := .tuple #[.bool (condOf 0 a b), .agg #[.slice none 0 0, .int .i64 0]]) (by simp [results, Try.results12, go_sem, condOf]) rfl ⟨rfl, rfl⟩
theorem refholds_1 (a b : Int) (ha : 0 ≤ a) (ha' : a ≤ 18446744073709551615) (hb : 0 ≤ b) (hb' : b ≤ 18446744073709551615) (w : World) : Calls Try.prog 12 #[.int .i64 6, .int .u64 a, .int .u64 b] w (RefHoldsYes (condOf 1 a b) w) := by
  go_enter Try.func12, Try.ntmps12
  go_wp2_with (first | (go_at_call 27; refine (less_any _ _ ha ha' hb hb' _).mono ?_; rintro e w' ⟨rfl, rfl⟩) | (go_at_call 26; refine (none_any _).mono ?_; rintro e w' ⟨rfl, rfl⟩))
  refine bodyPost_ret (v := .tuple #[.bool (condOf 1 a b), .agg #[.slice none 0 0, .int .i64 0]]) (by simp [results, Try.results12, go_sem, condOf]) rfl ⟨rfl, rfl⟩
theorem refholds_2 (a b : Int) (ha : 0 ≤ a) (ha' : a ≤ 18446744073709551615) (hb : 0 ≤ b) (hb' : b ≤ 18446744073709551615) (w : World) : Calls Try.prog 12 #[.int .i64 7, .int .u64 a, .int .u64 b] w (RefHoldsYes (condOf 2 a b) w) := by
  go_enter Try.func12, Try.ntmps12
  go_wp2_with (first | (go_at_call 27; refine (less_any _ _ ha ha' hb hb' _).mono ?_; rintro e w' ⟨rfl, rfl⟩) | (go_at_call 26; refine (none_any _).mono ?_; rintro e w' ⟨rfl, rfl⟩))
  refine bodyPost_ret (v := .tuple #[.bool (condOf 2 a b), .agg #[.slice none 0 0, .int .i64 0]]) (by simp [results, Try.results12, go_sem, condOf]) rfl ⟨rfl, rfl⟩
theorem refholds_3 (a b : Int) (ha : 0 ≤ a) (ha' : a ≤ 18446744073709551615) (hb : 0 ≤ b) (hb' : b ≤ 18446744073709551615) (w : World) : Calls Try.prog 12 #[.int .i64 8, .int .u64 a, .int .u64 b] w (RefHoldsYes (condOf 3 a b) w) := by
  go_enter Try.func12, Try.ntmps12
  go_wp2_with (first | (go_at_call 27; refine (less_any _ _ ha ha' hb hb' _).mono ?_; rintro e w' ⟨rfl, rfl⟩) | (go_at_call 26; refine (none_any _).mono ?_; rintro e w' ⟨rfl, rfl⟩))
  refine bodyPost_ret (v := .tuple #[.bool (condOf 3 a b), .agg #[.slice none 0 0, .int .i64 0]]) (by simp [results, Try.results12, go_sem, condOf]) rfl ⟨rfl, rfl⟩
theorem refholds_4 (a b : Int) (ha : 0 ≤ a) (ha' : a ≤ 18446744073709551615) (hb : 0 ≤ b) (hb' : b ≤ 18446744073709551615) (w : World) : Calls Try.prog 12 #[.int .i64 9, .int .u64 a, .int .u64 b] w (RefHoldsYes (condOf 4 a b) w) := by
  go_enter Try.func12, Try.ntmps12
  go_wp2_with (first | (go_at_call 27; refine (less_any _ _ ha ha' hb hb' _).mono ?_; rintro e w' ⟨rfl, rfl⟩) | (go_at_call 26; refine (none_any _).mono ?_; rintro e w' ⟨rfl, rfl⟩))
  refine bodyPost_ret (v := .tuple #[.bool (condOf 4 a b), .agg #[.slice none 0 0, .int .i64 0]]) (by simp [results, Try.results12, go_sem, condOf]) rfl ⟨rfl, rfl⟩
theorem refholds_5 (a b : Int) (ha : 0 ≤ a) (ha' : a ≤ 18446744073709551615) (hb : 0 ≤ b) (hb' : b ≤ 18446744073709551615) (w : World) : Calls Try.prog 12 #[.int .i64 10, .int .u64 a, .int .u64 b] w (RefHoldsYes (condOf 5 a b) w) := by
  go_enter Try.func12, Try.ntmps12
  go_wp2_with (first | (go_at_call 27; refine (less_any _ _ ha ha' hb hb' _).mono ?_; rintro e w' ⟨rfl, rfl⟩) | (go_at_call 26; refine (none_any _).mono ?_; rintro e w' ⟨rfl, rfl⟩))
  refine bodyPost_ret (v := .tuple #[.bool (condOf 5 a b), .agg #[.slice none 0 0, .int .i64 0]]) (by simp [results, Try.results12, go_sem, condOf]) rfl ⟨rfl, rfl⟩

def RefHoldsNo (w : World) (e : Ending) (w' : World) : Prop := ∃ d n, e = .returned (.tuple #[.bool false, .agg #[.slice (some ⟨d, 0, none⟩) 1 n, .int .i64 40]]) ∧ w'.cell? ⟨d, 0, none⟩ = some (.string ⟨#[97, 108, 117]⟩) ∧ w'.cell? ⟨d, 1, none⟩ = some (.int .i64 0) ∧ Below w.heap.size w w'
theorem refholds_no (op a b : Int) (h : op < 5 ∨ 10 < op) (w : World) : Calls Try.prog 12 #[.int .i64 op, .int .u64 a, .int .u64 b] w (RefHoldsNo w) := by
  have e5 : (op == 5) = false := by simp; omega
  have e6 : (op == 6) = false := by simp; omega
  have e7 : (op == 7) = false := by simp; omega
  have e8 : (op == 8) = false := by simp; omega
  have e9 : (op == 9) = false := by simp; omega
  have e10 : (op == 10) = false := by simp; omega
  clear h
  go_enter Try.func12, Try.ntmps12
  go_wp2_with (first | (go_at_call 28; refine (refno_any _ _).mono ?_; rintro e w' ⟨rfl, rfl⟩))
  refine bodyPost_ret (v := .tuple #[.bool false, .agg #[.slice (some ⟨w.heap.size + 1 + 1 + 1, 0, none⟩) 1 1, .int .i64 40]]) (by simp [results, Try.results12, go_sem]) rfl ⟨_, _, rfl, by simp [go_sem], by simp [go_sem], ?_⟩
  exact (((((Below.refl _ _).alloc (Nat.le_refl _) _).alloc (by simp) _).alloc (by simp; omega) _).alloc (by simp; omega) _)


theorem refholds_yes (k : Nat) (hk : k < 6) (a b : Int) (ha : 0 ≤ a) (ha' : a ≤ 18446744073709551615) (hb : 0 ≤ b) (hb' : b ≤ 18446744073709551615) (w : World) : Calls Try.prog 12 #[.int .i64 (5 + (k : Int)), .int .u64 a, .int .u64 b] w (RefHoldsYes (condOf k a b) w) := by
  have : k = 0 ∨ k = 1 ∨ k = 2 ∨ k = 3 ∨ k = 4 ∨ k = 5 := by omega
  rcases this with rfl | rfl | rfl | rfl | rfl | rfl
  · exact refholds_0 a b ha ha' hb hb' w
  · exact refholds_1 a b ha ha' hb hb' w
  · exact refholds_2 a b ha ha' hb hb' w
  · exact refholds_3 a b ha ha' hb hb' w
  · exact refholds_4 a b ha ha' hb hb' w
  · exact refholds_5 a b ha ha' hb hb' w

theorem law_yes (k : Nat) (hk : k < 6) (a b : Int) (ha : 0 ≤ a) (ha' : a ≤ 18446744073709551615) (hb : 0 ≤ b) (hb' : b ≤ 18446744073709551615) (w : World) :
    Calls Try.prog 3 #[.int .i64 (5 + (k : Int)), .int .u64 a, .int .u64 b] w fun e w' => e = .returned (.bool true) ∧ Below w.heap.size w w' := by
  go_enter Try.func3, Try.ntmps3
  go_wp2_with fail
  refine (holds_yes k hk a b _).mono ?_
  rintro e w1 ⟨rfl, hb1⟩
  go_wp2_with fail
  refine (refholds_yes k hk a b ha ha' hb hb' _).mono ?_
  rintro e w2 ⟨rfl, rfl⟩
  generalize condOf k a b = r
  go_wp2_with fail
  refine (is_none _).mono ?_
  rintro e w3 ⟨rfl, hb3⟩
  go_wp2_with fail
  go_ret
  have hs := hb1.size
  exact ⟨rfl, (((hb1.alloc hs _).alloc (by simp; omega) _).alloc (by simp; omega) _).trans (hb3.mono (by simp; omega))⟩

theorem law_no (op a b : Int) (h : op < 5 ∨ 10 < op) (w : World) :
    Calls Try.prog 3 #[.int .i64 op, .int .u64 a, .int .u64 b] w fun e w' => e = .returned (.bool true) ∧ Below w.heap.size w w' := by
  have HO := Lib.hid h
  clear h
  go_enter Try.func3, Try.ntmps3
  go_wp2_with fail
  refine (holds_no op a b HO.out _).mono ?_
  rintro e w1 ⟨g, rfl, g0, g1, g2, hb1⟩
  have hg := World.block_lt_of_cell? w1 _ g0
  have hs := hb1.size
  go_wp2_with fail
  refine (refholds_no op a b HO.out _).mono ?_
  rintro e w2 ⟨d, n, rfl, d0, d1, hb2⟩
  have hd := World.block_lt_of_cell? w2 _ d0
  have hs2 := hb2.size
  obtain ⟨hc, _⟩ := bcell hb2
  have q0 := (hc g 0 hg).trans g0
  have q1 := (hc g 1 hg).trans g1
  have q2 := (hc g 2 hg).trans g2
  clear hc g0 g1 g2
  have hg2 : g < w2.heap.size := Nat.lt_of_lt_of_le hg hs2
  go_wp2_with fail
  refine (is_fault g 0 d n ⟨#[97, 108, 117]⟩ 0 40 _ (by simp [go_sem, hg2, q0]) (by simp [go_sem, hg2, q1]) (by simp [go_sem, hg2, q2]) rfl (by simp [go_sem, hd, d0]) (by simp [go_sem, hd, d1])).mono ?_
  rintro e w3 ⟨rfl, hb3⟩
  go_wp2_with fail
  go_ret
  exact ⟨rfl, ((hb1.trans (hb2.mono hs)).alloc (by omega) _).trans (hb3.mono (by simp; omega))⟩

theorem law_holds (op a b : Int) (_ho : -9223372036854775808 ≤ op) (_ho2 : op ≤ 9223372036854775807) (ha : 0 ≤ a) (ha' : a ≤ 18446744073709551615) (hb : 0 ≤ b) (hb' : b ≤ 18446744073709551615) (w : World) :
    Calls Try.prog 3 #[.int .i64 op, .int .u64 a, .int .u64 b] w fun e w' => e = .returned (.bool true) ∧ Below w.heap.size w w' := by
  by_cases h : op < 5 ∨ 10 < op
  · exact law_no op a b h w
  · obtain ⟨k, hk, rfl⟩ : ∃ k : Nat, k < 6 ∧ op = 5 + (k : Int) := ⟨(op - 5).toNat, by omega, by omega⟩
    exact law_yes k hk a b ha ha' hb hb' w
end Go.Proofs.Ytdlhapjlpkadnaa
