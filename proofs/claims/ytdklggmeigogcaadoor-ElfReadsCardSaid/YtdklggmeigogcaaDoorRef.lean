/- hartixref7's small functions: one, next, lies, value. By an AI agent. -/
import Derived.Test.YtdklggmeigogcaaDoorBegins
set_option linter.unusedVariables false
set_option linter.unusedSimpArgs false
namespace Go.Proofs.YtdklggmeigogcaaDoor
open Go.RowKit
theorem one_any (va fl by' mem : Nat) (w : World) (h1 : va < 18446744073709551616) (h2 : fl < 4294967296) (h3 : mem < 18446744073709551616) (h4 : by' < 18446744073709551616) :
    Calls Tryd.prog 55 #[.int .u64 (va : Int), .int .u32 (fl : Int), .int .u64 (by' : Int), .int .u64 (mem : Int)] w fun e w' => e = .returned (.bool (shapedB va fl mem by')) ∧ Below w.heap.size w w' := by
  go_enter Tryd.func55, Tryd.ntmps55
  go_wp2_with fail
  all_goals
    go_ret
    refine ⟨ret_bool ?_, (by repeat' (first | exact Below.refl _ _ | refine Below.alloc ?_ ?_ _ | exact Nat.le_refl _ | (simp; done)))⟩
    rw [Bool.eq_iff_iff]
    simp only [shapedB, decide_eq_true_eq, Bool.false_eq_true, false_iff, true_iff]
    first | omega | (simp only [Bool.and_eq_true, Bool.or_eq_true, beq_iff_eq, bne_iff_ne, ne_eq, decide_eq_true_eq]; omega)
theorem next_any (x : Nat) (w : World) (h : x ≤ 1073741824) : Calls Tryd.prog 48 #[.int .u64 (x : Int)] w fun e w' => e = .returned (.int .u64 ((nxt x : Nat) : Int)) ∧ w' = w := by
  go_enter Tryd.func48, Tryd.ntmps48
  go_wp2_with fail
  go_ret
  exact ⟨ret_int (by unfold nxt; omega), rfl⟩
def liesB (at' k n : Nat) : Bool := decide (at' ≤ n ∧ at' + k ≤ n)
theorem lies_any (at' k n : Nat) (w : World) (h1 : at' < 18446744073709551616) (h2 : k < 18446744073709551616) (h3 : n ≤ 1099511627776) : Calls Tryd.prog 37 #[.int .u64 (at' : Int), .int .u64 (k : Int), .int .i64 (n : Int)] w fun e w' => e = .returned (.bool (liesB at' k n)) ∧ w' = w := by
  go_enter Tryd.func37, Tryd.ntmps37
  go_wp2_with fail
  all_goals
    go_ret
    refine ⟨ret_bool ?_, rfl⟩
    rw [Bool.eq_iff_iff]
    simp only [liesB, decide_eq_true_eq, Bool.false_eq_true, false_iff, true_iff]
    omega
theorem value_any (g o n c at' k : Nat) (X : Nat → Nat) (w : World) (h : at' + k ≤ n) (hn : n ≤ 1099511627776) (hk : 0 < k) (h8 : k ≤ 8) (hX : ∀ i, X i < 256) (hcell : ∀ i, i < k → w.cell? ⟨g, o + at' + i, none⟩ = some (.int .u8 (X i : Int))) :
    Calls Tryd.prog 36 #[.slice (some ⟨g, o, none⟩) n c, .int .i64 (at' : Int), .int .i64 (k : Int)] w fun e w' => e = .returned (.int .u64 ((vsum X k : Nat) : Int)) ∧ Below w.heap.size w w' := by
  have HX := Lib.hid hX
  have HC := Lib.hid hcell
  clear hX hcell
  go_enter Tryd.func36, Tryd.ntmps36
  go_wp2_with fail
  go_loopw [7, 8] (fun v i wr => ∃ j : Nat, j ≤ k ∧ i = .int .i64 ((j : Int) - 1) ∧ v = .int .u64 ((vsum (fun t => X (j + t)) (k - j) : Nat) : Int) ∧ Below w.heap.size w wr) (fun _ i _ => (intOf i + 1).toNat)
  case atStart => exact ⟨k, by omega, rfl, by simp [vsum], Below.refl _ _⟩
  case round =>
    obtain ⟨j, hj, rfl, rfl, hb⟩ := hrel
    have HB := Lib.hid hb
    clear hb
    by_cases hlt : 0 < j
    · obtain ⟨q, rfl⟩ : ∃ q, j = q + 1 := ⟨j - 1, by omega⟩
      have p1 : wr.cell? ⟨g, o + (at' + q), none⟩ = some (.int .u8 (X q : Int)) := by
        have h := HC.out q (by omega)
        rw [Nat.add_assoc] at h
        rw [(bcell HB.out).1 _ _ (World.block_lt_of_cell? _ _ h)]; exact h
      have z1 := World.block_lt_of_cell? _ _ p1
      have hv : vsum (fun t => X (q + 1 + t)) (k - (q + 1)) < 72057594037927936 := by
        refine Nat.lt_of_lt_of_le (vsum_lt _ (fun i => HX.out _) _) ?_
        have := Nat.pow_le_pow_right (n := 256) (by decide) (by omega : k - (q + 1) ≤ 7)
        simpa using this
      have HO := Lib.hid (or_low (vsum (fun t => X (q + 1 + t)) (k - (q + 1))) (X q) hv (HX.out q))
      have HV := Lib.hid (show vsum (fun t => X (q + 1 + t)) (k - (q + 1)) * 256 + X q = vsum (fun t => X (q + t)) (k - q) by
        rw [show k - q = (k - (q + 1)) + 1 by omega, vsum_low, vsum_congr (Y := fun i => X (q + (i + 1))) (k - (q + 1)) (fun i _ => by congr 1; omega)]
        simp)
      clear hv
      generalize vsum (fun t => X (q + 1 + t)) (k - (q + 1)) = V at *
      have e1 : ((q + 1 : Nat) : Int) - 1 = (q : Int) := by omega
      have e2 : (0 : Int) ≤ (q : Int) := by omega
      rw [e1]
      clear e1
      go_wp2
      repeat (go_quiet (fail); try go_wp2)
      go_roundw
      case rel => exact ⟨q, by omega, by go_num, by rw [show IntKind.u64.wrap (X q : Int) = (X q : Int) by rw [IntKind.wrap_u64]; have := HX.out q; omega, HO.out, HV.out], by first | exact HB.out | exact below_drewN HB.out _⟩
      case measure => simp [intOf]
    · have h3 : j = 0 := by omega
      subst h3
      go_wp2_with fail
      go_ret
      exact ⟨by simp, HB.out⟩
end Go.Proofs.YtdklggmeigogcaaDoor
