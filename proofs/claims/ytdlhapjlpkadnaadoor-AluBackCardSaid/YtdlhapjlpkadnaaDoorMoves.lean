/- AluMoves: how many bytes a load or store has, what it makes of any word. By an AI agent. -/
import Derived.Test.YtdlhapjlpkadnaaDoorRef
set_option linter.unusedVariables false
set_option linter.unusedSimpArgs false
namespace Go.Proofs.YtdlhapjlpkadnaaDoor
open Go.RowKit
theorem Tab.after {w w' : World} (h : Tab w) (hb : Below w.heap.size w w') : Tab w' := by
  refine h.heap ⟨w.heap.size, ?_, hb⟩
  obtain ⟨tt, fr, h⟩ := h
  rcases Nat.eq_zero_or_pos w.heap.size with e | e
  · simp [e] at h
  · exact e
theorem Tab.alloc {w : World} (h : Tab w) (o : Obj) : Tab (w.alloc o) := h.after ((Below.refl _ _).alloc (Nat.le_refl _) o)
set_option maxRecDepth 100000 in
set_option maxHeartbeats 2000000 in
theorem moves_load (k : Nat) (hk : k < 7) (v : Int) (hv : Word v) (w : World) (ht : Tab w) :
    Calls Tryd.prog 4 #[.int .i64 (11 + (k : Int)), .int .u64 v] w fun e w' => e = .returned (.bool true) ∧ Below w.heap.size w w' := by
  have A1 := Lib.hid (fun w ht => extend_at k hk v hv w ht)
  have A2 := Lib.hid (fun w => refextend_at k hk v hv w)
  have A3 := Lib.hid (fun w ht => keep_no (11 + (k : Int)) (fun j h7 hj => by omega) v w ht)
  have A4 := Lib.hid (fun w => refkeep_no (11 + (k : Int)) (fun j h7 hj => by omega) v w)
  have A5 := Lib.hid (fun w ht => bytes_at k (by omega) w ht)
  have A6 := Lib.hid (fun w => refbytes_load k hk w)
  have HT := Lib.hid ht
  clear hk hv ht
  generalize extV k v = x at *
  generalize nb k = n at *
  generalize (11 + (k : Int)) = op at *
  go_enter Tryd.func4, Tryd.ntmps4
  go_wp2_with fail
  refine (A1.out _ HT.out).mono ?_
  rintro e w1 ⟨rfl, k1⟩
  have T1 := Lib.hid (HT.out.after k1)
  have s1 := k1.size
  go_wp2_with fail
  refine (A2.out _).mono ?_
  rintro e w2 ⟨rfl, k2⟩
  have T2 := Lib.hid (T1.out.after k2)
  have j2 := k1.trans (k2.mono k1.size)
  have s2 := k2.size
  go_wp2_with fail
  refine (A3.out _ (T2.out.alloc _)).mono ?_
  rintro e w3 ⟨g', rfl, g0', g1', g2', k3⟩
  have hg3 := World.block_lt_of_cell? w3 _ g0'
  have T3 := Lib.hid ((T2.out.alloc _).after k3)
  obtain ⟨z3, c3, f3, j3⟩ := after_alloc k3
  have c30 := c3 0 _ rfl
  have c31 := c3 1 _ rfl
  clear c3 f3
  have s3 := j3.size
  go_wp2_with fail
  refine (A4.out _).mono ?_
  rintro e w4 ⟨d', m', rfl, d0', d1', k4⟩
  have hd4 := World.block_lt_of_cell? w4 _ d0'
  have T4 := Lib.hid (T3.out.after k4)
  have s4 := k4.size
  go_wp2_with fail
  refine (A5.out _ (T4.out.alloc _)).mono ?_
  rintro e w5 ⟨rfl, k5⟩
  obtain ⟨z5, c5, f5, j5⟩ := after_alloc k5
  have c50 := c5 0 _ rfl
  have c51 := c5 1 _ rfl
  clear c5 f5
  have s5 := j5.size
  have far2 : ∀ b o v, b < w2.heap.size → w2.cell? ⟨b, o, none⟩ = some v → w5.cell? ⟨b, o, none⟩ = some v := fun b o v hb hv => by
    rw [j5.cell (by show b < _; omega), k4.cell (by show b < _; omega), j3.cell (by exact hb)]; exact hv
  have far3 : ∀ b o v, b < w3.heap.size → w3.cell? ⟨b, o, none⟩ = some v → w5.cell? ⟨b, o, none⟩ = some v := fun b o v hb hv => by
    rw [j5.cell (by show b < _; omega), k4.cell (by exact hb)]; exact hv
  have far4 : ∀ b o v, b < w4.heap.size → w4.cell? ⟨b, o, none⟩ = some v → w5.cell? ⟨b, o, none⟩ = some v := fun b o v hb hv => by
    rw [j5.cell (by exact hb)]; exact hv
  have b0 := far3 _ _ _ z3 c30
  have b1 := far3 _ _ _ z3 c31
  clear c30 c31
  have F2 := Lib.hid (And.intro (And.intro (far3 _ _ _ hg3 g0') (And.intro (far3 _ _ _ hg3 g1') (far3 _ _ _ hg3 g2'))) (And.intro (far4 _ _ _ hd4 d0') (far4 _ _ _ hd4 d1')))
  clear g0' g1' g2' d0' d1'
  clear far2 far3 far4
  have j4 := (j2.trans (j3.mono (by omega))).trans (k4.mono (by omega))
  have j5' := j4.trans (j5.mono (by omega))
  have zb : w2.heap.size < w5.heap.size := by omega
  have zc : w4.heap.size < w5.heap.size := by omega
  go_wp2_with fail
  refine (A6.out _).mono ?_
  rintro e w6 ⟨rfl, rfl⟩
  go_wp2_with fail
  refine (is_none _).mono ?_
  rintro e w7 ⟨rfl, k7⟩
  have s7 := k7.size
  have q0 : w7.cell? ⟨w4.heap.size, 0, none⟩ = _ := (k7.cell (p := ⟨w4.heap.size, 0, none⟩) zc).trans c50
  have q1 : w7.cell? ⟨w4.heap.size, 1, none⟩ = _ := (k7.cell (p := ⟨w4.heap.size, 1, none⟩) zc).trans c51
  clear c50 c51 b0 b1
  have far7 : ∀ b o v, w6.cell? ⟨b, o, none⟩ = some v → w7.cell? ⟨b, o, none⟩ = some v := fun b o v hv => by
    rw [k7.cell (World.block_lt_of_cell? w6 _ hv)]; exact hv
  have F3 := Lib.hid (And.intro (And.intro (far7 _ _ _ F2.out.1.1) (And.intro (far7 _ _ _ F2.out.1.2.1) (far7 _ _ _ F2.out.1.2.2))) (And.intro (far7 _ _ _ F2.out.2.1) (far7 _ _ _ F2.out.2.2)))
  clear far7
  go_wp2_with fail
  refine (is_fault g' 0 d' m' ⟨#[97, 108, 117]⟩ 0 40 _ F3.out.1.1 F3.out.1.2.1 F3.out.1.2.2 rfl F3.out.2.1 F3.out.2.2).mono ?_
  rintro e w8 ⟨rfl, k8⟩
  go_wp2_with fail
  go_ret
  exact ⟨rfl, (j5'.trans (k7.mono (by omega))).trans (k8.mono (by omega))⟩
set_option maxRecDepth 100000 in
set_option maxHeartbeats 2000000 in
theorem moves_store (k : Nat) (hk7 : 7 ≤ k) (hk : k < 11) (v : Int) (hv : Word v) (w : World) (ht : Tab w) :
    Calls Tryd.prog 4 #[.int .i64 (11 + (k : Int)), .int .u64 v] w fun e w' => e = .returned (.bool true) ∧ Below w.heap.size w w' := by
  have A1 := Lib.hid (fun w ht => extend_no (11 + (k : Int)) (fun j hj => by omega) v w ht)
  have A2 := Lib.hid (fun w => refextend_no (11 + (k : Int)) (fun j hj => by omega) v w)
  have A3 := Lib.hid (fun w ht => keep_at k hk7 hk v hv w ht)
  have A4 := Lib.hid (fun w => refkeep_at k hk7 hk v hv w)
  have A5 := Lib.hid (fun w ht => bytes_at k (by omega) w ht)
  have A6 := Lib.hid (fun w => refbytes_store k hk7 hk w)
  have HT := Lib.hid ht
  clear hk7 hk hv ht
  generalize keepV k v = x at *
  generalize nb k = n at *
  generalize (11 + (k : Int)) = op at *
  go_enter Tryd.func4, Tryd.ntmps4
  go_wp2_with fail
  refine (A1.out _ HT.out).mono ?_
  rintro e w1 ⟨g, rfl, g0, g1, g2, k1⟩
  have hg1 := World.block_lt_of_cell? w1 _ g0
  have T1 := Lib.hid (HT.out.after k1)
  have s1 := k1.size
  go_wp2_with fail
  refine (A2.out _).mono ?_
  rintro e w2 ⟨d, m, rfl, d0, d1, k2⟩
  have hd2 := World.block_lt_of_cell? w2 _ d0
  have T2 := Lib.hid (T1.out.after k2)
  have j2 := k1.trans (k2.mono k1.size)
  have s2 := k2.size
  go_wp2_with fail
  refine (A3.out _ (T2.out.alloc _)).mono ?_
  rintro e w3 ⟨rfl, k3⟩
  have T3 := Lib.hid ((T2.out.alloc _).after k3)
  obtain ⟨z3, c3, f3, j3⟩ := after_alloc k3
  have c30 := c3 0 _ rfl
  have c31 := c3 1 _ rfl
  clear c3 f3
  have s3 := j3.size
  go_wp2_with fail
  refine (A4.out _).mono ?_
  rintro e w4 ⟨rfl, k4⟩
  have T4 := Lib.hid (T3.out.after k4)
  have s4 := k4.size
  go_wp2_with fail
  refine (A5.out _ (T4.out.alloc _)).mono ?_
  rintro e w5 ⟨rfl, k5⟩
  obtain ⟨z5, c5, f5, j5⟩ := after_alloc k5
  have c50 := c5 0 _ rfl
  have c51 := c5 1 _ rfl
  clear c5 f5
  have s5 := j5.size
  have far2 : ∀ b o v, b < w2.heap.size → w2.cell? ⟨b, o, none⟩ = some v → w5.cell? ⟨b, o, none⟩ = some v := fun b o v hb hv => by
    rw [j5.cell (by show b < _; omega), k4.cell (by show b < _; omega), j3.cell (by exact hb)]; exact hv
  have far3 : ∀ b o v, b < w3.heap.size → w3.cell? ⟨b, o, none⟩ = some v → w5.cell? ⟨b, o, none⟩ = some v := fun b o v hb hv => by
    rw [j5.cell (by show b < _; omega), k4.cell (by exact hb)]; exact hv
  have far4 : ∀ b o v, b < w4.heap.size → w4.cell? ⟨b, o, none⟩ = some v → w5.cell? ⟨b, o, none⟩ = some v := fun b o v hb hv => by
    rw [j5.cell (by exact hb)]; exact hv
  have b0 := far3 _ _ _ z3 c30
  have b1 := far3 _ _ _ z3 c31
  clear c30 c31
  have hg2 : g < w2.heap.size := by omega
  have far1 : ∀ o v, w1.cell? ⟨g, o, none⟩ = some v → w5.cell? ⟨g, o, none⟩ = some v := fun o v hv => far2 _ _ _ hg2 (by rw [k2.cell (by exact hg1)]; exact hv)
  have F1 := Lib.hid (And.intro (And.intro (far1 _ _ g0) (And.intro (far1 _ _ g1) (far1 _ _ g2))) (And.intro (far2 _ _ _ hd2 d0) (far2 _ _ _ hd2 d1)))
  clear far1 g0 g1 g2 d0 d1
  clear far2 far3 far4
  have j4 := (j2.trans (j3.mono (by omega))).trans (k4.mono (by omega))
  have j5' := j4.trans (j5.mono (by omega))
  have zb : w2.heap.size < w5.heap.size := by omega
  have zc : w4.heap.size < w5.heap.size := by omega
  go_wp2_with fail
  refine (A6.out _).mono ?_
  rintro e w6 ⟨rfl, rfl⟩
  go_wp2_with fail
  refine (is_fault g 0 d m ⟨#[97, 108, 117]⟩ 0 40 _ F1.out.1.1 F1.out.1.2.1 F1.out.1.2.2 rfl F1.out.2.1 F1.out.2.2).mono ?_
  rintro e w7 ⟨rfl, k7⟩
  have s7 := k7.size
  have q0 : w7.cell? ⟨w4.heap.size, 0, none⟩ = _ := (k7.cell (p := ⟨w4.heap.size, 0, none⟩) zc).trans c50
  have q1 : w7.cell? ⟨w4.heap.size, 1, none⟩ = _ := (k7.cell (p := ⟨w4.heap.size, 1, none⟩) zc).trans c51
  clear c50 c51 b0 b1
  go_wp2_with fail
  refine (is_none _).mono ?_
  rintro e w8 ⟨rfl, k8⟩
  go_wp2_with fail
  go_ret
  exact ⟨rfl, (j5'.trans (k7.mono (by omega))).trans (k8.mono (by omega))⟩
set_option maxRecDepth 100000 in
set_option maxHeartbeats 2000000 in
theorem moves_none (op : Int) (hn : ∀ k : Nat, k < 11 → op ≠ 11 + (k : Int)) (v : Int) (hv : Word v) (w : World) (ht : Tab w) :
    Calls Tryd.prog 4 #[.int .i64 op, .int .u64 v] w fun e w' => e = .returned (.bool true) ∧ Below w.heap.size w w' := by
  have A1 := Lib.hid (fun w ht => extend_no op (fun j hj => hn j (by omega)) v w ht)
  have A2 := Lib.hid (fun w => refextend_no op (fun j hj => hn j (by omega)) v w)
  have A3 := Lib.hid (fun w ht => keep_no op (fun j h7 hj => hn j hj) v w ht)
  have A4 := Lib.hid (fun w => refkeep_no op (fun j h7 hj => hn j hj) v w)
  have A5 := Lib.hid (fun w ht => bytes_none op hn w ht)
  have A6 := Lib.hid (fun w => refbytes_no op hn w)
  have HT := Lib.hid ht
  clear hn hv ht
  go_enter Tryd.func4, Tryd.ntmps4
  go_wp2_with fail
  refine (A1.out _ HT.out).mono ?_
  rintro e w1 ⟨g, rfl, g0, g1, g2, k1⟩
  have hg1 := World.block_lt_of_cell? w1 _ g0
  have T1 := Lib.hid (HT.out.after k1)
  have s1 := k1.size
  go_wp2_with fail
  refine (A2.out _).mono ?_
  rintro e w2 ⟨d, m, rfl, d0, d1, k2⟩
  have hd2 := World.block_lt_of_cell? w2 _ d0
  have T2 := Lib.hid (T1.out.after k2)
  have j2 := k1.trans (k2.mono k1.size)
  have s2 := k2.size
  go_wp2_with fail
  refine (A3.out _ (T2.out.alloc _)).mono ?_
  rintro e w3 ⟨g', rfl, g0', g1', g2', k3⟩
  have hg3 := World.block_lt_of_cell? w3 _ g0'
  have T3 := Lib.hid ((T2.out.alloc _).after k3)
  obtain ⟨z3, c3, f3, j3⟩ := after_alloc k3
  have c30 := c3 0 _ rfl
  have c31 := c3 1 _ rfl
  clear c3 f3
  have s3 := j3.size
  go_wp2_with fail
  refine (A4.out _).mono ?_
  rintro e w4 ⟨d', m', rfl, d0', d1', k4⟩
  have hd4 := World.block_lt_of_cell? w4 _ d0'
  have T4 := Lib.hid (T3.out.after k4)
  have s4 := k4.size
  go_wp2_with fail
  refine (A5.out _ (T4.out.alloc _)).mono ?_
  rintro e w5 ⟨rfl, k5⟩
  obtain ⟨z5, c5, f5, j5⟩ := after_alloc k5
  have c50 := c5 0 _ rfl
  have c51 := c5 1 _ rfl
  clear c5 f5
  have s5 := j5.size
  have far2 : ∀ b o v, b < w2.heap.size → w2.cell? ⟨b, o, none⟩ = some v → w5.cell? ⟨b, o, none⟩ = some v := fun b o v hb hv => by
    rw [j5.cell (by show b < _; omega), k4.cell (by show b < _; omega), j3.cell (by exact hb)]; exact hv
  have far3 : ∀ b o v, b < w3.heap.size → w3.cell? ⟨b, o, none⟩ = some v → w5.cell? ⟨b, o, none⟩ = some v := fun b o v hb hv => by
    rw [j5.cell (by show b < _; omega), k4.cell (by exact hb)]; exact hv
  have far4 : ∀ b o v, b < w4.heap.size → w4.cell? ⟨b, o, none⟩ = some v → w5.cell? ⟨b, o, none⟩ = some v := fun b o v hb hv => by
    rw [j5.cell (by exact hb)]; exact hv
  have b0 := far3 _ _ _ z3 c30
  have b1 := far3 _ _ _ z3 c31
  clear c30 c31
  have hg2 : g < w2.heap.size := by omega
  have far1 : ∀ o v, w1.cell? ⟨g, o, none⟩ = some v → w5.cell? ⟨g, o, none⟩ = some v := fun o v hv => far2 _ _ _ hg2 (by rw [k2.cell (by exact hg1)]; exact hv)
  have F1 := Lib.hid (And.intro (And.intro (far1 _ _ g0) (And.intro (far1 _ _ g1) (far1 _ _ g2))) (And.intro (far2 _ _ _ hd2 d0) (far2 _ _ _ hd2 d1)))
  clear far1 g0 g1 g2 d0 d1
  have F2 := Lib.hid (And.intro (And.intro (far3 _ _ _ hg3 g0') (And.intro (far3 _ _ _ hg3 g1') (far3 _ _ _ hg3 g2'))) (And.intro (far4 _ _ _ hd4 d0') (far4 _ _ _ hd4 d1')))
  clear g0' g1' g2' d0' d1'
  clear far2 far3 far4
  have j4 := (j2.trans (j3.mono (by omega))).trans (k4.mono (by omega))
  have j5' := j4.trans (j5.mono (by omega))
  have zb : w2.heap.size < w5.heap.size := by omega
  have zc : w4.heap.size < w5.heap.size := by omega
  go_wp2_with fail
  refine (A6.out _).mono ?_
  rintro e w6 ⟨rfl, rfl⟩
  go_wp2_with fail
  refine (is_fault g 0 d m ⟨#[97, 108, 117]⟩ 0 40 _ F1.out.1.1 F1.out.1.2.1 F1.out.1.2.2 rfl F1.out.2.1 F1.out.2.2).mono ?_
  rintro e w7 ⟨rfl, k7⟩
  have s7 := k7.size
  have q0 : w7.cell? ⟨w4.heap.size, 0, none⟩ = _ := (k7.cell (p := ⟨w4.heap.size, 0, none⟩) zc).trans c50
  have q1 : w7.cell? ⟨w4.heap.size, 1, none⟩ = _ := (k7.cell (p := ⟨w4.heap.size, 1, none⟩) zc).trans c51
  clear c50 c51 b0 b1
  have far7 : ∀ b o v, w6.cell? ⟨b, o, none⟩ = some v → w7.cell? ⟨b, o, none⟩ = some v := fun b o v hv => by
    rw [k7.cell (World.block_lt_of_cell? w6 _ hv)]; exact hv
  have F3 := Lib.hid (And.intro (And.intro (far7 _ _ _ F2.out.1.1) (And.intro (far7 _ _ _ F2.out.1.2.1) (far7 _ _ _ F2.out.1.2.2))) (And.intro (far7 _ _ _ F2.out.2.1) (far7 _ _ _ F2.out.2.2)))
  clear far7
  go_wp2_with fail
  refine (is_fault g' 0 d' m' ⟨#[97, 108, 117]⟩ 0 40 _ F3.out.1.1 F3.out.1.2.1 F3.out.1.2.2 rfl F3.out.2.1 F3.out.2.2).mono ?_
  rintro e w8 ⟨rfl, k8⟩
  go_wp2_with fail
  go_ret
  exact ⟨rfl, (j5'.trans (k7.mono (by omega))).trans (k8.mono (by omega))⟩
theorem law_moves (op v : Int) (hv : Word v) (w : World) (ht : Tab w) :
    Calls Tryd.prog 4 #[.int .i64 op, .int .u64 v] w fun e w' => e = .returned (.bool true) ∧ Below w.heap.size w w' := by
  by_cases h : 11 ≤ op ∧ op < 22
  · obtain ⟨k, hk⟩ : ∃ k : Nat, op = 11 + (k : Int) := ⟨(op - 11).toNat, by omega⟩
    subst hk
    by_cases h7 : k < 7
    · exact moves_load k h7 v hv w ht
    · exact moves_store k (by omega) (by omega) v hv w ht
  · exact moves_none op (fun k hk => by omega) v hv w ht
end Go.Proofs.YtdlhapjlpkadnaaDoor
