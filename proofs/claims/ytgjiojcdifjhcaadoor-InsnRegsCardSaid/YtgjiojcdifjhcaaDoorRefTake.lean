/- The document's cut, signed, taken and guess: walked. By an AI agent; printed by wip/gen_reftake.py. -/
import Derived.Test.YtgjiojcdifjhcaaDoorTake
import Derived.Test.YtgjiojcdifjhcaaDoorRefSmall
set_option linter.unusedVariables false
set_option linter.unusedSimpArgs false
namespace Go.Proofs.YtgjiojcdifjhcaaDoor
open Go.RowKit
theorem cut_any (W : Int) (hi lo n : Nat) (w0 : 0 ≤ W) (w1 : W < 4294967296) (hn : hi + 1 = lo + n) (h20 : n ≤ 20) (hhi : hi ≤ 31) (w : World) : Calls Tryd.prog 55 #[.int .u32 W, .int .i64 (hi : Int), .int .i64 (lo : Int)] w fun e w' => e = .returned (.int .u32 (W / 2 ^ lo % 2 ^ n)) ∧ w' = w := by
  have HP := Lib.hid (bits_val W lo n w0 w1 h20)
  have a1 : (0 : Int) ≤ (hi : Int) := by omega
  have a2 : (0 : Int) ≤ (lo : Int) := by omega
  have b1 : (hi : Int) ≤ 31 := by omega
  have b2 : (lo : Int) ≤ 32 := by omega
  have c1 : (hi : Int) - lo + 1 = n := by omega
  go_enter Tryd.func55, Tryd.ntmps55
  go_wp2_with fail
  go_ret
  exact ⟨ret_int HP.out, rfl⟩
theorem cut_lit (W : Int) (hi lo n : Nat) (L N : Int) (w0 : 0 ≤ W) (w1 : W < 4294967296) (hn : hi + 1 = lo + n) (h20 : n ≤ 20) (hhi : hi ≤ 31) (eL : (2 : Int) ^ lo = L) (eN : (2 : Int) ^ n = N) (w : World) : Calls Tryd.prog 55 #[.int .u32 W, .int .i64 (hi : Int), .int .i64 (lo : Int)] w fun e w' => e = .returned (.int .u32 (W / L % N)) ∧ w' = w := by
  subst eL eN; exact cut_any W hi lo n w0 w1 hn h20 hhi w
theorem refsigned_12 (x : Int) (x0 : 0 ≤ x) (x1 : x < 4096) (w : World) : Calls Tryd.prog 80 #[.int .u32 x, .int .i64 12] w (IntPost (sg x 2048 4096) w) := by
  by_cases h : 2048 ≤ x
  · have E := Lib.hid (show sg x 2048 4096 = x - 4096 by unfold sg; rw [if_pos h])
    go_enter Tryd.func80, Tryd.ntmps80
    go_wp2_with fail
    go_ret
    exact int_given E.out.symm (Below.refl _ _)
  · have E := Lib.hid (show sg x 2048 4096 = x by unfold sg; rw [if_neg h])
    go_enter Tryd.func80, Tryd.ntmps80
    go_wp2_with fail
    go_ret
    exact int_given E.out.symm (Below.refl _ _)
theorem refsigned_13 (x : Int) (x0 : 0 ≤ x) (x1 : x < 8192) (w : World) : Calls Tryd.prog 80 #[.int .u32 x, .int .i64 13] w (IntPost (sg x 4096 8192) w) := by
  by_cases h : 4096 ≤ x
  · have E := Lib.hid (show sg x 4096 8192 = x - 8192 by unfold sg; rw [if_pos h])
    go_enter Tryd.func80, Tryd.ntmps80
    go_wp2_with fail
    go_ret
    exact int_given E.out.symm (Below.refl _ _)
  · have E := Lib.hid (show sg x 4096 8192 = x by unfold sg; rw [if_neg h])
    go_enter Tryd.func80, Tryd.ntmps80
    go_wp2_with fail
    go_ret
    exact int_given E.out.symm (Below.refl _ _)
theorem refsigned_21 (x : Int) (x0 : 0 ≤ x) (x1 : x < 2097152) (w : World) : Calls Tryd.prog 80 #[.int .u32 x, .int .i64 21] w (IntPost (sg x 1048576 2097152) w) := by
  by_cases h : 1048576 ≤ x
  · have E := Lib.hid (show sg x 1048576 2097152 = x - 2097152 by unfold sg; rw [if_pos h])
    go_enter Tryd.func80, Tryd.ntmps80
    go_wp2_with fail
    go_ret
    exact int_given E.out.symm (Below.refl _ _)
  · have E := Lib.hid (show sg x 1048576 2097152 = x by unfold sg; rw [if_neg h])
    go_enter Tryd.func80, Tryd.ntmps80
    go_wp2_with fail
    go_ret
    exact int_given E.out.symm (Below.refl _ _)
theorem refsigned_32 (x : Int) (x0 : 0 ≤ x) (x1 : x < 4294967296) (w : World) : Calls Tryd.prog 80 #[.int .u32 x, .int .i64 32] w (IntPost (sg x 2147483648 4294967296) w) := by
  by_cases h : 2147483648 ≤ x
  · have E := Lib.hid (show sg x 2147483648 4294967296 = x - 4294967296 by unfold sg; rw [if_pos h])
    go_enter Tryd.func80, Tryd.ntmps80
    go_wp2_with fail
    go_ret
    exact int_given E.out.symm (Below.refl _ _)
  · have E := Lib.hid (show sg x 2147483648 4294967296 = x by unfold sg; rw [if_neg h])
    go_enter Tryd.func80, Tryd.ntmps80
    go_wp2_with fail
    go_ret
    exact int_given E.out.symm (Below.refl _ _)
set_option maxRecDepth 100000 in
set_option maxHeartbeats 4000000 in
theorem taken_at (s : Nat) (s1 : 1 ≤ s) (s2 : s ≤ 14) (W : Int) (w0 : 0 ≤ W) (w1 : W < 4294967296) (w : World) : Calls Tryd.prog 79 #[.int .i64 s, .int .u32 W] w (IntPost (tkI s W) w) := by
  rcases s14 s s1 s2 with rfl | rfl | rfl | rfl | rfl | rfl | rfl | rfl | rfl | rfl | rfl | rfl | rfl | rfl
  · clear s1 s2
    go_enter Tryd.func79, Tryd.ntmps79
    go_wp2_with fail
    go_ret
    exact int_given rfl (Below.refl _ _)
  · clear s1 s2
    have E := Lib.hid (show sg (W / 1048576 % 4096) 2048 4096 = tkI 2 W by simp only [tkI]; done)
    have X := Lib.hid (show 0 ≤ W / 1048576 % 4096 ∧ W / 1048576 % 4096 < 4096 by omega)
    go_enter Tryd.func79, Tryd.ntmps79
    go_wp2_with fail
    refine (cut_lit W 31 20 12 1048576 4096 w0 w1 (by decide) (by decide) (by decide) rfl rfl _).mono ?_
    rintro e u ⟨rfl, rfl⟩
    go_wp2_with fail
    refine (refsigned_12 _ X.out.1 X.out.2 _).mono ?_
    rintro e u ⟨rfl, hb⟩
    go_wp2_with fail
    go_ret
    exact int_given E.out hb
  · clear s1 s2
    go_enter Tryd.func79, Tryd.ntmps79
    go_wp2_with fail
    refine (cut_lit W 25 20 6 1048576 64 w0 w1 (by decide) (by decide) (by decide) rfl rfl _).mono ?_
    rintro e u ⟨rfl, rfl⟩
    go_wp2_with fail
    go_ret
    exact int_given rfl (Below.refl _ _)
  · clear s1 s2
    go_enter Tryd.func79, Tryd.ntmps79
    go_wp2_with fail
    refine (cut_lit W 24 20 5 1048576 32 w0 w1 (by decide) (by decide) (by decide) rfl rfl _).mono ?_
    rintro e u ⟨rfl, rfl⟩
    go_wp2_with fail
    go_ret
    exact int_given rfl (Below.refl _ _)
  · clear s1 s2
    have E := Lib.hid (show sg (W / 1048576 % 4096) 2048 4096 = tkI 5 W by simp only [tkI]; done)
    have X := Lib.hid (show 0 ≤ W / 1048576 % 4096 ∧ W / 1048576 % 4096 < 4096 by omega)
    go_enter Tryd.func79, Tryd.ntmps79
    go_wp2_with fail
    refine (cut_lit W 31 20 12 1048576 4096 w0 w1 (by decide) (by decide) (by decide) rfl rfl _).mono ?_
    rintro e u ⟨rfl, rfl⟩
    go_wp2_with fail
    refine (refsigned_12 _ X.out.1 X.out.2 _).mono ?_
    rintro e u ⟨rfl, hb⟩
    go_wp2_with fail
    go_ret
    exact int_given E.out hb
  · clear s1 s2
    have E := Lib.hid (show sg (W / 33554432 % 128 * 32 + W / 128 % 32) 2048 4096 = tkI 6 W by simp only [tkI]; unfold sg; split <;> split <;> omega)
    have X := Lib.hid (show 0 ≤ W / 33554432 % 128 * 32 + W / 128 % 32 ∧ W / 33554432 % 128 * 32 + W / 128 % 32 < 4096 by omega)
    go_enter Tryd.func79, Tryd.ntmps79
    go_wp2_with fail
    refine (cut_lit W 31 25 7 33554432 128 w0 w1 (by decide) (by decide) (by decide) rfl rfl _).mono ?_
    rintro e u ⟨rfl, rfl⟩
    go_wp2_with fail
    refine (cut_lit W 11 7 5 128 32 w0 w1 (by decide) (by decide) (by decide) rfl rfl _).mono ?_
    rintro e u ⟨rfl, rfl⟩
    go_wp2_with fail
    refine (refsigned_12 _ X.out.1 X.out.2 _).mono ?_
    rintro e u ⟨rfl, hb⟩
    go_wp2_with fail
    go_ret
    exact int_given E.out hb
  · clear s1 s2
    have E := Lib.hid (show sg (W / 2147483648 % 2 * 4096 + W / 128 % 2 * 2048 + W / 33554432 % 64 * 32 + W / 256 % 16 * 2) 4096 8192 = tkI 7 W by simp only [tkI]; unfold sg; split <;> split <;> omega)
    have X := Lib.hid (show 0 ≤ W / 2147483648 % 2 * 4096 + W / 128 % 2 * 2048 + W / 33554432 % 64 * 32 + W / 256 % 16 * 2 ∧ W / 2147483648 % 2 * 4096 + W / 128 % 2 * 2048 + W / 33554432 % 64 * 32 + W / 256 % 16 * 2 < 8192 by omega)
    go_enter Tryd.func79, Tryd.ntmps79
    go_wp2_with fail
    refine (cut_lit W 31 31 1 2147483648 2 w0 w1 (by decide) (by decide) (by decide) rfl rfl _).mono ?_
    rintro e u ⟨rfl, rfl⟩
    go_wp2_with fail
    refine (cut_lit W 7 7 1 128 2 w0 w1 (by decide) (by decide) (by decide) rfl rfl _).mono ?_
    rintro e u ⟨rfl, rfl⟩
    go_wp2_with fail
    refine (cut_lit W 30 25 6 33554432 64 w0 w1 (by decide) (by decide) (by decide) rfl rfl _).mono ?_
    rintro e u ⟨rfl, rfl⟩
    go_wp2_with fail
    refine (cut_lit W 11 8 4 256 16 w0 w1 (by decide) (by decide) (by decide) rfl rfl _).mono ?_
    rintro e u ⟨rfl, rfl⟩
    go_wp2_with fail
    refine (refsigned_13 _ X.out.1 X.out.2 _).mono ?_
    rintro e u ⟨rfl, hb⟩
    go_wp2_with fail
    go_ret
    exact int_given E.out hb
  · clear s1 s2
    have E := Lib.hid (show sg (W / 4096 % 1048576 * 4096) 2147483648 4294967296 = tkI 8 W by simp only [tkI]; unfold sg; split <;> split <;> omega)
    have X := Lib.hid (show 0 ≤ W / 4096 % 1048576 * 4096 ∧ W / 4096 % 1048576 * 4096 < 4294967296 by omega)
    go_enter Tryd.func79, Tryd.ntmps79
    go_wp2_with fail
    refine (cut_lit W 31 12 20 4096 1048576 w0 w1 (by decide) (by decide) (by decide) rfl rfl _).mono ?_
    rintro e u ⟨rfl, rfl⟩
    go_wp2_with fail
    refine (refsigned_32 _ X.out.1 X.out.2 _).mono ?_
    rintro e u ⟨rfl, hb⟩
    go_wp2_with fail
    go_ret
    exact int_given E.out hb
  · clear s1 s2
    have E := Lib.hid (show sg (W / 2147483648 % 2 * 1048576 + W / 4096 % 256 * 4096 + W / 1048576 % 2 * 2048 + W / 2097152 % 1024 * 2) 1048576 2097152 = tkI 9 W by simp only [tkI]; unfold sg; split <;> split <;> omega)
    have X := Lib.hid (show 0 ≤ W / 2147483648 % 2 * 1048576 + W / 4096 % 256 * 4096 + W / 1048576 % 2 * 2048 + W / 2097152 % 1024 * 2 ∧ W / 2147483648 % 2 * 1048576 + W / 4096 % 256 * 4096 + W / 1048576 % 2 * 2048 + W / 2097152 % 1024 * 2 < 2097152 by omega)
    go_enter Tryd.func79, Tryd.ntmps79
    go_wp2_with fail
    refine (cut_lit W 31 31 1 2147483648 2 w0 w1 (by decide) (by decide) (by decide) rfl rfl _).mono ?_
    rintro e u ⟨rfl, rfl⟩
    go_wp2_with fail
    refine (cut_lit W 19 12 8 4096 256 w0 w1 (by decide) (by decide) (by decide) rfl rfl _).mono ?_
    rintro e u ⟨rfl, rfl⟩
    go_wp2_with fail
    refine (cut_lit W 20 20 1 1048576 2 w0 w1 (by decide) (by decide) (by decide) rfl rfl _).mono ?_
    rintro e u ⟨rfl, rfl⟩
    go_wp2_with fail
    refine (cut_lit W 30 21 10 2097152 1024 w0 w1 (by decide) (by decide) (by decide) rfl rfl _).mono ?_
    rintro e u ⟨rfl, rfl⟩
    go_wp2_with fail
    refine (refsigned_21 _ X.out.1 X.out.2 _).mono ?_
    rintro e u ⟨rfl, hb⟩
    go_wp2_with fail
    go_ret
    exact int_given E.out hb
  · clear s1 s2
    go_enter Tryd.func79, Tryd.ntmps79
    go_wp2_with fail
    refine (cut_lit W 31 20 12 1048576 4096 w0 w1 (by decide) (by decide) (by decide) rfl rfl _).mono ?_
    rintro e u ⟨rfl, rfl⟩
    go_wp2_with fail
    go_ret
    exact int_given rfl (Below.refl _ _)
  · clear s1 s2
    go_enter Tryd.func79, Tryd.ntmps79
    go_wp2_with fail
    go_ret
    exact int_given rfl (Below.refl _ _)
  · clear s1 s2
    go_enter Tryd.func79, Tryd.ntmps79
    go_wp2_with fail
    go_ret
    exact int_given rfl (Below.refl _ _)
  · clear s1 s2
    go_enter Tryd.func79, Tryd.ntmps79
    go_wp2_with fail
    go_ret
    exact int_given rfl (Below.refl _ _)
  · clear s1 s2
    go_enter Tryd.func79, Tryd.ntmps79
    go_wp2_with fail
    refine (cut_lit W 19 15 5 32768 32 w0 w1 (by decide) (by decide) (by decide) rfl rfl _).mono ?_
    rintro e u ⟨rfl, rfl⟩
    go_wp2_with fail
    go_ret
    exact int_given rfl (Below.refl _ _)
def insnOf (op : Int) (s : Nat) (W : Int) : Value := .agg #[.int .i64 op, .int .i64 (fieldOf s 0 W), .int .i64 (fieldOf s 1 W), .int .i64 (fieldOf s 2 W), .int .i64 (tkI s W), .int .i64 (fieldOf s 3 W)]
def AggPost (v : Value) (w : World) (e : Ending) (w' : World) : Prop := e = .returned v ∧ Below w.heap.size w w'

theorem fo_1_0 (W : Int) : fieldOf 1 0 W = W / 128 % 32 := rfl
theorem fo_1_1 (W : Int) : fieldOf 1 1 W = W / 32768 % 32 := rfl
theorem fo_1_2 (W : Int) : fieldOf 1 2 W = W / 1048576 % 32 := rfl
theorem fo_1_3 (W : Int) : fieldOf 1 3 W = 0 := rfl
theorem insnOf_1 (op W tk : Int) (h : tkI 1 W = tk) : insnOf op 1 W = .agg #[.int .i64 op, .int .i64 (W / 128 % 32), .int .i64 (W / 32768 % 32), .int .i64 (W / 1048576 % 32), .int .i64 tk, .int .i64 (0)] := by
  subst h; unfold insnOf; rw [fo_1_0, fo_1_1, fo_1_2, fo_1_3]
set_option maxRecDepth 100000 in
set_option maxHeartbeats 4000000 in
theorem guess_1 (op W : Int) (w0 : 0 ≤ W) (w1 : W < 4294967296) (w : World) : Calls Tryd.prog 56 #[.int .i64 op, .int .i64 1, .int .u32 W] w (AggPost (insnOf op 1 W) w) := by
    have HH := Lib.hid (fun w => has_at 1 (by decide) (by decide) w)
    have HT := Lib.hid (fun w => taken_at 1 (by decide) (by decide) W w0 w1 w)
    go_enter Tryd.func56, Tryd.ntmps56
    go_wp2_with fail
    refine (HH.out _).mono ?_
    rintro e u1 ⟨rfl, hb1⟩
    rw [show hasCells 1 = #[.bool true, .bool true, .bool true, .bool false, .bool false] from rfl]
    obtain ⟨hc1, hf1⟩ := bcell hb1
    have hz1 := hb1.size
    simp only [World.size_alloc] at hc1 hf1 hz1
    have z1 : w.heap.size < u1.heap.size := by omega
    have B1 := Lib.hid (((Below.refl _ _).alloc (Nat.le_refl _) _).trans (hb1.mono (by simp)))
    clear hb1
    go_wp2_with fail
    refine (HT.out _).mono ?_
    rintro e u2 ⟨rfl, hb2⟩
    obtain ⟨hc2, hf2⟩ := bcell hb2
    have hz2 := hb2.size
    simp only [World.size_alloc] at hc2 hf2 hz2
    have z2 : u1.heap.size < u2.heap.size := by omega
    have z3 : w.heap.size < u2.heap.size := by omega
    have z4 : u1.heap.size < u2.heap.size + 1 := by omega
    have z5 : w.heap.size < u2.heap.size + 1 := by omega
    have B2 := Lib.hid ((B1.out.alloc (by omega) _).trans (hb2.mono (by simp; omega)))
    clear hb2
    generalize ht : tkI 1 W = tk at *
    have HI := Lib.hid (insnOf_1 op W tk ht)
    clear ht
    have p0 : u2.cell? ⟨w.heap.size, 0, none⟩ = some (.int .i64 0) := by rw [hc2 _ _ (by omega)]; simp [go_sem, hc1, z1]
    have p1 : u2.cell? ⟨w.heap.size, 1, none⟩ = some (.int .i64 0) := by rw [hc2 _ _ (by omega)]; simp [go_sem, hc1, z1]
    have p2 : u2.cell? ⟨w.heap.size, 2, none⟩ = some (.int .i64 0) := by rw [hc2 _ _ (by omega)]; simp [go_sem, hc1, z1]
    have p3 : u2.cell? ⟨w.heap.size, 3, none⟩ = some (.int .i64 0) := by rw [hc2 _ _ (by omega)]; simp [go_sem, hc1, z1]
    have p4 : u2.cell? ⟨w.heap.size, 4, none⟩ = some (.int .i64 0) := by rw [hc2 _ _ (by omega)]; simp [go_sem, hc1, z1]
    have p5 : u2.cell? ⟨w.heap.size, 5, none⟩ = some (.int .i64 0) := by rw [hc2 _ _ (by omega)]; simp [go_sem, hc1, z1]
    have r0 : u2.frozen? ⟨w.heap.size, 0, none⟩ = false := by rw [hf2 _ _ (by omega)]; simp [go_sem, hf1, z1]
    have r1 : u2.frozen? ⟨w.heap.size, 1, none⟩ = false := by rw [hf2 _ _ (by omega)]; simp [go_sem, hf1, z1]
    have r2 : u2.frozen? ⟨w.heap.size, 2, none⟩ = false := by rw [hf2 _ _ (by omega)]; simp [go_sem, hf1, z1]
    have r3 : u2.frozen? ⟨w.heap.size, 3, none⟩ = false := by rw [hf2 _ _ (by omega)]; simp [go_sem, hf1, z1]
    have r4 : u2.frozen? ⟨w.heap.size, 4, none⟩ = false := by rw [hf2 _ _ (by omega)]; simp [go_sem, hf1, z1]
    have r5 : u2.frozen? ⟨w.heap.size, 5, none⟩ = false := by rw [hf2 _ _ (by omega)]; simp [go_sem, hf1, z1]
    go_wp2_with fail
    refine (cut_lit W 11 7 5 128 32 w0 w1 (by decide) (by decide) (by decide) rfl rfl _).mono ?_
    rintro e u ⟨rfl, rfl⟩
    go_wp2_with fail
    refine (cut_lit W 19 15 5 32768 32 w0 w1 (by decide) (by decide) (by decide) rfl rfl _).mono ?_
    rintro e u ⟨rfl, rfl⟩
    go_wp2_with fail
    refine (cut_lit W 24 20 5 1048576 32 w0 w1 (by decide) (by decide) (by decide) rfl rfl _).mono ?_
    rintro e u ⟨rfl, rfl⟩
    go_wp2_with fail
    refine bodyPost_ret (v := .agg #[.int .i64 op, .int .i64 (W / 128 % 32), .int .i64 (W / 32768 % 32), .int .i64 (W / 1048576 % 32), .int .i64 tk, .int .i64 (0)]) (by simp [results, Tryd.results56, go_sem, p0, p1, p2, p3, p4, p5, r0, r1, r2, r3, r4, r5, z1, z2, z3]) rfl ⟨by rw [HI.out], ?_⟩
    exact ((((((B2.out.setCell (Nat.le_refl _) _).setCell (Nat.le_refl _) _).setCell (Nat.le_refl _) _).setCell (Nat.le_refl _) _).setCell (Nat.le_refl _) _).setCell (Nat.le_refl _) _).alloc (by simp only [World.size_setCell]; exact Nat.le_of_lt z3) _
theorem fo_2_0 (W : Int) : fieldOf 2 0 W = W / 128 % 32 := rfl
theorem fo_2_1 (W : Int) : fieldOf 2 1 W = W / 32768 % 32 := rfl
theorem fo_2_2 (W : Int) : fieldOf 2 2 W = 0 := rfl
theorem fo_2_3 (W : Int) : fieldOf 2 3 W = 0 := rfl
theorem insnOf_2 (op W tk : Int) (h : tkI 2 W = tk) : insnOf op 2 W = .agg #[.int .i64 op, .int .i64 (W / 128 % 32), .int .i64 (W / 32768 % 32), .int .i64 (0), .int .i64 tk, .int .i64 (0)] := by
  subst h; unfold insnOf; rw [fo_2_0, fo_2_1, fo_2_2, fo_2_3]
set_option maxRecDepth 100000 in
set_option maxHeartbeats 4000000 in
theorem guess_2 (op W : Int) (w0 : 0 ≤ W) (w1 : W < 4294967296) (w : World) : Calls Tryd.prog 56 #[.int .i64 op, .int .i64 2, .int .u32 W] w (AggPost (insnOf op 2 W) w) := by
    have HH := Lib.hid (fun w => has_at 2 (by decide) (by decide) w)
    have HT := Lib.hid (fun w => taken_at 2 (by decide) (by decide) W w0 w1 w)
    go_enter Tryd.func56, Tryd.ntmps56
    go_wp2_with fail
    refine (HH.out _).mono ?_
    rintro e u1 ⟨rfl, hb1⟩
    rw [show hasCells 2 = #[.bool true, .bool true, .bool false, .bool true, .bool false] from rfl]
    obtain ⟨hc1, hf1⟩ := bcell hb1
    have hz1 := hb1.size
    simp only [World.size_alloc] at hc1 hf1 hz1
    have z1 : w.heap.size < u1.heap.size := by omega
    have B1 := Lib.hid (((Below.refl _ _).alloc (Nat.le_refl _) _).trans (hb1.mono (by simp)))
    clear hb1
    go_wp2_with fail
    refine (HT.out _).mono ?_
    rintro e u2 ⟨rfl, hb2⟩
    obtain ⟨hc2, hf2⟩ := bcell hb2
    have hz2 := hb2.size
    simp only [World.size_alloc] at hc2 hf2 hz2
    have z2 : u1.heap.size < u2.heap.size := by omega
    have z3 : w.heap.size < u2.heap.size := by omega
    have z4 : u1.heap.size < u2.heap.size + 1 := by omega
    have z5 : w.heap.size < u2.heap.size + 1 := by omega
    have B2 := Lib.hid ((B1.out.alloc (by omega) _).trans (hb2.mono (by simp; omega)))
    clear hb2
    generalize ht : tkI 2 W = tk at *
    have HI := Lib.hid (insnOf_2 op W tk ht)
    clear ht
    have p0 : u2.cell? ⟨w.heap.size, 0, none⟩ = some (.int .i64 0) := by rw [hc2 _ _ (by omega)]; simp [go_sem, hc1, z1]
    have p1 : u2.cell? ⟨w.heap.size, 1, none⟩ = some (.int .i64 0) := by rw [hc2 _ _ (by omega)]; simp [go_sem, hc1, z1]
    have p2 : u2.cell? ⟨w.heap.size, 2, none⟩ = some (.int .i64 0) := by rw [hc2 _ _ (by omega)]; simp [go_sem, hc1, z1]
    have p3 : u2.cell? ⟨w.heap.size, 3, none⟩ = some (.int .i64 0) := by rw [hc2 _ _ (by omega)]; simp [go_sem, hc1, z1]
    have p4 : u2.cell? ⟨w.heap.size, 4, none⟩ = some (.int .i64 0) := by rw [hc2 _ _ (by omega)]; simp [go_sem, hc1, z1]
    have p5 : u2.cell? ⟨w.heap.size, 5, none⟩ = some (.int .i64 0) := by rw [hc2 _ _ (by omega)]; simp [go_sem, hc1, z1]
    have r0 : u2.frozen? ⟨w.heap.size, 0, none⟩ = false := by rw [hf2 _ _ (by omega)]; simp [go_sem, hf1, z1]
    have r1 : u2.frozen? ⟨w.heap.size, 1, none⟩ = false := by rw [hf2 _ _ (by omega)]; simp [go_sem, hf1, z1]
    have r2 : u2.frozen? ⟨w.heap.size, 2, none⟩ = false := by rw [hf2 _ _ (by omega)]; simp [go_sem, hf1, z1]
    have r3 : u2.frozen? ⟨w.heap.size, 3, none⟩ = false := by rw [hf2 _ _ (by omega)]; simp [go_sem, hf1, z1]
    have r4 : u2.frozen? ⟨w.heap.size, 4, none⟩ = false := by rw [hf2 _ _ (by omega)]; simp [go_sem, hf1, z1]
    have r5 : u2.frozen? ⟨w.heap.size, 5, none⟩ = false := by rw [hf2 _ _ (by omega)]; simp [go_sem, hf1, z1]
    go_wp2_with fail
    refine (cut_lit W 11 7 5 128 32 w0 w1 (by decide) (by decide) (by decide) rfl rfl _).mono ?_
    rintro e u ⟨rfl, rfl⟩
    go_wp2_with fail
    refine (cut_lit W 19 15 5 32768 32 w0 w1 (by decide) (by decide) (by decide) rfl rfl _).mono ?_
    rintro e u ⟨rfl, rfl⟩
    go_wp2_with fail
    refine bodyPost_ret (v := .agg #[.int .i64 op, .int .i64 (W / 128 % 32), .int .i64 (W / 32768 % 32), .int .i64 (0), .int .i64 tk, .int .i64 (0)]) (by simp [results, Tryd.results56, go_sem, p0, p1, p2, p3, p4, p5, r0, r1, r2, r3, r4, r5, z1, z2, z3]) rfl ⟨by rw [HI.out], ?_⟩
    exact ((((((B2.out.setCell (Nat.le_refl _) _).setCell (Nat.le_refl _) _).setCell (Nat.le_refl _) _).setCell (Nat.le_refl _) _).setCell (Nat.le_refl _) _).setCell (Nat.le_refl _) _).alloc (by simp only [World.size_setCell]; exact Nat.le_of_lt z3) _
theorem fo_3_0 (W : Int) : fieldOf 3 0 W = W / 128 % 32 := rfl
theorem fo_3_1 (W : Int) : fieldOf 3 1 W = W / 32768 % 32 := rfl
theorem fo_3_2 (W : Int) : fieldOf 3 2 W = 0 := rfl
theorem fo_3_3 (W : Int) : fieldOf 3 3 W = 0 := rfl
theorem insnOf_3 (op W tk : Int) (h : tkI 3 W = tk) : insnOf op 3 W = .agg #[.int .i64 op, .int .i64 (W / 128 % 32), .int .i64 (W / 32768 % 32), .int .i64 (0), .int .i64 tk, .int .i64 (0)] := by
  subst h; unfold insnOf; rw [fo_3_0, fo_3_1, fo_3_2, fo_3_3]
set_option maxRecDepth 100000 in
set_option maxHeartbeats 4000000 in
theorem guess_3 (op W : Int) (w0 : 0 ≤ W) (w1 : W < 4294967296) (w : World) : Calls Tryd.prog 56 #[.int .i64 op, .int .i64 3, .int .u32 W] w (AggPost (insnOf op 3 W) w) := by
    have HH := Lib.hid (fun w => has_at 3 (by decide) (by decide) w)
    have HT := Lib.hid (fun w => taken_at 3 (by decide) (by decide) W w0 w1 w)
    go_enter Tryd.func56, Tryd.ntmps56
    go_wp2_with fail
    refine (HH.out _).mono ?_
    rintro e u1 ⟨rfl, hb1⟩
    rw [show hasCells 3 = #[.bool true, .bool true, .bool false, .bool true, .bool false] from rfl]
    obtain ⟨hc1, hf1⟩ := bcell hb1
    have hz1 := hb1.size
    simp only [World.size_alloc] at hc1 hf1 hz1
    have z1 : w.heap.size < u1.heap.size := by omega
    have B1 := Lib.hid (((Below.refl _ _).alloc (Nat.le_refl _) _).trans (hb1.mono (by simp)))
    clear hb1
    go_wp2_with fail
    refine (HT.out _).mono ?_
    rintro e u2 ⟨rfl, hb2⟩
    obtain ⟨hc2, hf2⟩ := bcell hb2
    have hz2 := hb2.size
    simp only [World.size_alloc] at hc2 hf2 hz2
    have z2 : u1.heap.size < u2.heap.size := by omega
    have z3 : w.heap.size < u2.heap.size := by omega
    have z4 : u1.heap.size < u2.heap.size + 1 := by omega
    have z5 : w.heap.size < u2.heap.size + 1 := by omega
    have B2 := Lib.hid ((B1.out.alloc (by omega) _).trans (hb2.mono (by simp; omega)))
    clear hb2
    generalize ht : tkI 3 W = tk at *
    have HI := Lib.hid (insnOf_3 op W tk ht)
    clear ht
    have p0 : u2.cell? ⟨w.heap.size, 0, none⟩ = some (.int .i64 0) := by rw [hc2 _ _ (by omega)]; simp [go_sem, hc1, z1]
    have p1 : u2.cell? ⟨w.heap.size, 1, none⟩ = some (.int .i64 0) := by rw [hc2 _ _ (by omega)]; simp [go_sem, hc1, z1]
    have p2 : u2.cell? ⟨w.heap.size, 2, none⟩ = some (.int .i64 0) := by rw [hc2 _ _ (by omega)]; simp [go_sem, hc1, z1]
    have p3 : u2.cell? ⟨w.heap.size, 3, none⟩ = some (.int .i64 0) := by rw [hc2 _ _ (by omega)]; simp [go_sem, hc1, z1]
    have p4 : u2.cell? ⟨w.heap.size, 4, none⟩ = some (.int .i64 0) := by rw [hc2 _ _ (by omega)]; simp [go_sem, hc1, z1]
    have p5 : u2.cell? ⟨w.heap.size, 5, none⟩ = some (.int .i64 0) := by rw [hc2 _ _ (by omega)]; simp [go_sem, hc1, z1]
    have r0 : u2.frozen? ⟨w.heap.size, 0, none⟩ = false := by rw [hf2 _ _ (by omega)]; simp [go_sem, hf1, z1]
    have r1 : u2.frozen? ⟨w.heap.size, 1, none⟩ = false := by rw [hf2 _ _ (by omega)]; simp [go_sem, hf1, z1]
    have r2 : u2.frozen? ⟨w.heap.size, 2, none⟩ = false := by rw [hf2 _ _ (by omega)]; simp [go_sem, hf1, z1]
    have r3 : u2.frozen? ⟨w.heap.size, 3, none⟩ = false := by rw [hf2 _ _ (by omega)]; simp [go_sem, hf1, z1]
    have r4 : u2.frozen? ⟨w.heap.size, 4, none⟩ = false := by rw [hf2 _ _ (by omega)]; simp [go_sem, hf1, z1]
    have r5 : u2.frozen? ⟨w.heap.size, 5, none⟩ = false := by rw [hf2 _ _ (by omega)]; simp [go_sem, hf1, z1]
    go_wp2_with fail
    refine (cut_lit W 11 7 5 128 32 w0 w1 (by decide) (by decide) (by decide) rfl rfl _).mono ?_
    rintro e u ⟨rfl, rfl⟩
    go_wp2_with fail
    refine (cut_lit W 19 15 5 32768 32 w0 w1 (by decide) (by decide) (by decide) rfl rfl _).mono ?_
    rintro e u ⟨rfl, rfl⟩
    go_wp2_with fail
    refine bodyPost_ret (v := .agg #[.int .i64 op, .int .i64 (W / 128 % 32), .int .i64 (W / 32768 % 32), .int .i64 (0), .int .i64 tk, .int .i64 (0)]) (by simp [results, Tryd.results56, go_sem, p0, p1, p2, p3, p4, p5, r0, r1, r2, r3, r4, r5, z1, z2, z3]) rfl ⟨by rw [HI.out], ?_⟩
    exact ((((((B2.out.setCell (Nat.le_refl _) _).setCell (Nat.le_refl _) _).setCell (Nat.le_refl _) _).setCell (Nat.le_refl _) _).setCell (Nat.le_refl _) _).setCell (Nat.le_refl _) _).alloc (by simp only [World.size_setCell]; exact Nat.le_of_lt z3) _
theorem fo_4_0 (W : Int) : fieldOf 4 0 W = W / 128 % 32 := rfl
theorem fo_4_1 (W : Int) : fieldOf 4 1 W = W / 32768 % 32 := rfl
theorem fo_4_2 (W : Int) : fieldOf 4 2 W = 0 := rfl
theorem fo_4_3 (W : Int) : fieldOf 4 3 W = 0 := rfl
theorem insnOf_4 (op W tk : Int) (h : tkI 4 W = tk) : insnOf op 4 W = .agg #[.int .i64 op, .int .i64 (W / 128 % 32), .int .i64 (W / 32768 % 32), .int .i64 (0), .int .i64 tk, .int .i64 (0)] := by
  subst h; unfold insnOf; rw [fo_4_0, fo_4_1, fo_4_2, fo_4_3]
set_option maxRecDepth 100000 in
set_option maxHeartbeats 4000000 in
theorem guess_4 (op W : Int) (w0 : 0 ≤ W) (w1 : W < 4294967296) (w : World) : Calls Tryd.prog 56 #[.int .i64 op, .int .i64 4, .int .u32 W] w (AggPost (insnOf op 4 W) w) := by
    have HH := Lib.hid (fun w => has_at 4 (by decide) (by decide) w)
    have HT := Lib.hid (fun w => taken_at 4 (by decide) (by decide) W w0 w1 w)
    go_enter Tryd.func56, Tryd.ntmps56
    go_wp2_with fail
    refine (HH.out _).mono ?_
    rintro e u1 ⟨rfl, hb1⟩
    rw [show hasCells 4 = #[.bool true, .bool true, .bool false, .bool true, .bool false] from rfl]
    obtain ⟨hc1, hf1⟩ := bcell hb1
    have hz1 := hb1.size
    simp only [World.size_alloc] at hc1 hf1 hz1
    have z1 : w.heap.size < u1.heap.size := by omega
    have B1 := Lib.hid (((Below.refl _ _).alloc (Nat.le_refl _) _).trans (hb1.mono (by simp)))
    clear hb1
    go_wp2_with fail
    refine (HT.out _).mono ?_
    rintro e u2 ⟨rfl, hb2⟩
    obtain ⟨hc2, hf2⟩ := bcell hb2
    have hz2 := hb2.size
    simp only [World.size_alloc] at hc2 hf2 hz2
    have z2 : u1.heap.size < u2.heap.size := by omega
    have z3 : w.heap.size < u2.heap.size := by omega
    have z4 : u1.heap.size < u2.heap.size + 1 := by omega
    have z5 : w.heap.size < u2.heap.size + 1 := by omega
    have B2 := Lib.hid ((B1.out.alloc (by omega) _).trans (hb2.mono (by simp; omega)))
    clear hb2
    generalize ht : tkI 4 W = tk at *
    have HI := Lib.hid (insnOf_4 op W tk ht)
    clear ht
    have p0 : u2.cell? ⟨w.heap.size, 0, none⟩ = some (.int .i64 0) := by rw [hc2 _ _ (by omega)]; simp [go_sem, hc1, z1]
    have p1 : u2.cell? ⟨w.heap.size, 1, none⟩ = some (.int .i64 0) := by rw [hc2 _ _ (by omega)]; simp [go_sem, hc1, z1]
    have p2 : u2.cell? ⟨w.heap.size, 2, none⟩ = some (.int .i64 0) := by rw [hc2 _ _ (by omega)]; simp [go_sem, hc1, z1]
    have p3 : u2.cell? ⟨w.heap.size, 3, none⟩ = some (.int .i64 0) := by rw [hc2 _ _ (by omega)]; simp [go_sem, hc1, z1]
    have p4 : u2.cell? ⟨w.heap.size, 4, none⟩ = some (.int .i64 0) := by rw [hc2 _ _ (by omega)]; simp [go_sem, hc1, z1]
    have p5 : u2.cell? ⟨w.heap.size, 5, none⟩ = some (.int .i64 0) := by rw [hc2 _ _ (by omega)]; simp [go_sem, hc1, z1]
    have r0 : u2.frozen? ⟨w.heap.size, 0, none⟩ = false := by rw [hf2 _ _ (by omega)]; simp [go_sem, hf1, z1]
    have r1 : u2.frozen? ⟨w.heap.size, 1, none⟩ = false := by rw [hf2 _ _ (by omega)]; simp [go_sem, hf1, z1]
    have r2 : u2.frozen? ⟨w.heap.size, 2, none⟩ = false := by rw [hf2 _ _ (by omega)]; simp [go_sem, hf1, z1]
    have r3 : u2.frozen? ⟨w.heap.size, 3, none⟩ = false := by rw [hf2 _ _ (by omega)]; simp [go_sem, hf1, z1]
    have r4 : u2.frozen? ⟨w.heap.size, 4, none⟩ = false := by rw [hf2 _ _ (by omega)]; simp [go_sem, hf1, z1]
    have r5 : u2.frozen? ⟨w.heap.size, 5, none⟩ = false := by rw [hf2 _ _ (by omega)]; simp [go_sem, hf1, z1]
    go_wp2_with fail
    refine (cut_lit W 11 7 5 128 32 w0 w1 (by decide) (by decide) (by decide) rfl rfl _).mono ?_
    rintro e u ⟨rfl, rfl⟩
    go_wp2_with fail
    refine (cut_lit W 19 15 5 32768 32 w0 w1 (by decide) (by decide) (by decide) rfl rfl _).mono ?_
    rintro e u ⟨rfl, rfl⟩
    go_wp2_with fail
    refine bodyPost_ret (v := .agg #[.int .i64 op, .int .i64 (W / 128 % 32), .int .i64 (W / 32768 % 32), .int .i64 (0), .int .i64 tk, .int .i64 (0)]) (by simp [results, Tryd.results56, go_sem, p0, p1, p2, p3, p4, p5, r0, r1, r2, r3, r4, r5, z1, z2, z3]) rfl ⟨by rw [HI.out], ?_⟩
    exact ((((((B2.out.setCell (Nat.le_refl _) _).setCell (Nat.le_refl _) _).setCell (Nat.le_refl _) _).setCell (Nat.le_refl _) _).setCell (Nat.le_refl _) _).setCell (Nat.le_refl _) _).alloc (by simp only [World.size_setCell]; exact Nat.le_of_lt z3) _
theorem fo_5_0 (W : Int) : fieldOf 5 0 W = W / 128 % 32 := rfl
theorem fo_5_1 (W : Int) : fieldOf 5 1 W = W / 32768 % 32 := rfl
theorem fo_5_2 (W : Int) : fieldOf 5 2 W = 0 := rfl
theorem fo_5_3 (W : Int) : fieldOf 5 3 W = 0 := rfl
theorem insnOf_5 (op W tk : Int) (h : tkI 5 W = tk) : insnOf op 5 W = .agg #[.int .i64 op, .int .i64 (W / 128 % 32), .int .i64 (W / 32768 % 32), .int .i64 (0), .int .i64 tk, .int .i64 (0)] := by
  subst h; unfold insnOf; rw [fo_5_0, fo_5_1, fo_5_2, fo_5_3]
set_option maxRecDepth 100000 in
set_option maxHeartbeats 4000000 in
theorem guess_5 (op W : Int) (w0 : 0 ≤ W) (w1 : W < 4294967296) (w : World) : Calls Tryd.prog 56 #[.int .i64 op, .int .i64 5, .int .u32 W] w (AggPost (insnOf op 5 W) w) := by
    have HH := Lib.hid (fun w => has_at 5 (by decide) (by decide) w)
    have HT := Lib.hid (fun w => taken_at 5 (by decide) (by decide) W w0 w1 w)
    go_enter Tryd.func56, Tryd.ntmps56
    go_wp2_with fail
    refine (HH.out _).mono ?_
    rintro e u1 ⟨rfl, hb1⟩
    rw [show hasCells 5 = #[.bool true, .bool true, .bool false, .bool true, .bool false] from rfl]
    obtain ⟨hc1, hf1⟩ := bcell hb1
    have hz1 := hb1.size
    simp only [World.size_alloc] at hc1 hf1 hz1
    have z1 : w.heap.size < u1.heap.size := by omega
    have B1 := Lib.hid (((Below.refl _ _).alloc (Nat.le_refl _) _).trans (hb1.mono (by simp)))
    clear hb1
    go_wp2_with fail
    refine (HT.out _).mono ?_
    rintro e u2 ⟨rfl, hb2⟩
    obtain ⟨hc2, hf2⟩ := bcell hb2
    have hz2 := hb2.size
    simp only [World.size_alloc] at hc2 hf2 hz2
    have z2 : u1.heap.size < u2.heap.size := by omega
    have z3 : w.heap.size < u2.heap.size := by omega
    have z4 : u1.heap.size < u2.heap.size + 1 := by omega
    have z5 : w.heap.size < u2.heap.size + 1 := by omega
    have B2 := Lib.hid ((B1.out.alloc (by omega) _).trans (hb2.mono (by simp; omega)))
    clear hb2
    generalize ht : tkI 5 W = tk at *
    have HI := Lib.hid (insnOf_5 op W tk ht)
    clear ht
    have p0 : u2.cell? ⟨w.heap.size, 0, none⟩ = some (.int .i64 0) := by rw [hc2 _ _ (by omega)]; simp [go_sem, hc1, z1]
    have p1 : u2.cell? ⟨w.heap.size, 1, none⟩ = some (.int .i64 0) := by rw [hc2 _ _ (by omega)]; simp [go_sem, hc1, z1]
    have p2 : u2.cell? ⟨w.heap.size, 2, none⟩ = some (.int .i64 0) := by rw [hc2 _ _ (by omega)]; simp [go_sem, hc1, z1]
    have p3 : u2.cell? ⟨w.heap.size, 3, none⟩ = some (.int .i64 0) := by rw [hc2 _ _ (by omega)]; simp [go_sem, hc1, z1]
    have p4 : u2.cell? ⟨w.heap.size, 4, none⟩ = some (.int .i64 0) := by rw [hc2 _ _ (by omega)]; simp [go_sem, hc1, z1]
    have p5 : u2.cell? ⟨w.heap.size, 5, none⟩ = some (.int .i64 0) := by rw [hc2 _ _ (by omega)]; simp [go_sem, hc1, z1]
    have r0 : u2.frozen? ⟨w.heap.size, 0, none⟩ = false := by rw [hf2 _ _ (by omega)]; simp [go_sem, hf1, z1]
    have r1 : u2.frozen? ⟨w.heap.size, 1, none⟩ = false := by rw [hf2 _ _ (by omega)]; simp [go_sem, hf1, z1]
    have r2 : u2.frozen? ⟨w.heap.size, 2, none⟩ = false := by rw [hf2 _ _ (by omega)]; simp [go_sem, hf1, z1]
    have r3 : u2.frozen? ⟨w.heap.size, 3, none⟩ = false := by rw [hf2 _ _ (by omega)]; simp [go_sem, hf1, z1]
    have r4 : u2.frozen? ⟨w.heap.size, 4, none⟩ = false := by rw [hf2 _ _ (by omega)]; simp [go_sem, hf1, z1]
    have r5 : u2.frozen? ⟨w.heap.size, 5, none⟩ = false := by rw [hf2 _ _ (by omega)]; simp [go_sem, hf1, z1]
    go_wp2_with fail
    refine (cut_lit W 11 7 5 128 32 w0 w1 (by decide) (by decide) (by decide) rfl rfl _).mono ?_
    rintro e u ⟨rfl, rfl⟩
    go_wp2_with fail
    refine (cut_lit W 19 15 5 32768 32 w0 w1 (by decide) (by decide) (by decide) rfl rfl _).mono ?_
    rintro e u ⟨rfl, rfl⟩
    go_wp2_with fail
    refine bodyPost_ret (v := .agg #[.int .i64 op, .int .i64 (W / 128 % 32), .int .i64 (W / 32768 % 32), .int .i64 (0), .int .i64 tk, .int .i64 (0)]) (by simp [results, Tryd.results56, go_sem, p0, p1, p2, p3, p4, p5, r0, r1, r2, r3, r4, r5, z1, z2, z3]) rfl ⟨by rw [HI.out], ?_⟩
    exact ((((((B2.out.setCell (Nat.le_refl _) _).setCell (Nat.le_refl _) _).setCell (Nat.le_refl _) _).setCell (Nat.le_refl _) _).setCell (Nat.le_refl _) _).setCell (Nat.le_refl _) _).alloc (by simp only [World.size_setCell]; exact Nat.le_of_lt z3) _
theorem fo_6_0 (W : Int) : fieldOf 6 0 W = 0 := rfl
theorem fo_6_1 (W : Int) : fieldOf 6 1 W = W / 32768 % 32 := rfl
theorem fo_6_2 (W : Int) : fieldOf 6 2 W = W / 1048576 % 32 := rfl
theorem fo_6_3 (W : Int) : fieldOf 6 3 W = 0 := rfl
theorem insnOf_6 (op W tk : Int) (h : tkI 6 W = tk) : insnOf op 6 W = .agg #[.int .i64 op, .int .i64 (0), .int .i64 (W / 32768 % 32), .int .i64 (W / 1048576 % 32), .int .i64 tk, .int .i64 (0)] := by
  subst h; unfold insnOf; rw [fo_6_0, fo_6_1, fo_6_2, fo_6_3]
set_option maxRecDepth 100000 in
set_option maxHeartbeats 4000000 in
theorem guess_6 (op W : Int) (w0 : 0 ≤ W) (w1 : W < 4294967296) (w : World) : Calls Tryd.prog 56 #[.int .i64 op, .int .i64 6, .int .u32 W] w (AggPost (insnOf op 6 W) w) := by
    have HH := Lib.hid (fun w => has_at 6 (by decide) (by decide) w)
    have HT := Lib.hid (fun w => taken_at 6 (by decide) (by decide) W w0 w1 w)
    go_enter Tryd.func56, Tryd.ntmps56
    go_wp2_with fail
    refine (HH.out _).mono ?_
    rintro e u1 ⟨rfl, hb1⟩
    rw [show hasCells 6 = #[.bool false, .bool true, .bool true, .bool true, .bool false] from rfl]
    obtain ⟨hc1, hf1⟩ := bcell hb1
    have hz1 := hb1.size
    simp only [World.size_alloc] at hc1 hf1 hz1
    have z1 : w.heap.size < u1.heap.size := by omega
    have B1 := Lib.hid (((Below.refl _ _).alloc (Nat.le_refl _) _).trans (hb1.mono (by simp)))
    clear hb1
    go_wp2_with fail
    refine (HT.out _).mono ?_
    rintro e u2 ⟨rfl, hb2⟩
    obtain ⟨hc2, hf2⟩ := bcell hb2
    have hz2 := hb2.size
    simp only [World.size_alloc] at hc2 hf2 hz2
    have z2 : u1.heap.size < u2.heap.size := by omega
    have z3 : w.heap.size < u2.heap.size := by omega
    have z4 : u1.heap.size < u2.heap.size + 1 := by omega
    have z5 : w.heap.size < u2.heap.size + 1 := by omega
    have B2 := Lib.hid ((B1.out.alloc (by omega) _).trans (hb2.mono (by simp; omega)))
    clear hb2
    generalize ht : tkI 6 W = tk at *
    have HI := Lib.hid (insnOf_6 op W tk ht)
    clear ht
    have p0 : u2.cell? ⟨w.heap.size, 0, none⟩ = some (.int .i64 0) := by rw [hc2 _ _ (by omega)]; simp [go_sem, hc1, z1]
    have p1 : u2.cell? ⟨w.heap.size, 1, none⟩ = some (.int .i64 0) := by rw [hc2 _ _ (by omega)]; simp [go_sem, hc1, z1]
    have p2 : u2.cell? ⟨w.heap.size, 2, none⟩ = some (.int .i64 0) := by rw [hc2 _ _ (by omega)]; simp [go_sem, hc1, z1]
    have p3 : u2.cell? ⟨w.heap.size, 3, none⟩ = some (.int .i64 0) := by rw [hc2 _ _ (by omega)]; simp [go_sem, hc1, z1]
    have p4 : u2.cell? ⟨w.heap.size, 4, none⟩ = some (.int .i64 0) := by rw [hc2 _ _ (by omega)]; simp [go_sem, hc1, z1]
    have p5 : u2.cell? ⟨w.heap.size, 5, none⟩ = some (.int .i64 0) := by rw [hc2 _ _ (by omega)]; simp [go_sem, hc1, z1]
    have r0 : u2.frozen? ⟨w.heap.size, 0, none⟩ = false := by rw [hf2 _ _ (by omega)]; simp [go_sem, hf1, z1]
    have r1 : u2.frozen? ⟨w.heap.size, 1, none⟩ = false := by rw [hf2 _ _ (by omega)]; simp [go_sem, hf1, z1]
    have r2 : u2.frozen? ⟨w.heap.size, 2, none⟩ = false := by rw [hf2 _ _ (by omega)]; simp [go_sem, hf1, z1]
    have r3 : u2.frozen? ⟨w.heap.size, 3, none⟩ = false := by rw [hf2 _ _ (by omega)]; simp [go_sem, hf1, z1]
    have r4 : u2.frozen? ⟨w.heap.size, 4, none⟩ = false := by rw [hf2 _ _ (by omega)]; simp [go_sem, hf1, z1]
    have r5 : u2.frozen? ⟨w.heap.size, 5, none⟩ = false := by rw [hf2 _ _ (by omega)]; simp [go_sem, hf1, z1]
    go_wp2_with fail
    refine (cut_lit W 19 15 5 32768 32 w0 w1 (by decide) (by decide) (by decide) rfl rfl _).mono ?_
    rintro e u ⟨rfl, rfl⟩
    go_wp2_with fail
    refine (cut_lit W 24 20 5 1048576 32 w0 w1 (by decide) (by decide) (by decide) rfl rfl _).mono ?_
    rintro e u ⟨rfl, rfl⟩
    go_wp2_with fail
    refine bodyPost_ret (v := .agg #[.int .i64 op, .int .i64 (0), .int .i64 (W / 32768 % 32), .int .i64 (W / 1048576 % 32), .int .i64 tk, .int .i64 (0)]) (by simp [results, Tryd.results56, go_sem, p0, p1, p2, p3, p4, p5, r0, r1, r2, r3, r4, r5, z1, z2, z3]) rfl ⟨by rw [HI.out], ?_⟩
    exact ((((((B2.out.setCell (Nat.le_refl _) _).setCell (Nat.le_refl _) _).setCell (Nat.le_refl _) _).setCell (Nat.le_refl _) _).setCell (Nat.le_refl _) _).setCell (Nat.le_refl _) _).alloc (by simp only [World.size_setCell]; exact Nat.le_of_lt z3) _
theorem fo_7_0 (W : Int) : fieldOf 7 0 W = 0 := rfl
theorem fo_7_1 (W : Int) : fieldOf 7 1 W = W / 32768 % 32 := rfl
theorem fo_7_2 (W : Int) : fieldOf 7 2 W = W / 1048576 % 32 := rfl
theorem fo_7_3 (W : Int) : fieldOf 7 3 W = 0 := rfl
theorem insnOf_7 (op W tk : Int) (h : tkI 7 W = tk) : insnOf op 7 W = .agg #[.int .i64 op, .int .i64 (0), .int .i64 (W / 32768 % 32), .int .i64 (W / 1048576 % 32), .int .i64 tk, .int .i64 (0)] := by
  subst h; unfold insnOf; rw [fo_7_0, fo_7_1, fo_7_2, fo_7_3]
set_option maxRecDepth 100000 in
set_option maxHeartbeats 4000000 in
theorem guess_7 (op W : Int) (w0 : 0 ≤ W) (w1 : W < 4294967296) (w : World) : Calls Tryd.prog 56 #[.int .i64 op, .int .i64 7, .int .u32 W] w (AggPost (insnOf op 7 W) w) := by
    have HH := Lib.hid (fun w => has_at 7 (by decide) (by decide) w)
    have HT := Lib.hid (fun w => taken_at 7 (by decide) (by decide) W w0 w1 w)
    go_enter Tryd.func56, Tryd.ntmps56
    go_wp2_with fail
    refine (HH.out _).mono ?_
    rintro e u1 ⟨rfl, hb1⟩
    rw [show hasCells 7 = #[.bool false, .bool true, .bool true, .bool true, .bool false] from rfl]
    obtain ⟨hc1, hf1⟩ := bcell hb1
    have hz1 := hb1.size
    simp only [World.size_alloc] at hc1 hf1 hz1
    have z1 : w.heap.size < u1.heap.size := by omega
    have B1 := Lib.hid (((Below.refl _ _).alloc (Nat.le_refl _) _).trans (hb1.mono (by simp)))
    clear hb1
    go_wp2_with fail
    refine (HT.out _).mono ?_
    rintro e u2 ⟨rfl, hb2⟩
    obtain ⟨hc2, hf2⟩ := bcell hb2
    have hz2 := hb2.size
    simp only [World.size_alloc] at hc2 hf2 hz2
    have z2 : u1.heap.size < u2.heap.size := by omega
    have z3 : w.heap.size < u2.heap.size := by omega
    have z4 : u1.heap.size < u2.heap.size + 1 := by omega
    have z5 : w.heap.size < u2.heap.size + 1 := by omega
    have B2 := Lib.hid ((B1.out.alloc (by omega) _).trans (hb2.mono (by simp; omega)))
    clear hb2
    generalize ht : tkI 7 W = tk at *
    have HI := Lib.hid (insnOf_7 op W tk ht)
    clear ht
    have p0 : u2.cell? ⟨w.heap.size, 0, none⟩ = some (.int .i64 0) := by rw [hc2 _ _ (by omega)]; simp [go_sem, hc1, z1]
    have p1 : u2.cell? ⟨w.heap.size, 1, none⟩ = some (.int .i64 0) := by rw [hc2 _ _ (by omega)]; simp [go_sem, hc1, z1]
    have p2 : u2.cell? ⟨w.heap.size, 2, none⟩ = some (.int .i64 0) := by rw [hc2 _ _ (by omega)]; simp [go_sem, hc1, z1]
    have p3 : u2.cell? ⟨w.heap.size, 3, none⟩ = some (.int .i64 0) := by rw [hc2 _ _ (by omega)]; simp [go_sem, hc1, z1]
    have p4 : u2.cell? ⟨w.heap.size, 4, none⟩ = some (.int .i64 0) := by rw [hc2 _ _ (by omega)]; simp [go_sem, hc1, z1]
    have p5 : u2.cell? ⟨w.heap.size, 5, none⟩ = some (.int .i64 0) := by rw [hc2 _ _ (by omega)]; simp [go_sem, hc1, z1]
    have r0 : u2.frozen? ⟨w.heap.size, 0, none⟩ = false := by rw [hf2 _ _ (by omega)]; simp [go_sem, hf1, z1]
    have r1 : u2.frozen? ⟨w.heap.size, 1, none⟩ = false := by rw [hf2 _ _ (by omega)]; simp [go_sem, hf1, z1]
    have r2 : u2.frozen? ⟨w.heap.size, 2, none⟩ = false := by rw [hf2 _ _ (by omega)]; simp [go_sem, hf1, z1]
    have r3 : u2.frozen? ⟨w.heap.size, 3, none⟩ = false := by rw [hf2 _ _ (by omega)]; simp [go_sem, hf1, z1]
    have r4 : u2.frozen? ⟨w.heap.size, 4, none⟩ = false := by rw [hf2 _ _ (by omega)]; simp [go_sem, hf1, z1]
    have r5 : u2.frozen? ⟨w.heap.size, 5, none⟩ = false := by rw [hf2 _ _ (by omega)]; simp [go_sem, hf1, z1]
    go_wp2_with fail
    refine (cut_lit W 19 15 5 32768 32 w0 w1 (by decide) (by decide) (by decide) rfl rfl _).mono ?_
    rintro e u ⟨rfl, rfl⟩
    go_wp2_with fail
    refine (cut_lit W 24 20 5 1048576 32 w0 w1 (by decide) (by decide) (by decide) rfl rfl _).mono ?_
    rintro e u ⟨rfl, rfl⟩
    go_wp2_with fail
    refine bodyPost_ret (v := .agg #[.int .i64 op, .int .i64 (0), .int .i64 (W / 32768 % 32), .int .i64 (W / 1048576 % 32), .int .i64 tk, .int .i64 (0)]) (by simp [results, Tryd.results56, go_sem, p0, p1, p2, p3, p4, p5, r0, r1, r2, r3, r4, r5, z1, z2, z3]) rfl ⟨by rw [HI.out], ?_⟩
    exact ((((((B2.out.setCell (Nat.le_refl _) _).setCell (Nat.le_refl _) _).setCell (Nat.le_refl _) _).setCell (Nat.le_refl _) _).setCell (Nat.le_refl _) _).setCell (Nat.le_refl _) _).alloc (by simp only [World.size_setCell]; exact Nat.le_of_lt z3) _
theorem fo_8_0 (W : Int) : fieldOf 8 0 W = W / 128 % 32 := rfl
theorem fo_8_1 (W : Int) : fieldOf 8 1 W = 0 := rfl
theorem fo_8_2 (W : Int) : fieldOf 8 2 W = 0 := rfl
theorem fo_8_3 (W : Int) : fieldOf 8 3 W = 0 := rfl
theorem insnOf_8 (op W tk : Int) (h : tkI 8 W = tk) : insnOf op 8 W = .agg #[.int .i64 op, .int .i64 (W / 128 % 32), .int .i64 (0), .int .i64 (0), .int .i64 tk, .int .i64 (0)] := by
  subst h; unfold insnOf; rw [fo_8_0, fo_8_1, fo_8_2, fo_8_3]
set_option maxRecDepth 100000 in
set_option maxHeartbeats 4000000 in
theorem guess_8 (op W : Int) (w0 : 0 ≤ W) (w1 : W < 4294967296) (w : World) : Calls Tryd.prog 56 #[.int .i64 op, .int .i64 8, .int .u32 W] w (AggPost (insnOf op 8 W) w) := by
    have HH := Lib.hid (fun w => has_at 8 (by decide) (by decide) w)
    have HT := Lib.hid (fun w => taken_at 8 (by decide) (by decide) W w0 w1 w)
    go_enter Tryd.func56, Tryd.ntmps56
    go_wp2_with fail
    refine (HH.out _).mono ?_
    rintro e u1 ⟨rfl, hb1⟩
    rw [show hasCells 8 = #[.bool true, .bool false, .bool false, .bool true, .bool false] from rfl]
    obtain ⟨hc1, hf1⟩ := bcell hb1
    have hz1 := hb1.size
    simp only [World.size_alloc] at hc1 hf1 hz1
    have z1 : w.heap.size < u1.heap.size := by omega
    have B1 := Lib.hid (((Below.refl _ _).alloc (Nat.le_refl _) _).trans (hb1.mono (by simp)))
    clear hb1
    go_wp2_with fail
    refine (HT.out _).mono ?_
    rintro e u2 ⟨rfl, hb2⟩
    obtain ⟨hc2, hf2⟩ := bcell hb2
    have hz2 := hb2.size
    simp only [World.size_alloc] at hc2 hf2 hz2
    have z2 : u1.heap.size < u2.heap.size := by omega
    have z3 : w.heap.size < u2.heap.size := by omega
    have z4 : u1.heap.size < u2.heap.size + 1 := by omega
    have z5 : w.heap.size < u2.heap.size + 1 := by omega
    have B2 := Lib.hid ((B1.out.alloc (by omega) _).trans (hb2.mono (by simp; omega)))
    clear hb2
    generalize ht : tkI 8 W = tk at *
    have HI := Lib.hid (insnOf_8 op W tk ht)
    clear ht
    have p0 : u2.cell? ⟨w.heap.size, 0, none⟩ = some (.int .i64 0) := by rw [hc2 _ _ (by omega)]; simp [go_sem, hc1, z1]
    have p1 : u2.cell? ⟨w.heap.size, 1, none⟩ = some (.int .i64 0) := by rw [hc2 _ _ (by omega)]; simp [go_sem, hc1, z1]
    have p2 : u2.cell? ⟨w.heap.size, 2, none⟩ = some (.int .i64 0) := by rw [hc2 _ _ (by omega)]; simp [go_sem, hc1, z1]
    have p3 : u2.cell? ⟨w.heap.size, 3, none⟩ = some (.int .i64 0) := by rw [hc2 _ _ (by omega)]; simp [go_sem, hc1, z1]
    have p4 : u2.cell? ⟨w.heap.size, 4, none⟩ = some (.int .i64 0) := by rw [hc2 _ _ (by omega)]; simp [go_sem, hc1, z1]
    have p5 : u2.cell? ⟨w.heap.size, 5, none⟩ = some (.int .i64 0) := by rw [hc2 _ _ (by omega)]; simp [go_sem, hc1, z1]
    have r0 : u2.frozen? ⟨w.heap.size, 0, none⟩ = false := by rw [hf2 _ _ (by omega)]; simp [go_sem, hf1, z1]
    have r1 : u2.frozen? ⟨w.heap.size, 1, none⟩ = false := by rw [hf2 _ _ (by omega)]; simp [go_sem, hf1, z1]
    have r2 : u2.frozen? ⟨w.heap.size, 2, none⟩ = false := by rw [hf2 _ _ (by omega)]; simp [go_sem, hf1, z1]
    have r3 : u2.frozen? ⟨w.heap.size, 3, none⟩ = false := by rw [hf2 _ _ (by omega)]; simp [go_sem, hf1, z1]
    have r4 : u2.frozen? ⟨w.heap.size, 4, none⟩ = false := by rw [hf2 _ _ (by omega)]; simp [go_sem, hf1, z1]
    have r5 : u2.frozen? ⟨w.heap.size, 5, none⟩ = false := by rw [hf2 _ _ (by omega)]; simp [go_sem, hf1, z1]
    go_wp2_with fail
    refine (cut_lit W 11 7 5 128 32 w0 w1 (by decide) (by decide) (by decide) rfl rfl _).mono ?_
    rintro e u ⟨rfl, rfl⟩
    go_wp2_with fail
    refine bodyPost_ret (v := .agg #[.int .i64 op, .int .i64 (W / 128 % 32), .int .i64 (0), .int .i64 (0), .int .i64 tk, .int .i64 (0)]) (by simp [results, Tryd.results56, go_sem, p0, p1, p2, p3, p4, p5, r0, r1, r2, r3, r4, r5, z1, z2, z3]) rfl ⟨by rw [HI.out], ?_⟩
    exact ((((((B2.out.setCell (Nat.le_refl _) _).setCell (Nat.le_refl _) _).setCell (Nat.le_refl _) _).setCell (Nat.le_refl _) _).setCell (Nat.le_refl _) _).setCell (Nat.le_refl _) _).alloc (by simp only [World.size_setCell]; exact Nat.le_of_lt z3) _
theorem fo_9_0 (W : Int) : fieldOf 9 0 W = W / 128 % 32 := rfl
theorem fo_9_1 (W : Int) : fieldOf 9 1 W = 0 := rfl
theorem fo_9_2 (W : Int) : fieldOf 9 2 W = 0 := rfl
theorem fo_9_3 (W : Int) : fieldOf 9 3 W = 0 := rfl
theorem insnOf_9 (op W tk : Int) (h : tkI 9 W = tk) : insnOf op 9 W = .agg #[.int .i64 op, .int .i64 (W / 128 % 32), .int .i64 (0), .int .i64 (0), .int .i64 tk, .int .i64 (0)] := by
  subst h; unfold insnOf; rw [fo_9_0, fo_9_1, fo_9_2, fo_9_3]
set_option maxRecDepth 100000 in
set_option maxHeartbeats 4000000 in
theorem guess_9 (op W : Int) (w0 : 0 ≤ W) (w1 : W < 4294967296) (w : World) : Calls Tryd.prog 56 #[.int .i64 op, .int .i64 9, .int .u32 W] w (AggPost (insnOf op 9 W) w) := by
    have HH := Lib.hid (fun w => has_at 9 (by decide) (by decide) w)
    have HT := Lib.hid (fun w => taken_at 9 (by decide) (by decide) W w0 w1 w)
    go_enter Tryd.func56, Tryd.ntmps56
    go_wp2_with fail
    refine (HH.out _).mono ?_
    rintro e u1 ⟨rfl, hb1⟩
    rw [show hasCells 9 = #[.bool true, .bool false, .bool false, .bool true, .bool false] from rfl]
    obtain ⟨hc1, hf1⟩ := bcell hb1
    have hz1 := hb1.size
    simp only [World.size_alloc] at hc1 hf1 hz1
    have z1 : w.heap.size < u1.heap.size := by omega
    have B1 := Lib.hid (((Below.refl _ _).alloc (Nat.le_refl _) _).trans (hb1.mono (by simp)))
    clear hb1
    go_wp2_with fail
    refine (HT.out _).mono ?_
    rintro e u2 ⟨rfl, hb2⟩
    obtain ⟨hc2, hf2⟩ := bcell hb2
    have hz2 := hb2.size
    simp only [World.size_alloc] at hc2 hf2 hz2
    have z2 : u1.heap.size < u2.heap.size := by omega
    have z3 : w.heap.size < u2.heap.size := by omega
    have z4 : u1.heap.size < u2.heap.size + 1 := by omega
    have z5 : w.heap.size < u2.heap.size + 1 := by omega
    have B2 := Lib.hid ((B1.out.alloc (by omega) _).trans (hb2.mono (by simp; omega)))
    clear hb2
    generalize ht : tkI 9 W = tk at *
    have HI := Lib.hid (insnOf_9 op W tk ht)
    clear ht
    have p0 : u2.cell? ⟨w.heap.size, 0, none⟩ = some (.int .i64 0) := by rw [hc2 _ _ (by omega)]; simp [go_sem, hc1, z1]
    have p1 : u2.cell? ⟨w.heap.size, 1, none⟩ = some (.int .i64 0) := by rw [hc2 _ _ (by omega)]; simp [go_sem, hc1, z1]
    have p2 : u2.cell? ⟨w.heap.size, 2, none⟩ = some (.int .i64 0) := by rw [hc2 _ _ (by omega)]; simp [go_sem, hc1, z1]
    have p3 : u2.cell? ⟨w.heap.size, 3, none⟩ = some (.int .i64 0) := by rw [hc2 _ _ (by omega)]; simp [go_sem, hc1, z1]
    have p4 : u2.cell? ⟨w.heap.size, 4, none⟩ = some (.int .i64 0) := by rw [hc2 _ _ (by omega)]; simp [go_sem, hc1, z1]
    have p5 : u2.cell? ⟨w.heap.size, 5, none⟩ = some (.int .i64 0) := by rw [hc2 _ _ (by omega)]; simp [go_sem, hc1, z1]
    have r0 : u2.frozen? ⟨w.heap.size, 0, none⟩ = false := by rw [hf2 _ _ (by omega)]; simp [go_sem, hf1, z1]
    have r1 : u2.frozen? ⟨w.heap.size, 1, none⟩ = false := by rw [hf2 _ _ (by omega)]; simp [go_sem, hf1, z1]
    have r2 : u2.frozen? ⟨w.heap.size, 2, none⟩ = false := by rw [hf2 _ _ (by omega)]; simp [go_sem, hf1, z1]
    have r3 : u2.frozen? ⟨w.heap.size, 3, none⟩ = false := by rw [hf2 _ _ (by omega)]; simp [go_sem, hf1, z1]
    have r4 : u2.frozen? ⟨w.heap.size, 4, none⟩ = false := by rw [hf2 _ _ (by omega)]; simp [go_sem, hf1, z1]
    have r5 : u2.frozen? ⟨w.heap.size, 5, none⟩ = false := by rw [hf2 _ _ (by omega)]; simp [go_sem, hf1, z1]
    go_wp2_with fail
    refine (cut_lit W 11 7 5 128 32 w0 w1 (by decide) (by decide) (by decide) rfl rfl _).mono ?_
    rintro e u ⟨rfl, rfl⟩
    go_wp2_with fail
    refine bodyPost_ret (v := .agg #[.int .i64 op, .int .i64 (W / 128 % 32), .int .i64 (0), .int .i64 (0), .int .i64 tk, .int .i64 (0)]) (by simp [results, Tryd.results56, go_sem, p0, p1, p2, p3, p4, p5, r0, r1, r2, r3, r4, r5, z1, z2, z3]) rfl ⟨by rw [HI.out], ?_⟩
    exact ((((((B2.out.setCell (Nat.le_refl _) _).setCell (Nat.le_refl _) _).setCell (Nat.le_refl _) _).setCell (Nat.le_refl _) _).setCell (Nat.le_refl _) _).setCell (Nat.le_refl _) _).alloc (by simp only [World.size_setCell]; exact Nat.le_of_lt z3) _
theorem fo_10_0 (W : Int) : fieldOf 10 0 W = W / 128 % 32 := rfl
theorem fo_10_1 (W : Int) : fieldOf 10 1 W = W / 32768 % 32 := rfl
theorem fo_10_2 (W : Int) : fieldOf 10 2 W = 0 := rfl
theorem fo_10_3 (W : Int) : fieldOf 10 3 W = 0 := rfl
theorem insnOf_10 (op W tk : Int) (h : tkI 10 W = tk) : insnOf op 10 W = .agg #[.int .i64 op, .int .i64 (W / 128 % 32), .int .i64 (W / 32768 % 32), .int .i64 (0), .int .i64 tk, .int .i64 (0)] := by
  subst h; unfold insnOf; rw [fo_10_0, fo_10_1, fo_10_2, fo_10_3]
set_option maxRecDepth 100000 in
set_option maxHeartbeats 4000000 in
theorem guess_10 (op W : Int) (w0 : 0 ≤ W) (w1 : W < 4294967296) (w : World) : Calls Tryd.prog 56 #[.int .i64 op, .int .i64 10, .int .u32 W] w (AggPost (insnOf op 10 W) w) := by
    have HH := Lib.hid (fun w => has_at 10 (by decide) (by decide) w)
    have HT := Lib.hid (fun w => taken_at 10 (by decide) (by decide) W w0 w1 w)
    go_enter Tryd.func56, Tryd.ntmps56
    go_wp2_with fail
    refine (HH.out _).mono ?_
    rintro e u1 ⟨rfl, hb1⟩
    rw [show hasCells 10 = #[.bool true, .bool true, .bool false, .bool true, .bool false] from rfl]
    obtain ⟨hc1, hf1⟩ := bcell hb1
    have hz1 := hb1.size
    simp only [World.size_alloc] at hc1 hf1 hz1
    have z1 : w.heap.size < u1.heap.size := by omega
    have B1 := Lib.hid (((Below.refl _ _).alloc (Nat.le_refl _) _).trans (hb1.mono (by simp)))
    clear hb1
    go_wp2_with fail
    refine (HT.out _).mono ?_
    rintro e u2 ⟨rfl, hb2⟩
    obtain ⟨hc2, hf2⟩ := bcell hb2
    have hz2 := hb2.size
    simp only [World.size_alloc] at hc2 hf2 hz2
    have z2 : u1.heap.size < u2.heap.size := by omega
    have z3 : w.heap.size < u2.heap.size := by omega
    have z4 : u1.heap.size < u2.heap.size + 1 := by omega
    have z5 : w.heap.size < u2.heap.size + 1 := by omega
    have B2 := Lib.hid ((B1.out.alloc (by omega) _).trans (hb2.mono (by simp; omega)))
    clear hb2
    generalize ht : tkI 10 W = tk at *
    have HI := Lib.hid (insnOf_10 op W tk ht)
    clear ht
    have p0 : u2.cell? ⟨w.heap.size, 0, none⟩ = some (.int .i64 0) := by rw [hc2 _ _ (by omega)]; simp [go_sem, hc1, z1]
    have p1 : u2.cell? ⟨w.heap.size, 1, none⟩ = some (.int .i64 0) := by rw [hc2 _ _ (by omega)]; simp [go_sem, hc1, z1]
    have p2 : u2.cell? ⟨w.heap.size, 2, none⟩ = some (.int .i64 0) := by rw [hc2 _ _ (by omega)]; simp [go_sem, hc1, z1]
    have p3 : u2.cell? ⟨w.heap.size, 3, none⟩ = some (.int .i64 0) := by rw [hc2 _ _ (by omega)]; simp [go_sem, hc1, z1]
    have p4 : u2.cell? ⟨w.heap.size, 4, none⟩ = some (.int .i64 0) := by rw [hc2 _ _ (by omega)]; simp [go_sem, hc1, z1]
    have p5 : u2.cell? ⟨w.heap.size, 5, none⟩ = some (.int .i64 0) := by rw [hc2 _ _ (by omega)]; simp [go_sem, hc1, z1]
    have r0 : u2.frozen? ⟨w.heap.size, 0, none⟩ = false := by rw [hf2 _ _ (by omega)]; simp [go_sem, hf1, z1]
    have r1 : u2.frozen? ⟨w.heap.size, 1, none⟩ = false := by rw [hf2 _ _ (by omega)]; simp [go_sem, hf1, z1]
    have r2 : u2.frozen? ⟨w.heap.size, 2, none⟩ = false := by rw [hf2 _ _ (by omega)]; simp [go_sem, hf1, z1]
    have r3 : u2.frozen? ⟨w.heap.size, 3, none⟩ = false := by rw [hf2 _ _ (by omega)]; simp [go_sem, hf1, z1]
    have r4 : u2.frozen? ⟨w.heap.size, 4, none⟩ = false := by rw [hf2 _ _ (by omega)]; simp [go_sem, hf1, z1]
    have r5 : u2.frozen? ⟨w.heap.size, 5, none⟩ = false := by rw [hf2 _ _ (by omega)]; simp [go_sem, hf1, z1]
    go_wp2_with fail
    refine (cut_lit W 11 7 5 128 32 w0 w1 (by decide) (by decide) (by decide) rfl rfl _).mono ?_
    rintro e u ⟨rfl, rfl⟩
    go_wp2_with fail
    refine (cut_lit W 19 15 5 32768 32 w0 w1 (by decide) (by decide) (by decide) rfl rfl _).mono ?_
    rintro e u ⟨rfl, rfl⟩
    go_wp2_with fail
    refine bodyPost_ret (v := .agg #[.int .i64 op, .int .i64 (W / 128 % 32), .int .i64 (W / 32768 % 32), .int .i64 (0), .int .i64 tk, .int .i64 (0)]) (by simp [results, Tryd.results56, go_sem, p0, p1, p2, p3, p4, p5, r0, r1, r2, r3, r4, r5, z1, z2, z3]) rfl ⟨by rw [HI.out], ?_⟩
    exact ((((((B2.out.setCell (Nat.le_refl _) _).setCell (Nat.le_refl _) _).setCell (Nat.le_refl _) _).setCell (Nat.le_refl _) _).setCell (Nat.le_refl _) _).setCell (Nat.le_refl _) _).alloc (by simp only [World.size_setCell]; exact Nat.le_of_lt z3) _
theorem fo_11_0 (W : Int) : fieldOf 11 0 W = 0 := rfl
theorem fo_11_1 (W : Int) : fieldOf 11 1 W = 0 := rfl
theorem fo_11_2 (W : Int) : fieldOf 11 2 W = 0 := rfl
theorem fo_11_3 (W : Int) : fieldOf 11 3 W = 0 := rfl
theorem insnOf_11 (op W tk : Int) (h : tkI 11 W = tk) : insnOf op 11 W = .agg #[.int .i64 op, .int .i64 (0), .int .i64 (0), .int .i64 (0), .int .i64 tk, .int .i64 (0)] := by
  subst h; unfold insnOf; rw [fo_11_0, fo_11_1, fo_11_2, fo_11_3]
set_option maxRecDepth 100000 in
set_option maxHeartbeats 4000000 in
theorem guess_11 (op W : Int) (w0 : 0 ≤ W) (w1 : W < 4294967296) (w : World) : Calls Tryd.prog 56 #[.int .i64 op, .int .i64 11, .int .u32 W] w (AggPost (insnOf op 11 W) w) := by
    have HH := Lib.hid (fun w => has_at 11 (by decide) (by decide) w)
    have HT := Lib.hid (fun w => taken_at 11 (by decide) (by decide) W w0 w1 w)
    go_enter Tryd.func56, Tryd.ntmps56
    go_wp2_with fail
    refine (HH.out _).mono ?_
    rintro e u1 ⟨rfl, hb1⟩
    rw [show hasCells 11 = #[.bool false, .bool false, .bool false, .bool false, .bool false] from rfl]
    obtain ⟨hc1, hf1⟩ := bcell hb1
    have hz1 := hb1.size
    simp only [World.size_alloc] at hc1 hf1 hz1
    have z1 : w.heap.size < u1.heap.size := by omega
    have B1 := Lib.hid (((Below.refl _ _).alloc (Nat.le_refl _) _).trans (hb1.mono (by simp)))
    clear hb1
    go_wp2_with fail
    refine (HT.out _).mono ?_
    rintro e u2 ⟨rfl, hb2⟩
    obtain ⟨hc2, hf2⟩ := bcell hb2
    have hz2 := hb2.size
    simp only [World.size_alloc] at hc2 hf2 hz2
    have z2 : u1.heap.size < u2.heap.size := by omega
    have z3 : w.heap.size < u2.heap.size := by omega
    have z4 : u1.heap.size < u2.heap.size + 1 := by omega
    have z5 : w.heap.size < u2.heap.size + 1 := by omega
    have B2 := Lib.hid ((B1.out.alloc (by omega) _).trans (hb2.mono (by simp; omega)))
    clear hb2
    generalize ht : tkI 11 W = tk at *
    have HI := Lib.hid (insnOf_11 op W tk ht)
    clear ht
    have p0 : u2.cell? ⟨w.heap.size, 0, none⟩ = some (.int .i64 0) := by rw [hc2 _ _ (by omega)]; simp [go_sem, hc1, z1]
    have p1 : u2.cell? ⟨w.heap.size, 1, none⟩ = some (.int .i64 0) := by rw [hc2 _ _ (by omega)]; simp [go_sem, hc1, z1]
    have p2 : u2.cell? ⟨w.heap.size, 2, none⟩ = some (.int .i64 0) := by rw [hc2 _ _ (by omega)]; simp [go_sem, hc1, z1]
    have p3 : u2.cell? ⟨w.heap.size, 3, none⟩ = some (.int .i64 0) := by rw [hc2 _ _ (by omega)]; simp [go_sem, hc1, z1]
    have p4 : u2.cell? ⟨w.heap.size, 4, none⟩ = some (.int .i64 0) := by rw [hc2 _ _ (by omega)]; simp [go_sem, hc1, z1]
    have p5 : u2.cell? ⟨w.heap.size, 5, none⟩ = some (.int .i64 0) := by rw [hc2 _ _ (by omega)]; simp [go_sem, hc1, z1]
    have r0 : u2.frozen? ⟨w.heap.size, 0, none⟩ = false := by rw [hf2 _ _ (by omega)]; simp [go_sem, hf1, z1]
    have r1 : u2.frozen? ⟨w.heap.size, 1, none⟩ = false := by rw [hf2 _ _ (by omega)]; simp [go_sem, hf1, z1]
    have r2 : u2.frozen? ⟨w.heap.size, 2, none⟩ = false := by rw [hf2 _ _ (by omega)]; simp [go_sem, hf1, z1]
    have r3 : u2.frozen? ⟨w.heap.size, 3, none⟩ = false := by rw [hf2 _ _ (by omega)]; simp [go_sem, hf1, z1]
    have r4 : u2.frozen? ⟨w.heap.size, 4, none⟩ = false := by rw [hf2 _ _ (by omega)]; simp [go_sem, hf1, z1]
    have r5 : u2.frozen? ⟨w.heap.size, 5, none⟩ = false := by rw [hf2 _ _ (by omega)]; simp [go_sem, hf1, z1]
    go_wp2_with fail
    refine bodyPost_ret (v := .agg #[.int .i64 op, .int .i64 (0), .int .i64 (0), .int .i64 (0), .int .i64 tk, .int .i64 (0)]) (by simp [results, Tryd.results56, go_sem, p0, p1, p2, p3, p4, p5, r0, r1, r2, r3, r4, r5, z1, z2, z3]) rfl ⟨by rw [HI.out], ?_⟩
    exact ((((((B2.out.setCell (Nat.le_refl _) _).setCell (Nat.le_refl _) _).setCell (Nat.le_refl _) _).setCell (Nat.le_refl _) _).setCell (Nat.le_refl _) _).setCell (Nat.le_refl _) _).alloc (by simp only [World.size_setCell]; exact Nat.le_of_lt z3) _
theorem fo_12_0 (W : Int) : fieldOf 12 0 W = 0 := rfl
theorem fo_12_1 (W : Int) : fieldOf 12 1 W = W / 32768 % 32 := rfl
theorem fo_12_2 (W : Int) : fieldOf 12 2 W = W / 1048576 % 32 := rfl
theorem fo_12_3 (W : Int) : fieldOf 12 3 W = 0 := rfl
theorem insnOf_12 (op W tk : Int) (h : tkI 12 W = tk) : insnOf op 12 W = .agg #[.int .i64 op, .int .i64 (0), .int .i64 (W / 32768 % 32), .int .i64 (W / 1048576 % 32), .int .i64 tk, .int .i64 (0)] := by
  subst h; unfold insnOf; rw [fo_12_0, fo_12_1, fo_12_2, fo_12_3]
set_option maxRecDepth 100000 in
set_option maxHeartbeats 4000000 in
theorem guess_12 (op W : Int) (w0 : 0 ≤ W) (w1 : W < 4294967296) (w : World) : Calls Tryd.prog 56 #[.int .i64 op, .int .i64 12, .int .u32 W] w (AggPost (insnOf op 12 W) w) := by
    have HH := Lib.hid (fun w => has_at 12 (by decide) (by decide) w)
    have HT := Lib.hid (fun w => taken_at 12 (by decide) (by decide) W w0 w1 w)
    go_enter Tryd.func56, Tryd.ntmps56
    go_wp2_with fail
    refine (HH.out _).mono ?_
    rintro e u1 ⟨rfl, hb1⟩
    rw [show hasCells 12 = #[.bool false, .bool true, .bool true, .bool false, .bool false] from rfl]
    obtain ⟨hc1, hf1⟩ := bcell hb1
    have hz1 := hb1.size
    simp only [World.size_alloc] at hc1 hf1 hz1
    have z1 : w.heap.size < u1.heap.size := by omega
    have B1 := Lib.hid (((Below.refl _ _).alloc (Nat.le_refl _) _).trans (hb1.mono (by simp)))
    clear hb1
    go_wp2_with fail
    refine (HT.out _).mono ?_
    rintro e u2 ⟨rfl, hb2⟩
    obtain ⟨hc2, hf2⟩ := bcell hb2
    have hz2 := hb2.size
    simp only [World.size_alloc] at hc2 hf2 hz2
    have z2 : u1.heap.size < u2.heap.size := by omega
    have z3 : w.heap.size < u2.heap.size := by omega
    have z4 : u1.heap.size < u2.heap.size + 1 := by omega
    have z5 : w.heap.size < u2.heap.size + 1 := by omega
    have B2 := Lib.hid ((B1.out.alloc (by omega) _).trans (hb2.mono (by simp; omega)))
    clear hb2
    generalize ht : tkI 12 W = tk at *
    have HI := Lib.hid (insnOf_12 op W tk ht)
    clear ht
    have p0 : u2.cell? ⟨w.heap.size, 0, none⟩ = some (.int .i64 0) := by rw [hc2 _ _ (by omega)]; simp [go_sem, hc1, z1]
    have p1 : u2.cell? ⟨w.heap.size, 1, none⟩ = some (.int .i64 0) := by rw [hc2 _ _ (by omega)]; simp [go_sem, hc1, z1]
    have p2 : u2.cell? ⟨w.heap.size, 2, none⟩ = some (.int .i64 0) := by rw [hc2 _ _ (by omega)]; simp [go_sem, hc1, z1]
    have p3 : u2.cell? ⟨w.heap.size, 3, none⟩ = some (.int .i64 0) := by rw [hc2 _ _ (by omega)]; simp [go_sem, hc1, z1]
    have p4 : u2.cell? ⟨w.heap.size, 4, none⟩ = some (.int .i64 0) := by rw [hc2 _ _ (by omega)]; simp [go_sem, hc1, z1]
    have p5 : u2.cell? ⟨w.heap.size, 5, none⟩ = some (.int .i64 0) := by rw [hc2 _ _ (by omega)]; simp [go_sem, hc1, z1]
    have r0 : u2.frozen? ⟨w.heap.size, 0, none⟩ = false := by rw [hf2 _ _ (by omega)]; simp [go_sem, hf1, z1]
    have r1 : u2.frozen? ⟨w.heap.size, 1, none⟩ = false := by rw [hf2 _ _ (by omega)]; simp [go_sem, hf1, z1]
    have r2 : u2.frozen? ⟨w.heap.size, 2, none⟩ = false := by rw [hf2 _ _ (by omega)]; simp [go_sem, hf1, z1]
    have r3 : u2.frozen? ⟨w.heap.size, 3, none⟩ = false := by rw [hf2 _ _ (by omega)]; simp [go_sem, hf1, z1]
    have r4 : u2.frozen? ⟨w.heap.size, 4, none⟩ = false := by rw [hf2 _ _ (by omega)]; simp [go_sem, hf1, z1]
    have r5 : u2.frozen? ⟨w.heap.size, 5, none⟩ = false := by rw [hf2 _ _ (by omega)]; simp [go_sem, hf1, z1]
    go_wp2_with fail
    refine (cut_lit W 19 15 5 32768 32 w0 w1 (by decide) (by decide) (by decide) rfl rfl _).mono ?_
    rintro e u ⟨rfl, rfl⟩
    go_wp2_with fail
    refine (cut_lit W 24 20 5 1048576 32 w0 w1 (by decide) (by decide) (by decide) rfl rfl _).mono ?_
    rintro e u ⟨rfl, rfl⟩
    go_wp2_with fail
    refine bodyPost_ret (v := .agg #[.int .i64 op, .int .i64 (0), .int .i64 (W / 32768 % 32), .int .i64 (W / 1048576 % 32), .int .i64 tk, .int .i64 (0)]) (by simp [results, Tryd.results56, go_sem, p0, p1, p2, p3, p4, p5, r0, r1, r2, r3, r4, r5, z1, z2, z3]) rfl ⟨by rw [HI.out], ?_⟩
    exact ((((((B2.out.setCell (Nat.le_refl _) _).setCell (Nat.le_refl _) _).setCell (Nat.le_refl _) _).setCell (Nat.le_refl _) _).setCell (Nat.le_refl _) _).setCell (Nat.le_refl _) _).alloc (by simp only [World.size_setCell]; exact Nat.le_of_lt z3) _
theorem fo_13_0 (W : Int) : fieldOf 13 0 W = W / 128 % 32 := rfl
theorem fo_13_1 (W : Int) : fieldOf 13 1 W = W / 32768 % 32 := rfl
theorem fo_13_2 (W : Int) : fieldOf 13 2 W = 0 := rfl
theorem fo_13_3 (W : Int) : fieldOf 13 3 W = W / 1048576 % 4096 := rfl
theorem insnOf_13 (op W tk : Int) (h : tkI 13 W = tk) : insnOf op 13 W = .agg #[.int .i64 op, .int .i64 (W / 128 % 32), .int .i64 (W / 32768 % 32), .int .i64 (0), .int .i64 tk, .int .i64 (W / 1048576 % 4096)] := by
  subst h; unfold insnOf; rw [fo_13_0, fo_13_1, fo_13_2, fo_13_3]
set_option maxRecDepth 100000 in
set_option maxHeartbeats 4000000 in
theorem guess_13 (op W : Int) (w0 : 0 ≤ W) (w1 : W < 4294967296) (w : World) : Calls Tryd.prog 56 #[.int .i64 op, .int .i64 13, .int .u32 W] w (AggPost (insnOf op 13 W) w) := by
    have HH := Lib.hid (fun w => has_at 13 (by decide) (by decide) w)
    have HT := Lib.hid (fun w => taken_at 13 (by decide) (by decide) W w0 w1 w)
    go_enter Tryd.func56, Tryd.ntmps56
    go_wp2_with fail
    refine (HH.out _).mono ?_
    rintro e u1 ⟨rfl, hb1⟩
    rw [show hasCells 13 = #[.bool true, .bool true, .bool false, .bool false, .bool true] from rfl]
    obtain ⟨hc1, hf1⟩ := bcell hb1
    have hz1 := hb1.size
    simp only [World.size_alloc] at hc1 hf1 hz1
    have z1 : w.heap.size < u1.heap.size := by omega
    have B1 := Lib.hid (((Below.refl _ _).alloc (Nat.le_refl _) _).trans (hb1.mono (by simp)))
    clear hb1
    go_wp2_with fail
    refine (HT.out _).mono ?_
    rintro e u2 ⟨rfl, hb2⟩
    obtain ⟨hc2, hf2⟩ := bcell hb2
    have hz2 := hb2.size
    simp only [World.size_alloc] at hc2 hf2 hz2
    have z2 : u1.heap.size < u2.heap.size := by omega
    have z3 : w.heap.size < u2.heap.size := by omega
    have z4 : u1.heap.size < u2.heap.size + 1 := by omega
    have z5 : w.heap.size < u2.heap.size + 1 := by omega
    have B2 := Lib.hid ((B1.out.alloc (by omega) _).trans (hb2.mono (by simp; omega)))
    clear hb2
    generalize ht : tkI 13 W = tk at *
    have HI := Lib.hid (insnOf_13 op W tk ht)
    clear ht
    have p0 : u2.cell? ⟨w.heap.size, 0, none⟩ = some (.int .i64 0) := by rw [hc2 _ _ (by omega)]; simp [go_sem, hc1, z1]
    have p1 : u2.cell? ⟨w.heap.size, 1, none⟩ = some (.int .i64 0) := by rw [hc2 _ _ (by omega)]; simp [go_sem, hc1, z1]
    have p2 : u2.cell? ⟨w.heap.size, 2, none⟩ = some (.int .i64 0) := by rw [hc2 _ _ (by omega)]; simp [go_sem, hc1, z1]
    have p3 : u2.cell? ⟨w.heap.size, 3, none⟩ = some (.int .i64 0) := by rw [hc2 _ _ (by omega)]; simp [go_sem, hc1, z1]
    have p4 : u2.cell? ⟨w.heap.size, 4, none⟩ = some (.int .i64 0) := by rw [hc2 _ _ (by omega)]; simp [go_sem, hc1, z1]
    have p5 : u2.cell? ⟨w.heap.size, 5, none⟩ = some (.int .i64 0) := by rw [hc2 _ _ (by omega)]; simp [go_sem, hc1, z1]
    have r0 : u2.frozen? ⟨w.heap.size, 0, none⟩ = false := by rw [hf2 _ _ (by omega)]; simp [go_sem, hf1, z1]
    have r1 : u2.frozen? ⟨w.heap.size, 1, none⟩ = false := by rw [hf2 _ _ (by omega)]; simp [go_sem, hf1, z1]
    have r2 : u2.frozen? ⟨w.heap.size, 2, none⟩ = false := by rw [hf2 _ _ (by omega)]; simp [go_sem, hf1, z1]
    have r3 : u2.frozen? ⟨w.heap.size, 3, none⟩ = false := by rw [hf2 _ _ (by omega)]; simp [go_sem, hf1, z1]
    have r4 : u2.frozen? ⟨w.heap.size, 4, none⟩ = false := by rw [hf2 _ _ (by omega)]; simp [go_sem, hf1, z1]
    have r5 : u2.frozen? ⟨w.heap.size, 5, none⟩ = false := by rw [hf2 _ _ (by omega)]; simp [go_sem, hf1, z1]
    go_wp2_with fail
    refine (cut_lit W 11 7 5 128 32 w0 w1 (by decide) (by decide) (by decide) rfl rfl _).mono ?_
    rintro e u ⟨rfl, rfl⟩
    go_wp2_with fail
    refine (cut_lit W 19 15 5 32768 32 w0 w1 (by decide) (by decide) (by decide) rfl rfl _).mono ?_
    rintro e u ⟨rfl, rfl⟩
    go_wp2_with fail
    refine (cut_lit W 31 20 12 1048576 4096 w0 w1 (by decide) (by decide) (by decide) rfl rfl _).mono ?_
    rintro e u ⟨rfl, rfl⟩
    go_wp2_with fail
    refine bodyPost_ret (v := .agg #[.int .i64 op, .int .i64 (W / 128 % 32), .int .i64 (W / 32768 % 32), .int .i64 (0), .int .i64 tk, .int .i64 (W / 1048576 % 4096)]) (by simp [results, Tryd.results56, go_sem, p0, p1, p2, p3, p4, p5, r0, r1, r2, r3, r4, r5, z1, z2, z3]) rfl ⟨by rw [HI.out], ?_⟩
    exact ((((((B2.out.setCell (Nat.le_refl _) _).setCell (Nat.le_refl _) _).setCell (Nat.le_refl _) _).setCell (Nat.le_refl _) _).setCell (Nat.le_refl _) _).setCell (Nat.le_refl _) _).alloc (by simp only [World.size_setCell]; exact Nat.le_of_lt z3) _
theorem fo_14_0 (W : Int) : fieldOf 14 0 W = W / 128 % 32 := rfl
theorem fo_14_1 (W : Int) : fieldOf 14 1 W = 0 := rfl
theorem fo_14_2 (W : Int) : fieldOf 14 2 W = 0 := rfl
theorem fo_14_3 (W : Int) : fieldOf 14 3 W = W / 1048576 % 4096 := rfl
theorem insnOf_14 (op W tk : Int) (h : tkI 14 W = tk) : insnOf op 14 W = .agg #[.int .i64 op, .int .i64 (W / 128 % 32), .int .i64 (0), .int .i64 (0), .int .i64 tk, .int .i64 (W / 1048576 % 4096)] := by
  subst h; unfold insnOf; rw [fo_14_0, fo_14_1, fo_14_2, fo_14_3]
set_option maxRecDepth 100000 in
set_option maxHeartbeats 4000000 in
theorem guess_14 (op W : Int) (w0 : 0 ≤ W) (w1 : W < 4294967296) (w : World) : Calls Tryd.prog 56 #[.int .i64 op, .int .i64 14, .int .u32 W] w (AggPost (insnOf op 14 W) w) := by
    have HH := Lib.hid (fun w => has_at 14 (by decide) (by decide) w)
    have HT := Lib.hid (fun w => taken_at 14 (by decide) (by decide) W w0 w1 w)
    go_enter Tryd.func56, Tryd.ntmps56
    go_wp2_with fail
    refine (HH.out _).mono ?_
    rintro e u1 ⟨rfl, hb1⟩
    rw [show hasCells 14 = #[.bool true, .bool false, .bool false, .bool true, .bool true] from rfl]
    obtain ⟨hc1, hf1⟩ := bcell hb1
    have hz1 := hb1.size
    simp only [World.size_alloc] at hc1 hf1 hz1
    have z1 : w.heap.size < u1.heap.size := by omega
    have B1 := Lib.hid (((Below.refl _ _).alloc (Nat.le_refl _) _).trans (hb1.mono (by simp)))
    clear hb1
    go_wp2_with fail
    refine (HT.out _).mono ?_
    rintro e u2 ⟨rfl, hb2⟩
    obtain ⟨hc2, hf2⟩ := bcell hb2
    have hz2 := hb2.size
    simp only [World.size_alloc] at hc2 hf2 hz2
    have z2 : u1.heap.size < u2.heap.size := by omega
    have z3 : w.heap.size < u2.heap.size := by omega
    have z4 : u1.heap.size < u2.heap.size + 1 := by omega
    have z5 : w.heap.size < u2.heap.size + 1 := by omega
    have B2 := Lib.hid ((B1.out.alloc (by omega) _).trans (hb2.mono (by simp; omega)))
    clear hb2
    generalize ht : tkI 14 W = tk at *
    have HI := Lib.hid (insnOf_14 op W tk ht)
    clear ht
    have p0 : u2.cell? ⟨w.heap.size, 0, none⟩ = some (.int .i64 0) := by rw [hc2 _ _ (by omega)]; simp [go_sem, hc1, z1]
    have p1 : u2.cell? ⟨w.heap.size, 1, none⟩ = some (.int .i64 0) := by rw [hc2 _ _ (by omega)]; simp [go_sem, hc1, z1]
    have p2 : u2.cell? ⟨w.heap.size, 2, none⟩ = some (.int .i64 0) := by rw [hc2 _ _ (by omega)]; simp [go_sem, hc1, z1]
    have p3 : u2.cell? ⟨w.heap.size, 3, none⟩ = some (.int .i64 0) := by rw [hc2 _ _ (by omega)]; simp [go_sem, hc1, z1]
    have p4 : u2.cell? ⟨w.heap.size, 4, none⟩ = some (.int .i64 0) := by rw [hc2 _ _ (by omega)]; simp [go_sem, hc1, z1]
    have p5 : u2.cell? ⟨w.heap.size, 5, none⟩ = some (.int .i64 0) := by rw [hc2 _ _ (by omega)]; simp [go_sem, hc1, z1]
    have r0 : u2.frozen? ⟨w.heap.size, 0, none⟩ = false := by rw [hf2 _ _ (by omega)]; simp [go_sem, hf1, z1]
    have r1 : u2.frozen? ⟨w.heap.size, 1, none⟩ = false := by rw [hf2 _ _ (by omega)]; simp [go_sem, hf1, z1]
    have r2 : u2.frozen? ⟨w.heap.size, 2, none⟩ = false := by rw [hf2 _ _ (by omega)]; simp [go_sem, hf1, z1]
    have r3 : u2.frozen? ⟨w.heap.size, 3, none⟩ = false := by rw [hf2 _ _ (by omega)]; simp [go_sem, hf1, z1]
    have r4 : u2.frozen? ⟨w.heap.size, 4, none⟩ = false := by rw [hf2 _ _ (by omega)]; simp [go_sem, hf1, z1]
    have r5 : u2.frozen? ⟨w.heap.size, 5, none⟩ = false := by rw [hf2 _ _ (by omega)]; simp [go_sem, hf1, z1]
    go_wp2_with fail
    refine (cut_lit W 11 7 5 128 32 w0 w1 (by decide) (by decide) (by decide) rfl rfl _).mono ?_
    rintro e u ⟨rfl, rfl⟩
    go_wp2_with fail
    refine (cut_lit W 31 20 12 1048576 4096 w0 w1 (by decide) (by decide) (by decide) rfl rfl _).mono ?_
    rintro e u ⟨rfl, rfl⟩
    go_wp2_with fail
    refine bodyPost_ret (v := .agg #[.int .i64 op, .int .i64 (W / 128 % 32), .int .i64 (0), .int .i64 (0), .int .i64 tk, .int .i64 (W / 1048576 % 4096)]) (by simp [results, Tryd.results56, go_sem, p0, p1, p2, p3, p4, p5, r0, r1, r2, r3, r4, r5, z1, z2, z3]) rfl ⟨by rw [HI.out], ?_⟩
    exact ((((((B2.out.setCell (Nat.le_refl _) _).setCell (Nat.le_refl _) _).setCell (Nat.le_refl _) _).setCell (Nat.le_refl _) _).setCell (Nat.le_refl _) _).setCell (Nat.le_refl _) _).alloc (by simp only [World.size_setCell]; exact Nat.le_of_lt z3) _
theorem guess_at (s : Nat) (s1 : 1 ≤ s) (s2 : s ≤ 14) (op W : Int) (w0 : 0 ≤ W) (w1 : W < 4294967296) (w : World) : Calls Tryd.prog 56 #[.int .i64 op, .int .i64 s, .int .u32 W] w (AggPost (insnOf op s W) w) := by
  rcases s14 s s1 s2 with rfl | rfl | rfl | rfl | rfl | rfl | rfl | rfl | rfl | rfl | rfl | rfl | rfl | rfl
  · exact guess_1 op W w0 w1 w
  · exact guess_2 op W w0 w1 w
  · exact guess_3 op W w0 w1 w
  · exact guess_4 op W w0 w1 w
  · exact guess_5 op W w0 w1 w
  · exact guess_6 op W w0 w1 w
  · exact guess_7 op W w0 w1 w
  · exact guess_8 op W w0 w1 w
  · exact guess_9 op W w0 w1 w
  · exact guess_10 op W w0 w1 w
  · exact guess_11 op W w0 w1 w
  · exact guess_12 op W w0 w1 w
  · exact guess_13 op W w0 w1 w
  · exact guess_14 op W w0 w1 w
end Go.Proofs.YtgjiojcdifjhcaaDoor
