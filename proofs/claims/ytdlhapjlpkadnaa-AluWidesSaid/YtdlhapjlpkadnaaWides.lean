/- AluWides: whole products and quotients of wide numbers: the program's answers are the document's. No condition but that the words are words. -/
import Derived.Test.YtdlhapjlpkadnaaDiv
import Derived.Test.YtdlhapjlpkadnaaWEqStruct
import Derived.LaidEql
set_option linter.unusedVariables false
namespace Go.Proofs.Ytdlhapjlpkadnaa
open Go.RowKit Go.Proofs.Ytdlhapjlpkadnaa.PAluDoes Go.Proofs.YtdlhapjlpkadnaaW.PrintWords
theorem eqInt64 (d : Nat) (x y : Int) (w : World) : (Op.equalIn (d + 1) 22 (.int .u64 x) (.int .u64 y)).run Try.prog w = .ok (x == y) w := by
  simp [Op.equalIn, run_underlying Try.underlying22]
theorem eqWide (x y x' y' : Int) (w : World) : (binOp .eql 35 (.agg #[.int .u64 x, .int .u64 y]) (.agg #[.int .u64 x', .int .u64 y'])).run Try.prog w = .ok (.bool (x == x' && y == y')) w := by
  have h : (Op.equalIn 10000 35 (.agg #[.int .u64 x, .int .u64 y]) (.agg #[.int .u64 x', .int .u64 y'])).run Try.prog w = .ok (x == x' && y == y') w :=
    eqA_of (d := 9999) Try.underlying35 (by kernel_rfl) (eqf_cons (a := .int .u64 x) (b := .int .u64 x') (by decide) (by kernel_rfl) (by kernel_rfl) (eqInt64 9998 x x' w) (eqf_last (a := .int .u64 y) (b := .int .u64 y') (by decide) (by kernel_rfl) (by kernel_rfl) (eqInt64 9998 y y' w)))
  simp only [binOp]
  simp [Op.equal, Op.maxDepth, h]
def RefDivYes (q r : Int) (w : World) (e : Ending) (w' : World) : Prop := e = .returned (.tuple #[.int .u64 q, .int .u64 r, .agg #[.slice none 0 0, .int .i64 0]]) ∧ Below w.heap.size w w'
theorem refdivide_yes (H L d : Int) (hd : d ≠ 0) (hH : 0 ≤ H) (hHd : H < d) (hdm : d ≤ 18446744073709551615) (hL : 0 ≤ L) (hLm : L ≤ 18446744073709551615) (w : World) :
    Calls Try.prog 15 #[.agg #[.int .u64 H, .int .u64 L], .int .u64 d] w (RefDivYes ((H * 18446744073709551616 + L) / d) ((H * 18446744073709551616 + L) % d) w) := by
  have LL := Lib.hid (long_law H L d (by omega) hdm hH hHd hL hLm)
  generalize hQ : (H * 18446744073709551616 + L) / d = Q at *
  generalize hR : (H * 18446744073709551616 + L) % d = R at *
  clear hQ hR
  have e0 : (d == 0) = false := by simpa using hd
  go_enter Try.func15, Try.ntmps15
  go_wp2_with fail
  refine (hartixref2_long.calls 65 _ _ _ _ _ _ LL.out).mono ?_
  rintro e w1 ⟨rfl, hb⟩
  obtain ⟨hc, hf⟩ := bcell hb
  have hz := hb.size
  simp only [World.size_alloc] at hc hf hz
  have c0 : w1.cell? ⟨w.heap.size + 1, 0, none⟩ = some (.slice none 0 0) := by rw [hc _ _ (by omega)]; simp [go_sem]
  have c1 : w1.cell? ⟨w.heap.size + 1, 1, none⟩ = some (.int .i64 0) := by rw [hc _ _ (by omega)]; simp [go_sem]
  have f0 : w1.frozen? ⟨w.heap.size + 1, 0, none⟩ = false := by rw [hf _ _ (by omega)]; simp [go_sem]
  have f1 : w1.frozen? ⟨w.heap.size + 1, 1, none⟩ = false := by rw [hf _ _ (by omega)]; simp [go_sem]
  have z : w.heap.size + 1 < w1.heap.size := by omega
  clear hc hf hz LL
  have hb2 := (((Below.refl w.heap.size w).alloc (Nat.le_refl _) (.cells #[.int .u64 H, .int .u64 L] 35)).alloc (by simp) (.cells #[.slice none 0 0, .int .i64 0] 29)).trans (hb.mono (by simp; omega))
  go_wp2_with (go_at_call 26; refine (none_any _).mono ?_; rintro e w2 ⟨rfl, rfl⟩)
  refine bodyPost_ret (v := .tuple #[.int .u64 Q, .int .u64 R, .agg #[.slice none 0 0, .int .i64 0]]) (by simp [results, Try.results15, go_sem, c0, c1, z]) rfl ⟨rfl, ?_⟩
  have hz := hb2.size
  exact (by repeat' (first | exact hb2 | refine Below.alloc ?_ ?_ _ | refine Below.setCell ?_ ?_ _ | exact Nat.le_refl _ | (simp; done) | (simp; omega)))
def RefDivNo (w : World) (e : Ending) (w' : World) : Prop := ∃ d n, e = .returned (.tuple #[.int .u64 0, .int .u64 0, .agg #[.slice (some ⟨d, 0, none⟩) 1 n, .int .i64 41]]) ∧ w'.cell? ⟨d, 0, none⟩ = some (.string ⟨#[97, 108, 117]⟩) ∧ w'.cell? ⟨d, 1, none⟩ = some (.int .i64 0) ∧ Below w.heap.size w w'
theorem refdivide_no (H L d : Int) (h : d ≤ H) (w : World) :
    Calls Try.prog 15 #[.agg #[.int .u64 H, .int .u64 L], .int .u64 d] w (RefDivNo w) := by
  by_cases h0 : d = 0
  · subst h0
    go_enter Try.func15, Try.ntmps15
    go_wp2_with (go_at_call 28; refine (refno_any _ _).mono ?_; rintro e w1 ⟨rfl, rfl⟩)
    refine bodyPost_ret (v := .tuple #[.int .u64 0, .int .u64 0, .agg #[.slice (some ⟨w.heap.size + 1 + 1 + 1 + 1, 0, none⟩) 1 1, .int .i64 41]]) (by simp [results, Try.results15, go_sem]) rfl ⟨_, _, rfl, by simp [go_sem], by simp [go_sem], ?_⟩
    exact (by repeat' (first | exact Below.refl _ _ | refine Below.alloc ?_ ?_ _ | refine Below.setCell ?_ ?_ _ | exact Nat.le_refl _ | (simp; done) | (simp; omega)))
  · have e0 : (d == 0) = false := by simpa using h0
    go_enter Try.func15, Try.ntmps15
    go_wp2_with (go_at_call 28; refine (refno_any _ _).mono ?_; rintro e w1 ⟨rfl, rfl⟩)
    refine bodyPost_ret (v := .tuple #[.int .u64 0, .int .u64 0, .agg #[.slice (some ⟨w.heap.size + 1 + 1 + 1 + 1, 0, none⟩) 1 1, .int .i64 41]]) (by simp [results, Try.results15, go_sem]) rfl ⟨_, _, rfl, by simp [go_sem], by simp [go_sem], ?_⟩
    exact (by repeat' (first | exact Below.refl _ _ | refine Below.alloc ?_ ?_ _ | refine Below.setCell ?_ ?_ _ | exact Nat.le_refl _ | (simp; done) | (simp; omega)))
attribute [local go_sem] eqWide
set_option maxHeartbeats 1000000 in
theorem wides_yes (a b H L d : Int) (ha : Word a) (hb : Word b) (hd : d ≠ 0) (hH : 0 ≤ H) (hHd : H < d) (hdm : d ≤ 18446744073709551615) (hL : 0 ≤ L) (hLm : L ≤ 18446744073709551615) (w : World) :
    Calls Try.prog 4 #[.int .u64 a, .int .u64 b, .agg #[.int .u64 H, .int .u64 L], .int .u64 d] w fun e w' => e = .returned (.bool true) ∧ Below w.heap.size w w' := by
  have C1 := fun w => divide_yes H L d hH hHd hdm hL hLm w
  have C2 := fun w => refdivide_yes H L d hd hH hHd hdm hL hLm w
  have M1 := Lib.hid (fun w => mul16_any a b ha hb w)
  have M2 := Lib.hid (fun w => refmul_any a b ha hb w)
  generalize (H * 18446744073709551616 + L) / d = Q at *
  generalize (H * 18446744073709551616 + L) % d = R at *
  generalize a * b / 18446744073709551616 = ph at *
  generalize a * b % 18446744073709551616 = pl at *
  have C1 := Lib.hid C1
  have C2 := Lib.hid C2
  go_enter Try.func4, Try.ntmps4
  go_wp2_with fail
  refine (C1.out _).mono ?_
  rintro e w1 ⟨rfl, k1⟩
  obtain ⟨z, c, f, j1⟩ := after_alloc k1
  have c0 := c 0 _ rfl
  have c1 := c 1 _ rfl
  clear c f
  go_wp2_with fail
  refine (C2.out _).mono ?_
  rintro e w2 ⟨rfl, k2⟩
  have j2 := j1.trans (k2.mono (by omega))
  go_wp2_with fail
  refine (M1.out _).mono ?_
  rintro e w3 ⟨rfl, k3⟩
  obtain ⟨z3, c3, f3, j3⟩ := after_alloc k3
  have d0 := c3 0 _ rfl
  have d1 := c3 1 _ rfl
  clear c3 f3
  go_wp2_with fail
  refine (M2.out _).mono ?_
  rintro e w4 ⟨rfl, k4⟩
  have d0' : w4.cell? ⟨w2.heap.size, 0, none⟩ = some (.slice none 0 0) := by rw [k4.cell z3]; exact d0
  have d1' : w4.cell? ⟨w2.heap.size, 1, none⟩ = some (.int .i64 0) := by rw [k4.cell z3]; exact d1
  have s1 := j2.size
  have s3 := k3.size
  have s4 := k4.size
  simp only [World.size_alloc] at s3
  go_wp2_with fail
  refine (is_none _).mono ?_
  rintro e w5 ⟨rfl, k5⟩
  go_wp2_with fail
  go_ret
  exact ⟨rfl, ((j2.trans (j3.mono (by omega))).trans (k4.mono (by omega))).trans (k5.mono (by omega))⟩

set_option maxHeartbeats 1000000 in
theorem wides_no (a b H L d : Int) (ha : Word a) (hb : Word b) (hd : d ≤ H) (w : World) :
    Calls Try.prog 4 #[.int .u64 a, .int .u64 b, .agg #[.int .u64 H, .int .u64 L], .int .u64 d] w fun e w' => e = .returned (.bool true) ∧ Below w.heap.size w w' := by
  have M1 := Lib.hid (fun w => mul16_any a b ha hb w)
  have M2 := Lib.hid (fun w => refmul_any a b ha hb w)
  generalize a * b / 18446744073709551616 = ph at *
  generalize a * b % 18446744073709551616 = pl at *
  have HD := Lib.hid hd
  clear hd
  go_enter Try.func4, Try.ntmps4
  go_wp2_with fail
  refine (divide_no H L d HD.out _).mono ?_
  rintro e w1 ⟨g, rfl, g0, g1, g2, k1⟩
  have hg := World.block_lt_of_cell? w1 _ g0
  obtain ⟨z, c, f, j1⟩ := after_alloc k1
  have c0 := c 0 _ rfl
  have c1 := c 1 _ rfl
  clear c f
  go_wp2_with fail
  refine (refdivide_no H L d HD.out _).mono ?_
  rintro e w2 ⟨x, n, rfl, x0, x1, k2⟩
  have hx := World.block_lt_of_cell? w2 _ x0
  have j2 := j1.trans (k2.mono (by omega))
  have s2 := k2.size
  have q0 := (k2.cell (p := ⟨g, 0, none⟩) hg).trans g0
  have q1 := (k2.cell (p := ⟨g, 1, none⟩) hg).trans g1
  have q2 := (k2.cell (p := ⟨g, 2, none⟩) hg).trans g2
  clear g0 g1 g2
  have hg2 : g < w2.heap.size := by omega
  go_wp2_with fail
  refine (M1.out _).mono ?_
  rintro e w3 ⟨rfl, k3⟩
  obtain ⟨z3, c3, f3, j3⟩ := after_alloc k3
  have d0 := c3 0 _ rfl
  have d1 := c3 1 _ rfl
  clear c3 f3
  go_wp2_with fail
  refine (M2.out _).mono ?_
  rintro e w4 ⟨rfl, k4⟩
  have far : ∀ b o v, b < w2.heap.size → w2.cell? ⟨b, o, none⟩ = some v → w4.cell? ⟨b, o, none⟩ = some v := fun b o v hb hv => by
    rw [k4.cell (by show b < _; omega), j3.cell (by exact hb)]; exact hv
  have d0' : w4.cell? ⟨w2.heap.size, 0, none⟩ = some (.slice (some ⟨x, 0, none⟩) 1 n) := by rw [k4.cell z3]; exact d0
  have d1' : w4.cell? ⟨w2.heap.size, 1, none⟩ = some (.int .i64 41) := by rw [k4.cell z3]; exact d1
  have F := Lib.hid (And.intro (And.intro (far _ _ _ hg2 q0) (And.intro (far _ _ _ hg2 q1) (far _ _ _ hg2 q2))) (And.intro (far _ _ _ hx x0) (far _ _ _ hx x1)))
  clear far q0 q1 q2 x0 x1 d0 d1
  have s1 := j2.size
  have s3 := k3.size
  have s4 := k4.size
  simp only [World.size_alloc] at s3
  go_wp2_with fail
  refine (is_fault g 0 x n ⟨#[97, 108, 117]⟩ 0 41 _ F.out.1.1 F.out.1.2.1 F.out.1.2.2 rfl F.out.2.1 F.out.2.2).mono ?_
  rintro e w5 ⟨rfl, k5⟩
  go_wp2_with fail
  go_ret
  exact ⟨rfl, ((j2.trans (j3.mono (by omega))).trans (k4.mono (by omega))).trans (k5.mono (by omega))⟩
theorem law_wides (a b H L d : Int) (ha : Word a) (hb : Word b) (hH : Word H) (hL : Word L) (hd : Word d) (w : World) :
    Calls Try.prog 4 #[.int .u64 a, .int .u64 b, .agg #[.int .u64 H, .int .u64 L], .int .u64 d] w fun e w' => e = .returned (.bool true) ∧ Below w.heap.size w w' := by
  by_cases h : d ≤ H
  · exact wides_no a b H L d ha hb h w
  · exact wides_yes a b H L d ha hb (by have := hH.1; omega) hH.1 (by omega) hd.2 hL.1 hL.2 w
end Go.Proofs.Ytdlhapjlpkadnaa
