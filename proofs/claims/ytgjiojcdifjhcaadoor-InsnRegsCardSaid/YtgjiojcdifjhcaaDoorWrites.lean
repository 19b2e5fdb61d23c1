/- insn.Writes and the document's own: the register that an instruction writes. By an AI agent. -/
import Derived.Test.YtgjiojcdifjhcaaDoorLBack
set_option linter.unusedVariables false
set_option linter.unusedSimpArgs false
namespace Go.Proofs.YtgjiojcdifjhcaaDoor
open Go.RowKit
def wrV (op rd r1 r2 imm csr : Int) : Int := if (encR op rd r1 r2 imm csr).2.2 = 0 then (if shN op.toNat = 10 then 0 else rd) else 0
def NumPost (x : Int) (w : World) (e : Ending) (w' : World) : Prop := e = .returned (.int .i64 x) ∧ Below w.heap.size w w'
theorem num_given {x y : Int} {w w' : World} (h : x = y) (hb : Below w.heap.size w w') : NumPost y w (.returned (.int .i64 x)) w' := ⟨by rw [h], hb⟩
theorem rd_zero {s : Nat} {rd : Int} (h : hasB s 0 = false) (ho : okF s 0 rd) : rd = 0 := by
  unfold okF mostF at ho; rw [h] at ho; simp at ho; omega
set_option maxRecDepth 100000 in
set_option maxHeartbeats 4000000 in
theorem writes_any (a0 a1 a2 a3 a4 a5 : Int) (w : World) (ht : TabsW w) : Calls Tryd.prog 50 #[.agg #[.int .i64 a0, .int .i64 a1, .int .i64 a2, .int .i64 a3, .int .i64 a4, .int .i64 a5]] w (NumPost (wrV a0 a1 a2 a3 a4 a5) w) := by
  have B := Lib.hid ((Below.refl w.heap.size w).alloc (Nat.le_refl _) (.cells #[.int .i64 a0, .int .i64 a1, .int .i64 a2, .int .i64 a3, .int .i64 a4, .int .i64 a5] 46))
  have T := Lib.hid (ht.after ((Below.refl w.heap.size w).alloc (Nat.le_refl _) (.cells #[.int .i64 a0, .int .i64 a1, .int .i64 a2, .int .i64 a3, .int .i64 a4, .int .i64 a5] 46)))
  clear ht
  go_enter Tryd.func50, Tryd.ntmps50
  go_wp2_with fail
  refine (encode_any a0 a1 a2 a3 a4 a5 _ T.out).mono ?_
  rintro e w1 ⟨er, rfl, her, hb1⟩
  obtain ⟨hc1, -⟩ := bcell hb1
  have hz1 := hb1.size
  simp only [World.size_alloc] at hc1 hz1
  replace B := Lib.hid (B.out.trans (hb1.mono B.out.size))
  replace T := Lib.hid (T.out.after hb1)
  clear hb1
  rcases her with ⟨z, rfl⟩ | ⟨z, g, rfl, _⟩
  · have Z := Lib.hid z
    obtain ⟨k, rfl, p1, p2, h0, h1, h2, h3, hi, hw⟩ := encR_ok z
    clear z hw hi h1 h2 h3
    have hk := T.out.sh k p2
    have HE := shN_eq k p2
    rw [HE] at hk
    have f0 : w1.cell? ⟨w.heap.size, 0, none⟩ = some (.int .i64 (k : Int)) := by rw [hc1 _ _ (by omega)]; simp [go_sem]
    have f1 : w1.cell? ⟨w.heap.size, 1, none⟩ = some (.int .i64 a1) := by rw [hc1 _ _ (by omega)]; simp [go_sem]
    have hzz : w.heap.size < w1.heap.size := by omega
    clear hc1
    have q1 : decide (0 ≤ (k : Int)) = true := by simp
    have q2 : decide ((k : Int) < 77) = true := by simp; omega
    by_cases h10 : shN k = 10
    · rw [h10] at hk
      go_wp2_with fail
      go_ret
      refine num_given ?_ B.out
      unfold wrV; rw [if_pos Z.out, Int.toNat_natCast, if_pos h10]
    · have q3 : ((shN k : Int) == 10) = false := by simp; omega
      go_wp2_with fail
      go_ret
      refine num_given ?_ B.out
      unfold wrV; rw [if_pos Z.out, Int.toNat_natCast, if_neg h10]
  · go_wp2_with fail
    go_ret
    refine num_given ?_ B.out
    unfold wrV; rw [if_neg]; simpa using z
theorem field93_0 (x y z u v : Bool) (w : World) : (Instr.field 93 (.agg #[.bool x, .bool y, .bool z, .bool u, .bool v]) 0).run Tryd.prog w = .ok (.bool x) w := by kernel_rfl
theorem field59_1 (s : ByteArray) (a b c d e : Int) (w : World) : (Instr.field 59 (.agg #[.string s, .int .i64 a, .int .i64 b, .int .i64 c, .int .i64 d, .int .u32 e]) 1).run Tryd.prog w = .ok (.int .i64 a) w := by kernel_rfl
attribute [local go_sem] field93_0 field59_1
set_option maxRecDepth 100000 in
set_option maxHeartbeats 4000000 in
theorem refwrites_any (a0 a1 a2 a3 a4 a5 : Int) (w : World) : Calls Tryd.prog 51 #[.agg #[.int .i64 a0, .int .i64 a1, .int .i64 a2, .int .i64 a3, .int .i64 a4, .int .i64 a5]] w (NumPost (wrV a0 a1 a2 a3 a4 a5) w) := by
  have B := Lib.hid ((Below.refl w.heap.size w).alloc (Nat.le_refl _) (.cells #[.int .i64 a0, .int .i64 a1, .int .i64 a2, .int .i64 a3, .int .i64 a4, .int .i64 a5] 46))
  go_enter Tryd.func51, Tryd.ntmps51
  go_wp2_with fail
  refine (refrefuse_any a0 a1 a2 a3 a4 a5 _).mono ?_
  rintro e w1 ⟨rfl, hb1⟩
  rw [← encR_barR]
  obtain ⟨hc1, -⟩ := bcell hb1
  have hz1 := hb1.size
  simp only [World.size_alloc] at hc1 hz1
  replace B := Lib.hid (B.out.trans (hb1.mono B.out.size))
  clear hb1
  by_cases z : (encR a0 a1 a2 a3 a4 a5).2.2 = 0
  · have Z := Lib.hid z
    have hz : ((encR a0 a1 a2 a3 a4 a5).2.2 == 0) = true := by simpa using z
    have hz' : ((encR a0 a1 a2 a3 a4 a5).2.2 != 0) = false := by simpa using z
    obtain ⟨k, rfl, p1, p2, h0, h1, h2, h3, hi, hw⟩ := encR_ok z
    have H0 := Lib.hid h0
    clear hw hi h1 h2 h3 h0
    have R := Lib.hid (fun w => row_at k p1 p2 w)
    have HS := Lib.hid (shN_rng k p2 p1)
    have HE := Lib.hid (shN_eq k p2)
    clear p1 p2
    have hv := Lib.hid (show wrV (k : Int) a1 a2 a3 a4 a5 = if shN k = 10 then 0 else a1 by unfold wrV; rw [if_pos Z.out, Int.toNat_natCast])
    have f0 : w1.cell? ⟨w.heap.size, 0, none⟩ = some (.int .i64 (k : Int)) := by rw [hc1 _ _ (by omega)]; simp [go_sem]
    have f1 : w1.cell? ⟨w.heap.size, 1, none⟩ = some (.int .i64 a1) := by rw [hc1 _ _ (by omega)]; simp [go_sem]
    clear hc1 z
    go_wp2_with fail
    refine (R.out _).mono ?_
    rintro e w2 ⟨rfl, hb⟩
    unfold rowCells
    rw [HE.out]
    generalize shN k = s at *
    obtain ⟨hc2, -⟩ := bcell hb
    have hz2 := hb.size
    replace B := Lib.hid (B.out.trans (hb.mono B.out.size))
    have f1' : w2.cell? ⟨w.heap.size, 1, none⟩ = some (.int .i64 a1) := by rw [hc2 _ _ (by omega)]; exact f1
    clear hb f0 f1 hc2
    go_wp2_with fail
    refine (has_at s HS.out.1 HS.out.2 _).mono ?_
    rintro e w3 ⟨rfl, hb⟩
    unfold hasCells
    obtain ⟨hc3, -⟩ := bcell hb
    have hz3 := hb.size
    simp only [World.size_alloc] at hc3 hz3
    have B2 := Lib.hid (B.out.alloc (Nat.le_trans (by omega) hz2) (.cells #[.string (nm k), .int .i64 s, .int .i64 (oc k), .int .i64 (f3 k), .int .i64 (f7 k), .int .u32 (wd k)] 59))
    replace B2 := Lib.hid (B2.out.trans (hb.mono B2.out.size))
    clear hb
    have g1 : w3.cell? ⟨w.heap.size, 1, none⟩ = some (.int .i64 a1) := by rw [hc3 _ _ (by omega)]; simp [go_sem, f1', show w.heap.size < w2.heap.size by omega]
    have g2 : w3.cell? ⟨w2.heap.size, 1, none⟩ = some (.int .i64 s) := by rw [hc3 _ _ (by omega)]; simp [go_sem]
    have z3 : w.heap.size < w3.heap.size := by omega
    have z4 : w2.heap.size < w3.heap.size := by omega
    clear hc3 f1' R
    by_cases h10 : s = 10
    · have e3 : ((s : Int) != 10) = false := by simp; omega
      have e4 : ((s : Int) == 10) = true := by simp; omega
      subst h10
      have hh : hasB 10 0 = true := by decide
      go_wp2_with fail
      go_ret
      refine num_given (by simp [hv.out]) ?_
      exact B2.out
    · have e3 : ((s : Int) != 10) = true := by simp; omega
      have e4 : ((s : Int) == 10) = false := by simp; omega
      rcases hh : hasB s 0 with _ | _
      · go_wp2_with fail
        go_ret
        refine num_given (by rw [hv.out, if_neg h10, rd_zero hh H0.out]) ?_
        exact B2.out
      · go_wp2_with fail
        go_ret
        refine num_given (by rw [hv.out, if_neg h10]) ?_
        exact B2.out
  · have hz : ((encR a0 a1 a2 a3 a4 a5).2.2 == 0) = false := by simpa using z
    have hz' : ((encR a0 a1 a2 a3 a4 a5).2.2 != 0) = true := by simpa using z
    go_wp2_with fail
    go_ret
    refine num_given ?_ B.out
    unfold wrV; rw [if_neg z]
end Go.Proofs.YtgjiojcdifjhcaaDoor
