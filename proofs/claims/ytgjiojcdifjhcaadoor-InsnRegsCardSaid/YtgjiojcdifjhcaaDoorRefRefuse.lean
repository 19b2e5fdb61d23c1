/- The document's Refuse and Encode: walked. By an AI agent; printed by wip/gen_refenc.py. -/
import Derived.Test.YtgjiojcdifjhcaaDoorRefSmall
import Derived.Test.YtgjiojcdifjhcaaDoorRefLaid
set_option linter.unusedVariables false
set_option linter.unusedSimpArgs false
namespace Go.Proofs.YtgjiojcdifjhcaaDoor
open Go.RowKit
def insnAgg (op rd r1 r2 imm csr : Int) : Value := .agg #[.int .i64 op, .int .i64 rd, .int .i64 r1, .int .i64 r2, .int .i64 imm, .int .i64 csr]
def TwoPost (x : Int × Int) (w : World) (e : Ending) (w' : World) : Prop := e = .returned (.tuple #[.int .i64 x.1, .int .i64 x.2]) ∧ Below w.heap.size w w'
theorem two_given {x : Int × Int} {p c : Int} {w w' : World} (h : x = (p, c)) (hb : Below w.heap.size w w') : TwoPost x w (.returned (.tuple #[.int .i64 p, .int .i64 c])) w' := by
  subst h; exact ⟨rfl, hb⟩
/-- What bars any numbers as an instruction. -/
def barR (op rd r1 r2 imm csr : Int) : Int × Int := if 1 ≤ op ∧ op < 77 then barF (shN op.toNat) rd r1 r2 imm csr else (0, 21)
theorem refrefuse_no (op : Int) (h : op < 1 ∨ 77 ≤ op) (rd r1 r2 imm csr : Int) (w : World) : Calls Tryd.prog 26 #[.agg #[.int .i64 op, .int .i64 rd, .int .i64 r1, .int .i64 r2, .int .i64 imm, .int .i64 csr]] w (TwoPost (barR op rd r1 r2 imm csr) w) := by
  have ER := Lib.hid (show barR op rd r1 r2 imm csr = (0, 21) by unfold barR; rw [if_neg (by omega)])
  have R := Lib.hid (fun w => row_no op h w)
  clear h
  go_enter Tryd.func26, Tryd.ntmps26
  go_wp2_with fail
  refine (R.out _).mono ?_
  rintro e w1 ⟨rfl, hb⟩
  clear R
  unfold noRow
  go_wp2_with fail
  go_ret2
  exact two_given ER.out (by repeat' (first | exact Below.refl _ _ | exact hb | refine Below.alloc ?_ ?_ _ | exact Nat.le_refl _ | (have := hb.size; simp at this; omega) | refine Below.trans ?_ (Below.mono hb ?_) | (simp; done)))
set_option maxRecDepth 100000 in
set_option maxHeartbeats 4000000 in
theorem refrefuse_at (op : Nat) (h1 : 1 ≤ op) (h2 : op < 77) (rd r1 r2 imm csr : Int) (w : World) : Calls Tryd.prog 26 #[.agg #[.int .i64 op, .int .i64 rd, .int .i64 r1, .int .i64 r2, .int .i64 imm, .int .i64 csr]] w (TwoPost (barF (shN op) rd r1 r2 imm csr) w) := by
  have R := Lib.hid (fun w => row_at op h1 h2 w)
  have HS := Lib.hid (shN_rng op h2 h1)
  have HE := Lib.hid (shN_eq op h2)
  clear h1 h2
  go_enter Tryd.func26, Tryd.ntmps26
  go_wp2_with fail
  refine (R.out _).mono ?_
  rintro e w1 ⟨rfl, hb⟩
  clear R
  unfold rowCells
  rw [HE.out]
  generalize shN op = s at *
  have hsz := hb.size
  simp only [World.size_alloc] at hsz
  have HB := Lib.hid hb
  clear hb
  go_wp2_with fail
  refine (has_at s HS.out.1 HS.out.2 _).mono ?_
  rintro e w2 ⟨rfl, hb2⟩
  unfold hasCells
  have hc1 := (bcell HB.out).1
  have hc2 := (bcell hb2).1
  have hz2 := hb2.size
  simp only [World.size_alloc] at hc1 hc2 hz2
  have c0 : w2.cell? ⟨w.heap.size, 1, none⟩ = some (.int .i64 rd) := by rw [hc2 _ _ (by omega)]; simp [go_sem, hc1, show w.heap.size < w1.heap.size by omega]
  have c1 : w2.cell? ⟨w.heap.size, 2, none⟩ = some (.int .i64 r1) := by rw [hc2 _ _ (by omega)]; simp [go_sem, hc1, show w.heap.size < w1.heap.size by omega]
  have c2 : w2.cell? ⟨w.heap.size, 3, none⟩ = some (.int .i64 r2) := by rw [hc2 _ _ (by omega)]; simp [go_sem, hc1, show w.heap.size < w1.heap.size by omega]
  have c3 : w2.cell? ⟨w.heap.size, 5, none⟩ = some (.int .i64 csr) := by rw [hc2 _ _ (by omega)]; simp [go_sem, hc1, show w.heap.size < w1.heap.size by omega]
  have c4 : w2.cell? ⟨w.heap.size, 4, none⟩ = some (.int .i64 imm) := by rw [hc2 _ _ (by omega)]; simp [go_sem, hc1, show w.heap.size < w1.heap.size by omega]
  have c5 : w2.cell? ⟨w1.heap.size, 1, none⟩ = some (.int .i64 s) := by rw [hc2 _ _ (by omega)]; simp [go_sem]
  have z2 : w.heap.size < w2.heap.size := by omega
  have z3 : w1.heap.size < w2.heap.size := by omega
  have BB : Hid (Below w.heap.size w w2) := Lib.hid ((((Below.refl _ _).alloc (Nat.le_refl _) _).trans (HB.out.mono (by simp))).alloc (by omega) _ |>.trans (hb2.mono (by simp; omega)))
  clear hc1 hc2 hz2 hb2 HB hsz
  generalize w1.heap.size = g1 at *
  by_cases a0 : okF s 0 rd
  case neg =>
    have F : Hid (fieldB (hasB s 0) rd 31 = false) := Lib.hid (fieldB_false a0)
    have ER := Lib.hid (show barF s rd r1 r2 imm csr = (1, 22) by unfold barF; rw [if_pos a0])
    clear a0
    go_wp2_with fail
    refine (field_any (hasB s 0) rd 31 _).mono ?_
    rintro e w3 ⟨rfl, rfl⟩
    rw [F.out]
    go_wp2_with fail
    go_ret2
    exact two_given ER.out (BB.out.alloc (Nat.le_of_lt z2) _)
  have F0 : Hid (fieldB (hasB s 0) rd 31 = true) := Lib.hid (fieldB_true a0)
  by_cases a1 : okF s 1 r1
  case neg =>
    have F : Hid (fieldB (hasB s 1) r1 31 = false) := Lib.hid (fieldB_false a1)
    have ER := Lib.hid (show barF s rd r1 r2 imm csr = (2, 22) by unfold barF; rw [if_neg (not_not_intro a0), if_pos a1])
    clear a0 a1
    go_wp2_with fail
    refine (field_any (hasB s 0) rd 31 _).mono ?_
    rintro e w3 ⟨rfl, rfl⟩
    rw [F0.out]
    go_wp2_with fail
    refine (field_any (hasB s 1) r1 31 _).mono ?_
    rintro e w3 ⟨rfl, rfl⟩
    rw [F.out]
    go_wp2_with fail
    go_ret2
    exact two_given ER.out (BB.out.alloc (Nat.le_of_lt z2) _)
  have F1 : Hid (fieldB (hasB s 1) r1 31 = true) := Lib.hid (fieldB_true a1)
  by_cases a2 : okF s 2 r2
  case neg =>
    have F : Hid (fieldB (hasB s 2) r2 31 = false) := Lib.hid (fieldB_false a2)
    have ER := Lib.hid (show barF s rd r1 r2 imm csr = (3, 22) by unfold barF; rw [if_neg (not_not_intro a0), if_neg (not_not_intro a1), if_pos a2])
    clear a0 a1 a2
    go_wp2_with fail
    refine (field_any (hasB s 0) rd 31 _).mono ?_
    rintro e w3 ⟨rfl, rfl⟩
    rw [F0.out]
    go_wp2_with fail
    refine (field_any (hasB s 1) r1 31 _).mono ?_
    rintro e w3 ⟨rfl, rfl⟩
    rw [F1.out]
    go_wp2_with fail
    refine (field_any (hasB s 2) r2 31 _).mono ?_
    rintro e w3 ⟨rfl, rfl⟩
    rw [F.out]
    go_wp2_with fail
    go_ret2
    exact two_given ER.out (BB.out.alloc (Nat.le_of_lt z2) _)
  have F2 : Hid (fieldB (hasB s 2) r2 31 = true) := Lib.hid (fieldB_true a2)
  by_cases a3 : okF s 3 csr
  case neg =>
    have F : Hid (fieldB (hasB s 3) csr 4095 = false) := Lib.hid (fieldB_false a3)
    have ER := Lib.hid (show barF s rd r1 r2 imm csr = (5, 22) by unfold barF; rw [if_neg (not_not_intro a0), if_neg (not_not_intro a1), if_neg (not_not_intro a2), if_pos a3])
    clear a0 a1 a2 a3
    go_wp2_with fail
    refine (field_any (hasB s 0) rd 31 _).mono ?_
    rintro e w3 ⟨rfl, rfl⟩
    rw [F0.out]
    go_wp2_with fail
    refine (field_any (hasB s 1) r1 31 _).mono ?_
    rintro e w3 ⟨rfl, rfl⟩
    rw [F1.out]
    go_wp2_with fail
    refine (field_any (hasB s 2) r2 31 _).mono ?_
    rintro e w3 ⟨rfl, rfl⟩
    rw [F2.out]
    go_wp2_with fail
    refine (field_any (hasB s 3) csr 4095 _).mono ?_
    rintro e w3 ⟨rfl, rfl⟩
    rw [F.out]
    go_wp2_with fail
    go_ret2
    exact two_given ER.out (BB.out.alloc (Nat.le_of_lt z2) _)
  have F3 : Hid (fieldB (hasB s 3) csr 4095 = true) := Lib.hid (fieldB_true a3)
  by_cases a4 : immOk s imm
  case neg =>
    have F4 : Hid (immB s imm = false) := Lib.hid (decide_eq_false a4)
    have ER := Lib.hid (show barF s rd r1 r2 imm csr = (4, 23) by unfold barF; rw [if_neg (not_not_intro a0), if_neg (not_not_intro a1), if_neg (not_not_intro a2), if_neg (not_not_intro a3), if_pos a4])
    clear a0 a1 a2 a3 a4
    go_wp2_with fail
    refine (field_any (hasB s 0) rd 31 _).mono ?_
    rintro e w3 ⟨rfl, rfl⟩
    rw [F0.out]
    go_wp2_with fail
    refine (field_any (hasB s 1) r1 31 _).mono ?_
    rintro e w3 ⟨rfl, rfl⟩
    rw [F1.out]
    go_wp2_with fail
    refine (field_any (hasB s 2) r2 31 _).mono ?_
    rintro e w3 ⟨rfl, rfl⟩
    rw [F2.out]
    go_wp2_with fail
    refine (field_any (hasB s 3) csr 4095 _).mono ?_
    rintro e w3 ⟨rfl, rfl⟩
    rw [F3.out]
    go_wp2_with fail
    refine (holds_at s HS.out.1 HS.out.2 imm _).mono ?_
    rintro e w3 ⟨rfl, rfl⟩
    rw [F4.out]
    go_wp2_with fail
    go_ret2
    exact two_given ER.out (BB.out.alloc (Nat.le_of_lt z2) _)
  case pos =>
    have F4 : Hid (immB s imm = true) := Lib.hid (decide_eq_true a4)
    have ER := Lib.hid (show barF s rd r1 r2 imm csr = (0, 0) by unfold barF; rw [if_neg (not_not_intro a0), if_neg (not_not_intro a1), if_neg (not_not_intro a2), if_neg (not_not_intro a3), if_neg (not_not_intro a4)])
    clear a0 a1 a2 a3 a4
    go_wp2_with fail
    refine (field_any (hasB s 0) rd 31 _).mono ?_
    rintro e w3 ⟨rfl, rfl⟩
    rw [F0.out]
    go_wp2_with fail
    refine (field_any (hasB s 1) r1 31 _).mono ?_
    rintro e w3 ⟨rfl, rfl⟩
    rw [F1.out]
    go_wp2_with fail
    refine (field_any (hasB s 2) r2 31 _).mono ?_
    rintro e w3 ⟨rfl, rfl⟩
    rw [F2.out]
    go_wp2_with fail
    refine (field_any (hasB s 3) csr 4095 _).mono ?_
    rintro e w3 ⟨rfl, rfl⟩
    rw [F3.out]
    go_wp2_with fail
    refine (holds_at s HS.out.1 HS.out.2 imm _).mono ?_
    rintro e w3 ⟨rfl, rfl⟩
    rw [F4.out]
    go_wp2_with fail
    go_ret2
    exact two_given ER.out (BB.out.alloc (Nat.le_of_lt z2) _)
theorem refrefuse_any (op rd r1 r2 imm csr : Int) (w : World) : Calls Tryd.prog 26 #[.agg #[.int .i64 op, .int .i64 rd, .int .i64 r1, .int .i64 r2, .int .i64 imm, .int .i64 csr]] w (TwoPost (barR op rd r1 r2 imm csr) w) := by
  by_cases h : 1 ≤ op ∧ op < 77
  · obtain ⟨k, rfl⟩ : ∃ k : Nat, op = (k : Int) := ⟨op.toNat, by omega⟩
    have := refrefuse_at k (by omega) (by omega) rd r1 r2 imm csr w
    rw [show barF (shN k) rd r1 r2 imm csr = barR k rd r1 r2 imm csr by unfold barR; rw [if_pos h]; rfl] at this
    exact this
  · exact refrefuse_no op (by omega) rd r1 r2 imm csr w
end Go.Proofs.YtgjiojcdifjhcaaDoor
