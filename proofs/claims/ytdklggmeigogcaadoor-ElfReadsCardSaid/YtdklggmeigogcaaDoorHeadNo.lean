/- hartixref7.headNo: the document's look at the header's fixed fields. By an AI agent. -/
import Derived.Test.YtdklggmeigogcaaDoorSegment
set_option linter.unusedVariables false
set_option linter.unusedSimpArgs false
namespace Go.Proofs.YtdklggmeigogcaaDoor
open Go.RowKit
def NoPost (p c : Int) (w : World) (e : Ending) (w' : World) : Prop :=
  ∃ d n, e = .returned (.agg #[.slice (some ⟨d, 0, none⟩) 1 n, .int .i64 c]) ∧ w.heap.size ≤ d ∧ d < w'.heap.size ∧ w'.cell? ⟨d, 0, none⟩ = some (.string elfS) ∧ w'.cell? ⟨d, 1, none⟩ = some (.int .i64 p) ∧ Below w.heap.size w w'
theorem no_ex (p c : Int) (w : World) : Calls Tryd.prog 33 #[.int .i64 c, .int .i64 p] w (NoPost p c w) := by
  go_enter Tryd.func33, Tryd.ntmps33
  go_wp2_with fail
  refine (new_any elfS p c _).mono ?_
  rintro e w1 ⟨rfl, rfl⟩
  go_wp2_with fail
  refine bodyPost_ret (v := .agg #[.slice (some ⟨w.heap.size + 1 + 1, 0, none⟩) 1 1, .int .i64 c]) (by simp [results, Tryd.results33, go_sem]) rfl ⟨_, _, rfl, by omega, by simp [go_sem], by simp [go_sem], by simp [go_sem], ?_⟩
  exact (by repeat' (first | exact Below.refl _ _ | refine Below.alloc ?_ ?_ _ | refine Below.setCell ?_ ?_ _ | exact Nat.le_refl _ | (simp; done) | (simp; omega)))
theorem none_ex (w : World) : Calls Tryd.prog 54 #[] w fun e w' => e = .returned (.agg #[.slice none 0 0, .int .i64 0]) ∧ Below w.heap.size w w' :=
  (none_any w).mono fun e w' ⟨h1, h2⟩ => ⟨h1, by rw [h2]; exact (Below.refl _ _).alloc (Nat.le_refl _) _⟩
/-- The value is the refusal (p, c) as plain data, its link in a block from B on; or none where c is 0. -/
def FltNew (fv : Value) (p c : Int) (B : Nat) (w : World) : Prop :=
  (c = 0 ∧ fv = .agg #[.slice none 0 0, .int .i64 0]) ∨ ((c != 0) = true ∧ ∃ d n, fv = .agg #[.slice (some ⟨d, 0, none⟩) 1 n, .int .i64 c] ∧ B ≤ d ∧ d < w.heap.size ∧ w.cell? ⟨d, 0, none⟩ = some (.string elfS) ∧ w.cell? ⟨d, 1, none⟩ = some (.int .i64 p))
theorem FltNew.laid {p c : Int} {w : World} {B q d n : Nat} (hc : (c != 0) = true) (hB : B ≤ d) (hd : d < w.heap.size) (h0 : w.cell? ⟨d, 0, none⟩ = some (.string elfS)) (h1 : w.cell? ⟨d, 1, none⟩ = some (.int .i64 p)) (hq : d ≠ q) (a b : Value) :
    FltNew (.agg #[.slice (some ⟨d, 0, none⟩) 1 n, .int .i64 c]) p c B ((w.setCell ⟨q, 0, none⟩ a).setCell ⟨q, 1, none⟩ b) :=
  Or.inr ⟨hc, d, n, rfl, hB, by simpa using hd, by simp [go_sem, hq, h0], by simp [go_sem, hq, h1]⟩
/-- A refusal laid into the result's variable. -/
theorem FltIs.laid {p c : Int} {w : World} {q d n : Nat} (hc : (c != 0) = true) (hd : d < w.heap.size) (h0 : w.cell? ⟨d, 0, none⟩ = some (.string elfS)) (h1 : w.cell? ⟨d, 1, none⟩ = some (.int .i64 p)) (hq : d ≠ q) (a b : Value) :
    FltIs (.agg #[.slice (some ⟨d, 0, none⟩) 1 n, .int .i64 c]) p c ((w.setCell ⟨q, 0, none⟩ a).setCell ⟨q, 1, none⟩ b) :=
  Or.inr ⟨hc, d, n, rfl, by simpa using hd, by simp [go_sem, hq, h0], by simp [go_sem, hq, h1]⟩
theorem fixNo_first (L : List Nat) (j : Nat) (hok : ∀ i, i < j → fld L (fixT.getD i (0, 0, 0)).1 (fixT.getD i (0, 0, 0)).2.1 = (fixT.getD i (0, 0, 0)).2.2) : fixNo L j = (0, 0) := by
  induction j with
  | zero => rfl
  | succ j ih =>
    rw [fixNo, ih (fun i hi => hok i (by omega)), if_neg (by simp)]
    dsimp only
    rw [if_pos (hok j (by omega))]
theorem fixNo_at (L : List Nat) (j : Nat) (hj : j < 9) (hok : ∀ i, i < j → fld L (fixT.getD i (0, 0, 0)).1 (fixT.getD i (0, 0, 0)).2.1 = (fixT.getD i (0, 0, 0)).2.2)
    (hbad : fld L (fixT.getD j (0, 0, 0)).1 (fixT.getD j (0, 0, 0)).2.1 ≠ (fixT.getD j (0, 0, 0)).2.2) : fixNo L 9 = (codeAt (fixT.getD j (0, 0, 0)).1, ((fixT.getD j (0, 0, 0)).1 : Int)) := by
  have h1 : fixNo L (j + 1) = (codeAt (fixT.getD j (0, 0, 0)).1, ((fixT.getD j (0, 0, 0)).1 : Int)) := by
    rw [fixNo, fixNo_first L j hok, if_neg (by simp)]
    dsimp only
    rw [if_neg hbad]
  rw [← h1]
  exact fixNo_stay L (j + 1) (by rw [h1]; have := codeAt_ne (fixT.getD j (0, 0, 0)).1; simpa using this) 9 (by omega)
theorem fld_one (L : List Nat) (a : Nat) : fld L a 1 = L.getD a 0 := by simp [fld, vsum]
def okTo (L : List Nat) (j : Nat) : Prop := ∀ i, i < j → fld L (fixT.getD i (0, 0, 0)).1 (fixT.getD i (0, 0, 0)).2.1 = (fixT.getD i (0, 0, 0)).2.2
theorem okTo.next {L : List Nat} {j : Nat} (h : okTo L j) {a k m : Nat} (e : fixT.getD j (0, 0, 0) = (a, k, m)) (hm : fld L a k = m) : okTo L (j + 1) := by
  intro i hi
  by_cases hj : i = j
  · subst hj; rw [e]; exact hm
  · exact h i (by omega)
theorem okTo.bad {L : List Nat} {j : Nat} (h : okTo L j) (hj : j < 9) {a k m : Nat} (e : fixT.getD j (0, 0, 0) = (a, k, m)) (hm : fld L a k ≠ m) : fixNo L 9 = (codeAt a, (a : Int)) := by
  have := fixNo_at L j hj h (by rw [e]; exact hm)
  rw [e] at this; exact this
theorem okTo.all {L : List Nat} (h : okTo L 9) : fixNo L 9 = (0, 0) := fixNo_first L 9 h
theorem value_fld (x : Nat) (g o n c at' k : Nat) (L : List Nat) (w : World) (hx : fld L at' k = x) (hL : ∀ i, L.getD i 0 < 256) (hn : n = L.length) (hm : n ≤ 1099511627776) (hk : 0 < k) (h8 : k ≤ 8) (h1 : at' + k ≤ L.length) (h : CellsAt w g o L) :
    Calls Tryd.prog 36 #[.slice (some ⟨g, o, none⟩) n c, .int .i64 (at' : Int), .int .i64 (k : Int)] w fun e w' => e = .returned (.int .u64 (x : Int)) ∧ Below w.heap.size w w' := by
  subst hx
  exact value_any g o n c at' k (fun i => L.getD (at' + i) 0) w (by omega) hm hk h8 (fun i => hL _) (byt_fld h h1)
def HNoPost (L : List Nat) (w : World) (e : Ending) (w' : World) : Prop := ∃ fv, e = .returned fv ∧ FltNew fv (fixNo L 9).2 (fixNo L 9).1 w.heap.size w' ∧ Below w.heap.size w w'
set_option maxRecDepth 100000 in
set_option maxHeartbeats 2000000 in
theorem headNo_any (g o n c : Nat) (L : List Nat) (w : World) (hn : n = L.length) (h1 : 64 ≤ n) (h2 : n ≤ 262144) (hL : ∀ i, L.getD i 0 < 256) (h : CellsAt w g o L) :
    Calls Tryd.prog 34 #[.slice (some ⟨g, o, none⟩) n c] w (HNoPost L w) := by
  have HN := Lib.hid hn
  have HL := Lib.hid hL
  have HC := Lib.hid h
  have hg := World.block_lt_of_cell? _ _ (h 0 (by omega))
  have B1 := Lib.hid ((Below.refl w.heap.size w).alloc (Nat.le_refl _) (.cells #[.slice none 0 0, .int .i64 0] 34))
  have k0 : okTo L 0 := fun i hi => by omega
  obtain ⟨x0, hx0⟩ : ∃ x, fld L 0 4 = x := ⟨_, rfl⟩
  have bx0 : x0 < 4294967296 := by have h : fld L 0 4 < 4294967296 := fld_lt L hL _ 4; rw [hx0] at h; exact h
  have HX0 := Lib.hid hx0
  clear hn hL h hx0
  have zw : w.heap.size < w.heap.size + 1 := by omega
  by_cases hb0 : x0 = 1179403647
  · have k1 := k0.next (a := 0) (k := 4) (m := 1179403647) rfl (HX0.out.trans hb0)
    have K1 := Lib.hid k1
    clear k0 k1
    go_enter Tryd.func34, Tryd.ntmps34
    go_wp2_with fail
    refine (value_fld x0 g o n c 0 4 L _ HX0.out HL.out HN.out (by omega) (by decide) (by decide) (by have := HN.out; omega) (HC.out.after B1.out hg)).mono ?_
    rintro e w2 ⟨rfl, hb2⟩
    have HB2 := Lib.hid (show Below (w.heap.size + 1) (w.alloc (.cells #[.slice none 0 0, .int .i64 0] 34)) w2 from hb2.mono (by simp))
    clear hb2
    go_wp2_with fail
    have v0 : (w2.alloc (.cells #[.int .u8 2, .int .u8 1, .int .u8 1] 5)).cell? ⟨w2.heap.size, 0, none⟩ = some (.int .u8 2) := by simp [go_sem]
    have v1 : (w2.alloc (.cells #[.int .u8 2, .int .u8 1, .int .u8 1] 5)).cell? ⟨w2.heap.size, 1, none⟩ = some (.int .u8 1) := by simp [go_sem]
    have v2 : (w2.alloc (.cells #[.int .u8 2, .int .u8 1, .int .u8 1] 5)).cell? ⟨w2.heap.size, 2, none⟩ = some (.int .u8 1) := by simp [go_sem]
    have HBA := Lib.hid (HB2.out.alloc (by have := HB2.out.size; simpa using this) (.cells #[.int .u8 2, .int .u8 1, .int .u8 1] 5))
    have VV := Lib.hid (And.intro v0 (And.intro v1 v2))
    clear v0 v1 v2 HB2
    generalize w2.heap.size = N2 at *
    generalize w2.alloc (.cells #[.int .u8 2, .int .u8 1, .int .u8 1] 5) = W2 at *
    go_loopw [4] (fun i wr => ∃ j : Nat, j ≤ 3 ∧ i = .int .i64 j ∧ okTo L (1 + j) ∧ Below W2.heap.size W2 wr) (fun i _ => 4 - (intOf i).toNat)
    case atStart => exact ⟨0, by omega, rfl, K1.out, Below.refl _ _⟩
    case round =>
      obtain ⟨j, hj, rfl, hok, hb⟩ := hrel
      have KJ := Lib.hid hok
      have HBR := Lib.hid hb
      have HBX := Lib.hid (HBA.out.trans (hb.mono (by have := HBA.out.size; simpa using this)))
      clear hok hb
      have CX := HC.out.after (B := w.heap.size) (B1.out.trans (HBX.out.mono (by omega))) hg
      obtain ⟨hcv, -⟩ := bcell HBR.out
      by_cases hlt : j < 3
      · have hj3 : j = 0 ∨ j = 1 ∨ j = 2 := by omega
        rcases hj3 with rfl | rfl | rfl
        · have p1 : wr.cell? ⟨g, o + 4, none⟩ = some (.int .u8 ((L.getD 4 0 : Nat) : Int)) := CX 4 (by have := HN.out; omega)
          have p2 : wr.cell? ⟨N2, 0, none⟩ = some (.int .u8 2) := by rw [hcv _ _ (World.block_lt_of_cell? _ _ VV.out.1)]; exact VV.out.1
          have z1 := World.block_lt_of_cell? _ _ p1
          have z2 := World.block_lt_of_cell? _ _ p2
          have HY := Lib.hid (fld_one L 4)
          clear CX hcv
          generalize L.getD 4 0 = y at *
          have e4 : (4 : Int) ≤ (n : Int) := by omega
          by_cases hy : y = 2
          · have t1 : ((y : Int) != 2) = false := by simp [hy]
            go_wp2
            repeat (go_quiet (fail); try go_wp2)
            go_roundw
            case rel => exact ⟨1, by omega, by go_num, KJ.out.next (a := 4) (k := 1) (m := 2) rfl (HY.out.trans hy), by first | exact HBR.out | exact below_drewN HBR.out _⟩
            case measure => simp [intOf]
          · have HH := Lib.hid (show fixNo L 9 = (141, 4) from KJ.out.bad (by decide) (a := 4) (k := 1) (m := 2) rfl (by rw [HY.out]; exact hy))
            have t1 : ((y : Int) != 2) = true := by simp; omega
            go_wp2_with fail
            go_quiet (fail)
            go_wp2_with fail
            refine (no_ex 4 141 _).mono ?_
            rintro e w9 ⟨d, dn, rfl, hd1, hd2, hd3, hd4, hb9⟩
            have HB9 := Lib.hid ((show Below (w.heap.size + 1) (w.alloc (.cells #[.slice none 0 0, .int .i64 0] 34)) _ by first | exact HBX.out | exact below_drewN HBX.out _).trans (hb9.mono (by have := HBX.out.size; simpa using this)))
            have hge : w.heap.size < d := by (have := HBX.out.size; simp at this; (try simp only [World.heap_drewN] at hd1); omega)
            have hne : d ≠ w.heap.size := by omega
            have q0 : w9.cell? ⟨w.heap.size, 0, none⟩ = some (.slice none 0 0) := by rw [HB9.out.cell (by simp)]; simp [go_sem]
            have q1 : w9.cell? ⟨w.heap.size, 1, none⟩ = some (.int .i64 0) := by rw [HB9.out.cell (by simp)]; simp [go_sem]
            have q2 : w9.frozen? ⟨w.heap.size, 0, none⟩ = false := by rw [HB9.out.frozen (by simp)]; simp [go_sem]
            have q3 : w9.frozen? ⟨w.heap.size, 1, none⟩ = false := by rw [HB9.out.frozen (by simp)]; simp [go_sem]
            have q4 : w.heap.size < w9.heap.size := by have := HB9.out.size; simp at this; omega
            go_wp2_with fail
            refine bodyPost_ret (v := .agg #[.slice (some ⟨d, 0, none⟩) 1 dn, .int .i64 141]) (by simp [results, Tryd.results34, go_sem, q0, q1, q4]) rfl ⟨_, rfl, by rw [HH.out]; exact FltNew.laid (by decide) (by omega) hd2 hd3 hd4 hne _ _, ?_⟩
            exact ((B1.out.trans (HB9.out.mono (by omega))).setCell (Nat.le_refl _) _).setCell (Nat.le_refl _) _
        · have p1 : wr.cell? ⟨g, o + 5, none⟩ = some (.int .u8 ((L.getD 5 0 : Nat) : Int)) := CX 5 (by have := HN.out; omega)
          have p2 : wr.cell? ⟨N2, 1, none⟩ = some (.int .u8 1) := by rw [hcv _ _ (World.block_lt_of_cell? _ _ VV.out.2.1)]; exact VV.out.2.1
          have z1 := World.block_lt_of_cell? _ _ p1
          have z2 := World.block_lt_of_cell? _ _ p2
          have HY := Lib.hid (fld_one L 5)
          clear CX hcv
          generalize L.getD 5 0 = y at *
          have e4 : (4 : Int) ≤ (n : Int) := by omega
          by_cases hy : y = 1
          · have t1 : ((y : Int) != 1) = false := by simp [hy]
            go_wp2
            repeat (go_quiet (fail); try go_wp2)
            go_roundw
            case rel => exact ⟨2, by omega, by go_num, KJ.out.next (a := 5) (k := 1) (m := 1) rfl (HY.out.trans hy), by first | exact HBR.out | exact below_drewN HBR.out _⟩
            case measure => simp [intOf]
          · have HH := Lib.hid (show fixNo L 9 = (141, 5) from KJ.out.bad (by decide) (a := 5) (k := 1) (m := 1) rfl (by rw [HY.out]; exact hy))
            have t1 : ((y : Int) != 1) = true := by simp; omega
            go_wp2_with fail
            go_quiet (fail)
            go_wp2_with fail
            refine (no_ex 5 141 _).mono ?_
            rintro e w9 ⟨d, dn, rfl, hd1, hd2, hd3, hd4, hb9⟩
            have HB9 := Lib.hid ((show Below (w.heap.size + 1) (w.alloc (.cells #[.slice none 0 0, .int .i64 0] 34)) _ by first | exact HBX.out | exact below_drewN HBX.out _).trans (hb9.mono (by have := HBX.out.size; simpa using this)))
            have hge : w.heap.size < d := by (have := HBX.out.size; simp at this; (try simp only [World.heap_drewN] at hd1); omega)
            have hne : d ≠ w.heap.size := by omega
            have q0 : w9.cell? ⟨w.heap.size, 0, none⟩ = some (.slice none 0 0) := by rw [HB9.out.cell (by simp)]; simp [go_sem]
            have q1 : w9.cell? ⟨w.heap.size, 1, none⟩ = some (.int .i64 0) := by rw [HB9.out.cell (by simp)]; simp [go_sem]
            have q2 : w9.frozen? ⟨w.heap.size, 0, none⟩ = false := by rw [HB9.out.frozen (by simp)]; simp [go_sem]
            have q3 : w9.frozen? ⟨w.heap.size, 1, none⟩ = false := by rw [HB9.out.frozen (by simp)]; simp [go_sem]
            have q4 : w.heap.size < w9.heap.size := by have := HB9.out.size; simp at this; omega
            go_wp2_with fail
            refine bodyPost_ret (v := .agg #[.slice (some ⟨d, 0, none⟩) 1 dn, .int .i64 141]) (by simp [results, Tryd.results34, go_sem, q0, q1, q4]) rfl ⟨_, rfl, by rw [HH.out]; exact FltNew.laid (by decide) (by omega) hd2 hd3 hd4 hne _ _, ?_⟩
            exact ((B1.out.trans (HB9.out.mono (by omega))).setCell (Nat.le_refl _) _).setCell (Nat.le_refl _) _
        · have p1 : wr.cell? ⟨g, o + 6, none⟩ = some (.int .u8 ((L.getD 6 0 : Nat) : Int)) := CX 6 (by have := HN.out; omega)
          have p2 : wr.cell? ⟨N2, 2, none⟩ = some (.int .u8 1) := by rw [hcv _ _ (World.block_lt_of_cell? _ _ VV.out.2.2)]; exact VV.out.2.2
          have z1 := World.block_lt_of_cell? _ _ p1
          have z2 := World.block_lt_of_cell? _ _ p2
          have HY := Lib.hid (fld_one L 6)
          clear CX hcv
          generalize L.getD 6 0 = y at *
          have e4 : (4 : Int) ≤ (n : Int) := by omega
          by_cases hy : y = 1
          · have t1 : ((y : Int) != 1) = false := by simp [hy]
            go_wp2
            repeat (go_quiet (fail); try go_wp2)
            go_roundw
            case rel => exact ⟨3, by omega, by go_num, KJ.out.next (a := 6) (k := 1) (m := 1) rfl (HY.out.trans hy), by first | exact HBR.out | exact below_drewN HBR.out _⟩
            case measure => simp [intOf]
          · have HH := Lib.hid (show fixNo L 9 = (141, 6) from KJ.out.bad (by decide) (a := 6) (k := 1) (m := 1) rfl (by rw [HY.out]; exact hy))
            have t1 : ((y : Int) != 1) = true := by simp; omega
            go_wp2_with fail
            go_quiet (fail)
            go_wp2_with fail
            refine (no_ex 6 141 _).mono ?_
            rintro e w9 ⟨d, dn, rfl, hd1, hd2, hd3, hd4, hb9⟩
            have HB9 := Lib.hid ((show Below (w.heap.size + 1) (w.alloc (.cells #[.slice none 0 0, .int .i64 0] 34)) _ by first | exact HBX.out | exact below_drewN HBX.out _).trans (hb9.mono (by have := HBX.out.size; simpa using this)))
            have hge : w.heap.size < d := by (have := HBX.out.size; simp at this; (try simp only [World.heap_drewN] at hd1); omega)
            have hne : d ≠ w.heap.size := by omega
            have q0 : w9.cell? ⟨w.heap.size, 0, none⟩ = some (.slice none 0 0) := by rw [HB9.out.cell (by simp)]; simp [go_sem]
            have q1 : w9.cell? ⟨w.heap.size, 1, none⟩ = some (.int .i64 0) := by rw [HB9.out.cell (by simp)]; simp [go_sem]
            have q2 : w9.frozen? ⟨w.heap.size, 0, none⟩ = false := by rw [HB9.out.frozen (by simp)]; simp [go_sem]
            have q3 : w9.frozen? ⟨w.heap.size, 1, none⟩ = false := by rw [HB9.out.frozen (by simp)]; simp [go_sem]
            have q4 : w.heap.size < w9.heap.size := by have := HB9.out.size; simp at this; omega
            go_wp2_with fail
            refine bodyPost_ret (v := .agg #[.slice (some ⟨d, 0, none⟩) 1 dn, .int .i64 141]) (by simp [results, Tryd.results34, go_sem, q0, q1, q4]) rfl ⟨_, rfl, by rw [HH.out]; exact FltNew.laid (by decide) (by omega) hd2 hd3 hd4 hne _ _, ?_⟩
            exact ((B1.out.trans (HB9.out.mono (by omega))).setCell (Nat.le_refl _) _).setCell (Nat.le_refl _) _
      · have h3 : j = 3 := by omega
        subst h3
        have K4 := Lib.hid (show okTo L 4 from KJ.out)
        clear CX hcv KJ
        obtain ⟨x4, hx4⟩ : ∃ x, fld L 16 2 = x := ⟨_, rfl⟩
        have bx4 : x4 < 65536 := by have h : fld L 16 2 < 65536 := fld_lt L HL.out _ 2; rw [hx4] at h; exact h
        have HX4 := Lib.hid hx4
        clear hx4
        by_cases hb4 : x4 = 2
        · have K5 := Lib.hid (K4.out.next (a := 16) (k := 2) (m := 2) rfl (HX4.out.trans hb4))
          go_wp2_with fail
          refine (value_fld x4 g o n c 16 2 L _ HX4.out HL.out HN.out (by omega) (by decide) (by decide) (by have := HN.out; omega) (HC.out.after (B := w.heap.size) (B1.out.trans (HBX.out.mono (by omega))) hg)).mono ?_
          rintro e w14 ⟨rfl, hb4v⟩
          have HB14 := Lib.hid (HBX.out.trans (hb4v.mono (by have := HBX.out.size; simpa using this)))
          clear hb4v
          obtain ⟨x5, hx5⟩ : ∃ x, fld L 18 2 = x := ⟨_, rfl⟩
          have bx5 : x5 < 65536 := by have h : fld L 18 2 < 65536 := fld_lt L HL.out _ 2; rw [hx5] at h; exact h
          have HX5 := Lib.hid hx5
          clear hx5
          by_cases hb5 : x5 = 243
          · have K6 := Lib.hid (K5.out.next (a := 18) (k := 2) (m := 243) rfl (HX5.out.trans hb5))
            go_wp2_with fail
            refine (value_fld x5 g o n c 18 2 L _ HX5.out HL.out HN.out (by omega) (by decide) (by decide) (by have := HN.out; omega) (HC.out.after (B := w.heap.size) (B1.out.trans (HB14.out.mono (by omega))) hg)).mono ?_
            rintro e w15 ⟨rfl, hb5v⟩
            have HB15 := Lib.hid (HB14.out.trans (hb5v.mono (by have := HB14.out.size; simpa using this)))
            clear hb5v
            obtain ⟨x6, hx6⟩ : ∃ x, fld L 20 4 = x := ⟨_, rfl⟩
            have bx6 : x6 < 4294967296 := by have h : fld L 20 4 < 4294967296 := fld_lt L HL.out _ 4; rw [hx6] at h; exact h
            have HX6 := Lib.hid hx6
            clear hx6
            by_cases hb6 : x6 = 1
            · have K7 := Lib.hid (K6.out.next (a := 20) (k := 4) (m := 1) rfl (HX6.out.trans hb6))
              go_wp2_with fail
              refine (value_fld x6 g o n c 20 4 L _ HX6.out HL.out HN.out (by omega) (by decide) (by decide) (by have := HN.out; omega) (HC.out.after (B := w.heap.size) (B1.out.trans (HB15.out.mono (by omega))) hg)).mono ?_
              rintro e w16 ⟨rfl, hb6v⟩
              have HB16 := Lib.hid (HB15.out.trans (hb6v.mono (by have := HB15.out.size; simpa using this)))
              clear hb6v
              obtain ⟨x7, hx7⟩ : ∃ x, fld L 52 2 = x := ⟨_, rfl⟩
              have bx7 : x7 < 65536 := by have h : fld L 52 2 < 65536 := fld_lt L HL.out _ 2; rw [hx7] at h; exact h
              have HX7 := Lib.hid hx7
              clear hx7
              by_cases hb7 : x7 = 64
              · have K8 := Lib.hid (K7.out.next (a := 52) (k := 2) (m := 64) rfl (HX7.out.trans hb7))
                go_wp2_with fail
                refine (value_fld x7 g o n c 52 2 L _ HX7.out HL.out HN.out (by omega) (by decide) (by decide) (by have := HN.out; omega) (HC.out.after (B := w.heap.size) (B1.out.trans (HB16.out.mono (by omega))) hg)).mono ?_
                rintro e w17 ⟨rfl, hb7v⟩
                have HB17 := Lib.hid (HB16.out.trans (hb7v.mono (by have := HB16.out.size; simpa using this)))
                clear hb7v
                obtain ⟨x8, hx8⟩ : ∃ x, fld L 54 2 = x := ⟨_, rfl⟩
                have bx8 : x8 < 65536 := by have h : fld L 54 2 < 65536 := fld_lt L HL.out _ 2; rw [hx8] at h; exact h
                have HX8 := Lib.hid hx8
                clear hx8
                by_cases hb8 : x8 = 56
                · have K9 := Lib.hid (K8.out.next (a := 54) (k := 2) (m := 56) rfl (HX8.out.trans hb8))
                  go_wp2_with fail
                  refine (value_fld x8 g o n c 54 2 L _ HX8.out HL.out HN.out (by omega) (by decide) (by decide) (by have := HN.out; omega) (HC.out.after (B := w.heap.size) (B1.out.trans (HB17.out.mono (by omega))) hg)).mono ?_
                  rintro e w18 ⟨rfl, hb8v⟩
                  have HB18 := Lib.hid (HB17.out.trans (hb8v.mono (by have := HB17.out.size; simpa using this)))
                  clear hb8v
                  have HH := Lib.hid (show fixNo L 9 = (0, 0) from K9.out.all)
                  go_wp2_with fail
                  refine (none_ex _).mono ?_
                  rintro e w9 ⟨rfl, hb9⟩
                  have HB9 := Lib.hid (HB18.out.trans (hb9.mono (by have := HB18.out.size; simpa using this)))
                  have q0 : w9.cell? ⟨w.heap.size, 0, none⟩ = some (.slice none 0 0) := by rw [HB9.out.cell (by simp)]; simp [go_sem]
                  have q1 : w9.cell? ⟨w.heap.size, 1, none⟩ = some (.int .i64 0) := by rw [HB9.out.cell (by simp)]; simp [go_sem]
                  have q2 : w9.frozen? ⟨w.heap.size, 0, none⟩ = false := by rw [HB9.out.frozen (by simp)]; simp [go_sem]
                  have q3 : w9.frozen? ⟨w.heap.size, 1, none⟩ = false := by rw [HB9.out.frozen (by simp)]; simp [go_sem]
                  have q4 : w.heap.size < w9.heap.size := by have := HB9.out.size; simp at this; omega
                  go_wp2_with fail
                  refine bodyPost_ret (v := .agg #[.slice none 0 0, .int .i64 0]) (by simp [results, Tryd.results34, go_sem, q0, q1, q4]) rfl ⟨_, rfl, by rw [HH.out]; exact Or.inl ⟨rfl, rfl⟩, ?_⟩
                  exact ((B1.out.trans (HB9.out.mono (by omega))).setCell (Nat.le_refl _) _).setCell (Nat.le_refl _) _
                · have HH := Lib.hid (show fixNo L 9 = (142, 54) from K8.out.bad (by decide) (a := 54) (k := 2) (m := 56) rfl (by rw [HX8.out]; exact hb8))
                  go_wp2_with fail
                  refine (value_fld x8 g o n c 54 2 L _ HX8.out HL.out HN.out (by omega) (by decide) (by decide) (by have := HN.out; omega) (HC.out.after (B := w.heap.size) (B1.out.trans (HB17.out.mono (by omega))) hg)).mono ?_
                  rintro e w18 ⟨rfl, hb8v⟩
                  have HB18 := Lib.hid (HB17.out.trans (hb8v.mono (by have := HB17.out.size; simpa using this)))
                  clear hb8v
                  go_wp2_with fail
                  refine (no_ex 54 142 _).mono ?_
                  rintro e w9 ⟨d, dn, rfl, hd1, hd2, hd3, hd4, hb9⟩
                  have HB9 := Lib.hid (HB18.out.trans (hb9.mono (by have := HB18.out.size; simpa using this)))
                  have hge : w.heap.size < d := by (have := HB18.out.size; simp at this; (try simp only [World.heap_drewN] at hd1); omega)
                  have hne : d ≠ w.heap.size := by omega
                  have q0 : w9.cell? ⟨w.heap.size, 0, none⟩ = some (.slice none 0 0) := by rw [HB9.out.cell (by simp)]; simp [go_sem]
                  have q1 : w9.cell? ⟨w.heap.size, 1, none⟩ = some (.int .i64 0) := by rw [HB9.out.cell (by simp)]; simp [go_sem]
                  have q2 : w9.frozen? ⟨w.heap.size, 0, none⟩ = false := by rw [HB9.out.frozen (by simp)]; simp [go_sem]
                  have q3 : w9.frozen? ⟨w.heap.size, 1, none⟩ = false := by rw [HB9.out.frozen (by simp)]; simp [go_sem]
                  have q4 : w.heap.size < w9.heap.size := by have := HB9.out.size; simp at this; omega
                  go_wp2_with fail
                  refine bodyPost_ret (v := .agg #[.slice (some ⟨d, 0, none⟩) 1 dn, .int .i64 142]) (by simp [results, Tryd.results34, go_sem, q0, q1, q4]) rfl ⟨_, rfl, by rw [HH.out]; exact FltNew.laid (by decide) (by omega) hd2 hd3 hd4 hne _ _, ?_⟩
                  exact ((B1.out.trans (HB9.out.mono (by omega))).setCell (Nat.le_refl _) _).setCell (Nat.le_refl _) _
              · have HH := Lib.hid (show fixNo L 9 = (142, 52) from K7.out.bad (by decide) (a := 52) (k := 2) (m := 64) rfl (by rw [HX7.out]; exact hb7))
                go_wp2_with fail
                refine (value_fld x7 g o n c 52 2 L _ HX7.out HL.out HN.out (by omega) (by decide) (by decide) (by have := HN.out; omega) (HC.out.after (B := w.heap.size) (B1.out.trans (HB16.out.mono (by omega))) hg)).mono ?_
                rintro e w17 ⟨rfl, hb7v⟩
                have HB17 := Lib.hid (HB16.out.trans (hb7v.mono (by have := HB16.out.size; simpa using this)))
                clear hb7v
                go_wp2_with fail
                refine (no_ex 52 142 _).mono ?_
                rintro e w9 ⟨d, dn, rfl, hd1, hd2, hd3, hd4, hb9⟩
                have HB9 := Lib.hid (HB17.out.trans (hb9.mono (by have := HB17.out.size; simpa using this)))
                have hge : w.heap.size < d := by (have := HB17.out.size; simp at this; (try simp only [World.heap_drewN] at hd1); omega)
                have hne : d ≠ w.heap.size := by omega
                have q0 : w9.cell? ⟨w.heap.size, 0, none⟩ = some (.slice none 0 0) := by rw [HB9.out.cell (by simp)]; simp [go_sem]
                have q1 : w9.cell? ⟨w.heap.size, 1, none⟩ = some (.int .i64 0) := by rw [HB9.out.cell (by simp)]; simp [go_sem]
                have q2 : w9.frozen? ⟨w.heap.size, 0, none⟩ = false := by rw [HB9.out.frozen (by simp)]; simp [go_sem]
                have q3 : w9.frozen? ⟨w.heap.size, 1, none⟩ = false := by rw [HB9.out.frozen (by simp)]; simp [go_sem]
                have q4 : w.heap.size < w9.heap.size := by have := HB9.out.size; simp at this; omega
                go_wp2_with fail
                refine bodyPost_ret (v := .agg #[.slice (some ⟨d, 0, none⟩) 1 dn, .int .i64 142]) (by simp [results, Tryd.results34, go_sem, q0, q1, q4]) rfl ⟨_, rfl, by rw [HH.out]; exact FltNew.laid (by decide) (by omega) hd2 hd3 hd4 hne _ _, ?_⟩
                exact ((B1.out.trans (HB9.out.mono (by omega))).setCell (Nat.le_refl _) _).setCell (Nat.le_refl _) _
            · have HH := Lib.hid (show fixNo L 9 = (142, 20) from K6.out.bad (by decide) (a := 20) (k := 4) (m := 1) rfl (by rw [HX6.out]; exact hb6))
              go_wp2_with fail
              refine (value_fld x6 g o n c 20 4 L _ HX6.out HL.out HN.out (by omega) (by decide) (by decide) (by have := HN.out; omega) (HC.out.after (B := w.heap.size) (B1.out.trans (HB15.out.mono (by omega))) hg)).mono ?_
              rintro e w16 ⟨rfl, hb6v⟩
              have HB16 := Lib.hid (HB15.out.trans (hb6v.mono (by have := HB15.out.size; simpa using this)))
              clear hb6v
              go_wp2_with fail
              refine (no_ex 20 142 _).mono ?_
              rintro e w9 ⟨d, dn, rfl, hd1, hd2, hd3, hd4, hb9⟩
              have HB9 := Lib.hid (HB16.out.trans (hb9.mono (by have := HB16.out.size; simpa using this)))
              have hge : w.heap.size < d := by (have := HB16.out.size; simp at this; (try simp only [World.heap_drewN] at hd1); omega)
              have hne : d ≠ w.heap.size := by omega
              have q0 : w9.cell? ⟨w.heap.size, 0, none⟩ = some (.slice none 0 0) := by rw [HB9.out.cell (by simp)]; simp [go_sem]
              have q1 : w9.cell? ⟨w.heap.size, 1, none⟩ = some (.int .i64 0) := by rw [HB9.out.cell (by simp)]; simp [go_sem]
              have q2 : w9.frozen? ⟨w.heap.size, 0, none⟩ = false := by rw [HB9.out.frozen (by simp)]; simp [go_sem]
              have q3 : w9.frozen? ⟨w.heap.size, 1, none⟩ = false := by rw [HB9.out.frozen (by simp)]; simp [go_sem]
              have q4 : w.heap.size < w9.heap.size := by have := HB9.out.size; simp at this; omega
              go_wp2_with fail
              refine bodyPost_ret (v := .agg #[.slice (some ⟨d, 0, none⟩) 1 dn, .int .i64 142]) (by simp [results, Tryd.results34, go_sem, q0, q1, q4]) rfl ⟨_, rfl, by rw [HH.out]; exact FltNew.laid (by decide) (by omega) hd2 hd3 hd4 hne _ _, ?_⟩
              exact ((B1.out.trans (HB9.out.mono (by omega))).setCell (Nat.le_refl _) _).setCell (Nat.le_refl _) _
          · have HH := Lib.hid (show fixNo L 9 = (142, 18) from K5.out.bad (by decide) (a := 18) (k := 2) (m := 243) rfl (by rw [HX5.out]; exact hb5))
            go_wp2_with fail
            refine (value_fld x5 g o n c 18 2 L _ HX5.out HL.out HN.out (by omega) (by decide) (by decide) (by have := HN.out; omega) (HC.out.after (B := w.heap.size) (B1.out.trans (HB14.out.mono (by omega))) hg)).mono ?_
            rintro e w15 ⟨rfl, hb5v⟩
            have HB15 := Lib.hid (HB14.out.trans (hb5v.mono (by have := HB14.out.size; simpa using this)))
            clear hb5v
            go_wp2_with fail
            refine (no_ex 18 142 _).mono ?_
            rintro e w9 ⟨d, dn, rfl, hd1, hd2, hd3, hd4, hb9⟩
            have HB9 := Lib.hid (HB15.out.trans (hb9.mono (by have := HB15.out.size; simpa using this)))
            have hge : w.heap.size < d := by (have := HB15.out.size; simp at this; (try simp only [World.heap_drewN] at hd1); omega)
            have hne : d ≠ w.heap.size := by omega
            have q0 : w9.cell? ⟨w.heap.size, 0, none⟩ = some (.slice none 0 0) := by rw [HB9.out.cell (by simp)]; simp [go_sem]
            have q1 : w9.cell? ⟨w.heap.size, 1, none⟩ = some (.int .i64 0) := by rw [HB9.out.cell (by simp)]; simp [go_sem]
            have q2 : w9.frozen? ⟨w.heap.size, 0, none⟩ = false := by rw [HB9.out.frozen (by simp)]; simp [go_sem]
            have q3 : w9.frozen? ⟨w.heap.size, 1, none⟩ = false := by rw [HB9.out.frozen (by simp)]; simp [go_sem]
            have q4 : w.heap.size < w9.heap.size := by have := HB9.out.size; simp at this; omega
            go_wp2_with fail
            refine bodyPost_ret (v := .agg #[.slice (some ⟨d, 0, none⟩) 1 dn, .int .i64 142]) (by simp [results, Tryd.results34, go_sem, q0, q1, q4]) rfl ⟨_, rfl, by rw [HH.out]; exact FltNew.laid (by decide) (by omega) hd2 hd3 hd4 hne _ _, ?_⟩
            exact ((B1.out.trans (HB9.out.mono (by omega))).setCell (Nat.le_refl _) _).setCell (Nat.le_refl _) _
        · have HH := Lib.hid (show fixNo L 9 = (142, 16) from K4.out.bad (by decide) (a := 16) (k := 2) (m := 2) rfl (by rw [HX4.out]; exact hb4))
          go_wp2_with fail
          refine (value_fld x4 g o n c 16 2 L _ HX4.out HL.out HN.out (by omega) (by decide) (by decide) (by have := HN.out; omega) (HC.out.after (B := w.heap.size) (B1.out.trans (HBX.out.mono (by omega))) hg)).mono ?_
          rintro e w14 ⟨rfl, hb4v⟩
          have HB14 := Lib.hid (HBX.out.trans (hb4v.mono (by have := HBX.out.size; simpa using this)))
          clear hb4v
          go_wp2_with fail
          refine (no_ex 16 142 _).mono ?_
          rintro e w9 ⟨d, dn, rfl, hd1, hd2, hd3, hd4, hb9⟩
          have HB9 := Lib.hid (HB14.out.trans (hb9.mono (by have := HB14.out.size; simpa using this)))
          have hge : w.heap.size < d := by (have := HB14.out.size; simp at this; (try simp only [World.heap_drewN] at hd1); omega)
          have hne : d ≠ w.heap.size := by omega
          have q0 : w9.cell? ⟨w.heap.size, 0, none⟩ = some (.slice none 0 0) := by rw [HB9.out.cell (by simp)]; simp [go_sem]
          have q1 : w9.cell? ⟨w.heap.size, 1, none⟩ = some (.int .i64 0) := by rw [HB9.out.cell (by simp)]; simp [go_sem]
          have q2 : w9.frozen? ⟨w.heap.size, 0, none⟩ = false := by rw [HB9.out.frozen (by simp)]; simp [go_sem]
          have q3 : w9.frozen? ⟨w.heap.size, 1, none⟩ = false := by rw [HB9.out.frozen (by simp)]; simp [go_sem]
          have q4 : w.heap.size < w9.heap.size := by have := HB9.out.size; simp at this; omega
          go_wp2_with fail
          refine bodyPost_ret (v := .agg #[.slice (some ⟨d, 0, none⟩) 1 dn, .int .i64 142]) (by simp [results, Tryd.results34, go_sem, q0, q1, q4]) rfl ⟨_, rfl, by rw [HH.out]; exact FltNew.laid (by decide) (by omega) hd2 hd3 hd4 hne _ _, ?_⟩
          exact ((B1.out.trans (HB9.out.mono (by omega))).setCell (Nat.le_refl _) _).setCell (Nat.le_refl _) _
  · have HH := Lib.hid (show fixNo L 9 = (141, 0) from k0.bad (by decide) (a := 0) (k := 4) (m := 1179403647) rfl (by rw [HX0.out]; exact hb0))
    clear k0
    go_enter Tryd.func34, Tryd.ntmps34
    go_wp2_with fail
    refine (value_fld x0 g o n c 0 4 L _ HX0.out HL.out HN.out (by omega) (by decide) (by decide) (by have := HN.out; omega) (HC.out.after B1.out hg)).mono ?_
    rintro e w2 ⟨rfl, hb2⟩
    have HB2 := Lib.hid (show Below (w.heap.size + 1) (w.alloc (.cells #[.slice none 0 0, .int .i64 0] 34)) w2 from hb2.mono (by simp))
    clear hb2
    go_wp2_with fail
    refine (no_ex 0 141 _).mono ?_
    rintro e w3 ⟨d, dn, rfl, hd1, hd2, hd3, hd4, hb3⟩
    have HB3 := Lib.hid (HB2.out.trans (hb3.mono (by have := HB2.out.size; simpa using this)))
    have hge : w.heap.size < d := by (have := HB2.out.size; simp at this; (try simp only [World.heap_drewN] at hd1); omega)
    have hne : d ≠ w.heap.size := by omega
    have q0 : w3.cell? ⟨w.heap.size, 0, none⟩ = some (.slice none 0 0) := by rw [HB3.out.cell (by simp)]; simp [go_sem]
    have q1 : w3.cell? ⟨w.heap.size, 1, none⟩ = some (.int .i64 0) := by rw [HB3.out.cell (by simp)]; simp [go_sem]
    have q2 : w3.frozen? ⟨w.heap.size, 0, none⟩ = false := by rw [HB3.out.frozen (by simp)]; simp [go_sem]
    have q3 : w3.frozen? ⟨w.heap.size, 1, none⟩ = false := by rw [HB3.out.frozen (by simp)]; simp [go_sem]
    have q4 : w.heap.size < w3.heap.size := by have := HB3.out.size; simp at this; omega
    go_wp2_with fail
    refine bodyPost_ret (v := .agg #[.slice (some ⟨d, 0, none⟩) 1 dn, .int .i64 141]) (by simp [results, Tryd.results34, go_sem, q0, q1, q4]) rfl ⟨_, rfl, by rw [HH.out]; exact FltNew.laid (by decide) (by omega) hd2 hd3 hd4 hne _ _, ?_⟩
    exact ((B1.out.trans (HB3.out.mono (by omega))).setCell (Nat.le_refl _) _).setCell (Nat.le_refl _) _
end Go.Proofs.YtdklggmeigogcaaDoor
