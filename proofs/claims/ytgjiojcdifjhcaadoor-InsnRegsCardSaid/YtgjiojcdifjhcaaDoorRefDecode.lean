/- The document's Decode: walked. By an AI agent; printed by wip/gen_refdec.py. -/
import Derived.Test.YtgjiojcdifjhcaaDoorUnique
import Derived.Test.YtgjiojcdifjhcaaDoorRefTake
import Derived.Test.YtgjiojcdifjhcaaDoorLBare
set_option linter.unusedVariables false
set_option linter.unusedSimpArgs false
namespace Go.Proofs.YtgjiojcdifjhcaaDoor
open Go.RowKit
theorem cut_low (W : Int) (w0 : 0 ≤ W) (w1 : W < 4294967296) (w : World) : Calls Tryd.prog 55 #[.int .u32 W, .int .i64 6, .int .i64 0] w fun e w' => e = .returned (.int .u32 (W % 128)) ∧ w' = w := by
  have h := cut_lit W 6 0 7 1 128 w0 w1 (by decide) (by decide) (by decide) rfl rfl w
  rwa [Int.ediv_one] at h
theorem oc_rng : ∀ op, op < 77 → 0 ≤ oc op ∧ oc op < 128 := by decide
theorem oc_word : ∀ op, op < 77 → oc op = wordOf op % 128 := by decide
/-- An instruction as it is read out of a word is laid down as that word, its fixed bits apart. -/
theorem encR_dec (op : Nat) (p1 : 1 ≤ op) (p2 : op < 77) (W : Int) (w0 : 0 ≤ W) (w1 : W < 4294967296) :
    encR op (fieldOf (shN op) 0 W) (fieldOf (shN op) 1 W) (fieldOf (shN op) 2 W) (tkI (shN op) W) (fieldOf (shN op) 3 W) = (wordOf op + (W - fixI (shN op) W), 0, 0) := by
  obtain ⟨h0, h1, h2, h3, hi, hs⟩ := dec_word_s (shN op) (shN_rng op p2 p1).1 (shN_rng op p2 p1).2 _ W w0 w1 rfl
  have hb : barR op (fieldOf (shN op) 0 W) (fieldOf (shN op) 1 W) (fieldOf (shN op) 2 W) (tkI (shN op) W) (fieldOf (shN op) 3 W) = (0, 0) := by
    unfold barR
    rw [if_pos ⟨by omega, by omega⟩, Int.toNat_natCast]
    unfold barF
    rw [if_neg (not_not_intro h0), if_neg (not_not_intro h1), if_neg (not_not_intro h2), if_neg (not_not_intro h3), if_neg (not_not_intro hi)]
  rw [encR_bar, hb, if_pos rfl, Int.toNat_natCast]
  have e : accF (wordOf op) (fieldOf (shN op) 0 W) (fieldOf (shN op) 1 W) (fieldOf (shN op) 2 W) (fieldOf (shN op) 3 W) 4 + immI (shN op) (tkI (shN op) W) = wordOf op + (W - fixI (shN op) W) := by
    show wordOf op + fieldOf (shN op) 0 W * 128 + fieldOf (shN op) 1 W * 32768 + fieldOf (shN op) 2 W * 1048576 + fieldOf (shN op) 3 W * 1048576 + immI (shN op) (tkI (shN op) W) = _
    generalize fieldOf (shN op) 0 W = a at *
    generalize fieldOf (shN op) 1 W = b at *
    generalize fieldOf (shN op) 2 W = c at *
    generalize fieldOf (shN op) 3 W = d at *
    generalize immI (shN op) (tkI (shN op) W) = m at *
    generalize fixI (shN op) W = f at *
    omega
  rw [e]
/-- The opcode is not enough, but it is asked first. -/
theorem fix_oc (op : Nat) (p1 : 1 ≤ op) (p2 : op < 77) (W : Int) (w0 : 0 ≤ W) (w1 : W < 4294967296) (h : fixI (shN op) W = wordOf op) : oc op = W % 128 := by
  rw [oc_word op p2]
  exact (fix_low (shN op) (shN_rng op p2 p1).1 (shN_rng op p2 p1).2 _ W w0 w1 h).1.symm
def Zero6 : Array Value := #[.int .i64 0, .int .i64 0, .int .i64 0, .int .i64 0, .int .i64 0, .int .i64 0]
def start3 (w : World) : World := ((w.alloc (.cells #[.int .i64 0, .int .i64 0, .int .i64 0, .int .i64 0, .int .i64 0, .int .i64 0] 46)).alloc (.cells baseCells 59)).alloc (.cells moreCells 59)
theorem start3_below (w : World) : Below w.heap.size w (start3 w) := (((Below.refl _ _).alloc (Nat.le_refl _) _).alloc (by simp) _).alloc (by simp; omega) _
theorem start3_size (w : World) : (start3 w).heap.size = w.heap.size + 3 := by simp [start3]
theorem kept' {n : Nat} {W w1 : World} (hb : Below n W w1) : (∀ b o, b < n → w1.cell? ⟨b, o, none⟩ = W.cell? ⟨b, o, none⟩) ∧ (∀ b o, b < n → w1.frozen? ⟨b, o, none⟩ = W.frozen? ⟨b, o, none⟩) :=
  ⟨fun b o h => hb.cell (p := ⟨b, o, none⟩) h, fun b o h => hb.frozen (p := ⟨b, o, none⟩) h⟩
theorem base_in (w : World) (k r : Nat) (hk : k < 40) (hr : r < 6) : (start3 w).cell? ⟨w.heap.size + 1, k * 6 + r, none⟩ = (rowCells (k + 1))[r]? := by
  have := base_cell k r hk hr
  rw [← this, Nat.mul_comm 6 k]
  simp [start3, go_sem]
theorem more_in (w : World) (k r : Nat) (hk : k < 36) (hr : r < 6) : (start3 w).cell? ⟨w.heap.size + 2, k * 6 + r, none⟩ = (rowCells (k + 41))[r]? := by
  have := more_cell k r hk hr
  rw [← this, Nat.mul_comm 6 k]
  simp [start3, go_sem]
def RefDecPost (v : Value) (b : Bool) (w : World) (e : Ending) (w' : World) : Prop := e = .returned (.tuple #[v, .bool b]) ∧ Below w.heap.size w w'
set_option maxRecDepth 100000 in
set_option maxHeartbeats 8000000 in
theorem refdecode_miss (W : Int) (w0 : 0 ≤ W) (w1 : W < 4294967296) (hm : ∀ op, 1 ≤ op → op < 77 → fixI (shN op) W ≠ wordOf op) (w : World) : Calls Tryd.prog 40 #[.int .u32 W] w (RefDecPost (.agg #[.int .i64 0, .int .i64 0, .int .i64 0, .int .i64 0, .int .i64 0, .int .i64 0]) false w) := by
  have HM := Lib.hid hm
  clear hm
  go_enter Tryd.func40, Tryd.ntmps40
  go_wp2_with fail
  refine (base_any _).mono ?_
  rintro e u1 ⟨rfl, rfl⟩
  go_wp2_with fail
  refine (more_any _).mono ?_
  rintro e u2 ⟨rfl, rfl⟩
  go_wp2_with fail
  have HS3 : Hid (((w.alloc (.cells #[.int .i64 0, .int .i64 0, .int .i64 0, .int .i64 0, .int .i64 0, .int .i64 0] 46)).alloc (.cells baseCells 59)).alloc (.cells moreCells 59) = start3 w) := Lib.hid rfl
  rw [HS3.out]
  clear HS3
  go_loopw [6] (fun i wr => ∃ k : Nat, k ≤ 76 ∧ i = .int .i64 k ∧ Below (w.heap.size + 3) (start3 w) wr) (fun i _ => 76 - (intOf i).toNat)
  case atStart => exact ⟨0, by omega, rfl, Below.refl _ _⟩
  case round =>
    obtain ⟨k, hk, rfl, hb⟩ := hrel
    have HB := Lib.hid hb
    have hz := hb.size
    rw [start3_size] at hz
    clear hb
    by_cases h1 : k < 40
    case pos =>
      have hp1 : 1 ≤ (k + 1) := by omega
      have hp2 : (k + 1) < 77 := by omega
      obtain ⟨hc, hf⟩ := kept' HB.out
      have q0 : wr.cell? ⟨w.heap.size + 1, k * 6, none⟩ = some (.string (nm (k + 1))) := by rw [hc _ _ (by omega)]; exact base_in w k 0 h1 (by decide)
      have q1 : wr.cell? ⟨w.heap.size + 1, k * 6 + 1, none⟩ = some (.int .i64 ((shN (k + 1) : Nat) : Int)) := by rw [hc _ _ (by omega), ← shN_eq (k + 1) hp2]; exact base_in w k 1 h1 (by decide)
      have q2 : wr.cell? ⟨w.heap.size + 1, k * 6 + 2, none⟩ = some (.int .i64 (oc (k + 1))) := by rw [hc _ _ (by omega)]; exact base_in w k 2 h1 (by decide)
      have q3 : wr.cell? ⟨w.heap.size + 1, k * 6 + 3, none⟩ = some (.int .i64 (f3 (k + 1))) := by rw [hc _ _ (by omega)]; exact base_in w k 3 h1 (by decide)
      have q4 : wr.cell? ⟨w.heap.size + 1, k * 6 + 4, none⟩ = some (.int .i64 (f7 (k + 1))) := by rw [hc _ _ (by omega)]; exact base_in w k 4 h1 (by decide)
      have q5 : wr.cell? ⟨w.heap.size + 1, k * 6 + 5, none⟩ = some (.int .u32 (wd (k + 1))) := by rw [hc _ _ (by omega)]; exact base_in w k 5 h1 (by decide)
      obtain ⟨o0, o1⟩ := oc_rng (k + 1) hp2
      have hzr : w.heap.size + 1 < wr.heap.size := by omega
      have hzr2 : w.heap.size + 2 < wr.heap.size := by omega
      have e1 : (k : Int) < 40 := by omega
      clear hc hf
      have EE : Hid (encR ((k : Int) + 1) (fieldOf (shN (k + 1)) 0 W) (fieldOf (shN (k + 1)) 1 W) (fieldOf (shN (k + 1)) 2 W) (tkI (shN (k + 1)) W) (fieldOf (shN (k + 1)) 3 W) = (wordOf (k + 1) + (W - fixI (shN (k + 1)) W), 0, 0)) := Lib.hid (by have := encR_dec (k + 1) hp1 hp2 W w0 w1; rwa [show ((((k + 1) : Nat)) : Int) = ((k : Int) + 1) by omega] at this)
      have HOP : Hid (((((k + 1) : Nat)) : Int) = ((k : Int) + 1)) := Lib.hid (by omega)
      have HS := Lib.hid (shN_rng (k + 1) hp2 hp1)
      have hnf := HM.out (k + 1) hp1 hp2
      by_cases ho : oc (k + 1) = W % 128
      · have HW : Hid ((wordOf (k + 1) + (W - fixI (shN (k + 1)) W) == W) = false) := Lib.hid (by simp; omega)
        have hoc : (oc (k + 1) != W % 128) = false := by simpa using ho
        clear ho hnf
        go_wp2_with fail
        go_quiet ((go_at_call 55; exact Calls.quiet_of_same (cut_low W w0 w1 _)))
        go_wp2_with fail
        refine (guess_at (shN (k + 1)) HS.out.1 HS.out.2 _ W w0 w1 _).mono ?_
        rintro e u3 ⟨rfl, hb3⟩
        unfold insnOf
        have hz3 := hb3.size
        simp only [World.heap_drewN, World.size_alloc] at hz3
        have B3 := Lib.hid ((below_drewN (HB.out.alloc hz _) nq).trans (hb3.mono (by simp; omega)))
        clear hb3 q0 q1 q2 q3 q4 q5
        go_wp2_with fail
        refine (refencode_any _ (fieldOf (shN (k + 1)) 0 W) (fieldOf (shN (k + 1)) 1 W) (fieldOf (shN (k + 1)) 2 W) (tkI (shN (k + 1)) W) (fieldOf (shN (k + 1)) 3 W) _).mono ?_
        rintro e u4 ⟨rfl, hb4⟩
        rw [EE.out]
        have hw := HW.out
        have hz4 := hb4.size
        simp only [World.size_alloc] at hz4
        have B4 := Lib.hid ((B3.out.alloc (by omega) _).trans (hb4.mono (by simp; omega)))
        clear hb4
        go_wp2_with fail
        go_roundw
        case rel => exact ⟨k + 1, by omega, by go_num, B4.out⟩
        case measure => simp [intOf]; omega
      · have hno : (oc (k + 1) != W % 128) = true := by simpa using ho
        clear ho hnf
        go_wp2_with fail
        go_quiet ((go_at_call 55; exact Calls.quiet_of_same (cut_low W w0 w1 _)))
        go_wp2_with fail
        go_roundw
        case rel => exact ⟨k + 1, by omega, by go_num, below_drewN (HB.out.alloc hz _) _⟩
        case measure => simp [intOf]; omega
    by_cases h2 : k < 76
    case pos =>
      obtain ⟨j, rfl⟩ : ∃ j, k = j + 40 := ⟨k - 40, by omega⟩
      have h1 : j < 36 := by omega
      have hk40 : ¬ ((j : Int) + 40 < 40) := by omega
      have hp1 : 1 ≤ (j + 41) := by omega
      have hp2 : (j + 41) < 77 := by omega
      obtain ⟨hc, hf⟩ := kept' HB.out
      have q0 : wr.cell? ⟨w.heap.size + 2, j * 6, none⟩ = some (.string (nm (j + 41))) := by rw [hc _ _ (by omega)]; exact more_in w j 0 h1 (by decide)
      have q1 : wr.cell? ⟨w.heap.size + 2, j * 6 + 1, none⟩ = some (.int .i64 ((shN (j + 41) : Nat) : Int)) := by rw [hc _ _ (by omega), ← shN_eq (j + 41) hp2]; exact more_in w j 1 h1 (by decide)
      have q2 : wr.cell? ⟨w.heap.size + 2, j * 6 + 2, none⟩ = some (.int .i64 (oc (j + 41))) := by rw [hc _ _ (by omega)]; exact more_in w j 2 h1 (by decide)
      have q3 : wr.cell? ⟨w.heap.size + 2, j * 6 + 3, none⟩ = some (.int .i64 (f3 (j + 41))) := by rw [hc _ _ (by omega)]; exact more_in w j 3 h1 (by decide)
      have q4 : wr.cell? ⟨w.heap.size + 2, j * 6 + 4, none⟩ = some (.int .i64 (f7 (j + 41))) := by rw [hc _ _ (by omega)]; exact more_in w j 4 h1 (by decide)
      have q5 : wr.cell? ⟨w.heap.size + 2, j * 6 + 5, none⟩ = some (.int .u32 (wd (j + 41))) := by rw [hc _ _ (by omega)]; exact more_in w j 5 h1 (by decide)
      obtain ⟨o0, o1⟩ := oc_rng (j + 41) hp2
      have hzr : w.heap.size + 1 < wr.heap.size := by omega
      have hzr2 : w.heap.size + 2 < wr.heap.size := by omega
      have e1 : (j : Int) < 36 := by omega
      have e0 : (0 : Int) ≤ j := by omega
      clear hc hf
      have EE : Hid (encR ((j : Int) + 40 + 1) (fieldOf (shN (j + 41)) 0 W) (fieldOf (shN (j + 41)) 1 W) (fieldOf (shN (j + 41)) 2 W) (tkI (shN (j + 41)) W) (fieldOf (shN (j + 41)) 3 W) = (wordOf (j + 41) + (W - fixI (shN (j + 41)) W), 0, 0)) := Lib.hid (by have := encR_dec (j + 41) hp1 hp2 W w0 w1; rwa [show ((((j + 41) : Nat)) : Int) = ((j : Int) + 40 + 1) by omega] at this)
      have HOP : Hid (((((j + 41) : Nat)) : Int) = ((j : Int) + 40 + 1)) := Lib.hid (by omega)
      have HS := Lib.hid (shN_rng (j + 41) hp2 hp1)
      have hnf := HM.out (j + 41) hp1 hp2
      by_cases ho : oc (j + 41) = W % 128
      · have HW : Hid ((wordOf (j + 41) + (W - fixI (shN (j + 41)) W) == W) = false) := Lib.hid (by simp; omega)
        have hoc : (oc (j + 41) != W % 128) = false := by simpa using ho
        clear ho hnf
        go_wp2_with fail
        go_quiet ((go_at_call 55; exact Calls.quiet_of_same (cut_low W w0 w1 _)))
        go_wp2_with fail
        refine (guess_at (shN (j + 41)) HS.out.1 HS.out.2 _ W w0 w1 _).mono ?_
        rintro e u3 ⟨rfl, hb3⟩
        unfold insnOf
        have hz3 := hb3.size
        simp only [World.heap_drewN, World.size_alloc] at hz3
        have B3 := Lib.hid ((below_drewN (HB.out.alloc hz _) nq).trans (hb3.mono (by simp; omega)))
        clear hb3 q0 q1 q2 q3 q4 q5
        go_wp2_with fail
        refine (refencode_any _ (fieldOf (shN (j + 41)) 0 W) (fieldOf (shN (j + 41)) 1 W) (fieldOf (shN (j + 41)) 2 W) (tkI (shN (j + 41)) W) (fieldOf (shN (j + 41)) 3 W) _).mono ?_
        rintro e u4 ⟨rfl, hb4⟩
        rw [EE.out]
        have hw := HW.out
        have hz4 := hb4.size
        simp only [World.size_alloc] at hz4
        have B4 := Lib.hid ((B3.out.alloc (by omega) _).trans (hb4.mono (by simp; omega)))
        clear hb4
        go_wp2_with fail
        go_roundw
        case rel => exact ⟨j + 41, by omega, by go_num, B4.out⟩
        case measure => simp [intOf]; omega
      · have hno : (oc (j + 41) != W % 128) = true := by simpa using ho
        clear ho hnf
        go_wp2_with fail
        go_quiet ((go_at_call 55; exact Calls.quiet_of_same (cut_low W w0 w1 _)))
        go_wp2_with fail
        go_roundw
        case rel => exact ⟨j + 41, by omega, by go_num, below_drewN (HB.out.alloc hz _) _⟩
        case measure => simp [intOf]; omega
    obtain rfl : k = 76 := by omega
    obtain ⟨hc, hf⟩ := kept' HB.out
    have hzz : w.heap.size < wr.heap.size := by omega
    have p0 : wr.cell? ⟨w.heap.size, 0, none⟩ = some (.int .i64 0) := by rw [hc _ _ (by omega)]; simp [start3, go_sem]
    have r0 : wr.frozen? ⟨w.heap.size, 0, none⟩ = false := by rw [hf _ _ (by omega)]; simp [start3, go_sem]
    have p1 : wr.cell? ⟨w.heap.size, 1, none⟩ = some (.int .i64 0) := by rw [hc _ _ (by omega)]; simp [start3, go_sem]
    have r1 : wr.frozen? ⟨w.heap.size, 1, none⟩ = false := by rw [hf _ _ (by omega)]; simp [start3, go_sem]
    have p2 : wr.cell? ⟨w.heap.size, 2, none⟩ = some (.int .i64 0) := by rw [hc _ _ (by omega)]; simp [start3, go_sem]
    have r2 : wr.frozen? ⟨w.heap.size, 2, none⟩ = false := by rw [hf _ _ (by omega)]; simp [start3, go_sem]
    have p3 : wr.cell? ⟨w.heap.size, 3, none⟩ = some (.int .i64 0) := by rw [hc _ _ (by omega)]; simp [start3, go_sem]
    have r3 : wr.frozen? ⟨w.heap.size, 3, none⟩ = false := by rw [hf _ _ (by omega)]; simp [start3, go_sem]
    have p4 : wr.cell? ⟨w.heap.size, 4, none⟩ = some (.int .i64 0) := by rw [hc _ _ (by omega)]; simp [start3, go_sem]
    have r4 : wr.frozen? ⟨w.heap.size, 4, none⟩ = false := by rw [hf _ _ (by omega)]; simp [start3, go_sem]
    have p5 : wr.cell? ⟨w.heap.size, 5, none⟩ = some (.int .i64 0) := by rw [hc _ _ (by omega)]; simp [start3, go_sem]
    have r5 : wr.frozen? ⟨w.heap.size, 5, none⟩ = false := by rw [hf _ _ (by omega)]; simp [start3, go_sem]
    clear hc hf
    go_wp2_with fail
    refine bodyPost_ret (v := .tuple #[.agg #[.int .i64 0, .int .i64 0, .int .i64 0, .int .i64 0, .int .i64 0, .int .i64 0], .bool false]) (by simp [results, Tryd.results40, go_sem, p0, p1, p2, p3, p4, p5, r0, r1, r2, r3, r4, r5, hzz]) rfl ?_
    have B5 := Lib.hid ((start3_below w).trans (HB.out.mono (by omega)))
    exact ⟨rfl, ((((((B5.out.setCell (Nat.le_refl _) _).setCell (Nat.le_refl _) _).setCell (Nat.le_refl _) _).setCell (Nat.le_refl _) _).setCell (Nat.le_refl _) _).setCell (Nat.le_refl _) _)⟩
set_option maxRecDepth 100000 in
set_option maxHeartbeats 8000000 in
theorem refdecode_hit (op : Nat) (o1' : 1 ≤ op) (o2' : op < 77) (W : Int) (w0 : 0 ≤ W) (w1 : W < 4294967296) (hm : fixI (shN op) W = wordOf op) (w : World) : Calls Tryd.prog 40 #[.int .u32 W] w (RefDecPost (.agg #[.int .i64 op, .int .i64 (fieldOf (shN op) 0 W), .int .i64 (fieldOf (shN op) 1 W), .int .i64 (fieldOf (shN op) 2 W), .int .i64 (tkI (shN op) W), .int .i64 (fieldOf (shN op) 3 W)]) true w) := by
  have HP := Lib.hid (And.intro o1' o2')
  have HM := Lib.hid hm
  clear hm
  go_enter Tryd.func40, Tryd.ntmps40
  go_wp2_with fail
  refine (base_any _).mono ?_
  rintro e u1 ⟨rfl, rfl⟩
  go_wp2_with fail
  refine (more_any _).mono ?_
  rintro e u2 ⟨rfl, rfl⟩
  go_wp2_with fail
  have HS3 : Hid (((w.alloc (.cells #[.int .i64 0, .int .i64 0, .int .i64 0, .int .i64 0, .int .i64 0, .int .i64 0] 46)).alloc (.cells baseCells 59)).alloc (.cells moreCells 59) = start3 w) := Lib.hid rfl
  rw [HS3.out]
  clear HS3
  go_loopw [6] (fun i wr => ∃ k : Nat, k < op ∧ i = .int .i64 k ∧ Below (w.heap.size + 3) (start3 w) wr) (fun i _ => 76 - (intOf i).toNat)
  case atStart => exact ⟨0, by omega, rfl, Below.refl _ _⟩
  case round =>
    obtain ⟨k, hk, rfl, hb⟩ := hrel
    have HB := Lib.hid hb
    have hz := hb.size
    rw [start3_size] at hz
    clear hb
    by_cases h1 : k < 40
    case pos =>
      have hp1 : 1 ≤ (k + 1) := by omega
      have hp2 : (k + 1) < 77 := by omega
      obtain ⟨hc, hf⟩ := kept' HB.out
      have q0 : wr.cell? ⟨w.heap.size + 1, k * 6, none⟩ = some (.string (nm (k + 1))) := by rw [hc _ _ (by omega)]; exact base_in w k 0 h1 (by decide)
      have q1 : wr.cell? ⟨w.heap.size + 1, k * 6 + 1, none⟩ = some (.int .i64 ((shN (k + 1) : Nat) : Int)) := by rw [hc _ _ (by omega), ← shN_eq (k + 1) hp2]; exact base_in w k 1 h1 (by decide)
      have q2 : wr.cell? ⟨w.heap.size + 1, k * 6 + 2, none⟩ = some (.int .i64 (oc (k + 1))) := by rw [hc _ _ (by omega)]; exact base_in w k 2 h1 (by decide)
      have q3 : wr.cell? ⟨w.heap.size + 1, k * 6 + 3, none⟩ = some (.int .i64 (f3 (k + 1))) := by rw [hc _ _ (by omega)]; exact base_in w k 3 h1 (by decide)
      have q4 : wr.cell? ⟨w.heap.size + 1, k * 6 + 4, none⟩ = some (.int .i64 (f7 (k + 1))) := by rw [hc _ _ (by omega)]; exact base_in w k 4 h1 (by decide)
      have q5 : wr.cell? ⟨w.heap.size + 1, k * 6 + 5, none⟩ = some (.int .u32 (wd (k + 1))) := by rw [hc _ _ (by omega)]; exact base_in w k 5 h1 (by decide)
      obtain ⟨o0, o1⟩ := oc_rng (k + 1) hp2
      have hzr : w.heap.size + 1 < wr.heap.size := by omega
      have hzr2 : w.heap.size + 2 < wr.heap.size := by omega
      have e1 : (k : Int) < 40 := by omega
      have p0 : wr.cell? ⟨w.heap.size, 0, none⟩ = some (.int .i64 0) := by rw [hc _ _ (by omega)]; simp [start3, go_sem]
      have r0 : wr.frozen? ⟨w.heap.size, 0, none⟩ = false := by rw [hf _ _ (by omega)]; simp [start3, go_sem]
      have p1 : wr.cell? ⟨w.heap.size, 1, none⟩ = some (.int .i64 0) := by rw [hc _ _ (by omega)]; simp [start3, go_sem]
      have r1 : wr.frozen? ⟨w.heap.size, 1, none⟩ = false := by rw [hf _ _ (by omega)]; simp [start3, go_sem]
      have p2 : wr.cell? ⟨w.heap.size, 2, none⟩ = some (.int .i64 0) := by rw [hc _ _ (by omega)]; simp [start3, go_sem]
      have r2 : wr.frozen? ⟨w.heap.size, 2, none⟩ = false := by rw [hf _ _ (by omega)]; simp [start3, go_sem]
      have p3 : wr.cell? ⟨w.heap.size, 3, none⟩ = some (.int .i64 0) := by rw [hc _ _ (by omega)]; simp [start3, go_sem]
      have r3 : wr.frozen? ⟨w.heap.size, 3, none⟩ = false := by rw [hf _ _ (by omega)]; simp [start3, go_sem]
      have p4 : wr.cell? ⟨w.heap.size, 4, none⟩ = some (.int .i64 0) := by rw [hc _ _ (by omega)]; simp [start3, go_sem]
      have r4 : wr.frozen? ⟨w.heap.size, 4, none⟩ = false := by rw [hf _ _ (by omega)]; simp [start3, go_sem]
      have p5 : wr.cell? ⟨w.heap.size, 5, none⟩ = some (.int .i64 0) := by rw [hc _ _ (by omega)]; simp [start3, go_sem]
      have r5 : wr.frozen? ⟨w.heap.size, 5, none⟩ = false := by rw [hf _ _ (by omega)]; simp [start3, go_sem]
      have P := Lib.hid (And.intro p0 (And.intro p1 (And.intro p2 (And.intro p3 (And.intro p4 (And.intro p5 (And.intro r0 (And.intro r1 (And.intro r2 (And.intro r3 (And.intro r4 r5)))))))))))
      clear p0 p1 p2 p3 p4 p5 r0 r1 r2 r3 r4 r5
      clear hc hf
      have EE : Hid (encR ((k : Int) + 1) (fieldOf (shN (k + 1)) 0 W) (fieldOf (shN (k + 1)) 1 W) (fieldOf (shN (k + 1)) 2 W) (tkI (shN (k + 1)) W) (fieldOf (shN (k + 1)) 3 W) = (wordOf (k + 1) + (W - fixI (shN (k + 1)) W), 0, 0)) := Lib.hid (by have := encR_dec (k + 1) hp1 hp2 W w0 w1; rwa [show ((((k + 1) : Nat)) : Int) = ((k : Int) + 1) by omega] at this)
      have HOP : Hid (((((k + 1) : Nat)) : Int) = ((k : Int) + 1)) := Lib.hid (by omega)
      have HS := Lib.hid (shN_rng (k + 1) hp2 hp1)
      by_cases hop : (k + 1) < op
      case neg =>
        obtain rfl : op = (k + 1) := by omega
        have hfx := HM.out
        have hoc : (oc (k + 1) != W % 128) = false := by have := fix_oc (k + 1) hp1 hp2 W w0 w1 hfx; simpa using this
        have hoc2 : Hid (oc (k + 1) = W % 128) := Lib.hid (fix_oc (k + 1) hp1 hp2 W w0 w1 hfx)
        have HW : Hid ((wordOf (k + 1) + (W - fixI (shN (k + 1)) W) == W) = true) := Lib.hid (by rw [hfx]; simp; omega)
        clear hfx
        go_wp2_with fail
        go_quiet ((go_at_call 55; exact Calls.quiet_of_same (cut_low W w0 w1 _)))
        go_wp2_with fail
        refine (guess_at (shN (k + 1)) HS.out.1 HS.out.2 _ W w0 w1 _).mono ?_
        rintro e u3 ⟨rfl, hb3⟩
        unfold insnOf
        have hz3 := hb3.size
        simp only [World.heap_drewN, World.size_alloc] at hz3
        have B3 := Lib.hid ((below_drewN (HB.out.alloc hz _) nq).trans (hb3.mono (by simp; omega)))
        obtain ⟨hc3, hf3⟩ := bcell hb3
        simp only [World.heap_drewN, World.size_alloc] at hc3 hf3
        clear hb3 q0 q1 q2 q3 q4 q5
        go_wp2_with fail
        refine (refencode_any _ (fieldOf (shN (k + 1)) 0 W) (fieldOf (shN (k + 1)) 1 W) (fieldOf (shN (k + 1)) 2 W) (tkI (shN (k + 1)) W) (fieldOf (shN (k + 1)) 3 W) _).mono ?_
        rintro e u4 ⟨rfl, hb4⟩
        rw [EE.out]
        have hw := HW.out
        obtain ⟨hc4, hf4⟩ := bcell hb4
        have hz4 := hb4.size
        simp only [World.size_alloc] at hc4 hf4 hz4
        have B4 := Lib.hid ((B3.out.alloc (by omega) _).trans (hb4.mono (by simp; omega)))
        clear hb4
        have z4 : u3.heap.size < u4.heap.size := by omega
        have z5 : w.heap.size < u4.heap.size := by omega
        obtain ⟨p0, p1, p2, p3, p4, p5, r0, r1, r2, r3, r4, r5⟩ := P.out
        have P0 : u4.cell? ⟨w.heap.size, 0, none⟩ = some (.int .i64 0) := by rw [hc4 _ _ (by omega), World.cell?_alloc_old _ _ _ (by simp; omega), hc3 _ _ (by omega), World.cell?_drewN, World.cell?_alloc_old _ _ _ (by simp; omega)]; exact p0
        have R0 : u4.frozen? ⟨w.heap.size, 0, none⟩ = false := by rw [hf4 _ _ (by omega), World.frozen?_alloc_old _ _ _ (by simp; omega), hf3 _ _ (by omega), World.frozen?_drewN, World.frozen?_alloc_old _ _ _ (by simp; omega)]; exact r0
        have P1 : u4.cell? ⟨w.heap.size, 1, none⟩ = some (.int .i64 0) := by rw [hc4 _ _ (by omega), World.cell?_alloc_old _ _ _ (by simp; omega), hc3 _ _ (by omega), World.cell?_drewN, World.cell?_alloc_old _ _ _ (by simp; omega)]; exact p1
        have R1 : u4.frozen? ⟨w.heap.size, 1, none⟩ = false := by rw [hf4 _ _ (by omega), World.frozen?_alloc_old _ _ _ (by simp; omega), hf3 _ _ (by omega), World.frozen?_drewN, World.frozen?_alloc_old _ _ _ (by simp; omega)]; exact r1
        have P2 : u4.cell? ⟨w.heap.size, 2, none⟩ = some (.int .i64 0) := by rw [hc4 _ _ (by omega), World.cell?_alloc_old _ _ _ (by simp; omega), hc3 _ _ (by omega), World.cell?_drewN, World.cell?_alloc_old _ _ _ (by simp; omega)]; exact p2
        have R2 : u4.frozen? ⟨w.heap.size, 2, none⟩ = false := by rw [hf4 _ _ (by omega), World.frozen?_alloc_old _ _ _ (by simp; omega), hf3 _ _ (by omega), World.frozen?_drewN, World.frozen?_alloc_old _ _ _ (by simp; omega)]; exact r2
        have P3 : u4.cell? ⟨w.heap.size, 3, none⟩ = some (.int .i64 0) := by rw [hc4 _ _ (by omega), World.cell?_alloc_old _ _ _ (by simp; omega), hc3 _ _ (by omega), World.cell?_drewN, World.cell?_alloc_old _ _ _ (by simp; omega)]; exact p3
        have R3 : u4.frozen? ⟨w.heap.size, 3, none⟩ = false := by rw [hf4 _ _ (by omega), World.frozen?_alloc_old _ _ _ (by simp; omega), hf3 _ _ (by omega), World.frozen?_drewN, World.frozen?_alloc_old _ _ _ (by simp; omega)]; exact r3
        have P4 : u4.cell? ⟨w.heap.size, 4, none⟩ = some (.int .i64 0) := by rw [hc4 _ _ (by omega), World.cell?_alloc_old _ _ _ (by simp; omega), hc3 _ _ (by omega), World.cell?_drewN, World.cell?_alloc_old _ _ _ (by simp; omega)]; exact p4
        have R4 : u4.frozen? ⟨w.heap.size, 4, none⟩ = false := by rw [hf4 _ _ (by omega), World.frozen?_alloc_old _ _ _ (by simp; omega), hf3 _ _ (by omega), World.frozen?_drewN, World.frozen?_alloc_old _ _ _ (by simp; omega)]; exact r4
        have P5 : u4.cell? ⟨w.heap.size, 5, none⟩ = some (.int .i64 0) := by rw [hc4 _ _ (by omega), World.cell?_alloc_old _ _ _ (by simp; omega), hc3 _ _ (by omega), World.cell?_drewN, World.cell?_alloc_old _ _ _ (by simp; omega)]; exact p5
        have R5 : u4.frozen? ⟨w.heap.size, 5, none⟩ = false := by rw [hf4 _ _ (by omega), World.frozen?_alloc_old _ _ _ (by simp; omega), hf3 _ _ (by omega), World.frozen?_drewN, World.frozen?_alloc_old _ _ _ (by simp; omega)]; exact r5
        have Q0 : u4.cell? ⟨u3.heap.size, 0, none⟩ = some (.int .i64 ((k : Int) + 1)) := by rw [hc4 _ _ (by omega)]; simp [go_sem]
        have Q1 : u4.cell? ⟨u3.heap.size, 1, none⟩ = some (.int .i64 (fieldOf (shN (k + 1)) 0 W)) := by rw [hc4 _ _ (by omega)]; simp [go_sem]
        have Q2 : u4.cell? ⟨u3.heap.size, 2, none⟩ = some (.int .i64 (fieldOf (shN (k + 1)) 1 W)) := by rw [hc4 _ _ (by omega)]; simp [go_sem]
        have Q3 : u4.cell? ⟨u3.heap.size, 3, none⟩ = some (.int .i64 (fieldOf (shN (k + 1)) 2 W)) := by rw [hc4 _ _ (by omega)]; simp [go_sem]
        have Q4 : u4.cell? ⟨u3.heap.size, 4, none⟩ = some (.int .i64 (tkI (shN (k + 1)) W)) := by rw [hc4 _ _ (by omega)]; simp [go_sem]
        have Q5 : u4.cell? ⟨u3.heap.size, 5, none⟩ = some (.int .i64 (fieldOf (shN (k + 1)) 3 W)) := by rw [hc4 _ _ (by omega)]; simp [go_sem]
        clear hc3 hf3 hc4 hf4 p0 p1 p2 p3 p4 p5 r0 r1 r2 r3 r4 r5
        generalize hy0 : fieldOf (shN (k + 1)) 0 W = y0 at *
        have Hy0 := Lib.hid hy0
        clear hy0
        generalize hy1 : fieldOf (shN (k + 1)) 1 W = y1 at *
        have Hy1 := Lib.hid hy1
        clear hy1
        generalize hy2 : fieldOf (shN (k + 1)) 2 W = y2 at *
        have Hy2 := Lib.hid hy2
        clear hy2
        generalize hy3 : fieldOf (shN (k + 1)) 3 W = y3 at *
        have Hy3 := Lib.hid hy3
        clear hy3
        generalize hy4 : tkI (shN (k + 1)) W = y4 at *
        have Hy4 := Lib.hid hy4
        clear hy4
        go_wp2_with fail
        refine bodyPost_ret (v := .tuple #[.agg #[.int .i64 ((k : Int) + 1), .int .i64 y0, .int .i64 y1, .int .i64 y2, .int .i64 y4, .int .i64 y3], .bool true]) (by simp [results, Tryd.results40, go_sem, P0, P1, P2, P3, P4, P5, R0, R1, R2, R3, R4, R5, z5]) rfl ?_
        rw [Hy0.out, Hy1.out, Hy2.out, Hy3.out, Hy4.out]
        have B5 := Lib.hid ((start3_below w).trans (B4.out.mono (by omega)))
        rw [HOP.out]
        exact ⟨rfl, ((((((B5.out.setCell (Nat.le_refl _) _).setCell (Nat.le_refl _) _).setCell (Nat.le_refl _) _).setCell (Nat.le_refl _) _).setCell (Nat.le_refl _) _).setCell (Nat.le_refl _) _)⟩
      have hnf : fixI (shN (k + 1)) W ≠ wordOf (k + 1) := fun h => by have := one_op (k + 1) op hp1 hp2 HP.out.1 HP.out.2 W w0 w1 h HM.out; omega
      by_cases ho : oc (k + 1) = W % 128
      · have HW : Hid ((wordOf (k + 1) + (W - fixI (shN (k + 1)) W) == W) = false) := Lib.hid (by simp; omega)
        have hoc : (oc (k + 1) != W % 128) = false := by simpa using ho
        clear ho hnf
        go_wp2_with fail
        go_quiet ((go_at_call 55; exact Calls.quiet_of_same (cut_low W w0 w1 _)))
        go_wp2_with fail
        refine (guess_at (shN (k + 1)) HS.out.1 HS.out.2 _ W w0 w1 _).mono ?_
        rintro e u3 ⟨rfl, hb3⟩
        unfold insnOf
        have hz3 := hb3.size
        simp only [World.heap_drewN, World.size_alloc] at hz3
        have B3 := Lib.hid ((below_drewN (HB.out.alloc hz _) nq).trans (hb3.mono (by simp; omega)))
        clear hb3 q0 q1 q2 q3 q4 q5
        go_wp2_with fail
        refine (refencode_any _ (fieldOf (shN (k + 1)) 0 W) (fieldOf (shN (k + 1)) 1 W) (fieldOf (shN (k + 1)) 2 W) (tkI (shN (k + 1)) W) (fieldOf (shN (k + 1)) 3 W) _).mono ?_
        rintro e u4 ⟨rfl, hb4⟩
        rw [EE.out]
        have hw := HW.out
        have hz4 := hb4.size
        simp only [World.size_alloc] at hz4
        have B4 := Lib.hid ((B3.out.alloc (by omega) _).trans (hb4.mono (by simp; omega)))
        clear hb4
        go_wp2_with fail
        go_roundw
        case rel => exact ⟨k + 1, by omega, by go_num, B4.out⟩
        case measure => simp [intOf]; omega
      · have hno : (oc (k + 1) != W % 128) = true := by simpa using ho
        clear ho hnf
        go_wp2_with fail
        go_quiet ((go_at_call 55; exact Calls.quiet_of_same (cut_low W w0 w1 _)))
        go_wp2_with fail
        go_roundw
        case rel => exact ⟨k + 1, by omega, by go_num, below_drewN (HB.out.alloc hz _) _⟩
        case measure => simp [intOf]; omega
    by_cases h2 : k < 76
    case pos =>
      obtain ⟨j, rfl⟩ : ∃ j, k = j + 40 := ⟨k - 40, by omega⟩
      have h1 : j < 36 := by omega
      have hk40 : ¬ ((j : Int) + 40 < 40) := by omega
      have hp1 : 1 ≤ (j + 41) := by omega
      have hp2 : (j + 41) < 77 := by omega
      obtain ⟨hc, hf⟩ := kept' HB.out
      have q0 : wr.cell? ⟨w.heap.size + 2, j * 6, none⟩ = some (.string (nm (j + 41))) := by rw [hc _ _ (by omega)]; exact more_in w j 0 h1 (by decide)
      have q1 : wr.cell? ⟨w.heap.size + 2, j * 6 + 1, none⟩ = some (.int .i64 ((shN (j + 41) : Nat) : Int)) := by rw [hc _ _ (by omega), ← shN_eq (j + 41) hp2]; exact more_in w j 1 h1 (by decide)
      have q2 : wr.cell? ⟨w.heap.size + 2, j * 6 + 2, none⟩ = some (.int .i64 (oc (j + 41))) := by rw [hc _ _ (by omega)]; exact more_in w j 2 h1 (by decide)
      have q3 : wr.cell? ⟨w.heap.size + 2, j * 6 + 3, none⟩ = some (.int .i64 (f3 (j + 41))) := by rw [hc _ _ (by omega)]; exact more_in w j 3 h1 (by decide)
      have q4 : wr.cell? ⟨w.heap.size + 2, j * 6 + 4, none⟩ = some (.int .i64 (f7 (j + 41))) := by rw [hc _ _ (by omega)]; exact more_in w j 4 h1 (by decide)
      have q5 : wr.cell? ⟨w.heap.size + 2, j * 6 + 5, none⟩ = some (.int .u32 (wd (j + 41))) := by rw [hc _ _ (by omega)]; exact more_in w j 5 h1 (by decide)
      obtain ⟨o0, o1⟩ := oc_rng (j + 41) hp2
      have hzr : w.heap.size + 1 < wr.heap.size := by omega
      have hzr2 : w.heap.size + 2 < wr.heap.size := by omega
      have e1 : (j : Int) < 36 := by omega
      have e0 : (0 : Int) ≤ j := by omega
      have p0 : wr.cell? ⟨w.heap.size, 0, none⟩ = some (.int .i64 0) := by rw [hc _ _ (by omega)]; simp [start3, go_sem]
      have r0 : wr.frozen? ⟨w.heap.size, 0, none⟩ = false := by rw [hf _ _ (by omega)]; simp [start3, go_sem]
      have p1 : wr.cell? ⟨w.heap.size, 1, none⟩ = some (.int .i64 0) := by rw [hc _ _ (by omega)]; simp [start3, go_sem]
      have r1 : wr.frozen? ⟨w.heap.size, 1, none⟩ = false := by rw [hf _ _ (by omega)]; simp [start3, go_sem]
      have p2 : wr.cell? ⟨w.heap.size, 2, none⟩ = some (.int .i64 0) := by rw [hc _ _ (by omega)]; simp [start3, go_sem]
      have r2 : wr.frozen? ⟨w.heap.size, 2, none⟩ = false := by rw [hf _ _ (by omega)]; simp [start3, go_sem]
      have p3 : wr.cell? ⟨w.heap.size, 3, none⟩ = some (.int .i64 0) := by rw [hc _ _ (by omega)]; simp [start3, go_sem]
      have r3 : wr.frozen? ⟨w.heap.size, 3, none⟩ = false := by rw [hf _ _ (by omega)]; simp [start3, go_sem]
      have p4 : wr.cell? ⟨w.heap.size, 4, none⟩ = some (.int .i64 0) := by rw [hc _ _ (by omega)]; simp [start3, go_sem]
      have r4 : wr.frozen? ⟨w.heap.size, 4, none⟩ = false := by rw [hf _ _ (by omega)]; simp [start3, go_sem]
      have p5 : wr.cell? ⟨w.heap.size, 5, none⟩ = some (.int .i64 0) := by rw [hc _ _ (by omega)]; simp [start3, go_sem]
      have r5 : wr.frozen? ⟨w.heap.size, 5, none⟩ = false := by rw [hf _ _ (by omega)]; simp [start3, go_sem]
      have P := Lib.hid (And.intro p0 (And.intro p1 (And.intro p2 (And.intro p3 (And.intro p4 (And.intro p5 (And.intro r0 (And.intro r1 (And.intro r2 (And.intro r3 (And.intro r4 r5)))))))))))
      clear p0 p1 p2 p3 p4 p5 r0 r1 r2 r3 r4 r5
      clear hc hf
      have EE : Hid (encR ((j : Int) + 40 + 1) (fieldOf (shN (j + 41)) 0 W) (fieldOf (shN (j + 41)) 1 W) (fieldOf (shN (j + 41)) 2 W) (tkI (shN (j + 41)) W) (fieldOf (shN (j + 41)) 3 W) = (wordOf (j + 41) + (W - fixI (shN (j + 41)) W), 0, 0)) := Lib.hid (by have := encR_dec (j + 41) hp1 hp2 W w0 w1; rwa [show ((((j + 41) : Nat)) : Int) = ((j : Int) + 40 + 1) by omega] at this)
      have HOP : Hid (((((j + 41) : Nat)) : Int) = ((j : Int) + 40 + 1)) := Lib.hid (by omega)
      have HS := Lib.hid (shN_rng (j + 41) hp2 hp1)
      by_cases hop : (j + 41) < op
      case neg =>
        obtain rfl : op = (j + 41) := by omega
        have hfx := HM.out
        have hoc : (oc (j + 41) != W % 128) = false := by have := fix_oc (j + 41) hp1 hp2 W w0 w1 hfx; simpa using this
        have hoc2 : Hid (oc (j + 41) = W % 128) := Lib.hid (fix_oc (j + 41) hp1 hp2 W w0 w1 hfx)
        have HW : Hid ((wordOf (j + 41) + (W - fixI (shN (j + 41)) W) == W) = true) := Lib.hid (by rw [hfx]; simp; omega)
        clear hfx
        go_wp2_with fail
        go_quiet ((go_at_call 55; exact Calls.quiet_of_same (cut_low W w0 w1 _)))
        go_wp2_with fail
        refine (guess_at (shN (j + 41)) HS.out.1 HS.out.2 _ W w0 w1 _).mono ?_
        rintro e u3 ⟨rfl, hb3⟩
        unfold insnOf
        have hz3 := hb3.size
        simp only [World.heap_drewN, World.size_alloc] at hz3
        have B3 := Lib.hid ((below_drewN (HB.out.alloc hz _) nq).trans (hb3.mono (by simp; omega)))
        obtain ⟨hc3, hf3⟩ := bcell hb3
        simp only [World.heap_drewN, World.size_alloc] at hc3 hf3
        clear hb3 q0 q1 q2 q3 q4 q5
        go_wp2_with fail
        refine (refencode_any _ (fieldOf (shN (j + 41)) 0 W) (fieldOf (shN (j + 41)) 1 W) (fieldOf (shN (j + 41)) 2 W) (tkI (shN (j + 41)) W) (fieldOf (shN (j + 41)) 3 W) _).mono ?_
        rintro e u4 ⟨rfl, hb4⟩
        rw [EE.out]
        have hw := HW.out
        obtain ⟨hc4, hf4⟩ := bcell hb4
        have hz4 := hb4.size
        simp only [World.size_alloc] at hc4 hf4 hz4
        have B4 := Lib.hid ((B3.out.alloc (by omega) _).trans (hb4.mono (by simp; omega)))
        clear hb4
        have z4 : u3.heap.size < u4.heap.size := by omega
        have z5 : w.heap.size < u4.heap.size := by omega
        obtain ⟨p0, p1, p2, p3, p4, p5, r0, r1, r2, r3, r4, r5⟩ := P.out
        have P0 : u4.cell? ⟨w.heap.size, 0, none⟩ = some (.int .i64 0) := by rw [hc4 _ _ (by omega), World.cell?_alloc_old _ _ _ (by simp; omega), hc3 _ _ (by omega), World.cell?_drewN, World.cell?_alloc_old _ _ _ (by simp; omega)]; exact p0
        have R0 : u4.frozen? ⟨w.heap.size, 0, none⟩ = false := by rw [hf4 _ _ (by omega), World.frozen?_alloc_old _ _ _ (by simp; omega), hf3 _ _ (by omega), World.frozen?_drewN, World.frozen?_alloc_old _ _ _ (by simp; omega)]; exact r0
        have P1 : u4.cell? ⟨w.heap.size, 1, none⟩ = some (.int .i64 0) := by rw [hc4 _ _ (by omega), World.cell?_alloc_old _ _ _ (by simp; omega), hc3 _ _ (by omega), World.cell?_drewN, World.cell?_alloc_old _ _ _ (by simp; omega)]; exact p1
        have R1 : u4.frozen? ⟨w.heap.size, 1, none⟩ = false := by rw [hf4 _ _ (by omega), World.frozen?_alloc_old _ _ _ (by simp; omega), hf3 _ _ (by omega), World.frozen?_drewN, World.frozen?_alloc_old _ _ _ (by simp; omega)]; exact r1
        have P2 : u4.cell? ⟨w.heap.size, 2, none⟩ = some (.int .i64 0) := by rw [hc4 _ _ (by omega), World.cell?_alloc_old _ _ _ (by simp; omega), hc3 _ _ (by omega), World.cell?_drewN, World.cell?_alloc_old _ _ _ (by simp; omega)]; exact p2
        have R2 : u4.frozen? ⟨w.heap.size, 2, none⟩ = false := by rw [hf4 _ _ (by omega), World.frozen?_alloc_old _ _ _ (by simp; omega), hf3 _ _ (by omega), World.frozen?_drewN, World.frozen?_alloc_old _ _ _ (by simp; omega)]; exact r2
        have P3 : u4.cell? ⟨w.heap.size, 3, none⟩ = some (.int .i64 0) := by rw [hc4 _ _ (by omega), World.cell?_alloc_old _ _ _ (by simp; omega), hc3 _ _ (by omega), World.cell?_drewN, World.cell?_alloc_old _ _ _ (by simp; omega)]; exact p3
        have R3 : u4.frozen? ⟨w.heap.size, 3, none⟩ = false := by rw [hf4 _ _ (by omega), World.frozen?_alloc_old _ _ _ (by simp; omega), hf3 _ _ (by omega), World.frozen?_drewN, World.frozen?_alloc_old _ _ _ (by simp; omega)]; exact r3
        have P4 : u4.cell? ⟨w.heap.size, 4, none⟩ = some (.int .i64 0) := by rw [hc4 _ _ (by omega), World.cell?_alloc_old _ _ _ (by simp; omega), hc3 _ _ (by omega), World.cell?_drewN, World.cell?_alloc_old _ _ _ (by simp; omega)]; exact p4
        have R4 : u4.frozen? ⟨w.heap.size, 4, none⟩ = false := by rw [hf4 _ _ (by omega), World.frozen?_alloc_old _ _ _ (by simp; omega), hf3 _ _ (by omega), World.frozen?_drewN, World.frozen?_alloc_old _ _ _ (by simp; omega)]; exact r4
        have P5 : u4.cell? ⟨w.heap.size, 5, none⟩ = some (.int .i64 0) := by rw [hc4 _ _ (by omega), World.cell?_alloc_old _ _ _ (by simp; omega), hc3 _ _ (by omega), World.cell?_drewN, World.cell?_alloc_old _ _ _ (by simp; omega)]; exact p5
        have R5 : u4.frozen? ⟨w.heap.size, 5, none⟩ = false := by rw [hf4 _ _ (by omega), World.frozen?_alloc_old _ _ _ (by simp; omega), hf3 _ _ (by omega), World.frozen?_drewN, World.frozen?_alloc_old _ _ _ (by simp; omega)]; exact r5
        have Q0 : u4.cell? ⟨u3.heap.size, 0, none⟩ = some (.int .i64 ((j : Int) + 40 + 1)) := by rw [hc4 _ _ (by omega)]; simp [go_sem]
        have Q1 : u4.cell? ⟨u3.heap.size, 1, none⟩ = some (.int .i64 (fieldOf (shN (j + 41)) 0 W)) := by rw [hc4 _ _ (by omega)]; simp [go_sem]
        have Q2 : u4.cell? ⟨u3.heap.size, 2, none⟩ = some (.int .i64 (fieldOf (shN (j + 41)) 1 W)) := by rw [hc4 _ _ (by omega)]; simp [go_sem]
        have Q3 : u4.cell? ⟨u3.heap.size, 3, none⟩ = some (.int .i64 (fieldOf (shN (j + 41)) 2 W)) := by rw [hc4 _ _ (by omega)]; simp [go_sem]
        have Q4 : u4.cell? ⟨u3.heap.size, 4, none⟩ = some (.int .i64 (tkI (shN (j + 41)) W)) := by rw [hc4 _ _ (by omega)]; simp [go_sem]
        have Q5 : u4.cell? ⟨u3.heap.size, 5, none⟩ = some (.int .i64 (fieldOf (shN (j + 41)) 3 W)) := by rw [hc4 _ _ (by omega)]; simp [go_sem]
        clear hc3 hf3 hc4 hf4 p0 p1 p2 p3 p4 p5 r0 r1 r2 r3 r4 r5
        generalize hy0 : fieldOf (shN (j + 41)) 0 W = y0 at *
        have Hy0 := Lib.hid hy0
        clear hy0
        generalize hy1 : fieldOf (shN (j + 41)) 1 W = y1 at *
        have Hy1 := Lib.hid hy1
        clear hy1
        generalize hy2 : fieldOf (shN (j + 41)) 2 W = y2 at *
        have Hy2 := Lib.hid hy2
        clear hy2
        generalize hy3 : fieldOf (shN (j + 41)) 3 W = y3 at *
        have Hy3 := Lib.hid hy3
        clear hy3
        generalize hy4 : tkI (shN (j + 41)) W = y4 at *
        have Hy4 := Lib.hid hy4
        clear hy4
        go_wp2_with fail
        refine bodyPost_ret (v := .tuple #[.agg #[.int .i64 ((j : Int) + 40 + 1), .int .i64 y0, .int .i64 y1, .int .i64 y2, .int .i64 y4, .int .i64 y3], .bool true]) (by simp [results, Tryd.results40, go_sem, P0, P1, P2, P3, P4, P5, R0, R1, R2, R3, R4, R5, z5]) rfl ?_
        rw [Hy0.out, Hy1.out, Hy2.out, Hy3.out, Hy4.out]
        have B5 := Lib.hid ((start3_below w).trans (B4.out.mono (by omega)))
        rw [HOP.out]
        exact ⟨rfl, ((((((B5.out.setCell (Nat.le_refl _) _).setCell (Nat.le_refl _) _).setCell (Nat.le_refl _) _).setCell (Nat.le_refl _) _).setCell (Nat.le_refl _) _).setCell (Nat.le_refl _) _)⟩
      have hnf : fixI (shN (j + 41)) W ≠ wordOf (j + 41) := fun h => by have := one_op (j + 41) op hp1 hp2 HP.out.1 HP.out.2 W w0 w1 h HM.out; omega
      by_cases ho : oc (j + 41) = W % 128
      · have HW : Hid ((wordOf (j + 41) + (W - fixI (shN (j + 41)) W) == W) = false) := Lib.hid (by simp; omega)
        have hoc : (oc (j + 41) != W % 128) = false := by simpa using ho
        clear ho hnf
        go_wp2_with fail
        go_quiet ((go_at_call 55; exact Calls.quiet_of_same (cut_low W w0 w1 _)))
        go_wp2_with fail
        refine (guess_at (shN (j + 41)) HS.out.1 HS.out.2 _ W w0 w1 _).mono ?_
        rintro e u3 ⟨rfl, hb3⟩
        unfold insnOf
        have hz3 := hb3.size
        simp only [World.heap_drewN, World.size_alloc] at hz3
        have B3 := Lib.hid ((below_drewN (HB.out.alloc hz _) nq).trans (hb3.mono (by simp; omega)))
        clear hb3 q0 q1 q2 q3 q4 q5
        go_wp2_with fail
        refine (refencode_any _ (fieldOf (shN (j + 41)) 0 W) (fieldOf (shN (j + 41)) 1 W) (fieldOf (shN (j + 41)) 2 W) (tkI (shN (j + 41)) W) (fieldOf (shN (j + 41)) 3 W) _).mono ?_
        rintro e u4 ⟨rfl, hb4⟩
        rw [EE.out]
        have hw := HW.out
        have hz4 := hb4.size
        simp only [World.size_alloc] at hz4
        have B4 := Lib.hid ((B3.out.alloc (by omega) _).trans (hb4.mono (by simp; omega)))
        clear hb4
        go_wp2_with fail
        go_roundw
        case rel => exact ⟨j + 41, by omega, by go_num, B4.out⟩
        case measure => simp [intOf]; omega
      · have hno : (oc (j + 41) != W % 128) = true := by simpa using ho
        clear ho hnf
        go_wp2_with fail
        go_quiet ((go_at_call 55; exact Calls.quiet_of_same (cut_low W w0 w1 _)))
        go_wp2_with fail
        go_roundw
        case rel => exact ⟨j + 41, by omega, by go_num, below_drewN (HB.out.alloc hz _) _⟩
        case measure => simp [intOf]; omega
    omega
end Go.Proofs.YtgjiojcdifjhcaaDoor
