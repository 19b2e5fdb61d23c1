/- The law InsnDecodes: any list of words, each asked of the program and of the document. By an AI agent. -/
import Derived.Test.YtgjiojcdifjhcaaDoorDecode
import Derived.Test.YtgjiojcdifjhcaaDoorRefDecode
import Derived.Test.YtgjiojcdifjhcaaDoorTold
import Derived.Test.YtgjiojcdifjhcaaDoorLEncodes
set_option linter.unusedVariables false
set_option linter.unusedSimpArgs false
namespace Go.Proofs.YtgjiojcdifjhcaaDoor
open Go.RowKit
set_option maxRecDepth 100000 in
set_option maxHeartbeats 4000000 in
theorem decodes_hit (op : Nat) (p1 : 1 ≤ op) (p2 : op < 77) (W : Int) (w0 : 0 ≤ W) (w1 : W < 4294967296) (hm : fixI (shN op) W = wordOf op) (w : World) (ht : TabsW w) : Calls Tryd.prog 23 #[.int .u32 W] w (TruePost w) := by
  have HD := Lib.hid (decode_hit op p1 p2 W w0 w1 hm w ht)
  have HR := Lib.hid (fun w => refdecode_hit op p1 p2 W w0 w1 hm w)
  clear hm ht
  generalize fieldOf (shN op) 0 W = y0 at *
  generalize fieldOf (shN op) 1 W = y1 at *
  generalize fieldOf (shN op) 2 W = y2 at *
  generalize fieldOf (shN op) 3 W = y3 at *
  generalize tkI (shN op) W = y4 at *
  go_enter Tryd.func23, Tryd.ntmps23
  go_wp2_with fail
  refine HD.out.mono ?_
  rintro e u1 ⟨er, rfl, her, hb1⟩
  obtain rfl : er = .nilIface := her.nil_iff.2 rfl
  have B1 := Lib.hid hb1
  clear hb1 her HD
  go_wp2_with fail
  refine (HR.out _).mono ?_
  rintro e u2 ⟨rfl, hb2⟩
  obtain ⟨hc2, -⟩ := bcell hb2
  have hz1 := B1.out.size
  have hz2 := hb2.size
  simp only [World.size_alloc] at hc2 hz2
  have z2 : u1.heap.size < u2.heap.size := by omega
  have q0 : u2.cell? ⟨u1.heap.size, 0, none⟩ = some (.int .i64 op) := by rw [hc2 _ _ (by omega)]; simp [go_sem]
  have q1 : u2.cell? ⟨u1.heap.size, 1, none⟩ = some (.int .i64 y0) := by rw [hc2 _ _ (by omega)]; simp [go_sem]
  have q2 : u2.cell? ⟨u1.heap.size, 2, none⟩ = some (.int .i64 y1) := by rw [hc2 _ _ (by omega)]; simp [go_sem]
  have q3 : u2.cell? ⟨u1.heap.size, 3, none⟩ = some (.int .i64 y2) := by rw [hc2 _ _ (by omega)]; simp [go_sem]
  have q4 : u2.cell? ⟨u1.heap.size, 4, none⟩ = some (.int .i64 y4) := by rw [hc2 _ _ (by omega)]; simp [go_sem]
  have q5 : u2.cell? ⟨u1.heap.size, 5, none⟩ = some (.int .i64 y3) := by rw [hc2 _ _ (by omega)]; simp [go_sem]
  have B2 := Lib.hid ((B1.out.alloc hz1 _).trans (hb2.mono (by simp; omega)))
  clear hc2 hb2
  go_wp2_with fail
  go_ret
  exact ⟨rfl, B2.out.alloc (by omega) _⟩
set_option maxRecDepth 100000 in
set_option maxHeartbeats 4000000 in
theorem decodes_miss (W : Int) (w0 : 0 ≤ W) (w1 : W < 4294967296) (hm : ∀ op, 1 ≤ op → op < 77 → fixI (shN op) W ≠ wordOf op) (w : World) (ht : TabsW w) : Calls Tryd.prog 23 #[.int .u32 W] w (TruePost w) := by
  have HD := Lib.hid (decode_miss W w0 w1 hm w ht)
  have HR := Lib.hid (fun w => refdecode_miss W w0 w1 hm w)
  clear hm ht
  go_enter Tryd.func23, Tryd.ntmps23
  go_wp2_with fail
  refine HD.out.mono ?_
  rintro e u1 ⟨er, rfl, her, hb1⟩
  have HE := Lib.hid her
  have B1 := Lib.hid hb1
  clear hb1 her HD
  go_wp2_with fail
  refine (HR.out _).mono ?_
  rintro e u2 ⟨rfl, hb2⟩
  obtain ⟨hc2, -⟩ := bcell hb2
  have hz1 := B1.out.size
  have hz2 := hb2.size
  simp only [World.size_alloc] at hc2 hz2
  have z2 : u1.heap.size < u2.heap.size := by omega
  have q0 : u2.cell? ⟨u1.heap.size, 0, none⟩ = some (.int .i64 0) := by rw [hc2 _ _ (by omega)]; simp [go_sem]
  have q1 : u2.cell? ⟨u1.heap.size, 1, none⟩ = some (.int .i64 0) := by rw [hc2 _ _ (by omega)]; simp [go_sem]
  have q2 : u2.cell? ⟨u1.heap.size, 2, none⟩ = some (.int .i64 0) := by rw [hc2 _ _ (by omega)]; simp [go_sem]
  have q3 : u2.cell? ⟨u1.heap.size, 3, none⟩ = some (.int .i64 0) := by rw [hc2 _ _ (by omega)]; simp [go_sem]
  have q4 : u2.cell? ⟨u1.heap.size, 4, none⟩ = some (.int .i64 0) := by rw [hc2 _ _ (by omega)]; simp [go_sem]
  have q5 : u2.cell? ⟨u1.heap.size, 5, none⟩ = some (.int .i64 0) := by rw [hc2 _ _ (by omega)]; simp [go_sem]
  have b2 : Below u1.heap.size u1 u2 := ((Below.refl u1.heap.size u1).alloc (Nat.le_refl _) _).trans (hb2.mono (by simp))
  have HE2 := Lib.hid ((HE.out.after b2).after ((Below.refl u2.heap.size u2).alloc (Nat.le_refl _) (.cells #[.int .i64 0, .int .i64 0, .int .i64 0, .int .i64 0, .int .i64 0, .int .i64 0] 46)))
  have B2 := Lib.hid ((B1.out.trans (b2.mono hz1)).alloc (by omega) (.cells #[.int .i64 0, .int .i64 0, .int .i64 0, .int .i64 0, .int .i64 0, .int .i64 0] 46))
  clear hc2 hb2 b2
  go_wp2_with fail
  refine (fault_any _ _ _).mono ?_
  rintro e w4 ⟨fv, rfl, hfv, hb4⟩
  have HF := Lib.hid hfv
  have HE4 := Lib.hid (HE2.out.after hb4)
  have HB4 := Lib.hid (B2.out.trans (hb4.mono (by simp; omega)))
  clear hfv hb4
  go_wp2_with fail
  refine (is_true HE4.out HF.out).mono ?_
  rintro e w5 ⟨rfl, hb5⟩
  have HB5 := Lib.hid (HB4.out.trans (hb5.mono HB4.out.size))
  clear hb5
  go_wp2_with fail
  go_ret
  exact ⟨rfl, HB5.out⟩
theorem decodes_any (W : Int) (w0 : 0 ≤ W) (w1 : W < 4294967296) (w : World) (ht : TabsW w) : Calls Tryd.prog 23 #[.int .u32 W] w (TruePost w) := by
  by_cases h : ∃ op, 1 ≤ op ∧ op < 77 ∧ fixI (shN op) W = wordOf op
  · obtain ⟨op, p1, p2, hm⟩ := h
    exact decodes_hit op p1 p2 W w0 w1 hm w ht
  · exact decodes_miss W w0 w1 (fun op p1 p2 hm => h ⟨op, p1, p2, hm⟩) w ht
set_option maxRecDepth 100000 in
set_option maxHeartbeats 4000000 in
theorem law_decodes (b off len cap : Nat) (X : Nat → Int) (w : World) (ht : TabsW w) (hl : len ≤ 9223372036854775807) (hc : ∀ i, i < len → w.cell? ⟨b, off + i, none⟩ = some (.int .u32 (X i)) ∧ 0 ≤ X i ∧ X i < 4294967296) :
    Calls Tryd.prog 5 #[.slice (some ⟨b, off, none⟩) len cap] w (TruePost w) := by
  have HT := Lib.hid ht
  have HC := Lib.hid hc
  clear ht hc
  go_enter Tryd.func5, Tryd.ntmps5
  go_wp2_with fail
  go_loopw [3] (fun i wr => ∃ k : Nat, k ≤ len ∧ k ≤ 400 ∧ i = .int .i64 k ∧ Below w.heap.size w wr) (fun i _ => 400 - (intOf i).toNat)
  case atStart => exact ⟨0, Nat.zero_le _, by omega, rfl, Below.refl _ _⟩
  case round =>
    obtain ⟨k, hk, hk4, rfl, hb⟩ := hrel
    have HB := Lib.hid hb
    have HT1 := Lib.hid (HT.out.after hb)
    clear hb
    by_cases h1 : k < len
    · by_cases h2 : k < 400
      · obtain ⟨q, x0, x1⟩ := HC.out k h1
        have hbl : b < w.heap.size := World.block_lt_of_cell? w _ q
        have q0 : wr.cell? ⟨b, off + k, none⟩ = some (.int .u32 (X k)) := by rw [(bcell HB.out).1 _ _ hbl]; exact q
        clear q
        go_wp2_with fail
        refine (decodes_any (X k) x0 x1 _ HT1.out).mono ?_
        rintro e w1 ⟨rfl, hb1⟩
        have HB1 := Lib.hid (HB.out.trans (hb1.mono HB.out.size))
        clear hb1
        go_wp2_with fail
        go_roundw
        case rel => exact ⟨k + 1, by omega, by omega, by go_num, HB1.out⟩
        case measure => simp [intOf]; omega
      · have h3 : k = 400 := by omega
        go_wp2_with fail
        go_ret
        exact ⟨rfl, HB.out⟩
    · have h3 : k = len := by omega
      go_wp2_with fail
      go_ret
      exact ⟨rfl, HB.out⟩
theorem law_decodes_nil (a : Option Addr) (cap : Nat) (w : World) : Calls Tryd.prog 5 #[.slice a 0 cap] w (TruePost w) := by
  go_enter Tryd.func5, Tryd.ntmps5
  go_wp2_with fail
  refine wp_loop_rounds 1 ?_
  rw [rounds_succ]
  go_wp2_with fail
  go_ret
  exact ⟨rfl, Below.refl _ _⟩
end Go.Proofs.YtgjiojcdifjhcaaDoor
