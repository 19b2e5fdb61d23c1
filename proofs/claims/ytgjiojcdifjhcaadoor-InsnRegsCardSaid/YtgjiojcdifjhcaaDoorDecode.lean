/- insn.Decode, walked: the instruction that a word is, or none. By an AI agent; printed by wip/gen_dec.py. -/
import Derived.Test.YtgjiojcdifjhcaaDoorUnique
import Derived.Test.YtgjiojcdifjhcaaDoorTake
import Derived.Test.YtgjiojcdifjhcaaDoorEncWalk
import Derived.Deep.RegionHeld3
import Derived.Deep.DrawnRows
set_option linter.unusedVariables false
set_option linter.unusedSimpArgs false
namespace Go.Proofs.YtgjiojcdifjhcaaDoor
open Go.RowKit
attribute [local go_sem] formCells idx0 idx1 idx2 idx3
attribute [local go_sem ↓] Go.wp_at_zero Go.wp_at_succ
theorem and_fix (s : Nat) (s1 : 1 ≤ s) (s2 : s ≤ 14) (W : Int) (w0 : 0 ≤ W) (w1 : W < 4294967296) : bits .and .u32 W (fmFixed s) = fixI s W := by
  obtain ⟨n, rfl⟩ := Int.eq_ofNat_of_zero_le w0
  have hn : n < 4294967296 := by omega
  rcases s14 s s1 s2 with rfl | rfl | rfl | rfl | rfl | rfl | rfl | rfl | rfl | rfl | rfl | rfl | rfl | rfl
  · show bits .and .u32 (n : Int) ((4261441663 : Nat) : Int) = (n : Int) % 128 + (n : Int) / 4096 % 8 * 4096 + (n : Int) / 33554432 % 128 * 33554432
    rw [u32_and_nat n _ hn (by decide), mask_R]; omega
  · show bits .and .u32 (n : Int) ((28799 : Nat) : Int) = (n : Int) % 128 + (n : Int) / 4096 % 8 * 4096
    rw [u32_and_nat n _ hn (by decide), mask_I]; omega
  · show bits .and .u32 (n : Int) ((4227887231 : Nat) : Int) = (n : Int) % 128 + (n : Int) / 4096 % 8 * 4096 + (n : Int) / 67108864 % 64 * 67108864
    rw [u32_and_nat n _ hn (by decide), mask_H]; omega
  · show bits .and .u32 (n : Int) ((4261441663 : Nat) : Int) = (n : Int) % 128 + (n : Int) / 4096 % 8 * 4096 + (n : Int) / 33554432 % 128 * 33554432
    rw [u32_and_nat n _ hn (by decide), mask_R]; omega
  iterate 3
    · show bits .and .u32 (n : Int) ((28799 : Nat) : Int) = (n : Int) % 128 + (n : Int) / 4096 % 8 * 4096
      rw [u32_and_nat n _ hn (by decide), mask_I]; omega
  iterate 2
    · show bits .and .u32 (n : Int) ((127 : Nat) : Int) = (n : Int) % 128
      rw [u32_and_nat n _ hn (by decide), mask_127]; omega
  · show bits .and .u32 (n : Int) ((28799 : Nat) : Int) = (n : Int) % 128 + (n : Int) / 4096 % 8 * 4096
    rw [u32_and_nat n _ hn (by decide), mask_I]; omega
  · show bits .and .u32 (n : Int) ((4294967295 : Nat) : Int) = (n : Int)
    rw [u32_and_nat n _ hn (by decide), mask_Z n hn]
  · show bits .and .u32 (n : Int) ((4261445631 : Nat) : Int) = (n : Int) % 128 + (n : Int) / 4096 % 8 * 4096 + (n : Int) / 33554432 % 128 * 33554432 + (n : Int) / 128 % 32 * 128
    rw [u32_and_nat n _ hn (by decide), mask_V]; omega
  iterate 2
    · show bits .and .u32 (n : Int) ((28799 : Nat) : Int) = (n : Int) % 128 + (n : Int) / 4096 % 8 * 4096
      rw [u32_and_nat n _ hn (by decide), mask_I]; omega
/-- What Decode answers: the instruction and nil, or none and the refusal c at 0. -/
def DecPost (v : Value) (c : Int) (w : World) (e : Ending) (w' : World) : Prop := ∃ er, e = .returned (.tuple #[v, er]) ∧ ErrIs er 0 c w.heap.size w' ∧ Below w.heap.size w w'
theorem cells_kept {n : Nat} {W w1 : World} (hb : Below n W w1) : (∀ b o, b < n → w1.cell? ⟨b, o, none⟩ = W.cell? ⟨b, o, none⟩) ∧ (∀ b o, b < n → w1.frozen? ⟨b, o, none⟩ = W.frozen? ⟨b, o, none⟩) :=
  ⟨fun b o h => hb.cell (p := ⟨b, o, none⟩) h, fun b o h => hb.frozen (p := ⟨b, o, none⟩) h⟩
theorem bits_drawn (W : Int) (l n : Nat) (L N : Int) (w0 : 0 ≤ W) (w1 : W < 4294967296) (hl : l ≤ 32) (hn : n ≤ 20) (eL : (2 : Int) ^ l = L) (eN : (2 : Int) ^ n = N) (w : World) : Calls Tryd.prog 53 #[.int .u32 W, .int .i64 (l : Int), .int .i64 (n : Int)] w fun e w' => e = .returned (.int .i64 (W / L % N)) ∧ ∃ m, w' = w.drewN m := by
  subst eL eN
  have HB := Lib.hid (bits_val64 W l n w0 w1 hn)
  have a1 : (0 : Int) ≤ (l : Int) := by omega
  have a2 : (0 : Int) ≤ (n : Int) := by omega
  have b1 : (l : Int) ≤ 32 := by omega
  have b2 : (n : Int) ≤ 32 := by omega
  go_enter Tryd.func53, Tryd.ntmps53
  go_wp2
  repeat (go_quiet (fail); try go_wp2)
  go_ret
  exact ⟨ret_int HB.out, _, rfl⟩
theorem dec_refused {v : Value} {c : Int} {w W6 : World} {n : Nat} (hc : (c != 0) = true) (hn : W6.heap.size = n) (hb : Below w.heap.size w W6) : DecPost v c w (.returned (.tuple #[v, .iface 104 (.pointer (some ⟨n, 0, none⟩))])) (W6.alloc (.cells #[.string insnS, .int .i64 0, .iface 71 (.int .i64 c)] 106)) := by
  subst hn; exact ⟨_, rfl, ErrIs.made 0 c hc _ _ hb.size, hb.alloc hb.size _⟩
theorem dec_given {v : Value} {w w' : World} (hb : Below w.heap.size w w') : DecPost v 0 w (.returned (.tuple #[v, .nilIface])) w' := ⟨_, rfl, ErrIs.nil _ _, hb⟩
/-- The cell j of the instruction that is being read, kk fields of it done. -/
def cvI (op imm : Int) (F : Nat → Int) (kk : Nat) : Nat → Int
  | 0 => op
  | 1 => if 0 < kk then F 0 else 0
  | 2 => if 1 < kk then F 1 else 0
  | 3 => if 2 < kk then F 2 else 0
  | 4 => imm
  | _ => if 3 < kk then F 3 else 0
/-- The instruction's cells, kk fields done. -/
def CellsI (wr : World) (g : Nat) (op imm : Int) (F : Nat → Int) (kk : Nat) : Prop := g < wr.heap.size ∧ ∀ j, j < 6 → wr.cell? ⟨g, j, none⟩ = some (.int .i64 (cvI op imm F kk j)) ∧ wr.frozen? ⟨g, j, none⟩ = false
theorem CellsI.keep {wr wr' : World} {g : Nat} {op imm : Int} {F : Nat → Int} {kk : Nat} (h : CellsI wr g op imm F kk) (hb : Below (g + 1) wr wr') : CellsI wr' g op imm F kk := by
  obtain ⟨hc, hf⟩ := cells_kept hb
  exact ⟨Nat.lt_of_lt_of_le h.1 hb.size, fun j hj => ⟨by rw [hc _ _ (Nat.lt_succ_self g)]; exact (h.2 j hj).1, by rw [hf _ _ (Nat.lt_succ_self g)]; exact (h.2 j hj).2⟩⟩
theorem j6 (j : Nat) (h : j < 6) : j = 0 ∨ j = 1 ∨ j = 2 ∨ j = 3 ∨ j = 4 ∨ j = 5 := by omega
theorem CellsI.next {wr : World} {g : Nat} {op imm : Int} {F : Nat → Int} {kk : Nat} (h : CellsI wr g op imm F kk) (e : ∀ j, j < 6 → cvI op imm F (kk + 1) j = cvI op imm F kk j) : CellsI wr g op imm F (kk + 1) :=
  ⟨h.1, fun j hj => ⟨by rw [e j hj]; exact (h.2 j hj).1, (h.2 j hj).2⟩⟩
theorem CellsI.put {wr : World} {g : Nat} {op imm : Int} {F : Nat → Int} {kk i : Nat} (h : CellsI wr g op imm F kk) (hi : i < 6) (x : Int) (e : ∀ j, j < 6 → cvI op imm F (kk + 1) j = if j = i then x else cvI op imm F kk j) : CellsI (wr.setCell ⟨g, i, none⟩ (.int .i64 x)) g op imm F (kk + 1) := by
  refine ⟨by rw [World.size_setCell]; exact h.1, fun j hj => ?_⟩
  rw [e j hj]
  have hr : (wr.setCell ⟨g, i, none⟩ (.int .i64 x)).frozen? ⟨g, j, none⟩ = false := by simp [go_sem, (h.2 j hj).2]
  by_cases hji : j = i
  · subst hji
    rw [if_pos rfl]
    exact ⟨World.cell?_setCell_same' _ _ _ (by rw [(h.2 j hj).1]; rfl), hr⟩
  · rw [if_neg hji]
    exact ⟨by rw [World.cell?_setCell_other _ _ _ _ (fun hh => hji (congrArg Addr.off hh).symm)]; exact (h.2 j hj).1, hr⟩
theorem cv_skip (op imm : Int) (F : Nat → Int) (kk : Nat) (hk : kk < 4) (h : F kk = 0) : ∀ j, j < 6 → cvI op imm F (kk + 1) j = cvI op imm F kk j := by
  intro j hj
  have k4 : kk = 0 ∨ kk = 1 ∨ kk = 2 ∨ kk = 3 := by omega
  rcases k4 with rfl | rfl | rfl | rfl <;> rcases j6 j hj with rfl | rfl | rfl | rfl | rfl | rfl <;> simp [cvI, h]
theorem cv_put0 (op imm : Int) (F : Nat → Int) : ∀ j, j < 6 → cvI op imm F 1 j = if j = 1 then F 0 else cvI op imm F 0 j := by
  intro j hj
  rcases j6 j hj with rfl | rfl | rfl | rfl | rfl | rfl <;> simp [cvI]
theorem cv_put1 (op imm : Int) (F : Nat → Int) : ∀ j, j < 6 → cvI op imm F 2 j = if j = 2 then F 1 else cvI op imm F 1 j := by
  intro j hj
  rcases j6 j hj with rfl | rfl | rfl | rfl | rfl | rfl <;> simp [cvI]
theorem cv_put2 (op imm : Int) (F : Nat → Int) : ∀ j, j < 6 → cvI op imm F 3 j = if j = 3 then F 2 else cvI op imm F 2 j := by
  intro j hj
  rcases j6 j hj with rfl | rfl | rfl | rfl | rfl | rfl <;> simp [cvI]
theorem cv_put3 (op imm : Int) (F : Nat → Int) : ∀ j, j < 6 → cvI op imm F 4 j = if j = 5 then F 3 else cvI op imm F 3 j := by
  intro j hj
  rcases j6 j hj with rfl | rfl | rfl | rfl | rfl | rfl <;> simp [cvI]
theorem fieldOf_no {s k : Nat} {W : Int} (h : hasB s k = false) : fieldOf s k W = 0 := by unfold fieldOf; rw [h]; rfl
theorem cv_has0 (s : Nat) (W op imm : Int) (h : hasB s 0 = true) : ∀ j, j < 6 → cvI op imm (fun j => fieldOf s j W) 1 j = if j = 1 then W / 128 % 32 else cvI op imm (fun j => fieldOf s j W) 0 j := by
  intro j hj
  rw [cv_put0 _ _ _ j hj, show fieldOf s 0 W = W / 128 % 32 by unfold fieldOf; rw [h]; rfl]
theorem cv_has1 (s : Nat) (W op imm : Int) (h : hasB s 1 = true) : ∀ j, j < 6 → cvI op imm (fun j => fieldOf s j W) 2 j = if j = 2 then W / 32768 % 32 else cvI op imm (fun j => fieldOf s j W) 1 j := by
  intro j hj
  rw [cv_put1 _ _ _ j hj, show fieldOf s 1 W = W / 32768 % 32 by unfold fieldOf; rw [h]; rfl]
theorem cv_has2 (s : Nat) (W op imm : Int) (h : hasB s 2 = true) : ∀ j, j < 6 → cvI op imm (fun j => fieldOf s j W) 3 j = if j = 3 then W / 1048576 % 32 else cvI op imm (fun j => fieldOf s j W) 2 j := by
  intro j hj
  rw [cv_put2 _ _ _ j hj, show fieldOf s 2 W = W / 1048576 % 32 by unfold fieldOf; rw [h]; rfl]
theorem cv_has3 (s : Nat) (W op imm : Int) (h : hasB s 3 = true) : ∀ j, j < 6 → cvI op imm (fun j => fieldOf s j W) 4 j = if j = 5 then W / 1048576 % 4096 else cvI op imm (fun j => fieldOf s j W) 3 j := by
  intro j hj
  rw [cv_put3 _ _ _ j hj, show fieldOf s 3 W = W / 1048576 % 4096 by unfold fieldOf; rw [h]; rfl]
set_option maxRecDepth 100000 in
set_option maxHeartbeats 4000000 in
theorem decode_miss (W : Int) (w0 : 0 ≤ W) (w1 : W < 4294967296) (hm : ∀ op, 1 ≤ op → op < 77 → fixI (shN op) W ≠ wordOf op) (w : World) (ht : TabsW w) : Calls Tryd.prog 28 #[.int .u32 W] w (DecPost (.agg #[.int .i64 0, .int .i64 0, .int .i64 0, .int .i64 0, .int .i64 0, .int .i64 0]) 20 w) := by
  have HM := Lib.hid hm
  have HT := Lib.hid ht
  clear hm ht
  go_enter Tryd.func28, Tryd.ntmps28
  go_wp2_with fail
  go_loopw [4] (fun i wr => ∃ k : Nat, 1 ≤ k ∧ k ≤ 77 ∧ i = .int .i64 k ∧ Below (w.heap.size + 1) (w.alloc (.cells #[.int .i64 0, .int .i64 0, .int .i64 0, .int .i64 0, .int .i64 0, .int .i64 0] 46)) wr) (fun i _ => 77 - (intOf i).toNat)
  case atStart => exact ⟨1, by omega, by omega, rfl, Below.refl _ _⟩
  case round =>
    obtain ⟨k, hk1, hk7, rfl, hb⟩ := hrel
    have HB := Lib.hid hb
    have HB0 := Lib.hid (((Below.refl w.heap.size w).alloc (Nat.le_refl _) (.cells #[.int .i64 0, .int .i64 0, .int .i64 0, .int .i64 0, .int .i64 0, .int .i64 0] 46)).trans (hb.mono (Nat.le_succ _)))
    have HT1 := Lib.hid (HT.out.after HB0.out)
    clear hb
    by_cases h1 : k < 77
    · have hs := shN_rng k h1 hk1
      have HS := Lib.hid hs
      have HF := Lib.hid (and_fix (shN k) hs.1 hs.2 W w0 w1)
      have c0 : wr.cell? ⟨0, k, none⟩ = some (.int .i64 ((shN k : Nat) : Int)) := by rw [← shN_eq k h1]; exact HT1.out.sh k h1
      have hz3 : 3 < wr.heap.size := HT1.out.size
      have hz0 : 0 < wr.heap.size := by omega
      have e1 : (k : Int) < 77 := by omega
      have e2 : (0 : Int) ≤ k := by omega
      have HNE : Hid ((fixI (shN k) W != wordOf k) = true) := Lib.hid (by simpa using HM.out k hk1 h1)
      clear hs
      go_wp2_with fail
      refine (form_at (shN k) HS.out.1 HS.out.2 _).mono ?_
      rintro e w5 ⟨rfl, hb5⟩
      have HT5 := Lib.hid (HT1.out.after hb5)
      have c3 : w5.cell? ⟨3, k, none⟩ = some (.int .u32 (wordOf k)) := HT5.out.wd k h1
      have hz5 := hb5.size
      have hz35 : 3 < w5.heap.size := by omega
      have HB5 := Lib.hid hb5
      clear hb5 c0
      have hfix := HF.out
      have hne := HNE.out
      go_wp2_with fail
      go_quiet (fail)
      go_wp2_with fail
      go_roundw
      case rel => exact ⟨k + 1, by omega, by omega, by go_num, below_drewN ((HB.out.trans (HB5.out.mono (by have := HB.out.size; simp at this; omega))).alloc (by have := HB.out.size; simp at this; omega) _) _⟩
      case measure => simp [intOf]; omega
    · have h77 : k = 77 := by omega
      subst h77
      obtain ⟨hc, hf⟩ := cells_kept HB.out
      have hz := HB.out.size
      simp only [World.size_alloc] at hz
      have hzz : w.heap.size < wr.heap.size := by omega
      have p0 : wr.cell? ⟨w.heap.size, 0, none⟩ = some (.int .i64 0) := by rw [hc _ _ (by omega)]; simp [go_sem]
      have r0 : wr.frozen? ⟨w.heap.size, 0, none⟩ = false := by rw [hf _ _ (by omega)]; simp [go_sem]
      have p1 : wr.cell? ⟨w.heap.size, 1, none⟩ = some (.int .i64 0) := by rw [hc _ _ (by omega)]; simp [go_sem]
      have r1 : wr.frozen? ⟨w.heap.size, 1, none⟩ = false := by rw [hf _ _ (by omega)]; simp [go_sem]
      have p2 : wr.cell? ⟨w.heap.size, 2, none⟩ = some (.int .i64 0) := by rw [hc _ _ (by omega)]; simp [go_sem]
      have r2 : wr.frozen? ⟨w.heap.size, 2, none⟩ = false := by rw [hf _ _ (by omega)]; simp [go_sem]
      have p3 : wr.cell? ⟨w.heap.size, 3, none⟩ = some (.int .i64 0) := by rw [hc _ _ (by omega)]; simp [go_sem]
      have r3 : wr.frozen? ⟨w.heap.size, 3, none⟩ = false := by rw [hf _ _ (by omega)]; simp [go_sem]
      have p4 : wr.cell? ⟨w.heap.size, 4, none⟩ = some (.int .i64 0) := by rw [hc _ _ (by omega)]; simp [go_sem]
      have r4 : wr.frozen? ⟨w.heap.size, 4, none⟩ = false := by rw [hf _ _ (by omega)]; simp [go_sem]
      have p5 : wr.cell? ⟨w.heap.size, 5, none⟩ = some (.int .i64 0) := by rw [hc _ _ (by omega)]; simp [go_sem]
      have r5 : wr.frozen? ⟨w.heap.size, 5, none⟩ = false := by rw [hf _ _ (by omega)]; simp [go_sem]
      clear hc hf
      go_wp2_with fail
      refine (refuse_any 0 20 _).mono ?_
      rintro e w8 ⟨rfl, rfl⟩
      go_wp2_with fail
      refine bodyPost_ret (v := .tuple #[.agg #[.int .i64 0, .int .i64 0, .int .i64 0, .int .i64 0, .int .i64 0, .int .i64 0], .iface 104 (.pointer (some ⟨wr.heap.size, 0, none⟩))]) (by simp [results, Tryd.results28, go_sem, p0, p1, p2, p3, p4, p5, r0, r1, r2, r3, r4, r5, hzz]) rfl ?_
      exact dec_refused rfl (by simp only [World.size_setCell]) ((((((HB0.out.setCell (Nat.le_refl _) _).setCell (Nat.le_refl _) _).setCell (Nat.le_refl _) _).setCell (Nat.le_refl _) _).setCell (Nat.le_refl _) _).setCell (Nat.le_refl _) _)
set_option maxRecDepth 100000 in
set_option maxHeartbeats 8000000 in
theorem decode_hit (op : Nat) (p1 : 1 ≤ op) (p2 : op < 77) (W : Int) (w0 : 0 ≤ W) (w1 : W < 4294967296) (hm : fixI (shN op) W = wordOf op) (w : World) (ht : TabsW w) : Calls Tryd.prog 28 #[.int .u32 W] w (DecPost (.agg #[.int .i64 op, .int .i64 (fieldOf (shN op) 0 W), .int .i64 (fieldOf (shN op) 1 W), .int .i64 (fieldOf (shN op) 2 W), .int .i64 (tkI (shN op) W), .int .i64 (fieldOf (shN op) 3 W)]) 0 w) := by
  have HM : Hid (∀ q, 1 ≤ q → q < op → fixI (shN q) W ≠ wordOf q) := Lib.hid fun q q1 q2 h => by
    have := one_op q op q1 (by omega) p1 p2 W w0 w1 h hm
    omega
  have HIT := Lib.hid hm
  have HT := Lib.hid ht
  clear hm ht
  go_enter Tryd.func28, Tryd.ntmps28
  go_wp2_with fail
  go_loopw [4] (fun i wr => ∃ k : Nat, 1 ≤ k ∧ k ≤ op ∧ i = .int .i64 k ∧ Below (w.heap.size + 1) (w.alloc (.cells #[.int .i64 0, .int .i64 0, .int .i64 0, .int .i64 0, .int .i64 0, .int .i64 0] 46)) wr) (fun i _ => 77 - (intOf i).toNat)
  case atStart => exact ⟨1, by omega, by omega, rfl, Below.refl _ _⟩
  case round =>
    obtain ⟨k, hk1, hk7, rfl, hb⟩ := hrel
    have HB := Lib.hid hb
    have HB0 := Lib.hid (((Below.refl w.heap.size w).alloc (Nat.le_refl _) (.cells #[.int .i64 0, .int .i64 0, .int .i64 0, .int .i64 0, .int .i64 0, .int .i64 0] 46)).trans (hb.mono (Nat.le_succ _)))
    have HT1 := Lib.hid (HT.out.after HB0.out)
    clear hb
    have h1 : k < 77 := by omega
    have hs := shN_rng k h1 hk1
    have HS := Lib.hid hs
    have HF := Lib.hid (and_fix (shN k) hs.1 hs.2 W w0 w1)
    have c0 : wr.cell? ⟨0, k, none⟩ = some (.int .i64 ((shN k : Nat) : Int)) := by rw [← shN_eq k h1]; exact HT1.out.sh k h1
    have hz3 : 3 < wr.heap.size := HT1.out.size
    have hz0 : 0 < wr.heap.size := by omega
    have e1 : (k : Int) < 77 := by omega
    have e2 : (0 : Int) ≤ k := by omega
    clear hs
    by_cases hne : k < op
    · have HNE : Hid ((fixI (shN k) W != wordOf k) = true) := Lib.hid (by simpa using HM.out k hk1 hne)
      go_wp2_with fail
      refine (form_at (shN k) HS.out.1 HS.out.2 _).mono ?_
      rintro e w5 ⟨rfl, hb5⟩
      have HT5 := Lib.hid (HT1.out.after hb5)
      have c3 : w5.cell? ⟨3, k, none⟩ = some (.int .u32 (wordOf k)) := HT5.out.wd k h1
      have hz5 := hb5.size
      have hz35 : 3 < w5.heap.size := by omega
      have HB5 := Lib.hid hb5
      clear hb5 c0
      have hfix := HF.out
      have hne2 := HNE.out
      go_wp2_with fail
      go_quiet (fail)
      go_wp2_with fail
      go_roundw
      case rel => exact ⟨k + 1, by omega, by omega, by go_num, below_drewN ((HB.out.trans (HB5.out.mono (by have := HB.out.size; simp at this; omega))).alloc (by have := HB.out.size; simp at this; omega) _) _⟩
      case measure => simp [intOf]; omega
    · obtain rfl : k = op := by omega
      have HNE : Hid ((fixI (shN k) W != wordOf k) = false) := Lib.hid (by simpa using HIT.out)
      go_wp2_with fail
      refine (form_at (shN k) HS.out.1 HS.out.2 _).mono ?_
      rintro e w5 ⟨rfl, hb5⟩
      have HT5 := Lib.hid (HT1.out.after hb5)
      have c3 : w5.cell? ⟨3, k, none⟩ = some (.int .u32 (wordOf k)) := HT5.out.wd k h1
      have hz5 := hb5.size
      have hz35 : 3 < w5.heap.size := by omega
      have HB5 := Lib.hid (HB.out.trans (hb5.mono (by have := HB.out.size; simp at this; omega)))
      clear hb5 c0 hk1 hk7 hne
      have hfix := HF.out
      have hne2 := HNE.out
      have hen := take_enter (shN k) HS.out.1 HS.out.2
      go_wp2_with fail
      go_quiet (fail)
      go_wp2_with fail
      refine (take_any (shN k) HS.out.1 HS.out.2 W w0 w1 _).mono ?_
      rintro e w6 ⟨rfl, hb6⟩
      clear hen hfix hne2 c3 hz35
      have hz6 := hb6.size
      obtain ⟨hc6, -⟩ := bcell hb6
      have HB6a := Lib.hid hb6
      clear hb6
      go_wp2_with fail
      refine (fields_any w6.heap.size _).mono ?_
      rintro e w7 ⟨rfl, hb7⟩
      unfold fieldCells
      have hz7 := hb7.size
      simp only [World.size_alloc] at hz7
      have f6 : w6.cell? ⟨w5.heap.size, 0, none⟩ = some (.int .i64 (fmFields (shN k))) := by rw [hc6 _ _ (by simp)]; simp [go_sem]
      have hz6' : w5.heap.size < w6.heap.size := by simp at hz6; omega
      have CI0 : Hid (CellsI w7 w6.heap.size k (tkI (shN k) W) (fun j => fieldOf (shN k) j W) 0) := Lib.hid (by
        obtain ⟨hc, hf⟩ := bcell hb7
        simp only [World.size_alloc] at hc hf
        refine ⟨by omega, fun j hj => ?_⟩
        rw [hc _ _ (Nat.lt_succ_self _), hf _ _ (Nat.lt_succ_self _)]
        rcases j6 j hj with rfl | rfl | rfl | rfl | rfl | rfl <;> simp [go_sem, cvI])
      have BI0 : Hid (Below w6.heap.size w6 w7) := Lib.hid (((Below.refl _ _).alloc (Nat.le_refl _) _).trans (hb7.mono (by simp)))
      have B6 : Hid (Below (w.heap.size + 1) (w.alloc (.cells #[.int .i64 0, .int .i64 0, .int .i64 0, .int .i64 0, .int .i64 0, .int .i64 0] 46)) w6) := Lib.hid ((below_drewN (HB5.out.alloc (by have := HB.out.size; simp at this; omega) _) nq).trans (HB6a.out.mono (by have := HB.out.size; simp at this; simp; omega)))
      have F6 := Lib.hid f6
      clear hc6 hb7 f6 hz6 hz7
      generalize w5.heap.size = gf at *
      have hgg : w.heap.size < w6.heap.size := by have := B6.out.size; simp at this; omega
      go_wp2_with fail
      go_loopw [32] (fun i w2 => ∃ kk : Nat, kk ≤ 4 ∧ i = .int .i64 kk ∧ CellsI w2 w6.heap.size k (tkI (shN k) W) (fun j => fieldOf (shN k) j W) kk ∧ Below w6.heap.size w6 w2) (fun i _ => 4 - (intOf i).toNat)
      case atStart => exact ⟨0, Nat.zero_le _, rfl, CI0.out, BI0.out⟩
      case round =>
        obtain ⟨kk, hkk, rfl, ci, bi⟩ := hrel
        have hfc := (cells_kept bi).1
        have f0 : wr.cell? ⟨gf, 0, none⟩ = some (.int .i64 (fmFields (shN k))) := by rw [hfc _ _ hz6']; exact F6.out
        have hzb := bi.size
        have gfr : gf < wr.heap.size := by omega
        have ggr : w6.heap.size < wr.heap.size := ci.1
        have hzr : w6.heap.size + 1 ≤ wr.heap.size := ci.1
        have CI := Lib.hid ci
        have BI := Lib.hid bi
        clear hfc ci bi
        have hk5 : kk = 0 ∨ kk = 1 ∨ kk = 2 ∨ kk = 3 ∨ kk = 4 := by omega
        rcases hk5 with rfl | rfl | rfl | rfl | rfl
        · have HA := Lib.hid (has_and (shN k) (by have := HS.out; omega)).1
          cases hb : hasB (shN k) 0
          · have ha : bits .and .i64 (fmFields (shN k)) 1 = 0 := by have := HA.out; rw [hb] at this; exact this
            go_wp2_with fail
            go_roundw
            case rel => exact ⟨1, by omega, by go_num, (CI.out.keep (((Below.refl _ _).mono hzr).alloc hzr _)).next (cv_skip _ _ _ 0 (by decide) (fieldOf_no hb)), BI.out.alloc hzb _⟩
            case measure => simp [intOf]
          · have ha : bits .and .i64 (fmFields (shN k)) 1 = 1 := by have := HA.out; rw [hb] at this; exact this
            have q0 : wr.cell? ⟨w6.heap.size, 1, none⟩ = some (.int .i64 0) := (CI.out.2 1 (by decide)).1
            have r0 : wr.frozen? ⟨w6.heap.size, 1, none⟩ = false := (CI.out.2 1 (by decide)).2
            have rr : ∀ o : Obj, (wr.alloc o).frozen? ⟨w6.heap.size, 1, none⟩ = false := fun o => by rw [World.frozen?_alloc_old _ _ _ (Nat.ne_of_lt ggr)]; exact r0
            have rd : ∀ o : Obj, (wr.alloc o).drew.frozen? ⟨w6.heap.size, 1, none⟩ = false := rr
            go_wp2_with fail
            go_region_held3 (fun w' => w'.cell? ⟨wr.heap.size, 4, none⟩ = some (.pointer (some ⟨w6.heap.size, 1, none⟩)) ∧ w'.cell? ⟨wr.heap.size, 2, none⟩ = some (.int .i64 7) ∧ w'.cell? ⟨wr.heap.size, 3, none⟩ = some (.int .i64 5) ∧ w'.frozen? ⟨w6.heap.size, 1, none⟩ = false ∧ (w'.cell? ⟨w6.heap.size, 1, none⟩).isSome = true) ((refine ⟨?_, ?_, ?_, ?_, ?_⟩ <;> first | (simp [go_sem, q0, r0, rr, rd, ggr]; done) | (rw [World.cell?_setCell_other _ _ _ _ (by simp; omega)]; simp [go_sem]; done) | (rw [World.frozen?_setCell]; simp [go_sem, r0, rr, rd, ggr]; done) | (rw [World.cell?_setCell_same' _ _ _ (by simp [go_sem, q0, ggr])]; rfl))) ((go_at_call 53; refine (bits_drawn W 7 5 128 32 w0 w1 (by decide) (by decide) rfl rfl _).mono ?_; rintro e w9 ⟨rfl, m, rfl⟩))
            go_wp2_with fail
            go_roundw
            case rel => exact ⟨1, by omega, by go_num, (CI.out.keep (below_drewN (((Below.refl _ _).mono hzr).alloc hzr _) _)).put (by decide) _ (cv_has0 _ _ _ _ hb), (below_drewN (BI.out.alloc hzb _) _).setCell (Nat.le_refl _) _⟩
            case measure => simp [intOf]
        · have HA := Lib.hid (has_and (shN k) (by have := HS.out; omega)).2.1
          cases hb : hasB (shN k) 1
          · have ha : bits .and .i64 (fmFields (shN k)) 2 = 0 := by have := HA.out; rw [hb] at this; exact this
            go_wp2_with fail
            go_roundw
            case rel => exact ⟨2, by omega, by go_num, (CI.out.keep (((Below.refl _ _).mono hzr).alloc hzr _)).next (cv_skip _ _ _ 1 (by decide) (fieldOf_no hb)), BI.out.alloc hzb _⟩
            case measure => simp [intOf]
          · have ha : bits .and .i64 (fmFields (shN k)) 2 = 2 := by have := HA.out; rw [hb] at this; exact this
            have q0 : wr.cell? ⟨w6.heap.size, 2, none⟩ = some (.int .i64 0) := (CI.out.2 2 (by decide)).1
            have r0 : wr.frozen? ⟨w6.heap.size, 2, none⟩ = false := (CI.out.2 2 (by decide)).2
            have rr : ∀ o : Obj, (wr.alloc o).frozen? ⟨w6.heap.size, 2, none⟩ = false := fun o => by rw [World.frozen?_alloc_old _ _ _ (Nat.ne_of_lt ggr)]; exact r0
            have rd : ∀ o : Obj, (wr.alloc o).drew.frozen? ⟨w6.heap.size, 2, none⟩ = false := rr
            go_wp2_with fail
            go_region_held3 (fun w' => w'.cell? ⟨wr.heap.size, 4, none⟩ = some (.pointer (some ⟨w6.heap.size, 2, none⟩)) ∧ w'.cell? ⟨wr.heap.size, 2, none⟩ = some (.int .i64 15) ∧ w'.cell? ⟨wr.heap.size, 3, none⟩ = some (.int .i64 5) ∧ w'.frozen? ⟨w6.heap.size, 2, none⟩ = false ∧ (w'.cell? ⟨w6.heap.size, 2, none⟩).isSome = true) ((refine ⟨?_, ?_, ?_, ?_, ?_⟩ <;> first | (simp [go_sem, q0, r0, rr, rd, ggr]; done) | (rw [World.cell?_setCell_other _ _ _ _ (by simp; omega)]; simp [go_sem]; done) | (rw [World.frozen?_setCell]; simp [go_sem, r0, rr, rd, ggr]; done) | (rw [World.cell?_setCell_same' _ _ _ (by simp [go_sem, q0, ggr])]; rfl))) ((go_at_call 53; refine (bits_drawn W 15 5 32768 32 w0 w1 (by decide) (by decide) rfl rfl _).mono ?_; rintro e w9 ⟨rfl, m, rfl⟩))
            go_wp2_with fail
            go_roundw
            case rel => exact ⟨2, by omega, by go_num, (CI.out.keep (below_drewN (((Below.refl _ _).mono hzr).alloc hzr _) _)).put (by decide) _ (cv_has1 _ _ _ _ hb), (below_drewN (BI.out.alloc hzb _) _).setCell (Nat.le_refl _) _⟩
            case measure => simp [intOf]
        · have HA := Lib.hid (has_and (shN k) (by have := HS.out; omega)).2.2.1
          cases hb : hasB (shN k) 2
          · have ha : bits .and .i64 (fmFields (shN k)) 4 = 0 := by have := HA.out; rw [hb] at this; exact this
            go_wp2_with fail
            go_roundw
            case rel => exact ⟨3, by omega, by go_num, (CI.out.keep (((Below.refl _ _).mono hzr).alloc hzr _)).next (cv_skip _ _ _ 2 (by decide) (fieldOf_no hb)), BI.out.alloc hzb _⟩
            case measure => simp [intOf]
          · have ha : bits .and .i64 (fmFields (shN k)) 4 = 4 := by have := HA.out; rw [hb] at this; exact this
            have q0 : wr.cell? ⟨w6.heap.size, 3, none⟩ = some (.int .i64 0) := (CI.out.2 3 (by decide)).1
            have r0 : wr.frozen? ⟨w6.heap.size, 3, none⟩ = false := (CI.out.2 3 (by decide)).2
            have rr : ∀ o : Obj, (wr.alloc o).frozen? ⟨w6.heap.size, 3, none⟩ = false := fun o => by rw [World.frozen?_alloc_old _ _ _ (Nat.ne_of_lt ggr)]; exact r0
            have rd : ∀ o : Obj, (wr.alloc o).drew.frozen? ⟨w6.heap.size, 3, none⟩ = false := rr
            go_wp2_with fail
            go_region_held3 (fun w' => w'.cell? ⟨wr.heap.size, 4, none⟩ = some (.pointer (some ⟨w6.heap.size, 3, none⟩)) ∧ w'.cell? ⟨wr.heap.size, 2, none⟩ = some (.int .i64 20) ∧ w'.cell? ⟨wr.heap.size, 3, none⟩ = some (.int .i64 5) ∧ w'.frozen? ⟨w6.heap.size, 3, none⟩ = false ∧ (w'.cell? ⟨w6.heap.size, 3, none⟩).isSome = true) ((refine ⟨?_, ?_, ?_, ?_, ?_⟩ <;> first | (simp [go_sem, q0, r0, rr, rd, ggr]; done) | (rw [World.cell?_setCell_other _ _ _ _ (by simp; omega)]; simp [go_sem]; done) | (rw [World.frozen?_setCell]; simp [go_sem, r0, rr, rd, ggr]; done) | (rw [World.cell?_setCell_same' _ _ _ (by simp [go_sem, q0, ggr])]; rfl))) ((go_at_call 53; refine (bits_drawn W 20 5 1048576 32 w0 w1 (by decide) (by decide) rfl rfl _).mono ?_; rintro e w9 ⟨rfl, m, rfl⟩))
            go_wp2_with fail
            go_roundw
            case rel => exact ⟨3, by omega, by go_num, (CI.out.keep (below_drewN (((Below.refl _ _).mono hzr).alloc hzr _) _)).put (by decide) _ (cv_has2 _ _ _ _ hb), (below_drewN (BI.out.alloc hzb _) _).setCell (Nat.le_refl _) _⟩
            case measure => simp [intOf]
        · have HA := Lib.hid (has_and (shN k) (by have := HS.out; omega)).2.2.2
          cases hb : hasB (shN k) 3
          · have ha : bits .and .i64 (fmFields (shN k)) 16 = 0 := by have := HA.out; rw [hb] at this; exact this
            go_wp2_with fail
            go_roundw
            case rel => exact ⟨4, by omega, by go_num, (CI.out.keep (((Below.refl _ _).mono hzr).alloc hzr _)).next (cv_skip _ _ _ 3 (by decide) (fieldOf_no hb)), BI.out.alloc hzb _⟩
            case measure => simp [intOf]
          · have ha : bits .and .i64 (fmFields (shN k)) 16 = 16 := by have := HA.out; rw [hb] at this; exact this
            have q0 : wr.cell? ⟨w6.heap.size, 5, none⟩ = some (.int .i64 0) := (CI.out.2 5 (by decide)).1
            have r0 : wr.frozen? ⟨w6.heap.size, 5, none⟩ = false := (CI.out.2 5 (by decide)).2
            have rr : ∀ o : Obj, (wr.alloc o).frozen? ⟨w6.heap.size, 5, none⟩ = false := fun o => by rw [World.frozen?_alloc_old _ _ _ (Nat.ne_of_lt ggr)]; exact r0
            have rd : ∀ o : Obj, (wr.alloc o).drew.frozen? ⟨w6.heap.size, 5, none⟩ = false := rr
            go_wp2_with fail
            go_region_held3 (fun w' => w'.cell? ⟨wr.heap.size, 4, none⟩ = some (.pointer (some ⟨w6.heap.size, 5, none⟩)) ∧ w'.cell? ⟨wr.heap.size, 2, none⟩ = some (.int .i64 20) ∧ w'.cell? ⟨wr.heap.size, 3, none⟩ = some (.int .i64 12) ∧ w'.frozen? ⟨w6.heap.size, 5, none⟩ = false ∧ (w'.cell? ⟨w6.heap.size, 5, none⟩).isSome = true) ((refine ⟨?_, ?_, ?_, ?_, ?_⟩ <;> first | (simp [go_sem, q0, r0, rr, rd, ggr]; done) | (rw [World.cell?_setCell_other _ _ _ _ (by simp; omega)]; simp [go_sem]; done) | (rw [World.frozen?_setCell]; simp [go_sem, r0, rr, rd, ggr]; done) | (rw [World.cell?_setCell_same' _ _ _ (by simp [go_sem, q0, ggr])]; rfl))) ((go_at_call 53; refine (bits_drawn W 20 12 1048576 4096 w0 w1 (by decide) (by decide) rfl rfl _).mono ?_; rintro e w9 ⟨rfl, m, rfl⟩))
            go_wp2_with fail
            go_roundw
            case rel => exact ⟨4, by omega, by go_num, (CI.out.keep (below_drewN (((Below.refl _ _).mono hzr).alloc hzr _) _)).put (by decide) _ (cv_has3 _ _ _ _ hb), (below_drewN (BI.out.alloc hzb _) _).setCell (Nat.le_refl _) _⟩
            case measure => simp [intOf]
        · have B7 := Lib.hid (B6.out.trans (BI.out.mono (by have := B6.out.size; simp at this; omega)))
          obtain ⟨hc, hf⟩ := cells_kept B7.out
          have p0 : wr.cell? ⟨w.heap.size, 0, none⟩ = some (.int .i64 0) := by rw [hc _ _ (Nat.lt_succ_self _)]; simp [go_sem]
          have r0 : wr.frozen? ⟨w.heap.size, 0, none⟩ = false := by rw [hf _ _ (Nat.lt_succ_self _)]; simp [go_sem]
          have p1 : wr.cell? ⟨w.heap.size, 1, none⟩ = some (.int .i64 0) := by rw [hc _ _ (Nat.lt_succ_self _)]; simp [go_sem]
          have r1 : wr.frozen? ⟨w.heap.size, 1, none⟩ = false := by rw [hf _ _ (Nat.lt_succ_self _)]; simp [go_sem]
          have p2 : wr.cell? ⟨w.heap.size, 2, none⟩ = some (.int .i64 0) := by rw [hc _ _ (Nat.lt_succ_self _)]; simp [go_sem]
          have r2 : wr.frozen? ⟨w.heap.size, 2, none⟩ = false := by rw [hf _ _ (Nat.lt_succ_self _)]; simp [go_sem]
          have p3 : wr.cell? ⟨w.heap.size, 3, none⟩ = some (.int .i64 0) := by rw [hc _ _ (Nat.lt_succ_self _)]; simp [go_sem]
          have r3 : wr.frozen? ⟨w.heap.size, 3, none⟩ = false := by rw [hf _ _ (Nat.lt_succ_self _)]; simp [go_sem]
          have p4 : wr.cell? ⟨w.heap.size, 4, none⟩ = some (.int .i64 0) := by rw [hc _ _ (Nat.lt_succ_self _)]; simp [go_sem]
          have r4 : wr.frozen? ⟨w.heap.size, 4, none⟩ = false := by rw [hf _ _ (Nat.lt_succ_self _)]; simp [go_sem]
          have p5 : wr.cell? ⟨w.heap.size, 5, none⟩ = some (.int .i64 0) := by rw [hc _ _ (Nat.lt_succ_self _)]; simp [go_sem]
          have r5 : wr.frozen? ⟨w.heap.size, 5, none⟩ = false := by rw [hf _ _ (Nat.lt_succ_self _)]; simp [go_sem]
          have q0 : wr.cell? ⟨w6.heap.size, 0, none⟩ = some (.int .i64 (k : Int)) := (CI.out.2 0 (by decide)).1
          have q1 : wr.cell? ⟨w6.heap.size, 1, none⟩ = some (.int .i64 (fieldOf (shN k) 0 W)) := (CI.out.2 1 (by decide)).1
          have q2 : wr.cell? ⟨w6.heap.size, 2, none⟩ = some (.int .i64 (fieldOf (shN k) 1 W)) := (CI.out.2 2 (by decide)).1
          have q3 : wr.cell? ⟨w6.heap.size, 3, none⟩ = some (.int .i64 (fieldOf (shN k) 2 W)) := (CI.out.2 3 (by decide)).1
          have q4 : wr.cell? ⟨w6.heap.size, 4, none⟩ = some (.int .i64 (tkI (shN k) W)) := (CI.out.2 4 (by decide)).1
          have q5 : wr.cell? ⟨w6.heap.size, 5, none⟩ = some (.int .i64 (fieldOf (shN k) 3 W)) := (CI.out.2 5 (by decide)).1
          have hwr : w.heap.size < wr.heap.size := by omega
          clear hc hf f0
          generalize hy0 : fieldOf (shN k) 0 W = y0 at *
          have Hy0 := Lib.hid hy0
          clear hy0
          generalize hy1 : fieldOf (shN k) 1 W = y1 at *
          have Hy1 := Lib.hid hy1
          clear hy1
          generalize hy2 : fieldOf (shN k) 2 W = y2 at *
          have Hy2 := Lib.hid hy2
          clear hy2
          generalize hy3 : fieldOf (shN k) 3 W = y3 at *
          have Hy3 := Lib.hid hy3
          clear hy3
          generalize hy4 : tkI (shN k) W = y4 at *
          have Hy4 := Lib.hid hy4
          clear hy4
          go_wp2_with fail
          refine bodyPost_ret (v := .tuple #[.agg #[.int .i64 k, .int .i64 y0, .int .i64 y1, .int .i64 y2, .int .i64 y4, .int .i64 y3], .nilIface]) (by simp [results, Tryd.results28, go_sem, p0, p1, p2, p3, p4, p5, r0, r1, r2, r3, r4, r5, hwr]) rfl ?_
          have HB0 := Lib.hid (((Below.refl w.heap.size w).alloc (Nat.le_refl _) (.cells #[.int .i64 0, .int .i64 0, .int .i64 0, .int .i64 0, .int .i64 0, .int .i64 0] 46)).trans (B7.out.mono (Nat.le_succ _)))
          rw [Hy0.out, Hy1.out, Hy2.out, Hy3.out, Hy4.out]
          exact dec_given ((((((HB0.out.setCell (Nat.le_refl _) _).setCell (Nat.le_refl _) _).setCell (Nat.le_refl _) _).setCell (Nat.le_refl _) _).setCell (Nat.le_refl _) _).setCell (Nat.le_refl _) _)
end Go.Proofs.YtgjiojcdifjhcaaDoor
