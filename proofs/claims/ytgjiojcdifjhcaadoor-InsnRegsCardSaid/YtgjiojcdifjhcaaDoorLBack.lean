/- The law InsnBack: what Encode takes is what Decode reads again, and the other way round; names lead back. By an AI agent; printed by wip/gen_back.py. -/
import Derived.Test.YtgjiojcdifjhcaaDoorDecode
import Derived.Test.YtgjiojcdifjhcaaDoorRefDecode
import Derived.Test.YtgjiojcdifjhcaaDoorRegs
import Derived.Test.YtgjiojcdifjhcaaDoorLBare
set_option linter.unusedVariables false
set_option linter.unusedSimpArgs false
namespace Go.Proofs.YtgjiojcdifjhcaaDoor
open Go.RowKit
structure TabsA (w : World) : Prop where
  shapes : ∃ tt fr, w.heap[0]? = some (.cells shCells tt fr)
  names : ∃ tt fr, w.heap[1]? = some (.cells nmCells tt fr)
  regs : ∃ tt fr, w.heap[2]? = some (.cells rgCells tt fr)
  words : ∃ tt fr, w.heap[3]? = some (.cells wordCells tt fr)
theorem TabsA.t {w : World} (h : TabsA w) : Tabs w := ⟨h.shapes, h.names, h.regs⟩
theorem TabsA.w {w : World} (h : TabsA w) : TabsW w := ⟨h.shapes, h.words⟩
theorem TabsA.after {w w' : World} (h : TabsA w) (hb : Below w.heap.size w w') : TabsA w' := ⟨(h.t.after hb).shapes, (h.t.after hb).names, (h.t.after hb).regs, (h.w.after hb).words⟩
theorem TabsA.alloc {w : World} (h : TabsA w) (o : Obj) : TabsA (w.alloc o) := h.after ((Below.refl _ _).alloc (Nat.le_refl _) _)
/-- What was laid down is read again. -/
theorem back1 (a0 a1 a2 a3 a4 a5 : Int) (h : (encR a0 a1 a2 a3 a4 a5).2.2 = 0) (w : World) (ht : TabsW w) : Calls Tryd.prog 28 #[.int .u32 (encR a0 a1 a2 a3 a4 a5).1] w (DecPost (.agg #[.int .i64 a0, .int .i64 a1, .int .i64 a2, .int .i64 a3, .int .i64 a4, .int .i64 a5]) 0 w) := by
  obtain ⟨k, rfl, p1, p2, h0, h1, h2, h3, hi, hw⟩ := encR_ok h
  obtain ⟨r0, r1⟩ := (acc_imm k p1 p2 a1 a2 a3 a5 a4 h0 h1 h2 h3).2
  obtain ⟨f, e0, e1, e2, e3, ei⟩ := enc_word k p1 p2 a1 a2 a3 a5 a4 _ h0 h1 h2 h3 hi hw
  rw [← hw] at r0 r1
  have := decode_hit k p1 p2 _ r0 r1 f w ht
  rwa [e0, e1, e2, e3, ei] at this
/-- What is read is laid down again. -/
theorem back2 (k : Nat) (p1 : 1 ≤ k) (p2 : k < 77) (W : Int) (w0 : 0 ≤ W) (w1 : W < 4294967296) (hm : fixI (shN k) W = wordOf k) (w : World) (ht : TabsW w) : Calls Tryd.prog 24 #[.agg #[.int .i64 k, .int .i64 (fieldOf (shN k) 0 W), .int .i64 (fieldOf (shN k) 1 W), .int .i64 (fieldOf (shN k) 2 W), .int .i64 (tkI (shN k) W), .int .i64 (fieldOf (shN k) 3 W)]] w (EncPost (W, 0, 0) w) := by
  have := encode_any k (fieldOf (shN k) 0 W) (fieldOf (shN k) 1 W) (fieldOf (shN k) 2 W) (tkI (shN k) W) (fieldOf (shN k) 3 W) w ht
  rw [encR_dec k p1 p2 W w0 w1, hm] at this
  rwa [show wordOf k + (W - wordOf k) = W by omega] at this
theorem oc_three : ∀ op, op < 77 → 1 ≤ op → oc op % 4 = 3 := by decide
theorem and_three (k : Nat) (p1 : 1 ≤ k) (p2 : k < 77) (W : Int) (w0 : 0 ≤ W) (w1 : W < 4294967296) (hm : fixI (shN k) W = wordOf k) : bits .and .u32 W 3 = 3 := by
  have h := and_u32 W 2 (by decide) w0 w1
  have ho := fix_oc k p1 p2 W w0 w1 hm
  have h3 := oc_three k p2 p1
  rw [show (2 : Int) ^ 2 - 1 = 3 from rfl, show (2 : Int) ^ 2 = 4 from rfl] at h
  rw [h]; omega
theorem nm_ne : ∀ r, r < 32 → True := fun _ _ => trivial
set_option maxRecDepth 100000 in
set_option maxHeartbeats 20000000 in
theorem law_back (a0 a1 a2 a3 a4 a5 W op r : Int) (w0 : 0 ≤ W) (w1' : W < 4294967296) (w : World) (ht : TabsA w) :
    Calls Tryd.prog 9 #[.agg #[.int .i64 a0, .int .i64 a1, .int .i64 a2, .int .i64 a3, .int .i64 a4, .int .i64 a5], .int .u32 W, .int .i64 op, .int .i64 r] w (TruePost w) := by
  have B := Lib.hid ((Below.refl w.heap.size w).alloc (Nat.le_refl _) (.cells #[.int .i64 a0, .int .i64 a1, .int .i64 a2, .int .i64 a3, .int .i64 a4, .int .i64 a5] 46))
  have T := Lib.hid (ht.alloc (.cells #[.int .i64 a0, .int .i64 a1, .int .i64 a2, .int .i64 a3, .int .i64 a4, .int .i64 a5] 46))
  clear ht
  go_enter Tryd.func9, Tryd.ntmps9
  go_wp2_with fail
  refine (encode_any a0 a1 a2 a3 a4 a5 _ T.out.w).mono ?_
  rintro e w1 ⟨er, rfl, her, hb1⟩
  obtain ⟨hc1, -⟩ := bcell hb1
  have hz1 := hb1.size
  simp only [World.size_alloc] at hc1 hz1
  have B := Lib.hid (B.out.trans (hb1.mono B.out.size))
  have T := Lib.hid (T.out.after hb1)
  clear hb1
  rcases her with ⟨z, rfl⟩ | ⟨z, g, rfl, _⟩
  · have HD := Lib.hid (back1 a0 a1 a2 a3 a4 a5 z _ T.out.w)
    clear z
    go_wp2_with fail
    refine HD.out.mono ?_
    rintro e w2 ⟨er, rfl, her, hb2⟩
    obtain rfl : er = .nilIface := her.nil_iff.2 rfl
    have hc2 := (bcell hb2).1
    have hz2 := hb2.size
    have z1 : w.heap.size < w2.heap.size := by omega
    have i0 : w2.cell? ⟨w.heap.size, 0, none⟩ = some (.int .i64 a0) := by rw [hc2 _ _ (by omega), hc1 _ _ (by omega)]; simp [go_sem]
    have i1 : w2.cell? ⟨w.heap.size, 1, none⟩ = some (.int .i64 a1) := by rw [hc2 _ _ (by omega), hc1 _ _ (by omega)]; simp [go_sem]
    have i2 : w2.cell? ⟨w.heap.size, 2, none⟩ = some (.int .i64 a2) := by rw [hc2 _ _ (by omega), hc1 _ _ (by omega)]; simp [go_sem]
    have i3 : w2.cell? ⟨w.heap.size, 3, none⟩ = some (.int .i64 a3) := by rw [hc2 _ _ (by omega), hc1 _ _ (by omega)]; simp [go_sem]
    have i4 : w2.cell? ⟨w.heap.size, 4, none⟩ = some (.int .i64 a4) := by rw [hc2 _ _ (by omega), hc1 _ _ (by omega)]; simp [go_sem]
    have i5 : w2.cell? ⟨w.heap.size, 5, none⟩ = some (.int .i64 a5) := by rw [hc2 _ _ (by omega), hc1 _ _ (by omega)]; simp [go_sem]
    have B := Lib.hid ((B.out.trans (hb2.mono B.out.size)).alloc (Nat.le_trans B.out.size hb2.size) (.cells #[.int .i64 a0, .int .i64 a1, .int .i64 a2, .int .i64 a3, .int .i64 a4, .int .i64 a5] 46))
    have T := Lib.hid ((T.out.after hb2).alloc (.cells #[.int .i64 a0, .int .i64 a1, .int .i64 a2, .int .i64 a3, .int .i64 a4, .int .i64 a5] 46))
    clear hc1 hc2 hz1 hz2 hb2 her HD
    by_cases hh : ∃ k, 1 ≤ k ∧ k < 77 ∧ fixI (shN k) W = wordOf k
    case pos =>
      obtain ⟨k, k1, k2, hm⟩ := hh
      have H3 := Lib.hid (and_three k k1 k2 W w0 w1' hm)
      have HD := Lib.hid (decode_hit k k1 k2 W w0 w1' hm _ T.out.w)
      have HE := Lib.hid (fun w ht => back2 k k1 k2 W w0 w1' hm w ht)
      clear hm
      generalize fieldOf (shN k) 0 W = y0 at *
      generalize fieldOf (shN k) 1 W = y1 at *
      generalize fieldOf (shN k) 2 W = y2 at *
      generalize fieldOf (shN k) 3 W = y3 at *
      generalize tkI (shN k) W = y4 at *
      go_wp2_with fail
      refine HD.out.mono ?_
      rintro e u1 ⟨er, rfl, her, hb⟩
      obtain rfl : er = .nilIface := her.nil_iff.2 rfl
      have B := Lib.hid ((B.out.trans (hb.mono B.out.size)).alloc (Nat.le_trans B.out.size hb.size) (.cells #[.int .i64 k, .int .i64 y0, .int .i64 y1, .int .i64 y2, .int .i64 y4, .int .i64 y3] 46))
      have T := Lib.hid ((T.out.after hb).alloc (.cells #[.int .i64 k, .int .i64 y0, .int .i64 y1, .int .i64 y2, .int .i64 y4, .int .i64 y3] 46))
      clear her hb HD
      go_wp2_with fail
      refine (HE.out _ T.out.w).mono ?_
      rintro e u2 ⟨er, rfl, her, hb⟩
      obtain rfl : er = .nilIface := her.nil_iff.2 rfl
      obtain ⟨hc2, -⟩ := bcell hb
      have hz2 := hb.size
      simp only [World.size_alloc] at hc2 hz2
      have z2 : u1.heap.size < u2.heap.size := by omega
      have j0 : u2.cell? ⟨u1.heap.size, 0, none⟩ = some (.int .i64 k) := by rw [hc2 _ _ (by omega)]; simp [go_sem]
      have B := Lib.hid (B.out.trans (hb.mono B.out.size))
      have T := Lib.hid (T.out.after hb)
      have h3 := H3.out
      have k3 : (1 : Int) ≤ k := by omega
      have k4 : (k : Int) ≤ 76 := by omega
      clear her hb HE hc2 hz2
      by_cases o1 : 1 ≤ op ∧ op < 77
      case pos =>
        obtain ⟨on, rfl⟩ : ∃ on : Nat, op = (on : Int) := ⟨op.toNat, by omega⟩
        have o2 : 1 ≤ on := by omega
        have o3 : on < 77 := by omega
        have o4 : (1 : Int) ≤ on := by omega
        have o5 : (on : Int) ≤ 76 := by omega
        clear o1
        have hsr : 1 ≤ sh on ∧ sh on ≤ 14 := sh_rng on o3 o2
        obtain ⟨o6, o7⟩ := hsr
        go_wp2_with fail
        refine (name_at on o2 o3 _ T.out.t).mono ?_
        rintro e v1 ⟨rfl, rfl⟩
        go_wp2_with fail
        refine (byname_hit on o2 o3 _ T.out.names).mono ?_
        rintro e v2 ⟨rfl, hb⟩
        have T := Lib.hid (T.out.after hb)
        have B := Lib.hid (B.out.trans (hb.mono B.out.size))
        clear hb
        go_wp2_with fail
        refine (shape_at on o2 o3 _ T.out.t).mono ?_
        rintro e v3 ⟨rfl, rfl⟩
        go_wp2_with fail
        refine (shape_at on o2 o3 _ T.out.t).mono ?_
        rintro e v4 ⟨rfl, rfl⟩
        by_cases r1' : r < 0
        case pos =>
          go_wp2_with fail
          refine (regname_no r (Or.inl r1') _).mono ?_
          rintro e v1 ⟨rfl, rfl⟩
          go_wp2_with fail
          go_ret
          exact ⟨rfl, B.out⟩
        by_cases r2' : 31 < r
        case pos =>
          have r0 : 0 ≤ r := by omega
          go_wp2_with fail
          refine (regname_no r (Or.inr r2') _).mono ?_
          rintro e v1 ⟨rfl, rfl⟩
          go_wp2_with fail
          go_ret
          exact ⟨rfl, B.out⟩
        obtain ⟨rn, rfl⟩ : ∃ rn : Nat, r = (rn : Int) := ⟨r.toNat, by omega⟩
        have r3 : rn < 32 := by omega
        have r4 : (0 : Int) ≤ rn := by omega
        have r5 : (rn : Int) ≤ 31 := by omega
        clear r1' r2'
        go_wp2_with fail
        refine (regname_at rn r3 _ T.out.t).mono ?_
        rintro e v1 ⟨rfl, rfl⟩
        go_wp2_with fail
        refine (reg_is (rgn rn) (rg_size rn r3) rn (at_rg rn 32 (by omega) r3) _ T.out.regs).mono ?_
        rintro e v2 ⟨er, rfl, her, hb⟩
        obtain rfl : er = .nilIface := her.nil_iff.2 rfl
        have B' := Lib.hid (B.out.trans (hb.mono B.out.size))
        clear her hb
        go_wp2_with fail
        go_ret
        exact ⟨rfl, B'.out⟩
      have o2 : op < 1 ∨ 77 ≤ op := by omega
      have HO := Lib.hid o2
      have o3 : (decide (1 ≤ op) && decide (op ≤ 76)) = false := by simp; omega
      clear o1 o2
      rcases HO.out with o4 | o4
      · go_wp2_with fail
        refine (name_no op HO.out _).mono ?_
        rintro e v1 ⟨rfl, rfl⟩
        go_wp2_with fail
        refine (shape_no op HO.out _).mono ?_
        rintro e v2 ⟨rfl, rfl⟩
        by_cases r1' : r < 0
        case pos =>
          go_wp2_with fail
          refine (regname_no r (Or.inl r1') _).mono ?_
          rintro e v1 ⟨rfl, rfl⟩
          go_wp2_with fail
          go_ret
          exact ⟨rfl, B.out⟩
        by_cases r2' : 31 < r
        case pos =>
          have r0 : 0 ≤ r := by omega
          go_wp2_with fail
          refine (regname_no r (Or.inr r2') _).mono ?_
          rintro e v1 ⟨rfl, rfl⟩
          go_wp2_with fail
          go_ret
          exact ⟨rfl, B.out⟩
        obtain ⟨rn, rfl⟩ : ∃ rn : Nat, r = (rn : Int) := ⟨r.toNat, by omega⟩
        have r3 : rn < 32 := by omega
        have r4 : (0 : Int) ≤ rn := by omega
        have r5 : (rn : Int) ≤ 31 := by omega
        clear r1' r2'
        go_wp2_with fail
        refine (regname_at rn r3 _ T.out.t).mono ?_
        rintro e v1 ⟨rfl, rfl⟩
        go_wp2_with fail
        refine (reg_is (rgn rn) (rg_size rn r3) rn (at_rg rn 32 (by omega) r3) _ T.out.regs).mono ?_
        rintro e v2 ⟨er, rfl, her, hb⟩
        obtain rfl : er = .nilIface := her.nil_iff.2 rfl
        have B' := Lib.hid (B.out.trans (hb.mono B.out.size))
        clear her hb
        go_wp2_with fail
        go_ret
        exact ⟨rfl, B'.out⟩
      · have o5 : 1 ≤ op := by omega
        go_wp2_with fail
        refine (name_no op HO.out _).mono ?_
        rintro e v1 ⟨rfl, rfl⟩
        go_wp2_with fail
        refine (shape_no op HO.out _).mono ?_
        rintro e v2 ⟨rfl, rfl⟩
        by_cases r1' : r < 0
        case pos =>
          go_wp2_with fail
          refine (regname_no r (Or.inl r1') _).mono ?_
          rintro e v1 ⟨rfl, rfl⟩
          go_wp2_with fail
          go_ret
          exact ⟨rfl, B.out⟩
        by_cases r2' : 31 < r
        case pos =>
          have r0 : 0 ≤ r := by omega
          go_wp2_with fail
          refine (regname_no r (Or.inr r2') _).mono ?_
          rintro e v1 ⟨rfl, rfl⟩
          go_wp2_with fail
          go_ret
          exact ⟨rfl, B.out⟩
        obtain ⟨rn, rfl⟩ : ∃ rn : Nat, r = (rn : Int) := ⟨r.toNat, by omega⟩
        have r3 : rn < 32 := by omega
        have r4 : (0 : Int) ≤ rn := by omega
        have r5 : (rn : Int) ≤ 31 := by omega
        clear r1' r2'
        go_wp2_with fail
        refine (regname_at rn r3 _ T.out.t).mono ?_
        rintro e v1 ⟨rfl, rfl⟩
        go_wp2_with fail
        refine (reg_is (rgn rn) (rg_size rn r3) rn (at_rg rn 32 (by omega) r3) _ T.out.regs).mono ?_
        rintro e v2 ⟨er, rfl, her, hb⟩
        obtain rfl : er = .nilIface := her.nil_iff.2 rfl
        have B' := Lib.hid (B.out.trans (hb.mono B.out.size))
        clear her hb
        go_wp2_with fail
        go_ret
        exact ⟨rfl, B'.out⟩
    have hm : ∀ q, 1 ≤ q → q < 77 → fixI (shN q) W ≠ wordOf q := fun q q1 q2 h => hh ⟨q, q1, q2, h⟩
    have HD := Lib.hid (decode_miss W w0 w1' hm _ T.out.w)
    clear hm hh
    go_wp2_with fail
    refine HD.out.mono ?_
    rintro e u1 ⟨er, rfl, her, hb⟩
    have B := Lib.hid ((B.out.trans (hb.mono B.out.size)).alloc (Nat.le_trans B.out.size hb.size) (.cells #[.int .i64 0, .int .i64 0, .int .i64 0, .int .i64 0, .int .i64 0, .int .i64 0] 46))
    have T := Lib.hid ((T.out.after hb).alloc (.cells #[.int .i64 0, .int .i64 0, .int .i64 0, .int .i64 0, .int .i64 0, .int .i64 0] 46))
    rcases her with ⟨z, _⟩ | ⟨z, g, rfl, _⟩
    · exact absurd z (by decide)
    clear HD hb z
    by_cases o1 : 1 ≤ op ∧ op < 77
    case pos =>
      obtain ⟨on, rfl⟩ : ∃ on : Nat, op = (on : Int) := ⟨op.toNat, by omega⟩
      have o2 : 1 ≤ on := by omega
      have o3 : on < 77 := by omega
      have o4 : (1 : Int) ≤ on := by omega
      have o5 : (on : Int) ≤ 76 := by omega
      clear o1
      have hsr : 1 ≤ sh on ∧ sh on ≤ 14 := sh_rng on o3 o2
      obtain ⟨o6, o7⟩ := hsr
      go_wp2_with fail
      refine (name_at on o2 o3 _ T.out.t).mono ?_
      rintro e v1 ⟨rfl, rfl⟩
      go_wp2_with fail
      refine (byname_hit on o2 o3 _ T.out.names).mono ?_
      rintro e v2 ⟨rfl, hb⟩
      have T := Lib.hid (T.out.after hb)
      have B := Lib.hid (B.out.trans (hb.mono B.out.size))
      clear hb
      go_wp2_with fail
      refine (shape_at on o2 o3 _ T.out.t).mono ?_
      rintro e v3 ⟨rfl, rfl⟩
      go_wp2_with fail
      refine (shape_at on o2 o3 _ T.out.t).mono ?_
      rintro e v4 ⟨rfl, rfl⟩
      by_cases r1' : r < 0
      case pos =>
        go_wp2_with fail
        refine (regname_no r (Or.inl r1') _).mono ?_
        rintro e v1 ⟨rfl, rfl⟩
        go_wp2_with fail
        go_ret
        exact ⟨rfl, B.out⟩
      by_cases r2' : 31 < r
      case pos =>
        have r0 : 0 ≤ r := by omega
        go_wp2_with fail
        refine (regname_no r (Or.inr r2') _).mono ?_
        rintro e v1 ⟨rfl, rfl⟩
        go_wp2_with fail
        go_ret
        exact ⟨rfl, B.out⟩
      obtain ⟨rn, rfl⟩ : ∃ rn : Nat, r = (rn : Int) := ⟨r.toNat, by omega⟩
      have r3 : rn < 32 := by omega
      have r4 : (0 : Int) ≤ rn := by omega
      have r5 : (rn : Int) ≤ 31 := by omega
      clear r1' r2'
      go_wp2_with fail
      refine (regname_at rn r3 _ T.out.t).mono ?_
      rintro e v1 ⟨rfl, rfl⟩
      go_wp2_with fail
      refine (reg_is (rgn rn) (rg_size rn r3) rn (at_rg rn 32 (by omega) r3) _ T.out.regs).mono ?_
      rintro e v2 ⟨er, rfl, her, hb⟩
      obtain rfl : er = .nilIface := her.nil_iff.2 rfl
      have B' := Lib.hid (B.out.trans (hb.mono B.out.size))
      clear her hb
      go_wp2_with fail
      go_ret
      exact ⟨rfl, B'.out⟩
    have o2 : op < 1 ∨ 77 ≤ op := by omega
    have HO := Lib.hid o2
    have o3 : (decide (1 ≤ op) && decide (op ≤ 76)) = false := by simp; omega
    clear o1 o2
    rcases HO.out with o4 | o4
    · go_wp2_with fail
      refine (name_no op HO.out _).mono ?_
      rintro e v1 ⟨rfl, rfl⟩
      go_wp2_with fail
      refine (shape_no op HO.out _).mono ?_
      rintro e v2 ⟨rfl, rfl⟩
      by_cases r1' : r < 0
      case pos =>
        go_wp2_with fail
        refine (regname_no r (Or.inl r1') _).mono ?_
        rintro e v1 ⟨rfl, rfl⟩
        go_wp2_with fail
        go_ret
        exact ⟨rfl, B.out⟩
      by_cases r2' : 31 < r
      case pos =>
        have r0 : 0 ≤ r := by omega
        go_wp2_with fail
        refine (regname_no r (Or.inr r2') _).mono ?_
        rintro e v1 ⟨rfl, rfl⟩
        go_wp2_with fail
        go_ret
        exact ⟨rfl, B.out⟩
      obtain ⟨rn, rfl⟩ : ∃ rn : Nat, r = (rn : Int) := ⟨r.toNat, by omega⟩
      have r3 : rn < 32 := by omega
      have r4 : (0 : Int) ≤ rn := by omega
      have r5 : (rn : Int) ≤ 31 := by omega
      clear r1' r2'
      go_wp2_with fail
      refine (regname_at rn r3 _ T.out.t).mono ?_
      rintro e v1 ⟨rfl, rfl⟩
      go_wp2_with fail
      refine (reg_is (rgn rn) (rg_size rn r3) rn (at_rg rn 32 (by omega) r3) _ T.out.regs).mono ?_
      rintro e v2 ⟨er, rfl, her, hb⟩
      obtain rfl : er = .nilIface := her.nil_iff.2 rfl
      have B' := Lib.hid (B.out.trans (hb.mono B.out.size))
      clear her hb
      go_wp2_with fail
      go_ret
      exact ⟨rfl, B'.out⟩
    · have o5 : 1 ≤ op := by omega
      go_wp2_with fail
      refine (name_no op HO.out _).mono ?_
      rintro e v1 ⟨rfl, rfl⟩
      go_wp2_with fail
      refine (shape_no op HO.out _).mono ?_
      rintro e v2 ⟨rfl, rfl⟩
      by_cases r1' : r < 0
      case pos =>
        go_wp2_with fail
        refine (regname_no r (Or.inl r1') _).mono ?_
        rintro e v1 ⟨rfl, rfl⟩
        go_wp2_with fail
        go_ret
        exact ⟨rfl, B.out⟩
      by_cases r2' : 31 < r
      case pos =>
        have r0 : 0 ≤ r := by omega
        go_wp2_with fail
        refine (regname_no r (Or.inr r2') _).mono ?_
        rintro e v1 ⟨rfl, rfl⟩
        go_wp2_with fail
        go_ret
        exact ⟨rfl, B.out⟩
      obtain ⟨rn, rfl⟩ : ∃ rn : Nat, r = (rn : Int) := ⟨r.toNat, by omega⟩
      have r3 : rn < 32 := by omega
      have r4 : (0 : Int) ≤ rn := by omega
      have r5 : (rn : Int) ≤ 31 := by omega
      clear r1' r2'
      go_wp2_with fail
      refine (regname_at rn r3 _ T.out.t).mono ?_
      rintro e v1 ⟨rfl, rfl⟩
      go_wp2_with fail
      refine (reg_is (rgn rn) (rg_size rn r3) rn (at_rg rn 32 (by omega) r3) _ T.out.regs).mono ?_
      rintro e v2 ⟨er, rfl, her, hb⟩
      obtain rfl : er = .nilIface := her.nil_iff.2 rfl
      have B' := Lib.hid (B.out.trans (hb.mono B.out.size))
      clear her hb
      go_wp2_with fail
      go_ret
      exact ⟨rfl, B'.out⟩
  · clear hc1 hz1 z
    by_cases hh : ∃ k, 1 ≤ k ∧ k < 77 ∧ fixI (shN k) W = wordOf k
    case pos =>
      obtain ⟨k, k1, k2, hm⟩ := hh
      have H3 := Lib.hid (and_three k k1 k2 W w0 w1' hm)
      have HD := Lib.hid (decode_hit k k1 k2 W w0 w1' hm _ T.out.w)
      have HE := Lib.hid (fun w ht => back2 k k1 k2 W w0 w1' hm w ht)
      clear hm
      generalize fieldOf (shN k) 0 W = y0 at *
      generalize fieldOf (shN k) 1 W = y1 at *
      generalize fieldOf (shN k) 2 W = y2 at *
      generalize fieldOf (shN k) 3 W = y3 at *
      generalize tkI (shN k) W = y4 at *
      go_wp2_with fail
      refine HD.out.mono ?_
      rintro e u1 ⟨er, rfl, her, hb⟩
      obtain rfl : er = .nilIface := her.nil_iff.2 rfl
      have B := Lib.hid ((B.out.trans (hb.mono B.out.size)).alloc (Nat.le_trans B.out.size hb.size) (.cells #[.int .i64 k, .int .i64 y0, .int .i64 y1, .int .i64 y2, .int .i64 y4, .int .i64 y3] 46))
      have T := Lib.hid ((T.out.after hb).alloc (.cells #[.int .i64 k, .int .i64 y0, .int .i64 y1, .int .i64 y2, .int .i64 y4, .int .i64 y3] 46))
      clear her hb HD
      go_wp2_with fail
      refine (HE.out _ T.out.w).mono ?_
      rintro e u2 ⟨er, rfl, her, hb⟩
      obtain rfl : er = .nilIface := her.nil_iff.2 rfl
      obtain ⟨hc2, -⟩ := bcell hb
      have hz2 := hb.size
      simp only [World.size_alloc] at hc2 hz2
      have z2 : u1.heap.size < u2.heap.size := by omega
      have j0 : u2.cell? ⟨u1.heap.size, 0, none⟩ = some (.int .i64 k) := by rw [hc2 _ _ (by omega)]; simp [go_sem]
      have B := Lib.hid (B.out.trans (hb.mono B.out.size))
      have T := Lib.hid (T.out.after hb)
      have h3 := H3.out
      have k3 : (1 : Int) ≤ k := by omega
      have k4 : (k : Int) ≤ 76 := by omega
      clear her hb HE hc2 hz2
      by_cases o1 : 1 ≤ op ∧ op < 77
      case pos =>
        obtain ⟨on, rfl⟩ : ∃ on : Nat, op = (on : Int) := ⟨op.toNat, by omega⟩
        have o2 : 1 ≤ on := by omega
        have o3 : on < 77 := by omega
        have o4 : (1 : Int) ≤ on := by omega
        have o5 : (on : Int) ≤ 76 := by omega
        clear o1
        have hsr : 1 ≤ sh on ∧ sh on ≤ 14 := sh_rng on o3 o2
        obtain ⟨o6, o7⟩ := hsr
        go_wp2_with fail
        refine (name_at on o2 o3 _ T.out.t).mono ?_
        rintro e v1 ⟨rfl, rfl⟩
        go_wp2_with fail
        refine (byname_hit on o2 o3 _ T.out.names).mono ?_
        rintro e v2 ⟨rfl, hb⟩
        have T := Lib.hid (T.out.after hb)
        have B := Lib.hid (B.out.trans (hb.mono B.out.size))
        clear hb
        go_wp2_with fail
        refine (shape_at on o2 o3 _ T.out.t).mono ?_
        rintro e v3 ⟨rfl, rfl⟩
        go_wp2_with fail
        refine (shape_at on o2 o3 _ T.out.t).mono ?_
        rintro e v4 ⟨rfl, rfl⟩
        by_cases r1' : r < 0
        case pos =>
          go_wp2_with fail
          refine (regname_no r (Or.inl r1') _).mono ?_
          rintro e v1 ⟨rfl, rfl⟩
          go_wp2_with fail
          go_ret
          exact ⟨rfl, B.out⟩
        by_cases r2' : 31 < r
        case pos =>
          have r0 : 0 ≤ r := by omega
          go_wp2_with fail
          refine (regname_no r (Or.inr r2') _).mono ?_
          rintro e v1 ⟨rfl, rfl⟩
          go_wp2_with fail
          go_ret
          exact ⟨rfl, B.out⟩
        obtain ⟨rn, rfl⟩ : ∃ rn : Nat, r = (rn : Int) := ⟨r.toNat, by omega⟩
        have r3 : rn < 32 := by omega
        have r4 : (0 : Int) ≤ rn := by omega
        have r5 : (rn : Int) ≤ 31 := by omega
        clear r1' r2'
        go_wp2_with fail
        refine (regname_at rn r3 _ T.out.t).mono ?_
        rintro e v1 ⟨rfl, rfl⟩
        go_wp2_with fail
        refine (reg_is (rgn rn) (rg_size rn r3) rn (at_rg rn 32 (by omega) r3) _ T.out.regs).mono ?_
        rintro e v2 ⟨er, rfl, her, hb⟩
        obtain rfl : er = .nilIface := her.nil_iff.2 rfl
        have B' := Lib.hid (B.out.trans (hb.mono B.out.size))
        clear her hb
        go_wp2_with fail
        go_ret
        exact ⟨rfl, B'.out⟩
      have o2 : op < 1 ∨ 77 ≤ op := by omega
      have HO := Lib.hid o2
      have o3 : (decide (1 ≤ op) && decide (op ≤ 76)) = false := by simp; omega
      clear o1 o2
      rcases HO.out with o4 | o4
      · go_wp2_with fail
        refine (name_no op HO.out _).mono ?_
        rintro e v1 ⟨rfl, rfl⟩
        go_wp2_with fail
        refine (shape_no op HO.out _).mono ?_
        rintro e v2 ⟨rfl, rfl⟩
        by_cases r1' : r < 0
        case pos =>
          go_wp2_with fail
          refine (regname_no r (Or.inl r1') _).mono ?_
          rintro e v1 ⟨rfl, rfl⟩
          go_wp2_with fail
          go_ret
          exact ⟨rfl, B.out⟩
        by_cases r2' : 31 < r
        case pos =>
          have r0 : 0 ≤ r := by omega
          go_wp2_with fail
          refine (regname_no r (Or.inr r2') _).mono ?_
          rintro e v1 ⟨rfl, rfl⟩
          go_wp2_with fail
          go_ret
          exact ⟨rfl, B.out⟩
        obtain ⟨rn, rfl⟩ : ∃ rn : Nat, r = (rn : Int) := ⟨r.toNat, by omega⟩
        have r3 : rn < 32 := by omega
        have r4 : (0 : Int) ≤ rn := by omega
        have r5 : (rn : Int) ≤ 31 := by omega
        clear r1' r2'
        go_wp2_with fail
        refine (regname_at rn r3 _ T.out.t).mono ?_
        rintro e v1 ⟨rfl, rfl⟩
        go_wp2_with fail
        refine (reg_is (rgn rn) (rg_size rn r3) rn (at_rg rn 32 (by omega) r3) _ T.out.regs).mono ?_
        rintro e v2 ⟨er, rfl, her, hb⟩
        obtain rfl : er = .nilIface := her.nil_iff.2 rfl
        have B' := Lib.hid (B.out.trans (hb.mono B.out.size))
        clear her hb
        go_wp2_with fail
        go_ret
        exact ⟨rfl, B'.out⟩
      · have o5 : 1 ≤ op := by omega
        go_wp2_with fail
        refine (name_no op HO.out _).mono ?_
        rintro e v1 ⟨rfl, rfl⟩
        go_wp2_with fail
        refine (shape_no op HO.out _).mono ?_
        rintro e v2 ⟨rfl, rfl⟩
        by_cases r1' : r < 0
        case pos =>
          go_wp2_with fail
          refine (regname_no r (Or.inl r1') _).mono ?_
          rintro e v1 ⟨rfl, rfl⟩
          go_wp2_with fail
          go_ret
          exact ⟨rfl, B.out⟩
        by_cases r2' : 31 < r
        case pos =>
          have r0 : 0 ≤ r := by omega
          go_wp2_with fail
          refine (regname_no r (Or.inr r2') _).mono ?_
          rintro e v1 ⟨rfl, rfl⟩
          go_wp2_with fail
          go_ret
          exact ⟨rfl, B.out⟩
        obtain ⟨rn, rfl⟩ : ∃ rn : Nat, r = (rn : Int) := ⟨r.toNat, by omega⟩
        have r3 : rn < 32 := by omega
        have r4 : (0 : Int) ≤ rn := by omega
        have r5 : (rn : Int) ≤ 31 := by omega
        clear r1' r2'
        go_wp2_with fail
        refine (regname_at rn r3 _ T.out.t).mono ?_
        rintro e v1 ⟨rfl, rfl⟩
        go_wp2_with fail
        refine (reg_is (rgn rn) (rg_size rn r3) rn (at_rg rn 32 (by omega) r3) _ T.out.regs).mono ?_
        rintro e v2 ⟨er, rfl, her, hb⟩
        obtain rfl : er = .nilIface := her.nil_iff.2 rfl
        have B' := Lib.hid (B.out.trans (hb.mono B.out.size))
        clear her hb
        go_wp2_with fail
        go_ret
        exact ⟨rfl, B'.out⟩
    have hm : ∀ q, 1 ≤ q → q < 77 → fixI (shN q) W ≠ wordOf q := fun q q1 q2 h => hh ⟨q, q1, q2, h⟩
    have HD := Lib.hid (decode_miss W w0 w1' hm _ T.out.w)
    clear hm hh
    go_wp2_with fail
    refine HD.out.mono ?_
    rintro e u1 ⟨er, rfl, her, hb⟩
    have B := Lib.hid ((B.out.trans (hb.mono B.out.size)).alloc (Nat.le_trans B.out.size hb.size) (.cells #[.int .i64 0, .int .i64 0, .int .i64 0, .int .i64 0, .int .i64 0, .int .i64 0] 46))
    have T := Lib.hid ((T.out.after hb).alloc (.cells #[.int .i64 0, .int .i64 0, .int .i64 0, .int .i64 0, .int .i64 0, .int .i64 0] 46))
    rcases her with ⟨z, _⟩ | ⟨z, g, rfl, _⟩
    · exact absurd z (by decide)
    clear HD hb z
    by_cases o1 : 1 ≤ op ∧ op < 77
    case pos =>
      obtain ⟨on, rfl⟩ : ∃ on : Nat, op = (on : Int) := ⟨op.toNat, by omega⟩
      have o2 : 1 ≤ on := by omega
      have o3 : on < 77 := by omega
      have o4 : (1 : Int) ≤ on := by omega
      have o5 : (on : Int) ≤ 76 := by omega
      clear o1
      have hsr : 1 ≤ sh on ∧ sh on ≤ 14 := sh_rng on o3 o2
      obtain ⟨o6, o7⟩ := hsr
      go_wp2_with fail
      refine (name_at on o2 o3 _ T.out.t).mono ?_
      rintro e v1 ⟨rfl, rfl⟩
      go_wp2_with fail
      refine (byname_hit on o2 o3 _ T.out.names).mono ?_
      rintro e v2 ⟨rfl, hb⟩
      have T := Lib.hid (T.out.after hb)
      have B := Lib.hid (B.out.trans (hb.mono B.out.size))
      clear hb
      go_wp2_with fail
      refine (shape_at on o2 o3 _ T.out.t).mono ?_
      rintro e v3 ⟨rfl, rfl⟩
      go_wp2_with fail
      refine (shape_at on o2 o3 _ T.out.t).mono ?_
      rintro e v4 ⟨rfl, rfl⟩
      by_cases r1' : r < 0
      case pos =>
        go_wp2_with fail
        refine (regname_no r (Or.inl r1') _).mono ?_
        rintro e v1 ⟨rfl, rfl⟩
        go_wp2_with fail
        go_ret
        exact ⟨rfl, B.out⟩
      by_cases r2' : 31 < r
      case pos =>
        have r0 : 0 ≤ r := by omega
        go_wp2_with fail
        refine (regname_no r (Or.inr r2') _).mono ?_
        rintro e v1 ⟨rfl, rfl⟩
        go_wp2_with fail
        go_ret
        exact ⟨rfl, B.out⟩
      obtain ⟨rn, rfl⟩ : ∃ rn : Nat, r = (rn : Int) := ⟨r.toNat, by omega⟩
      have r3 : rn < 32 := by omega
      have r4 : (0 : Int) ≤ rn := by omega
      have r5 : (rn : Int) ≤ 31 := by omega
      clear r1' r2'
      go_wp2_with fail
      refine (regname_at rn r3 _ T.out.t).mono ?_
      rintro e v1 ⟨rfl, rfl⟩
      go_wp2_with fail
      refine (reg_is (rgn rn) (rg_size rn r3) rn (at_rg rn 32 (by omega) r3) _ T.out.regs).mono ?_
      rintro e v2 ⟨er, rfl, her, hb⟩
      obtain rfl : er = .nilIface := her.nil_iff.2 rfl
      have B' := Lib.hid (B.out.trans (hb.mono B.out.size))
      clear her hb
      go_wp2_with fail
      go_ret
      exact ⟨rfl, B'.out⟩
    have o2 : op < 1 ∨ 77 ≤ op := by omega
    have HO := Lib.hid o2
    have o3 : (decide (1 ≤ op) && decide (op ≤ 76)) = false := by simp; omega
    clear o1 o2
    rcases HO.out with o4 | o4
    · go_wp2_with fail
      refine (name_no op HO.out _).mono ?_
      rintro e v1 ⟨rfl, rfl⟩
      go_wp2_with fail
      refine (shape_no op HO.out _).mono ?_
      rintro e v2 ⟨rfl, rfl⟩
      by_cases r1' : r < 0
      case pos =>
        go_wp2_with fail
        refine (regname_no r (Or.inl r1') _).mono ?_
        rintro e v1 ⟨rfl, rfl⟩
        go_wp2_with fail
        go_ret
        exact ⟨rfl, B.out⟩
      by_cases r2' : 31 < r
      case pos =>
        have r0 : 0 ≤ r := by omega
        go_wp2_with fail
        refine (regname_no r (Or.inr r2') _).mono ?_
        rintro e v1 ⟨rfl, rfl⟩
        go_wp2_with fail
        go_ret
        exact ⟨rfl, B.out⟩
      obtain ⟨rn, rfl⟩ : ∃ rn : Nat, r = (rn : Int) := ⟨r.toNat, by omega⟩
      have r3 : rn < 32 := by omega
      have r4 : (0 : Int) ≤ rn := by omega
      have r5 : (rn : Int) ≤ 31 := by omega
      clear r1' r2'
      go_wp2_with fail
      refine (regname_at rn r3 _ T.out.t).mono ?_
      rintro e v1 ⟨rfl, rfl⟩
      go_wp2_with fail
      refine (reg_is (rgn rn) (rg_size rn r3) rn (at_rg rn 32 (by omega) r3) _ T.out.regs).mono ?_
      rintro e v2 ⟨er, rfl, her, hb⟩
      obtain rfl : er = .nilIface := her.nil_iff.2 rfl
      have B' := Lib.hid (B.out.trans (hb.mono B.out.size))
      clear her hb
      go_wp2_with fail
      go_ret
      exact ⟨rfl, B'.out⟩
    · have o5 : 1 ≤ op := by omega
      go_wp2_with fail
      refine (name_no op HO.out _).mono ?_
      rintro e v1 ⟨rfl, rfl⟩
      go_wp2_with fail
      refine (shape_no op HO.out _).mono ?_
      rintro e v2 ⟨rfl, rfl⟩
      by_cases r1' : r < 0
      case pos =>
        go_wp2_with fail
        refine (regname_no r (Or.inl r1') _).mono ?_
        rintro e v1 ⟨rfl, rfl⟩
        go_wp2_with fail
        go_ret
        exact ⟨rfl, B.out⟩
      by_cases r2' : 31 < r
      case pos =>
        have r0 : 0 ≤ r := by omega
        go_wp2_with fail
        refine (regname_no r (Or.inr r2') _).mono ?_
        rintro e v1 ⟨rfl, rfl⟩
        go_wp2_with fail
        go_ret
        exact ⟨rfl, B.out⟩
      obtain ⟨rn, rfl⟩ : ∃ rn : Nat, r = (rn : Int) := ⟨r.toNat, by omega⟩
      have r3 : rn < 32 := by omega
      have r4 : (0 : Int) ≤ rn := by omega
      have r5 : (rn : Int) ≤ 31 := by omega
      clear r1' r2'
      go_wp2_with fail
      refine (regname_at rn r3 _ T.out.t).mono ?_
      rintro e v1 ⟨rfl, rfl⟩
      go_wp2_with fail
      refine (reg_is (rgn rn) (rg_size rn r3) rn (at_rg rn 32 (by omega) r3) _ T.out.regs).mono ?_
      rintro e v2 ⟨er, rfl, her, hb⟩
      obtain rfl : er = .nilIface := her.nil_iff.2 rfl
      have B' := Lib.hid (B.out.trans (hb.mono B.out.size))
      clear her hb
      go_wp2_with fail
      go_ret
      exact ⟨rfl, B'.out⟩
end Go.Proofs.YtgjiojcdifjhcaaDoor
