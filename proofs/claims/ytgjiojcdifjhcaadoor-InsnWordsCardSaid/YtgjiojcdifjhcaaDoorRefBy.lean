/- The document's ByName: walked; the law InsnWords. By an AI agent; written by wip/gen_refby.py. -/
import Derived.Test.YtgjiojcdifjhcaaDoorRefNames
import Derived.Test.YtgjiojcdifjhcaaDoorRefDecode
import Derived.Test.YtgjiojcdifjhcaaDoorTold
import Derived.Test.YtgjiojcdifjhcaaDoorLEncodes
set_option linter.unusedVariables false
set_option linter.unusedSimpArgs false
namespace Go.Proofs.YtgjiojcdifjhcaaDoor
open Go.RowKit
def start2 (w : World) : World := (w.alloc (.cells baseCells 59)).alloc (.cells moreCells 59)
theorem start2_below (w : World) : Below w.heap.size w (start2 w) := ((Below.refl _ _).alloc (Nat.le_refl _) _).alloc (by simp) _
theorem start2_size (w : World) : (start2 w).heap.size = w.heap.size + 2 := by simp [start2]
theorem base_nm (w : World) (k : Nat) (hk : k < 40) : (start2 w).cell? ⟨w.heap.size, k * 6, none⟩ = some (.string (nm (k + 1))) := by
  have h : baseCells[k * 6]? = some (.string (nm (k + 1))) := by rw [Nat.mul_comm]; exact base_cell k 0 hk (by decide)
  simp [start2, go_sem, h]
theorem more_nm (w : World) (k : Nat) (hk : k < 36) : (start2 w).cell? ⟨w.heap.size + 1, k * 6, none⟩ = some (.string (nm (k + 41))) := by
  have h : moreCells[k * 6]? = some (.string (nm (k + 41))) := by rw [Nat.mul_comm]; exact more_cell k 0 hk (by decide)
  simp [start2, go_sem, h]
theorem refname_given {x y : Int} {b : Bool} {w w' : World} (h : x = y) (hb : Below w.heap.size w w') : RefNamePost y b w (.returned (.tuple #[.int .i64 x, .bool b])) w' := by
  subst h; exact ⟨rfl, hb⟩
theorem nm_ne' {p q : Nat} (hp : p < 77) (hq : q < 77) (h : p ≠ q) : nm p ≠ nm q := fun e => h (nm_inj p hp q hq (ByteArray.mk.inj e))
set_option maxRecDepth 100000 in
set_option maxHeartbeats 4000000 in
theorem refby_lo (t : Nat) (ht : t < 40) (w : World) : Calls Tryd.prog 17 #[.string (nm (t + 1))] w (RefNamePost ((t : Int) + 1) true w) := by
  have HN : Hid (∀ p, 1 ≤ p → p < t + 1 → nm p ≠ nm (t + 1)) := Lib.hid fun p p1 p2 => nm_ne' (by omega) (by omega) (by omega)
  go_enter Tryd.func17, Tryd.ntmps17
  go_wp2_with fail
  refine (base_any _).mono ?_
  rintro e u1 ⟨rfl, rfl⟩
  go_wp2_with fail
  refine (more_any _).mono ?_
  rintro e u2 ⟨rfl, rfl⟩
  go_wp2_with fail
  have HS3 : Hid ((w.alloc (.cells baseCells 59)).alloc (.cells moreCells 59) = start2 w) := Lib.hid rfl
  rw [HS3.out]
  clear HS3
  go_loopw [6] (fun i wr => ∃ k : Nat, k ≤ t ∧ i = .int .i64 k ∧ Below (w.heap.size + 2) (start2 w) wr) (fun i _ => 40 - (intOf i).toNat)
  case atStart => exact ⟨0, by omega, rfl, Below.refl _ _⟩
  case round =>
    obtain ⟨k, hk, rfl, hb⟩ := hrel
    have HB := Lib.hid hb
    have hz := hb.size
    rw [start2_size] at hz
    clear hb
    have hzr : w.heap.size < wr.heap.size := by omega
    have hzr1 : w.heap.size + 1 < wr.heap.size := by omega
    have h40 : k < 40 := by omega
    have e1 : (k : Int) < 40 := by omega
    have q0 : wr.cell? ⟨w.heap.size, k * 6, none⟩ = some (.string (nm (k + 1))) := by rw [kept9 HB.out _ _ (by omega)]; exact base_nm w k h40
    by_cases hkt : k < t
    case pos =>
      have n1 := HN.out (k + 1) (by omega) (by omega)
      have d1 : ¬ (nm (k + 1)).toList = ((nm (t + 1))).toList := ne_list n1
      have d2 : ((nm (k + 1)).toList == ((nm (t + 1))).toList) = false := by simpa using d1
      clear n1
      go_wp2_with fail
      go_roundw
      case rel => exact ⟨k + 1, by omega, by go_num, HB.out⟩
      case measure => simp [intOf]; omega
    obtain rfl : k = t := by omega
    go_wp2_with fail
    go_ret2
    exact ⟨rfl, (start2_below w).trans (HB.out.mono (by omega))⟩
set_option maxRecDepth 100000 in
set_option maxHeartbeats 4000000 in
theorem refby_hi (t : Nat) (ht : t < 36) (w : World) : Calls Tryd.prog 17 #[.string (nm (t + 41))] w (RefNamePost ((t : Int) + 41) true w) := by
  have HN : Hid (∀ p, 1 ≤ p → p < t + 41 → nm p ≠ nm (t + 41)) := Lib.hid fun p p1 p2 => nm_ne' (by omega) (by omega) (by omega)
  go_enter Tryd.func17, Tryd.ntmps17
  go_wp2_with fail
  refine (base_any _).mono ?_
  rintro e u1 ⟨rfl, rfl⟩
  go_wp2_with fail
  refine (more_any _).mono ?_
  rintro e u2 ⟨rfl, rfl⟩
  go_wp2_with fail
  have HS3 : Hid ((w.alloc (.cells baseCells 59)).alloc (.cells moreCells 59) = start2 w) := Lib.hid rfl
  rw [HS3.out]
  clear HS3
  go_loopw [6] (fun i wr => ∃ k : Nat, k ≤ 40 ∧ i = .int .i64 k ∧ Below (w.heap.size + 2) (start2 w) wr) (fun i _ => 40 - (intOf i).toNat)
  case atStart => exact ⟨0, by omega, rfl, Below.refl _ _⟩
  case round =>
    obtain ⟨k, hk, rfl, hb⟩ := hrel
    have HB := Lib.hid hb
    have hz := hb.size
    rw [start2_size] at hz
    clear hb
    have hzr : w.heap.size < wr.heap.size := by omega
    have hzr1 : w.heap.size + 1 < wr.heap.size := by omega
    by_cases h40 : k < 40
    case pos =>
      have e1 : (k : Int) < 40 := by omega
      have q0 : wr.cell? ⟨w.heap.size, k * 6, none⟩ = some (.string (nm (k + 1))) := by rw [kept9 HB.out _ _ (by omega)]; exact base_nm w k h40
      have n1 := HN.out (k + 1) (by omega) (by omega)
      have d1 : ¬ (nm (k + 1)).toList = ((nm (t + 41))).toList := ne_list n1
      have d2 : ((nm (k + 1)).toList == ((nm (t + 41))).toList) = false := by simpa using d1
      clear n1
      go_wp2_with fail
      go_roundw
      case rel => exact ⟨k + 1, by omega, by go_num, HB.out⟩
      case measure => simp [intOf]; omega
    obtain rfl : k = 40 := by omega
    go_wp2_with fail
    go_loopw [7] (fun i w2 => ∃ k : Nat, k ≤ t ∧ i = .int .i64 k ∧ Below (w.heap.size + 2) (start2 w) w2) (fun i _ => 36 - (intOf i).toNat)
    case atStart => exact ⟨0, by omega, rfl, HB.out⟩
    case round =>
      obtain ⟨k, hk2, rfl, hb⟩ := hrel
      have HB2 := Lib.hid hb
      have hz2 := hb.size
      rw [start2_size] at hz2
      clear hb
      have hzs : w.heap.size < wr.heap.size := by omega
      have hzs1 : w.heap.size + 1 < wr.heap.size := by omega
      have h36 : k < 36 := by omega
      have e1 : (k : Int) < 36 := by omega
      have q0 : wr.cell? ⟨w.heap.size + 1, k * 6, none⟩ = some (.string (nm (k + 41))) := by rw [kept9 HB2.out _ _ (by omega)]; exact more_nm w k h36
      by_cases hkt : k < t
      case pos =>
        have n1 := HN.out (k + 41) (by omega) (by omega)
        have d1 : ¬ (nm (k + 41)).toList = ((nm (t + 41))).toList := ne_list n1
        have d2 : ((nm (k + 41)).toList == ((nm (t + 41))).toList) = false := by simpa using d1
        clear n1
        go_wp2_with fail
        go_roundw
        case rel => exact ⟨k + 1, by omega, by go_num, HB2.out⟩
        case measure => simp [intOf]; omega
      obtain rfl : k = t := by omega
      go_wp2_with fail
      go_ret2
      exact refname_given (by omega) ((start2_below w).trans (HB2.out.mono (by omega)))
set_option maxRecDepth 100000 in
set_option maxHeartbeats 4000000 in
theorem refby_none (s : ByteArray) (hn : ∀ p, 1 ≤ p → p < 77 → nm p ≠ s) (w : World) : Calls Tryd.prog 17 #[.string s] w (RefNamePost 0 false w) := by
  have HN := Lib.hid hn
  clear hn
  go_enter Tryd.func17, Tryd.ntmps17
  go_wp2_with fail
  refine (base_any _).mono ?_
  rintro e u1 ⟨rfl, rfl⟩
  go_wp2_with fail
  refine (more_any _).mono ?_
  rintro e u2 ⟨rfl, rfl⟩
  go_wp2_with fail
  have HS3 : Hid ((w.alloc (.cells baseCells 59)).alloc (.cells moreCells 59) = start2 w) := Lib.hid rfl
  rw [HS3.out]
  clear HS3
  go_loopw [6] (fun i wr => ∃ k : Nat, k ≤ 40 ∧ i = .int .i64 k ∧ Below (w.heap.size + 2) (start2 w) wr) (fun i _ => 40 - (intOf i).toNat)
  case atStart => exact ⟨0, by omega, rfl, Below.refl _ _⟩
  case round =>
    obtain ⟨k, hk, rfl, hb⟩ := hrel
    have HB := Lib.hid hb
    have hz := hb.size
    rw [start2_size] at hz
    clear hb
    have hzr : w.heap.size < wr.heap.size := by omega
    have hzr1 : w.heap.size + 1 < wr.heap.size := by omega
    by_cases h40 : k < 40
    case pos =>
      have e1 : (k : Int) < 40 := by omega
      have q0 : wr.cell? ⟨w.heap.size, k * 6, none⟩ = some (.string (nm (k + 1))) := by rw [kept9 HB.out _ _ (by omega)]; exact base_nm w k h40
      have n1 := HN.out (k + 1) (by omega) (by omega)
      have d1 : ¬ (nm (k + 1)).toList = (s).toList := ne_list n1
      have d2 : ((nm (k + 1)).toList == (s).toList) = false := by simpa using d1
      clear n1
      go_wp2_with fail
      go_roundw
      case rel => exact ⟨k + 1, by omega, by go_num, HB.out⟩
      case measure => simp [intOf]; omega
    obtain rfl : k = 40 := by omega
    go_wp2_with fail
    go_loopw [7] (fun i w2 => ∃ k : Nat, k ≤ 36 ∧ i = .int .i64 k ∧ Below (w.heap.size + 2) (start2 w) w2) (fun i _ => 36 - (intOf i).toNat)
    case atStart => exact ⟨0, by omega, rfl, HB.out⟩
    case round =>
      obtain ⟨k, hk2, rfl, hb⟩ := hrel
      have HB2 := Lib.hid hb
      have hz2 := hb.size
      rw [start2_size] at hz2
      clear hb
      have hzs : w.heap.size < wr.heap.size := by omega
      have hzs1 : w.heap.size + 1 < wr.heap.size := by omega
      by_cases h36 : k < 36
      case pos =>
        have e1 : (k : Int) < 36 := by omega
        have q0 : wr.cell? ⟨w.heap.size + 1, k * 6, none⟩ = some (.string (nm (k + 41))) := by rw [kept9 HB2.out _ _ (by omega)]; exact more_nm w k h36
        have n1 := HN.out (k + 41) (by omega) (by omega)
        have d1 : ¬ (nm (k + 41)).toList = (s).toList := ne_list n1
        have d2 : ((nm (k + 41)).toList == (s).toList) = false := by simpa using d1
        clear n1
        go_wp2_with fail
        go_roundw
        case rel => exact ⟨k + 1, by omega, by go_num, HB2.out⟩
        case measure => simp [intOf]; omega
      obtain rfl : k = 36 := by omega
      go_wp2_with fail
      go_ret2
      exact ⟨rfl, (start2_below w).trans (HB2.out.mono (by omega))⟩
/-- What a name is, asked of both. -/
theorem refby_at (op : Nat) (p1 : 1 ≤ op) (p2 : op < 77) (w : World) : Calls Tryd.prog 17 #[.string (nm op)] w (RefNamePost op true w) := by
  by_cases h : op ≤ 40
  · obtain ⟨t, rfl⟩ : ∃ t, op = t + 1 := ⟨op - 1, by omega⟩
    have := refby_lo t (by omega) w
    rwa [show ((t : Int) + 1) = ((t + 1 : Nat) : Int) by omega] at this
  · obtain ⟨t, rfl⟩ : ∃ t, op = t + 41 := ⟨op - 41, by omega⟩
    have := refby_hi t (by omega) w
    rwa [show ((t : Int) + 41) = ((t + 41 : Nat) : Int) by omega] at this
/-- A name of an operation: a number and whether, the same of both. -/
theorem both_by (s : ByteArray) (hs : s.size ≤ maxLen) : ∃ n b, (∀ w, NamesIn w → Calls Tryd.prog 16 #[.string s] w (NamePost n b w)) ∧ ∀ w, Calls Tryd.prog 17 #[.string s] w (RefNamePost n b w) := by
  by_cases h : ∃ p, 1 ≤ p ∧ p < 77 ∧ nm p = s
  · obtain ⟨p, p1, p2, rfl⟩ := h
    exact ⟨p, true, fun w hN => byname_hit p p1 p2 w hN, fun w => refby_at p p1 p2 w⟩
  · have hn : ∀ p, 1 ≤ p → p < 77 → nm p ≠ s := fun p p1 p2 e => h ⟨p, p1, p2, e⟩
    exact ⟨0, false, fun w hN => byname_miss s hs hn w hN, fun w => refby_none s hn w⟩
/-- A name of a register: a number, and whether: the same of both. -/
theorem both_reg (s : ByteArray) (hs : s.size ≤ maxLen) : ∃ n b, (∀ w, RegsIn w → Calls Tryd.prog 18 #[.string s] w (RegPost n (if b = true then 0 else 24) w)) ∧ ∀ w, Calls Tryd.prog 19 #[.string s] w (RefNamePost n b w) := by
  by_cases hf : s = fpS
  · subst hf
    exact ⟨8, true, fun w hR => reg_is fpS hs 8 (at_fp 32 (by omega)) w hR, fun w => refreg_fp w⟩
  · by_cases h1 : ∃ p, p < 32 ∧ rgn p = s
    · obtain ⟨p, p1, rfl⟩ := h1
      exact ⟨p, true, fun w hR => reg_is (rgn p) hs p (at_rg p 32 (by omega) p1) w hR, fun w => refreg_rg p p1 w⟩
    · by_cases h2 : ∃ p, p < 32 ∧ xn p = s
      · obtain ⟨p, p1, rfl⟩ := h2
        exact ⟨p, true, fun w hR => reg_is (xn p) hs p (at_xn p 32 (by omega) p1) w hR, fun w => refreg_xn p p1 w⟩
      · have hn : ∀ p, p < 32 → rgn p ≠ s ∧ xn p ≠ s := fun p hp => ⟨fun e => h1 ⟨p, hp, e⟩, fun e => h2 ⟨p, hp, e⟩⟩
        exact ⟨0, false, fun w hR => reg_none s hs hf hn w hR, fun w => refreg_none s hf hn w⟩
theorem fltIs_after {fv : Value} {p c : Int} {w w' : World} (h : FltIs fv p c w) (hb : Below w.heap.size w w') : FltIs fv p c w' := by
  rcases h with ⟨h1, h2⟩ | ⟨h1, d, n, h2, h3, h4, h5⟩
  · exact Or.inl ⟨h1, h2⟩
  · exact Or.inr ⟨h1, d, n, h2, Nat.lt_of_lt_of_le h3 hb.size, by rw [(bcell hb).1 _ _ h3]; exact h4, by rw [(bcell hb).1 _ _ h3]; exact h5⟩
/-- Two cells at a block's head. -/
def Two (w : World) (g : Nat) (a b : Value) : Prop := w.cell? ⟨g, 0, none⟩ = some a ∧ w.cell? ⟨g, 1, none⟩ = some b
theorem two_after {w w' : World} {g : Nat} {a b : Value} (h : Two w g a b) (hb : Below w.heap.size w w') : Two w' g a b := by
  have hg := World.block_lt_of_cell? w _ h.1
  exact ⟨by rw [(bcell hb).1 _ _ hg]; exact h.1, by rw [(bcell hb).1 _ _ hg]; exact h.2⟩
def Flt24 (w : World) (e : Ending) (w' : World) : Prop := ∃ d n, e = .returned (.agg #[.slice (some ⟨d, 0, none⟩) 1 n, .int .i64 24]) ∧ w.heap.size ≤ d ∧ d < w'.heap.size ∧ w'.cell? ⟨d, 0, none⟩ = some (.string insnS) ∧ w'.cell? ⟨d, 1, none⟩ = some (.int .i64 0) ∧ Below w.heap.size w w'
theorem fault24 (w : World) : Calls Tryd.prog 21 #[.int .i64 0, .int .i64 24] w (Flt24 w) := by
  go_enter Tryd.func21, Tryd.ntmps21
  go_wp2_with fail
  refine (new_any insnS 0 24 _).mono ?_
  rintro e w1 ⟨rfl, rfl⟩
  go_wp2_with fail
  refine bodyPost_ret (v := .agg #[.slice (some ⟨w.heap.size + 1 + 1, 0, none⟩) 1 1, .int .i64 24]) (by simp [results, Tryd.results21, go_sem]) rfl ⟨_, _, rfl, by omega, by simp [go_sem], by simp [go_sem], by simp [go_sem], ?_⟩
  exact (by repeat' (first | exact Below.refl _ _ | refine Below.alloc ?_ ?_ _ | refine Below.setCell ?_ ?_ _ | exact Nat.le_refl _ | (simp; done) | (simp; omega)))
set_option maxRecDepth 100000 in
set_option maxHeartbeats 4000000 in
theorem law_words (op : Int) (s : ByteArray) (r : Int) (hs : s.size ≤ maxLen) (w : World) (ht : Tabs w) : Calls Tryd.prog 4 #[.int .i64 op, .string s, .int .i64 r] w (TruePost w) := by
  obtain ⟨n, b, c1, c2⟩ := both_by s hs
  obtain ⟨m, d, c3, c4⟩ := both_reg s hs
  have C1 := Lib.hid c1
  have C2 := Lib.hid c2
  have C3 := Lib.hid c3
  have C4 := Lib.hid c4
  have T := Lib.hid ht
  clear c1 c2 c3 c4 ht hs
  go_enter Tryd.func4, Tryd.ntmps4
  go_wp2_with fail
  refine (C1.out _ T.out.names).mono ?_
  rintro e w1 ⟨rfl, hb⟩
  have T := Lib.hid (T.out.after hb)
  have B := Lib.hid hb
  clear hb
  go_wp2_with fail
  refine (C2.out _).mono ?_
  rintro e w2 ⟨rfl, hb⟩
  have T := Lib.hid (T.out.after hb)
  have B := Lib.hid (B.out.trans (hb.mono B.out.size))
  clear hb
  go_wp2_with fail
  refine (C3.out _ T.out.regs).mono ?_
  rintro e w3 ⟨er, rfl, her, hb⟩
  have T := Lib.hid (T.out.after hb)
  have B := Lib.hid (B.out.trans (hb.mono B.out.size))
  have HE := Lib.hid her
  clear hb her
  go_wp2_with fail
  refine (C4.out _).mono ?_
  rintro e w4 ⟨rfl, hb⟩
  have T := Lib.hid (T.out.after hb)
  have B := Lib.hid (B.out.trans (hb.mono B.out.size))
  have HE := Lib.hid (HE.out.after hb)
  clear hb
  cases d
  · have he : Hid (ErrIs er 0 24 _ w4) := Lib.hid HE.out
    go_wp2_with fail
    refine (none_any _).mono ?_
    rintro e w5 ⟨rfl, rfl⟩
    go_wp2_with fail
    refine (fault24 _).mono ?_
    rintro e w6 ⟨g, m', rfl, g0, g1, g2, g3, hb⟩
    obtain ⟨hc, hf⟩ := bcell hb
    have hz := hb.size
    simp only [World.size_alloc] at hc hf hz g0
    have i0 : w6.cell? ⟨w4.heap.size + 1, 0, none⟩ = some (.slice none 0 0) := by rw [hc _ _ (by omega)]; simp [go_sem]
    have i1 : w6.cell? ⟨w4.heap.size + 1, 1, none⟩ = some (.int .i64 0) := by rw [hc _ _ (by omega)]; simp [go_sem]
    have f0 : w6.frozen? ⟨w4.heap.size + 1, 0, none⟩ = false := by rw [hf _ _ (by omega)]; simp [go_sem]
    have f1 : w6.frozen? ⟨w4.heap.size + 1, 1, none⟩ = false := by rw [hf _ _ (by omega)]; simp [go_sem]
    have B4 : Below w4.heap.size w4 w6 := (((Below.refl _ _).alloc (Nat.le_refl _) _).alloc (by simp) _).trans (hb.mono (by simp; omega))
    have B7 : Below w4.heap.size w4 ((w6.setCell ⟨w4.heap.size + 1, 0, none⟩ (.slice (some ⟨g, 0, none⟩) 1 m')).setCell ⟨w4.heap.size + 1, 1, none⟩ (.int .i64 24)) := (B4.setCell (by simp) _).setCell (by simp) _
    have zz : w4.heap.size + 1 < w6.heap.size := by omega
    have zg : w4.heap.size + 1 ≠ g := by omega
    have Q : Hid (Two (w6.setCell ⟨w4.heap.size + 1, 0, none⟩ (.slice (some ⟨g, 0, none⟩) 1 m') |>.setCell ⟨w4.heap.size + 1, 1, none⟩ (.int .i64 24)) (w4.heap.size + 1) (.slice (some ⟨g, 0, none⟩) 1 m') (.int .i64 24)) := Lib.hid ⟨by rw [World.cell?_setCell_other _ _ _ _ (by simp)]; exact World.cell?_setCell_same' _ _ _ (by rw [i0]; rfl), World.cell?_setCell_same' _ _ _ (by rw [World.cell?_setCell_other _ _ _ _ (by simp), i1]; rfl)⟩
    have HF : Hid (FltIs (.agg #[.slice (some ⟨g, 0, none⟩) 1 m', .int .i64 24]) 0 24 ((w6.setCell ⟨w4.heap.size + 1, 0, none⟩ (.slice (some ⟨g, 0, none⟩) 1 m')).setCell ⟨w4.heap.size + 1, 1, none⟩ (.int .i64 24))) := Lib.hid (Or.inr ⟨rfl, g, m', rfl, by simpa using g1, by rw [World.cell?_setCell_other _ _ _ _ (by simp [zg]), World.cell?_setCell_other _ _ _ _ (by simp [zg])]; exact g2, by rw [World.cell?_setCell_other _ _ _ _ (by simp [zg]), World.cell?_setCell_other _ _ _ _ (by simp [zg])]; exact g3⟩)
    have T := Lib.hid (T.out.after B7)
    have B := Lib.hid (B.out.trans (B7.mono B.out.size))
    have HE := Lib.hid (he.out.after B7)
    clear hb hc hf B4 g0 g1 g2 g3 he B7
    have zt := T.out.size
    go_wp2_with fail
    generalize (w6.setCell ⟨w4.heap.size + 1, 0, none⟩ (.slice (some ⟨g, 0, none⟩) 1 m')).setCell ⟨w4.heap.size + 1, 1, none⟩ (.int .i64 24) = v0 at *
    generalize w4.heap.size + 1 = g15 at *
    clear i0 i1 f0 f1 zz zg hz zt
    refine (shape_any op _ T.out).mono ?_
    rintro e x1 ⟨rfl, rfl⟩
    go_wp2_with fail
    refine (refshape_any op _).mono ?_
    rintro e y0 ⟨rfl, hb⟩
    have T := Lib.hid (T.out.after hb)
    have B := Lib.hid (B.out.trans (hb.mono B.out.size))
    have HE := Lib.hid (HE.out.after hb)
    have HF := Lib.hid (fltIs_after HF.out hb)
    have Q := Lib.hid (two_after Q.out hb)
    clear hb
    go_wp2_with fail
    refine (name_any op _ T.out).mono ?_
    rintro e y1 ⟨rfl, rfl⟩
    go_wp2_with fail
    refine (refname_any op _).mono ?_
    rintro e y2 ⟨rfl, hb⟩
    have T := Lib.hid (T.out.after hb)
    have B := Lib.hid (B.out.trans (hb.mono B.out.size))
    have HE := Lib.hid (HE.out.after hb)
    have HF := Lib.hid (fltIs_after HF.out hb)
    have Q := Lib.hid (two_after Q.out hb)
    clear hb
    go_wp2_with fail
    refine (regname_any r _ T.out).mono ?_
    rintro e y3 ⟨rfl, rfl⟩
    go_wp2_with fail
    refine (refreg_any r _).mono ?_
    rintro e y4 ⟨rfl, hb⟩
    have T := Lib.hid (T.out.after hb)
    have B := Lib.hid (B.out.trans (hb.mono B.out.size))
    have HE := Lib.hid (HE.out.after hb)
    have HF := Lib.hid (fltIs_after HF.out hb)
    have Q := Lib.hid (two_after Q.out hb)
    clear hb
    obtain ⟨q0, q1⟩ := Q.out
    go_wp2_with fail
    refine (is_true HE.out HF.out).mono ?_
    rintro e z ⟨rfl, hb⟩
    have B := Lib.hid (B.out.trans (hb.mono B.out.size))
    clear hb q0 q1
    go_wp2_with fail
    go_ret
    exact ⟨rfl, B.out⟩
  · have he : Hid (ErrIs er 0 0 _ w4) := Lib.hid HE.out
    go_wp2_with fail
    refine (none_any _).mono ?_
    rintro e w5 ⟨rfl, rfl⟩
    have B7 : Below w4.heap.size w4 ((w4.alloc (.cells #[.slice none 0 0, .int .i64 0] 33)).alloc (.cells #[.slice none 0 0, .int .i64 0] 33)) := ((Below.refl _ _).alloc (Nat.le_refl _) _).alloc (by simp) _
    have Q : Hid (Two ((w4.alloc (.cells #[.slice none 0 0, .int .i64 0] 33)).alloc (.cells #[.slice none 0 0, .int .i64 0] 33)) (w4.heap.size + 1) (.slice none 0 0) (.int .i64 0)) := Lib.hid ⟨by simp [go_sem], by simp [go_sem]⟩
    have HF : Hid (FltIs (.agg #[.slice none 0 0, .int .i64 0]) 0 0 ((w4.alloc (.cells #[.slice none 0 0, .int .i64 0] 33)).alloc (.cells #[.slice none 0 0, .int .i64 0] 33))) := Lib.hid (Or.inl ⟨rfl, rfl⟩)
    have T := Lib.hid (T.out.after B7)
    have B := Lib.hid (B.out.trans (B7.mono B.out.size))
    have HE := Lib.hid (he.out.after B7)
    clear he B7
    go_wp2_with fail
    generalize (w4.alloc (.cells #[.slice none 0 0, .int .i64 0] 33)).alloc (.cells #[.slice none 0 0, .int .i64 0] 33) = v0 at *
    generalize w4.heap.size + 1 = g15 at *
    refine (shape_any op _ T.out).mono ?_
    rintro e x1 ⟨rfl, rfl⟩
    go_wp2_with fail
    refine (refshape_any op _).mono ?_
    rintro e y0 ⟨rfl, hb⟩
    have T := Lib.hid (T.out.after hb)
    have B := Lib.hid (B.out.trans (hb.mono B.out.size))
    have HE := Lib.hid (HE.out.after hb)
    have HF := Lib.hid (fltIs_after HF.out hb)
    have Q := Lib.hid (two_after Q.out hb)
    clear hb
    go_wp2_with fail
    refine (name_any op _ T.out).mono ?_
    rintro e y1 ⟨rfl, rfl⟩
    go_wp2_with fail
    refine (refname_any op _).mono ?_
    rintro e y2 ⟨rfl, hb⟩
    have T := Lib.hid (T.out.after hb)
    have B := Lib.hid (B.out.trans (hb.mono B.out.size))
    have HE := Lib.hid (HE.out.after hb)
    have HF := Lib.hid (fltIs_after HF.out hb)
    have Q := Lib.hid (two_after Q.out hb)
    clear hb
    go_wp2_with fail
    refine (regname_any r _ T.out).mono ?_
    rintro e y3 ⟨rfl, rfl⟩
    go_wp2_with fail
    refine (refreg_any r _).mono ?_
    rintro e y4 ⟨rfl, hb⟩
    have T := Lib.hid (T.out.after hb)
    have B := Lib.hid (B.out.trans (hb.mono B.out.size))
    have HE := Lib.hid (HE.out.after hb)
    have HF := Lib.hid (fltIs_after HF.out hb)
    have Q := Lib.hid (two_after Q.out hb)
    clear hb
    obtain ⟨q0, q1⟩ := Q.out
    go_wp2_with fail
    refine (is_true HE.out HF.out).mono ?_
    rintro e z ⟨rfl, hb⟩
    have B := Lib.hid (B.out.trans (hb.mono B.out.size))
    clear hb q0 q1
    go_wp2_with fail
    go_ret
    exact ⟨rfl, B.out⟩
end Go.Proofs.YtgjiojcdifjhcaaDoor
