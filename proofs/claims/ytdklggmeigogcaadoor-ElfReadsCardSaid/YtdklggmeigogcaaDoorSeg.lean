/- elf's small functions: give, wrong, shaped, above, rises, begins; segments in memory. By an AI agent. -/
import Derived.Test.YtdklggmeigogcaaDoorField
import Derived.Deep.RegionHeld3
import Derived.IntWalk
set_option linter.unusedVariables false
set_option linter.unusedSimpArgs false
namespace Go.Proofs.YtdklggmeigogcaaDoor
open Go.RowKit
structure PSeg where
  va : Nat
  fl : Nat
  mem : Nat
  dat : List Nat
def PSeg.z : PSeg := ⟨0, 0, 0, []⟩
/-- The numbers of a segment fit their kinds. -/
structure PSeg.Fit (s : PSeg) : Prop where
  va : s.va < 18446744073709551616
  fl : s.fl < 4294967296
  mem : s.mem < 18446744073709551616
  dat : ∀ i, s.dat.getD i 0 < 256
/-- The segments l can be read at A, below block B. -/
def SegsAt (w : World) (B : Nat) (A : Option Addr) (l : List PSeg) : Prop :=
  0 < l.length → ∃ g o, ∃ (D : Nat → Option Addr) (C : Nat → Nat), A = some ⟨g, o, none⟩ ∧ g < B ∧ ∀ i, i < l.length →
    w.cell? ⟨g, o + i * 4, none⟩ = some (.int .u64 ((l.getD i PSeg.z).va : Int)) ∧ w.cell? ⟨g, o + i * 4 + 1, none⟩ = some (.int .u32 ((l.getD i PSeg.z).fl : Int)) ∧
    w.cell? ⟨g, o + i * 4 + 2, none⟩ = some (.slice (D i) (l.getD i PSeg.z).dat.length (C i)) ∧ w.cell? ⟨g, o + i * 4 + 3, none⟩ = some (.int .u64 ((l.getD i PSeg.z).mem : Int)) ∧
    Byt w B (D i) (l.getD i PSeg.z).dat
theorem SegsAt.nil (w : World) (B : Nat) (A : Option Addr) : SegsAt w B A [] := fun h => absurd h (by simp)
theorem SegsAt.after {w w' : World} {B : Nat} {A : Option Addr} {l : List PSeg} (h : SegsAt w B A l) (hb : Below B w w') : SegsAt w' B A l := fun hn => by
  obtain ⟨g, o, D, C, e, hg, hc⟩ := h hn
  refine ⟨g, o, D, C, e, hg, fun i hi => ?_⟩
  obtain ⟨h1, h2, h3, h4, h5⟩ := hc i hi
  exact ⟨by rw [hb.cell (p := ⟨g, o + i * 4, none⟩) hg]; exact h1, by rw [hb.cell (p := ⟨g, o + i * 4 + 1, none⟩) hg]; exact h2, by rw [hb.cell (p := ⟨g, o + i * 4 + 2, none⟩) hg]; exact h3, by rw [hb.cell (p := ⟨g, o + i * 4 + 3, none⟩) hg]; exact h4, h5.after hb⟩
theorem SegsAt.mono {w : World} {B B' : Nat} {A : Option Addr} {l : List PSeg} (h : SegsAt w B A l) (hb : B ≤ B') : SegsAt w B' A l := fun hn => by
  obtain ⟨g, o, D, C, e, hg, hc⟩ := h hn
  refine ⟨g, o, D, C, e, Nat.lt_of_lt_of_le hg hb, fun i hi => ?_⟩
  obtain ⟨h1, h2, h3, h4, h5⟩ := hc i hi
  exact ⟨h1, h2, h3, h4, h5.mono hb⟩
def shapedB (va fl mem b : Nat) : Bool := decide (va % 4096 = 0 ∧ 1 ≤ fl ∧ fl ≤ 7 ∧ (bits .and .u32 (fl : Int) 2 = 0 ∨ ¬ bits .and .u32 (fl : Int) 4 = 0) ∧ 1 ≤ mem ∧ b ≤ mem ∧ va ≤ 1073741824 ∧ va + mem ≤ 1073741824)
theorem shapedB_of {va fl mem b : Nat} (h : shapedB va fl mem b = true) : va ≤ 1073741824 ∧ va + mem ≤ 1073741824 ∧ b ≤ mem ∧ 1 ≤ mem := by
  simp only [shapedB, decide_eq_true_eq] at h; omega
theorem shaped_any (va fl mem by' : Nat) (dv : Value) (w : World) (h1 : va < 18446744073709551616) (h2 : fl < 4294967296) (h3 : mem < 18446744073709551616) (h4 : by' < 18446744073709551616) :
    Calls Tryd.prog 51 #[.agg #[.int .u64 (va : Int), .int .u32 (fl : Int), dv, .int .u64 (mem : Int)], .int .u64 (by' : Int)] w fun e w' => e = .returned (.bool (shapedB va fl mem by')) ∧ Below w.heap.size w w' := by
  go_enter Tryd.func51, Tryd.ntmps51
  go_wp2_with fail
  all_goals
    go_ret
    refine ⟨ret_bool ?_, (by repeat' (first | exact Below.refl _ _ | refine Below.alloc ?_ ?_ _ | exact Nat.le_refl _ | (simp; done)))⟩
    rw [Bool.eq_iff_iff]
    simp only [shapedB, decide_eq_true_eq, Bool.false_eq_true, false_iff, true_iff]
    first | omega | (simp only [Bool.and_eq_true, Bool.or_eq_true, beq_iff_eq, bne_iff_ne, ne_eq, decide_eq_true_eq]; omega)
theorem give_no (b : Bool) (hb : b = false) (at' c : Int) (w : World) : Calls Tryd.prog 31 #[.bool b, .int .i64 at', .int .i64 c] w fun e w' => e = .returned (.tuple #[]) ∧ w = w' := by
  subst hb
  go_enter Tryd.func31, Tryd.ntmps31
  go_wp2_with fail
  go_end0
  exact ⟨rfl, rfl⟩
/-- The call gives up: the refusal (p, c). -/
def Refused (p c : Int) (B : Nat) (e : Ending) (w : World) : Prop := ∃ er, e = .panicked [{ v := .iface 61 (.agg #[er]), recovered := false }] ∧ (c != 0) = true ∧ ErrIs er p c B w
theorem give_yes (b : Bool) (hb : b = true) (at' c : Int) (hc : (c != 0) = true) (w : World) : Calls Tryd.prog 31 #[.bool b, .int .i64 at', .int .i64 c] w fun e w' => Refused at' c w.heap.size e w' ∧ Below w.heap.size w w' := by
  subst hb
  go_enter Tryd.func31, Tryd.ntmps31
  go_wp2_with fail
  refine (fault_any at' c _).mono ?_
  rintro e w1 ⟨rfl, rfl⟩
  go_wp2_with fail
  exact ⟨rfl, ⟨_, rfl, hc, ErrIs.made at' c hc _ _ (Nat.le_refl _)⟩, (Below.refl _ _).alloc (Nat.le_refl _) _⟩
theorem wrong_any (at' k m : Int) (w : World) (h : 0 ≤ at') : Calls Tryd.prog 49 #[.agg #[.int .i64 at', .int .i64 k, .int .u64 m]] w fun e w' => e = .returned (.int .i64 (if at' < 16 then 141 else 142)) ∧ Below w.heap.size w w' := by
  go_enter Tryd.func49, Tryd.ntmps49
  go_wp2_with fail
  all_goals
    go_ret
    refine ⟨?_, (by repeat' (first | exact Below.refl _ _ | refine Below.alloc ?_ ?_ _ | exact Nat.le_refl _ | (simp; done)))⟩
    rfl
def nxt (x : Nat) : Nat := (x + 4095) / 4096 * 4096
theorem above_any (va fl mem : Nat) (dv : Value) (w : World) (h1 : va + mem ≤ 1073741824) :
    Calls Tryd.prog 56 #[.agg #[.int .u64 (va : Int), .int .u32 (fl : Int), dv, .int .u64 (mem : Int)]] w fun e w' => e = .returned (.int .u64 ((nxt (va + mem) : Nat) : Int)) ∧ Below w.heap.size w w' := by
  go_enter Tryd.func56, Tryd.ntmps56
  go_wp2_with fail
  go_ret
  exact ⟨ret_int (by unfold nxt; omega), (by repeat' (first | exact Below.refl _ _ | refine Below.alloc ?_ ?_ _ | exact Nat.le_refl _ | (simp; done)))⟩
/-- May a segment at va come behind those? -/
def risesB (l : List PSeg) (va : Nat) : Bool := decide (l.length = 0 ∨ nxt ((l.getD (l.length - 1) PSeg.z).va + (l.getD (l.length - 1) PSeg.z).mem) ≤ va)
theorem rises_any (A : Option Addr) (n c va fl mem : Nat) (dv : Value) (l : List PSeg) (w : World) (hn : n = l.length) (hm : n ≤ 1099511627776) (h : SegsAt w w.heap.size A l) (hl : ∀ i, i < l.length → (l.getD i PSeg.z).va + (l.getD i PSeg.z).mem ≤ 1073741824) :
    Calls Tryd.prog 52 #[.slice A n c, .agg #[.int .u64 (va : Int), .int .u32 (fl : Int), dv, .int .u64 (mem : Int)]] w fun e w' => e = .returned (.bool (risesB l va)) ∧ Below w.heap.size w w' := by
  rcases Nat.eq_zero_or_pos n with h0 | h0
  · have hr := Lib.hid (show risesB l va = true by unfold risesB; rw [decide_eq_true_eq]; left; omega)
    clear hl h hn
    subst h0
    go_enter Tryd.func52, Tryd.ntmps52
    go_wp2_with fail
    go_quiet (fail)
    go_wp2_with fail
    go_ret
    exact ⟨ret_bool hr.out.symm, below_drewN ((Below.refl _ _).alloc (Nat.le_refl _) _) _⟩
  · have hb0 : w.heap.size < w.heap.size + 1 := by omega
    obtain ⟨g, o, D, C, rfl, hg, hc⟩ := h (by omega)
    obtain ⟨c0, c1, c2, c3, -⟩ := hc (n - 1) (by omega)
    have hl' := hl (n - 1) (by omega)
    have hr := Lib.hid (show risesB l va = decide (nxt ((l.getD (n - 1) PSeg.z).va + (l.getD (n - 1) PSeg.z).mem) ≤ va) by unfold risesB; rw [← hn, Bool.eq_iff_iff]; simp; omega)
    have HN := Lib.hid hn
    clear hc hl hn
    generalize l.getD (n - 1) PSeg.z = s at *
    have hz : ((n : Int) == 0) = false := by simp; omega
    have hz1 : (0 : Int) ≤ (n : Int) - 1 := by omega
    have hz3 : (n : Int) - 1 < (n : Int) := by omega
    have hz4 : ((n : Int) - 1).toNat = n - 1 := by omega
    have hz2 : n - 1 < n := by omega
    have hz5 : IntKind.i64.wrap ((n : Int) - 1) = (n : Int) - 1 := IntWalk.i64_in _ (by omega)
    have hz6 : (1 : Int) ≤ (n : Int) := by omega
    go_enter Tryd.func52, Tryd.ntmps52
    go_wp2_with fail
    have k0 : (w.alloc (.cells #[.int .u64 (va : Int), .int .u32 (fl : Int), dv, .int .u64 (mem : Int)] 55)).cell? ⟨w.heap.size, 0, none⟩ = some (.int .u64 (va : Int)) := by simp [go_sem]
    have k1 : (w.alloc (.cells #[.int .u64 (va : Int), .int .u32 (fl : Int), dv, .int .u64 (mem : Int)] 55)).cell? ⟨g, o + (n - 1) * 4, none⟩ = some (.int .u64 (s.va : Int)) := by simp [go_sem, hg, c0]
    have k2 : (w.alloc (.cells #[.int .u64 (va : Int), .int .u32 (fl : Int), dv, .int .u64 (mem : Int)] 55)).cell? ⟨g, o + (n - 1) * 4 + 1, none⟩ = some (.int .u32 (s.fl : Int)) := by simp [go_sem, hg, c1]
    have k3 : (w.alloc (.cells #[.int .u64 (va : Int), .int .u32 (fl : Int), dv, .int .u64 (mem : Int)] 55)).cell? ⟨g, o + (n - 1) * 4 + 2, none⟩ = some (.slice (D (n - 1)) s.dat.length (C (n - 1))) := by simp [go_sem, hg, c2]
    have k4 : (w.alloc (.cells #[.int .u64 (va : Int), .int .u32 (fl : Int), dv, .int .u64 (mem : Int)] 55)).cell? ⟨g, o + (n - 1) * 4 + 3, none⟩ = some (.int .u64 (s.mem : Int)) := by simp [go_sem, hg, c3]
    have B1 := Lib.hid ((Below.refl w.heap.size w).alloc (Nat.le_refl _) (.cells #[.int .u64 (va : Int), .int .u32 (fl : Int), dv, .int .u64 (mem : Int)] 55))
    generalize w.alloc (.cells #[.int .u64 (va : Int), .int .u32 (fl : Int), dv, .int .u64 (mem : Int)] 55) = W at *
    have KK := Lib.hid (And.intro k0 (And.intro k1 (And.intro k2 (And.intro k3 k4))))
    clear k0 k1 k2 k3 k4 c0 c1 c2 c3
    have HSof : Hid (∀ w' : World, Below W.heap.size W w' → w'.cell? ⟨w.heap.size, 0, none⟩ = some (.int .u64 (va : Int)) ∧ w'.cell? ⟨g, o + (n - 1) * 4, none⟩ = some (.int .u64 (s.va : Int)) ∧ w'.cell? ⟨g, o + (n - 1) * 4 + 1, none⟩ = some (.int .u32 (s.fl : Int)) ∧ w'.cell? ⟨g, o + (n - 1) * 4 + 2, none⟩ = some (.slice (D (n - 1)) s.dat.length (C (n - 1))) ∧ w'.cell? ⟨g, o + (n - 1) * 4 + 3, none⟩ = some (.int .u64 (s.mem : Int)) ∧ Below W.heap.size W w') := Lib.hid fun w' hb => by
      obtain ⟨hc, -⟩ := bcell hb
      obtain ⟨k0, k1, k2, k3, k4⟩ := KK.out
      refine ⟨?_, ?_, ?_, ?_, ?_, hb⟩
      · rw [hc _ _ (World.block_lt_of_cell? _ _ k0)]; exact k0
      · rw [hc _ _ (World.block_lt_of_cell? _ _ k1)]; exact k1
      · rw [hc _ _ (World.block_lt_of_cell? _ _ k2)]; exact k2
      · rw [hc _ _ (World.block_lt_of_cell? _ _ k3)]; exact k3
      · rw [hc _ _ (World.block_lt_of_cell? _ _ k4)]; exact k4
    go_region_held3 (fun w' => w'.cell? ⟨w.heap.size, 0, none⟩ = some (.int .u64 (va : Int)) ∧ w'.cell? ⟨g, o + (n - 1) * 4, none⟩ = some (.int .u64 (s.va : Int)) ∧ w'.cell? ⟨g, o + (n - 1) * 4 + 1, none⟩ = some (.int .u32 (s.fl : Int)) ∧ w'.cell? ⟨g, o + (n - 1) * 4 + 2, none⟩ = some (.slice (D (n - 1)) s.dat.length (C (n - 1))) ∧ w'.cell? ⟨g, o + (n - 1) * 4 + 3, none⟩ = some (.int .u64 (s.mem : Int)) ∧ Below W.heap.size W w') ((refine HSof.out _ ?_; repeat' (first | with_reducible assumption | with_reducible exact Below.refl _ _ | exact Nat.le_refl _ | with_reducible refine Below.drew ?_ | with_reducible refine Below.trans ?_ (Below.mono (by assumption) ?_) | (simp; done) | (refine Below.size (by assumption))))) ((go_at_call 56; refine (above_any s.va s.fl s.mem _ _ hl').mono ?_; rintro e w2 ⟨rfl, hb2⟩))
    all_goals
      go_wp2_with fail
      go_ret
      exact ⟨ret_bool (by rw [hr.out]), B1.out.drew.trans (hb2.mono B1.out.size)⟩
end Go.Proofs.YtdklggmeigogcaaDoor
