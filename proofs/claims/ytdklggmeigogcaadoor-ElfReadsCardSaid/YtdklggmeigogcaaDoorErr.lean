/- elf's fault, the document's refusal; errors as plain data. By an AI agent. -/
import Derived.Test.YtdklggmeigogcaaDoorFault
set_option linter.unusedVariables false
set_option linter.unusedSimpArgs false
namespace Go.Proofs.YtdklggmeigogcaaDoor
open Go.RowKit
def elfS : ByteArray := ⟨#[101, 108, 102]⟩
theorem fault_any (p c : Int) (w : World) : Calls Tryd.prog 43 #[.int .i64 p, .int .i64 c] w fun e w' => e = .returned (.iface 96 (.pointer (some ⟨w.heap.size, 0, none⟩))) ∧ w' = w.alloc (.cells #[.string elfS, .int .i64 p, .iface 69 (.int .i64 c)] 98) := by
  go_enter Tryd.func43, Tryd.ntmps43
  go_wp2
  go_ret
  exact ⟨rfl, rfl⟩
/-- The error er is the refusal (p, c), or nil where c is 0; what it points to lies from block B on. -/
def ErrIs (er : Value) (p c : Int) (B : Nat) (w : World) : Prop :=
  (c = 0 ∧ er = .nilIface) ∨ ((c != 0) = true ∧ ∃ g, er = .iface 96 (.pointer (some ⟨g, 0, none⟩)) ∧ B ≤ g ∧ g < w.heap.size ∧ w.cell? ⟨g, 0, none⟩ = some (.string elfS) ∧ w.cell? ⟨g, 1, none⟩ = some (.int .i64 p) ∧ w.cell? ⟨g, 2, none⟩ = some (.iface 69 (.int .i64 c)))
theorem ErrIs.nil (p : Int) (B : Nat) (w : World) : ErrIs .nilIface p 0 B w := Or.inl ⟨rfl, rfl⟩
theorem ErrIs.after {er : Value} {p c : Int} {B : Nat} {w w' : World} (h : ErrIs er p c B w) (hb : Below w.heap.size w w') : ErrIs er p c B w' := by
  rcases h with ⟨h1, h2⟩ | ⟨h1, g, h2, h3, h4, h5, h6, h7⟩
  · exact Or.inl ⟨h1, h2⟩
  · obtain ⟨hc, _⟩ := bcell hb
    exact Or.inr ⟨h1, g, h2, h3, Nat.lt_of_lt_of_le h4 hb.size, by rw [hc g 0 h4]; exact h5, by rw [hc g 1 h4]; exact h6, by rw [hc g 2 h4]; exact h7⟩
theorem ErrIs.mono {er : Value} {p c : Int} {B B' : Nat} {w : World} (h : ErrIs er p c B w) (hb : B' ≤ B) : ErrIs er p c B' w := by
  rcases h with ⟨h1, h2⟩ | ⟨h1, g, h2, h3, h4⟩
  · exact Or.inl ⟨h1, h2⟩
  · exact Or.inr ⟨h1, g, h2, Nat.le_trans hb h3, h4⟩
theorem ErrIs.made (p c : Int) (hc : (c != 0) = true) (B : Nat) (w : World) (hB : B ≤ w.heap.size) : ErrIs (.iface 96 (.pointer (some ⟨w.heap.size, 0, none⟩))) p c B (w.alloc (.cells #[.string elfS, .int .i64 p, .iface 69 (.int .i64 c)] 98)) :=
  Or.inr ⟨hc, _, rfl, hB, by simp, by simp [go_sem], by simp [go_sem], by simp [go_sem]⟩
theorem ErrIs.nil_iff {er : Value} {p c : Int} {B : Nat} {w : World} (h : ErrIs er p c B w) : er = .nilIface ↔ c = 0 := by
  rcases h with ⟨h1, h2⟩ | ⟨h1, g, h2, _⟩
  · simp [h1, h2]
  · subst h2; constructor
    · intro h; cases h
    · intro h; subst h; simp at h1
/-- The value is the refusal (p, c) as plain data, or none where c is 0. -/
def FltIs (fv : Value) (p c : Int) (w : World) : Prop :=
  (c = 0 ∧ fv = .agg #[.slice none 0 0, .int .i64 0]) ∨ ((c != 0) = true ∧ ∃ d n, fv = .agg #[.slice (some ⟨d, 0, none⟩) 1 n, .int .i64 c] ∧ d < w.heap.size ∧ w.cell? ⟨d, 0, none⟩ = some (.string elfS) ∧ w.cell? ⟨d, 1, none⟩ = some (.int .i64 p))
def FltPost (p c : Int) (w : World) (e : Ending) (w' : World) : Prop := ∃ fv, e = .returned fv ∧ FltIs fv p c w' ∧ Below w.heap.size w w'
theorem FltIs.after {fv : Value} {p c : Int} {w w' : World} (h : FltIs fv p c w) (hb : Below w.heap.size w w') : FltIs fv p c w' := by
  rcases h with ⟨h1, h2⟩ | ⟨h1, d, n, h2, h3, h4, h5⟩
  · exact Or.inl ⟨h1, h2⟩
  · obtain ⟨hc, _⟩ := bcell hb
    exact Or.inr ⟨h1, d, n, h2, Nat.lt_of_lt_of_le h3 hb.size, by rw [hc d 0 h3]; exact h4, by rw [hc d 1 h3]; exact h5⟩
theorem no_any (p c : Int) (hc : (c != 0) = true) (w : World) : Calls Tryd.prog 33 #[.int .i64 c, .int .i64 p] w (FltPost p c w) := by
  go_enter Tryd.func33, Tryd.ntmps33
  go_wp2_with fail
  refine (new_any elfS p c _).mono ?_
  rintro e w1 ⟨rfl, rfl⟩
  go_wp2_with fail
  refine bodyPost_ret (v := .agg #[.slice (some ⟨w.heap.size + 1 + 1, 0, none⟩) 1 1, .int .i64 c]) (by simp [results, Tryd.results33, go_sem]) rfl ⟨_, rfl, Or.inr ⟨hc, _, _, rfl, by simp [go_sem], by simp [go_sem], by simp [go_sem]⟩, ?_⟩
  exact (by repeat' (first | exact Below.refl _ _ | refine Below.alloc ?_ ?_ _ | refine Below.setCell ?_ ?_ _ | exact Nat.le_refl _ | (simp; done) | (simp; omega)))
theorem any_some (p c : Int) (fv : Value) (w : World) (h : FltIs fv p c w) : Calls Tryd.prog 35 #[fv] w fun e w' => e = .returned (.bool (c != 0)) ∧ Below w.heap.size w w' := by
  rcases h with ⟨rfl, rfl⟩ | ⟨h1, d, n, rfl, _⟩
  · go_enter Tryd.func35, Tryd.ntmps35
    go_wp2
    go_ret
    exact ⟨rfl, (Below.refl _ _).alloc (Nat.le_refl _) _⟩
  · rw [h1]
    go_enter Tryd.func35, Tryd.ntmps35
    go_wp2
    go_ret
    exact ⟨rfl, (Below.refl _ _).alloc (Nat.le_refl _) _⟩
theorem is_true {er fv : Value} {p c : Int} {B : Nat} {w : World} (he : ErrIs er p c B w) (hf : FltIs fv p c w) : Calls Tryd.prog 12 #[er, fv] w fun e w' => e = .returned (.bool true) ∧ Below w.heap.size w w' := by
  rcases he with ⟨h1, rfl⟩ | ⟨h1, g, rfl, h3, h4, h5, h6, h7⟩
  · subst h1
    rcases hf with ⟨_, rfl⟩ | ⟨h2, _⟩
    · exact is_none w
    · exact absurd h2 (by decide)
  · rcases hf with ⟨h2, _⟩ | ⟨h2, d, n, rfl, k1, k2, k3⟩
    · subst h2; exact absurd h1 (by decide)
    · exact is_fault g 0 d n elfS p c w h5 h6 h7 h1 k2 k3
end Go.Proofs.YtdklggmeigogcaaDoor
