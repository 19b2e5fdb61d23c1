/- The law's fault, and 'Is' of an error and the refusal that it is. By an AI agent. -/
import Derived.Test.YtgjiojcdifjhcaaDoorRefuse
set_option linter.unusedVariables false
set_option linter.unusedSimpArgs false
namespace Go.Proofs.YtgjiojcdifjhcaaDoor
open Go.RowKit
/-- The value is the refusal (p, c) as plain data, or none where c is 0. -/
def FltIs (fv : Value) (p c : Int) (w : World) : Prop :=
  (c = 0 ∧ fv = .agg #[.slice none 0 0, .int .i64 0]) ∨ ((c != 0) = true ∧ ∃ d n, fv = .agg #[.slice (some ⟨d, 0, none⟩) 1 n, .int .i64 c] ∧ d < w.heap.size ∧ w.cell? ⟨d, 0, none⟩ = some (.string insnS) ∧ w.cell? ⟨d, 1, none⟩ = some (.int .i64 p))
def FltPost (p c : Int) (w : World) (e : Ending) (w' : World) : Prop := ∃ fv, e = .returned fv ∧ FltIs fv p c w' ∧ Below w.heap.size w w'
theorem fault_any (p c : Int) (w : World) : Calls Tryd.prog 21 #[.int .i64 p, .int .i64 c] w (FltPost p c w) := by
  by_cases h : c = 0
  · subst h
    go_enter Tryd.func21, Tryd.ntmps21
    go_wp2_with fail
    refine (none_any _).mono ?_
    rintro e w1 ⟨rfl, rfl⟩
    go_wp2_with fail
    refine bodyPost_ret (v := .agg #[.slice none 0 0, .int .i64 0]) (by simp [results, Tryd.results21, go_sem]) rfl ⟨_, rfl, Or.inl ⟨rfl, rfl⟩, ?_⟩
    exact (by repeat' (first | exact Below.refl _ _ | refine Below.alloc ?_ ?_ _ | refine Below.setCell ?_ ?_ _ | exact Nat.le_refl _ | (simp; done) | (simp; omega)))
  · have hc : (c == 0) = false := by simpa using h
    have hc' : (c != 0) = true := by simpa using h
    clear h
    go_enter Tryd.func21, Tryd.ntmps21
    go_wp2_with fail
    refine (new_any insnS p c _).mono ?_
    rintro e w1 ⟨rfl, rfl⟩
    go_wp2_with fail
    refine bodyPost_ret (v := .agg #[.slice (some ⟨w.heap.size + 1 + 1, 0, none⟩) 1 1, .int .i64 c]) (by simp [results, Tryd.results21, go_sem]) rfl ⟨_, rfl, Or.inr ⟨hc', _, _, rfl, by simp [go_sem], by simp [go_sem], by simp [go_sem]⟩, ?_⟩
    exact (by repeat' (first | exact Below.refl _ _ | refine Below.alloc ?_ ?_ _ | refine Below.setCell ?_ ?_ _ | exact Nat.le_refl _ | (simp; done) | (simp; omega)))
theorem is_true {er fv : Value} {p c : Int} {B : Nat} {w : World} (he : ErrIs er p c B w) (hf : FltIs fv p c w) : Calls Tryd.prog 22 #[er, fv] w fun e w' => e = .returned (.bool true) ∧ Below w.heap.size w w' := by
  rcases he with ⟨h1, rfl⟩ | ⟨h1, g, rfl, h3, h4, h5, h6, h7⟩
  · subst h1
    rcases hf with ⟨_, rfl⟩ | ⟨h2, _⟩
    · exact is_none w
    · exact absurd h2 (by decide)
  · rcases hf with ⟨h2, _⟩ | ⟨h2, d, n, rfl, k1, k2, k3⟩
    · subst h2; exact absurd h1 (by decide)
    · exact is_fault g 0 d n insnS p c w h5 h6 h7 h1 k2 k3
end Go.Proofs.YtgjiojcdifjhcaaDoor
