/- insn.refuse: a fault; errors as plain data; the tables of words and shapes. By an AI agent. -/
import Derived.Test.YtgjiojcdifjhcaaDoorFields
set_option linter.unusedVariables false
set_option linter.unusedSimpArgs false
namespace Go.Proofs.YtgjiojcdifjhcaaDoor
open Go.RowKit
def insnS : ByteArray := ⟨#[105, 110, 115, 110]⟩
theorem refuse_any (p c : Int) (w : World) : Calls Tryd.prog 35 #[.int .i64 p, .int .i64 c] w fun e w' => e = .returned (.iface 104 (.pointer (some ⟨w.heap.size, 0, none⟩))) ∧ w' = w.alloc (.cells #[.string insnS, .int .i64 p, .iface 71 (.int .i64 c)] 106) := by
  go_enter Tryd.func35, Tryd.ntmps35
  go_wp2
  go_ret
  exact ⟨rfl, rfl⟩
/-- The error er is the refusal (p, c), or nil where c is 0; what it points to lies from block B on. -/
def ErrIs (er : Value) (p c : Int) (B : Nat) (w : World) : Prop :=
  (c = 0 ∧ er = .nilIface) ∨ ((c != 0) = true ∧ ∃ g, er = .iface 104 (.pointer (some ⟨g, 0, none⟩)) ∧ B ≤ g ∧ g < w.heap.size ∧ w.cell? ⟨g, 0, none⟩ = some (.string insnS) ∧ w.cell? ⟨g, 1, none⟩ = some (.int .i64 p) ∧ w.cell? ⟨g, 2, none⟩ = some (.iface 71 (.int .i64 c)))
theorem ErrIs.nil (B : Nat) (w : World) : ErrIs .nilIface 0 0 B w := Or.inl ⟨rfl, rfl⟩
theorem ErrIs.after {er : Value} {p c : Int} {B : Nat} {w w' : World} (h : ErrIs er p c B w) (hb : Below w.heap.size w w') : ErrIs er p c B w' := by
  rcases h with ⟨h1, h2⟩ | ⟨h1, g, h2, h3, h4, h5, h6, h7⟩
  · exact Or.inl ⟨h1, h2⟩
  · obtain ⟨hc, _⟩ := bcell hb
    exact Or.inr ⟨h1, g, h2, h3, Nat.lt_of_lt_of_le h4 hb.size, by rw [hc g 0 h4]; exact h5, by rw [hc g 1 h4]; exact h6, by rw [hc g 2 h4]; exact h7⟩
theorem ErrIs.mono {er : Value} {p c : Int} {B B' : Nat} {w : World} (h : ErrIs er p c B w) (hb : B' ≤ B) : ErrIs er p c B' w := by
  rcases h with ⟨h1, h2⟩ | ⟨h1, g, h2, h3, h4⟩
  · exact Or.inl ⟨h1, h2⟩
  · exact Or.inr ⟨h1, g, h2, Nat.le_trans hb h3, h4⟩
theorem ErrIs.made (p c : Int) (hc : (c != 0) = true) (B : Nat) (w : World) (hB : B ≤ w.heap.size) : ErrIs (.iface 104 (.pointer (some ⟨w.heap.size, 0, none⟩))) p c B (w.alloc (.cells #[.string insnS, .int .i64 p, .iface 71 (.int .i64 c)] 106)) :=
  Or.inr ⟨hc, _, rfl, hB, by simp, by simp [go_sem], by simp [go_sem], by simp [go_sem]⟩
theorem ErrIs.nil_iff {er : Value} {p c : Int} {B : Nat} {w : World} (h : ErrIs er p c B w) : er = .nilIface ↔ c = 0 := by
  rcases h with ⟨h1, h2⟩ | ⟨h1, g, h2, _⟩
  · simp [h1, h2]
  · subst h2; constructor
    · intro h; cases h
    · intro h; subst h; simp at h1
/-- The tables of words and shapes lie in the world. -/
def wordL : List Int := [0, 55, 23, 111, 103, 99, 4195, 16483, 20579, 24675, 28771, 3, 4099, 8195, 12291, 16387, 20483, 24579, 35, 4131, 8227, 12323, 19, 8211, 12307, 16403, 24595, 28691, 4115, 20499, 1073762323, 51, 1073741875, 4147, 8243, 12339, 16435, 20531, 1073762355, 24627, 28723, 27, 4123, 20507, 1073762331, 59, 1073741883, 4155, 20539, 1073762363, 33554483, 33558579, 33562675, 33566771, 33570867, 33574963, 33579059, 33583155, 33554491, 33570875, 33574971, 33579067, 33583163, 15, 4111, 115, 1048691, 270532723, 807403635, 273678451, 301990003, 4211, 8307, 12403, 20595, 24691, 28787]
def wordOf (op : Nat) : Int := wordL.getD op 0
def wordCells : Array Value := ((List.range 77).map fun op => Value.int .u32 (wordOf op)).toArray
structure TabsW (w : World) : Prop where
  shapes : ∃ tt fr, w.heap[0]? = some (.cells shCells tt fr)
  words : ∃ tt fr, w.heap[3]? = some (.cells wordCells tt fr)
theorem TabsW.size {w : World} (h : TabsW w) : 3 < w.heap.size := by
  obtain ⟨_, _, h⟩ := h.words
  rcases Nat.lt_or_ge 3 w.heap.size with e | e
  · exact e
  · simp [Array.getElem?_eq_none e] at h
theorem TabsW.after {w w' : World} (h : TabsW w) (hb : Below w.heap.size w w') : TabsW w' := by
  have hz := h.size
  refine ⟨?_, ?_⟩
  · rw [hb.block 0 (by omega)]; exact h.shapes
  · rw [hb.block 3 (by omega)]; exact h.words
theorem TabsW.sh {w : World} (h : TabsW w) (op : Nat) (ho : op < 77) : w.cell? ⟨0, op, none⟩ = some (.int .i64 (sh op)) := by
  obtain ⟨tt, fr, h⟩ := h.shapes
  simp [World.cell?, h, shCells, ho]
theorem TabsW.wd {w : World} (h : TabsW w) (op : Nat) (ho : op < 77) : w.cell? ⟨3, op, none⟩ = some (.int .u32 (wordOf op)) := by
  obtain ⟨tt, fr, h⟩ := h.words
  simp [World.cell?, h, wordCells, ho]
/-- A shape's number, as a natural number. -/
def shN (op : Nat) : Nat := (sh op).toNat
theorem shN_eq : ∀ op, op < 77 → sh op = ((shN op : Nat) : Int) := by decide
theorem shN_rng : ∀ op, op < 77 → 1 ≤ op → 1 ≤ shN op ∧ shN op ≤ 14 := by decide
end Go.Proofs.YtgjiojcdifjhcaaDoor
