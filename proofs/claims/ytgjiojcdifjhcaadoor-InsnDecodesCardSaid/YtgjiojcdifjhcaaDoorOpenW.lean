/- How a list of words reads: as its cells. By an AI agent. -/
import Derived.Test.YtgjiojcdifjhcaaDoorRefuse
import Derived.ChangeSlices
import Derived.ChangeSame
import Derived.ProofKit
import Derived.OpenShut
set_option linter.unusedVariables false
set_option linter.unusedSimpArgs false
namespace Go.Proofs.YtgjiojcdifjhcaaDoor
open Go.ChangeShapes Go.WideShapes Go.RowKit
theorem cells40 : Tryd.prog.cellsOf 40 = 1 := by kernel_rfl
set_option maxRecDepth 100000 in
/-- A list of words that came in: empty, or its cells in a row. -/
theorem open_words {H : Type} {enc : TypeId × Value → H} {W : World} {base : Nat} {v : Value} {d : DataW H} {p : List MemPlace} (hv : Value.okWide Tryd.prog W .any base 38 v) (h : DataW.Trod enc Tryd.prog W 0 (fun _ => true) true 38 v d p) :
    (∃ a cap, v = .slice a 0 cap) ∨ ∃ b off len cap, ∃ X : Nat → Int, v = .slice (some ⟨b, off, none⟩) len cap ∧ len ≤ maxLen ∧ ∀ i, i < len → W.cell? ⟨b, off + i, none⟩ = some (.int .u32 (X i)) ∧ 0 ≤ X i ∧ X i < 4294967296 := by
  obtain ⟨a0, len, cap, rfl⟩ := okWide_slice Tryd.underlying38 hv
  obtain ⟨fuel, hf⟩ := h
  rcases open_ints Tryd.underlying38 Tryd.underlying40 cells40 hf with ⟨hcs, hx⟩ | ⟨a, len', cap', zs, hcs, _, hl, hm, hz, hx, hcell, hwz⟩
  · simp [Value.cells] at hcs
    obtain ⟨rfl, rfl, rfl⟩ := hcs
    exact Or.inl ⟨_, _, rfl⟩
  · simp [Value.cells] at hcs
    obtain ⟨rfl, rfl, rfl⟩ := hcs
    simp only [if_true] at hz
    by_cases h0 : len = 0
    · subst h0; exact Or.inl ⟨_, _, rfl⟩
    · obtain ⟨b, off, spot⟩ := a
      have hspot : spot = none := by simpa [Addr.add] using World.cell?_spot (hcell 0 (by omega))
      subst hspot
      have hadd : ∀ k, Addr.add ⟨b, off, none⟩ k = ⟨b, off + k, none⟩ := fun k => by
        unfold Addr.add; split
        · subst_vars; rfl
        · rfl
      refine Or.inr ⟨b, off, len, _, fun i => zs.getD i 0, rfl, Nat.le_trans hl hm, fun i hil => ?_⟩
      have hc := hcell i (by omega)
      rw [hadd] at hc
      have hmem : zs.getD i 0 ∈ zs := by
        rw [List.getD_eq_getElem?_getD, List.getElem?_eq_getElem (by omega : i < zs.length)]
        exact List.getElem_mem _
      have hw := bounds_u32 (hwz _ hmem)
      exact ⟨hc, hw.1, Int.lt_of_le_of_lt hw.2 (by decide)⟩
end Go.Proofs.YtgjiojcdifjhcaaDoor
