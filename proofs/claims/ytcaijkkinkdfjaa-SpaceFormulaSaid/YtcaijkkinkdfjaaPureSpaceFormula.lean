/- SpaceFormula: for every number of pages the program's count of nodes and the document's are the same (no condition). -/
import Derived.Test.YtcaijkkinkdfjaaPSpaceFormulax1
namespace Go.Proofs.Ytcaijkkinkdfjaa.Pure
open Go.RowKit Go.Proofs.Ytcaijkkinkdfjaa.PSpaceFormula Go.Proofs.YtcaijkkinkdfjaaW.PrintWords Go.Proofs.YtcaijkkinkdfjaaW.PrintLast

theorem SpaceFormula : hartixlaw8_SpaceFormula.Pure := by
  intro a0 _
  refine ⟨1, ?_⟩
  have e : ∀ b, space_Nodes.j0 1 a0 b = hartixref8_Nodes.j0 1 a0 b := fun b => rfl
  have s : ∀ b, ∃ r, hartixref8_Nodes.j0 1 a0 b = some r := by
    intro b
    simp only [hartixref8_Nodes.j0]
    split
    · exact ⟨_, rfl⟩
    · split
      · exact ⟨_, rfl⟩
      · exact ⟨_, rfl⟩
  unfold hartixlaw8_SpaceFormula.f space_Nodes.f hartixref8_Nodes.f
  by_cases h : a0 < 0
  · obtain ⟨r, hr⟩ := s true
    rw [if_pos h, if_pos h, e, hr]; simp
  · obtain ⟨r, hr⟩ := s (decide (a0 > 4096))
    rw [if_neg h, if_neg h, e, hr]; simp

end Go.Proofs.Ytcaijkkinkdfjaa.Pure
