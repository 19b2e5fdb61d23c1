/- How a list of bytes that came in reads. By an AI agent. -/
import Derived.Test.YtdklggmeigogcaaDoorBytes
import Derived.Deep.Slices
import Derived.ChangeSame
import Derived.ChangeSlices
import Derived.Lib.SmallJoins
import Derived.ProofKit
set_option linter.unusedVariables false
set_option linter.unusedSimpArgs false
namespace Go.Proofs.YtdklggmeigogcaaDoor
open Go.Joins Go.ChangeShapes Go.WideShapes Go.RowKit Go.Deep
theorem cells_u8 : Tryd.prog.cellsOf 5 = 1 := by kernel_rfl
def byteAt (w : World) (a : Addr) : Nat := match w.cell? a with | some (.int .u8 n) => n.toNat | _ => 0
theorem wf_u8 (z : Int) : (Lit.int .u8 z).wf = true ↔ 0 ≤ z ∧ z < 256 := by
  have h1 : IntKind.u8.min = 0 := by decide
  have h2 : IntKind.u8.max = 255 := by decide
  simp [Lit.wf, h1, h2]
  omega
set_option maxRecDepth 100000 in
/-- A list of bytes that came in. -/
theorem open_bytes {H : Type} {enc : TypeId × Value → H} {W : World} {base : Nat} {v : Value} {d : DataW H} {p : List MemPlace} (hv : Value.okWide Tryd.prog W .any base 22 v) (h : DataW.Trod enc Tryd.prog W 0 (fun _ => true) true 22 v d p) :
    ∃ (A : Option Addr) (n c : Nat) (L : List Nat), v = .slice A n c ∧ n = L.length ∧ n ≤ maxLen ∧ (∀ i, L.getD i 0 < 256) ∧ Byt W W.heap.size A L := by
  obtain ⟨a0, len, cap, rfl⟩ := okWide_slice Tryd.underlying22 hv
  obtain ⟨fuel, hf⟩ := h
  rcases open_ints Tryd.underlying22 Tryd.underlying5 cells_u8 hf with ⟨hcs, hx⟩ | ⟨a, len', cap', zs, hcs, _, hl, hm, hzl, hx, hcell, hwf⟩
  · simp [Value.cells] at hcs
    obtain ⟨rfl, rfl, rfl⟩ := hcs
    exact ⟨none, 0, 0, [], rfl, rfl, Nat.zero_le _, by simp, Byt.nil _ _ _⟩
  · simp [Value.cells] at hcs
    obtain ⟨rfl, rfl, rfl⟩ := hcs
    simp only [if_true] at hzl
    have cell : ∀ i, i < len → ∃ z : Nat, W.cell? (a.add i) = some (.int .u8 (z : Int)) ∧ z < 256 := by
      intro i hil
      have hiz : i < zs.length := by omega
      have h1 := hcell i hiz
      have h2 := hwf (zs.getD i 0) (by simp [hiz])
      have hr : 0 ≤ zs.getD i 0 ∧ zs.getD i 0 < 256 := by
        have := (wf_u8 (zs.getD i 0)).1 h2
        exact this
      exact ⟨(zs.getD i 0).toNat, by rw [Int.toNat_of_nonneg hr.1]; exact h1, by omega⟩
    rcases Nat.eq_zero_or_pos len with h0 | h0
    · subst h0
      exact ⟨some a, 0, cap, [], rfl, rfl, Nat.zero_le _, by simp, Byt.nil _ _ _⟩
    · obtain ⟨b, off, spot⟩ := a
      have hspot : spot = none := by
        obtain ⟨z, hz, _⟩ := cell 0 h0
        simpa [Addr.add] using World.cell?_spot hz
      subst hspot
      have hadd : ∀ k, Addr.add ⟨b, off, none⟩ k = ⟨b, off + k, none⟩ := fun k => by
        unfold Addr.add; split
        · subst_vars; rfl
        · rfl
      have hat : ∀ i, i < len → W.cell? ⟨b, off + i, none⟩ = some (.int .u8 ((byteAt W ⟨b, off + i, none⟩ : Nat) : Int)) ∧ byteAt W ⟨b, off + i, none⟩ < 256 := by
        intro i hil
        obtain ⟨z, hz, hlt⟩ := cell i hil
        rw [hadd] at hz
        have e : byteAt W ⟨b, off + i, none⟩ = z := by simp [byteAt, hz]
        rw [e]; exact ⟨hz, hlt⟩
      refine ⟨some ⟨b, off, none⟩, len, cap, (List.range len).map (fun i => byteAt W ⟨b, off + i, none⟩), rfl, by simp, Nat.le_trans hl hm, fun i => ?_, fun _ => ⟨b, off, rfl, World.block_lt_of_cell? _ _ (hat 0 h0).1, fun i hil => ?_⟩⟩
      · by_cases hil : i < len
        · simpa [hil] using (hat i hil).2
        · simp [List.getElem?_eq_none (by simpa using Nat.le_of_not_lt hil : ((List.range len).map (fun i => byteAt W ⟨b, off + i, none⟩)).length ≤ i)]
      · simp only [List.length_map, List.length_range] at hil
        rw [(hat i hil).1]; simp [hil]
end Go.Proofs.YtdklggmeigogcaaDoor
