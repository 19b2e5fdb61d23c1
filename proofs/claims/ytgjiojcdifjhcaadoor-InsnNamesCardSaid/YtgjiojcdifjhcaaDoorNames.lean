/- InsnNames. By an AI agent. -/
import Derived.Test.YtgjiojcdifjhcaaDoorRow
set_option linter.unusedVariables false
set_option linter.unusedSimpArgs false
namespace Go.Proofs.YtgjiojcdifjhcaaDoor
open Go.RowKit
set_option maxHeartbeats 1000000 in
theorem law_names (w : World) (ht : Tabs w) : Calls Tryd.prog 3 #[] w fun e w' => e = .returned (.bool true) ∧ Below w.heap.size w w' := by
  have HT := Lib.hid ht
  clear ht
  go_enter Tryd.func3, Tryd.ntmps3
  go_wp2_with fail
  go_loopw [1] (fun i wr => ∃ k : Int, -1 ≤ k ∧ k ≤ 79 ∧ i = .int .i64 k ∧ Below w.heap.size w wr) (fun i _ => (79 - intOf i).toNat)
  case atStart => exact ⟨-1, by omega, by omega, rfl, Below.refl _ _⟩
  case round =>
    obtain ⟨k, h0, h1, rfl, hb⟩ := hrel
    have T1 := Lib.hid (HT.out.after hb)
    by_cases hk : k ≤ 78
    · go_wp2_with fail
      refine (shape_any k _ T1.out).mono ?_
      rintro e w1 ⟨rfl, rfl⟩
      go_wp2_with fail
      refine (refshape_any k _).mono ?_
      rintro e w2 ⟨rfl, k2⟩
      have T2 := Lib.hid (T1.out.after k2)
      go_wp2_with fail
      refine (name_any k _ T2.out).mono ?_
      rintro e w3 ⟨rfl, rfl⟩
      go_wp2_with fail
      refine (refname_any k _).mono ?_
      rintro e w4 ⟨rfl, k4⟩
      have T4 := Lib.hid (T2.out.after k4)
      go_wp2_with fail
      refine (regname_any k _ T4.out).mono ?_
      rintro e w5 ⟨rfl, rfl⟩
      go_wp2_with fail
      refine (refreg_any k _).mono ?_
      rintro e w6 ⟨rfl, k6⟩
      have hb6 := ((hb.trans (k2.mono hb.size)).trans (k4.mono (Nat.le_trans hb.size k2.size))).trans (k6.mono (Nat.le_trans (Nat.le_trans hb.size k2.size) k4.size))
      go_wp2_with fail
      go_roundw
      case rel => exact ⟨k + 1, by omega, by omega, by congr 1, hb6⟩
      case measure => simp [intOf]; omega
    · have hk' : ¬ k ≤ 78 := hk
      go_wp2
      go_ret
      exact ⟨rfl, hb⟩
end Go.Proofs.YtgjiojcdifjhcaaDoor
