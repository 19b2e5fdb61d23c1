/- The law InsnEncodes: any list of numbers as instructions, each asked of the program and of the document. By an AI agent. -/
import Derived.Test.YtgjiojcdifjhcaaDoorEncode
import Derived.Test.YtgjiojcdifjhcaaDoorRefEncode
import Derived.Test.YtgjiojcdifjhcaaDoorTold
set_option linter.unusedVariables false
set_option linter.unusedSimpArgs false
namespace Go.Proofs.YtgjiojcdifjhcaaDoor
open Go.RowKit
/-- The cells of the instructions of a slice. -/
def RowsAt (w : World) (b off len : Nat) (X : Nat → Nat → Int) : Prop := ∀ i, i < len → ∀ j, j < 6 → w.cell? ⟨b, off + i * 6 + j, none⟩ = some (.int .i64 (X i j))
theorem RowsAt.after {w w' : World} {b off len : Nat} {X : Nat → Nat → Int} (h : RowsAt w b off len X) (hb : Below w.heap.size w w') : RowsAt w' b off len X := fun i hi j hj => by
  have hbl : b < w.heap.size := World.block_lt_of_cell? w _ (h i hi j hj)
  rw [(bcell hb).1 _ _ hbl]; exact h i hi j hj
theorem RowsAt.six {w : World} {b off len : Nat} {X : Nat → Nat → Int} (h : RowsAt w b off len X) (k : Nat) (hk : k < len) :
    w.cell? ⟨b, off + k * 6, none⟩ = some (.int .i64 (X k 0)) ∧ w.cell? ⟨b, off + k * 6 + 1, none⟩ = some (.int .i64 (X k 1)) ∧ w.cell? ⟨b, off + k * 6 + 2, none⟩ = some (.int .i64 (X k 2)) ∧ w.cell? ⟨b, off + k * 6 + 3, none⟩ = some (.int .i64 (X k 3)) ∧ w.cell? ⟨b, off + k * 6 + 4, none⟩ = some (.int .i64 (X k 4)) ∧ w.cell? ⟨b, off + k * 6 + 5, none⟩ = some (.int .i64 (X k 5)) ∧ b < w.heap.size :=
  ⟨h k hk 0 (by decide), h k hk 1 (by decide), h k hk 2 (by decide), h k hk 3 (by decide), h k hk 4 (by decide), h k hk 5 (by decide), World.block_lt_of_cell? w _ (h k hk 0 (by decide))⟩
theorem encR_barR (op rd r1 r2 imm csr : Int) : (encR op rd r1 r2 imm csr).2 = barR op rd r1 r2 imm csr := by
  rw [encR_bar]
def TruePost (w : World) (e : Ending) (w' : World) : Prop := e = .returned (.bool true) ∧ Below w.heap.size w w'
set_option maxRecDepth 100000 in
set_option maxHeartbeats 4000000 in
theorem law_encodes (b off len cap : Nat) (X : Nat → Nat → Int) (w : World) (ht : TabsW w) (hl : len ≤ 9223372036854775807) (hc : RowsAt w b off len X) :
    Calls Tryd.prog 6 #[.slice (some ⟨b, off, none⟩) len cap] w (TruePost w) := by
  have HT := Lib.hid ht
  have HC := Lib.hid hc
  clear ht hc
  go_enter Tryd.func6, Tryd.ntmps6
  go_wp2_with fail
  go_loopw [3] (fun i wr => ∃ k : Nat, k ≤ len ∧ k ≤ 400 ∧ i = .int .i64 k ∧ Below w.heap.size w wr) (fun i _ => 400 - (intOf i).toNat)
  case atStart => exact ⟨0, Nat.zero_le _, by omega, rfl, Below.refl _ _⟩
  case round =>
    obtain ⟨k, hk, hk4, rfl, hb⟩ := hrel
    have HB := Lib.hid hb
    have HT1 := Lib.hid (HT.out.after hb)
    have HC1 := Lib.hid (HC.out.after hb)
    clear hb
    by_cases h1 : k < len
    · by_cases h2 : k < 400
      · obtain ⟨q0, q1, q2, q3, q4, q5, q6⟩ := HC1.out.six k h1
        go_wp2_with fail
        refine (encode_any (X k 0) (X k 1) (X k 2) (X k 3) (X k 4) (X k 5) _ HT1.out).mono ?_
        rintro e w1 ⟨er, rfl, her, hb1⟩
        clear q0 q1 q2 q3 q4 q5 q6
        have HC2 := Lib.hid (HC1.out.after hb1)
        obtain ⟨q0, q1, q2, q3, q4, q5, q6⟩ := HC2.out.six k h1
        have HE := Lib.hid her
        have HB1 := Lib.hid hb1
        clear her hb1
        go_wp2_with fail
        refine (refencode_any (X k 0) (X k 1) (X k 2) (X k 3) (X k 4) (X k 5) _).mono ?_
        rintro e w2 ⟨rfl, hb2⟩
        clear q0 q1 q2 q3 q4 q5 q6
        have HC3 := Lib.hid (HC2.out.after hb2)
        obtain ⟨q0, q1, q2, q3, q4, q5, q6⟩ := HC3.out.six k h1
        have HE2 := Lib.hid (HE.out.after hb2)
        have HB2 := Lib.hid (HB1.out.trans (hb2.mono HB1.out.size))
        clear hb2
        go_wp2_with fail
        refine (refrefuse_any (X k 0) (X k 1) (X k 2) (X k 3) (X k 4) (X k 5) _).mono ?_
        rintro e w3 ⟨rfl, hb3⟩
        clear q0 q1 q2 q3 q4 q5 q6
        rw [← encR_barR]
        have HE3 := Lib.hid (HE2.out.after hb3)
        have HB3 := Lib.hid (HB2.out.trans (hb3.mono HB2.out.size))
        clear hb3 HE HE2 HB1 HB2
        go_wp2_with fail
        refine (fault_any _ _ _).mono ?_
        rintro e w4 ⟨fv, rfl, hfv, hb4⟩
        have HF := Lib.hid hfv
        have HE4 := Lib.hid (HE3.out.after hb4)
        have HB4 := Lib.hid (HB3.out.trans (hb4.mono HB3.out.size))
        clear hfv hb4
        go_wp2_with fail
        refine (is_true HE4.out HF.out).mono ?_
        rintro e w5 ⟨rfl, hb5⟩
        have HB5 := Lib.hid (HB4.out.trans (hb5.mono HB4.out.size))
        clear hb5
        go_wp2_with fail
        go_roundw
        case rel => exact ⟨k + 1, by omega, by omega, by go_num, HB.out.trans (HB5.out.mono HB.out.size)⟩
        case measure => simp [intOf]; omega
      · have h3 : k = 400 := by omega
        go_wp2_with fail
        go_ret
        exact ⟨rfl, HB.out⟩
    · have h3 : k = len := by omega
      go_wp2_with fail
      go_ret
      exact ⟨rfl, HB.out⟩
theorem law_encodes_nil (a : Option Addr) (cap : Nat) (w : World) : Calls Tryd.prog 6 #[.slice a 0 cap] w (TruePost w) := by
  go_enter Tryd.func6, Tryd.ntmps6
  go_wp2_with fail
  refine wp_loop_rounds 1 ?_
  rw [rounds_succ]
  go_wp2_with fail
  go_ret
  exact ⟨rfl, Below.refl _ _⟩
end Go.Proofs.YtgjiojcdifjhcaaDoor
