/- insn's ops and ByName: the operations by name. By an AI agent. -/
import Derived.Test.YtgjiojcdifjhcaaDoorRefuse
import Derived.Carry
import Derived.Maps.Own
import Derived.Maps.OwnSet
import Derived.Maps.OwnOps
import Derived.Maps.Views
import Derived.StringKeys
set_option linter.unusedVariables false
set_option linter.unusedSimpArgs false
namespace Go.Proofs.YtgjiojcdifjhcaaDoor
open Go.RowKit Go.WideMaps Go.Maps
def NamesIn (w : World) : Prop := ∃ tt fr, w.heap[1]? = some (.cells nmCells tt fr)
theorem NamesIn.size {w : World} (h : NamesIn w) : 1 < w.heap.size := by
  obtain ⟨_, _, h⟩ := h
  rcases Nat.lt_or_ge 1 w.heap.size with e | e
  · exact e
  · simp [Array.getElem?_eq_none e] at h
theorem NamesIn.after {w w' : World} (h : NamesIn w) (hb : Below w.heap.size w w') : NamesIn w' := by
  have hz := h.size
  unfold NamesIn
  rw [hb.block 1 (by omega)]; exact h
theorem NamesIn.nm {w : World} (h : NamesIn w) (op : Nat) (ho : op < 77) : w.cell? ⟨1, op, none⟩ = some (.string (nm op)) := by
  obtain ⟨tt, fr, h⟩ := h
  simp [World.cell?, h, nmCells, ho]
theorem keyed9 : Keyed Tryd.prog 9 := string_keyed Tryd.underlying9
theorem zero3 (w : World) : (zeroValue 3).run Tryd.prog w = .ok (.int .i64 0) w := by kernel_rfl
def keyL (s : ByteArray) : Lit := .string s.data.toList
/-- The map behind k rounds. -/
def opMap : Nat → DataW Unit
  | 0 => .map []
  | k + 1 => (opMap k).put (keyL (nm (k + 1))) (.lit (.int .i64 ((k : Int) + 1)))
theorem nm_size : ∀ op, op < 77 → (nm op).size ≤ maxLen := fun op h => Nat.le_trans ((show ∀ op, op < 77 → (nm op).size ≤ 100 by decide) op h) (by decide)
theorem nm_inj : ∀ p, p < 77 → ∀ q, q < 77 → nmL.getD p #[] = nmL.getD q #[] → p = q := by decide +kernel
set_option maxRecDepth 100000 in
theorem ops_any (w : World) (hN : NamesIn w) : Calls Tryd.prog 31 #[] w fun e w' => e = .returned (.map (some w.heap.size)) ∧ w'.ownsMap Tryd.prog 9 (plainElem (H := Unit) Tryd.prog 3) w.heap.size 76 (opMap 76) ∧ Below w.heap.size w w' := by
  have hmm := @run_makeMap Tryd.prog
  have HN := Lib.hid hN
  clear hN
  go_enter Tryd.func31, Tryd.ntmps31
  go_wp2
  go_loopw [2] (fun i wr => ∃ k : Nat, k ≤ 76 ∧ i = .int .i64 ((k : Int) + 1) ∧ wr.ownsMap Tryd.prog 9 (plainElem (H := Unit) Tryd.prog 3) w.heap.size k (opMap k) ∧ Below w.heap.size w wr) (fun i _ => 77 - (intOf i).toNat)
  case atStart => exact ⟨0, Nat.zero_le _, rfl, World.ownsMap_made _ _ _ _, (Below.refl _ _).alloc (Nat.le_refl _) _⟩
  case round =>
    obtain ⟨k, hk, rfl, hown, hnx⟩ := hrel
    have hkey : k < 76 → keyOf Tryd.prog 9 (.string (nm (k + 1))) = some (keyL (nm (k + 1))) := fun h => keyOf_string_mk Tryd.underlying9 (nm_size (k + 1) (by omega))
    have HN1 := Lib.hid (HN.out.after hnx)
    have hz1 : 1 < wr.heap.size := HN1.out.size
    by_cases h : k < 76
    · have hkey2 := hkey h
      have c0 : wr.cell? ⟨1, k + 1, none⟩ = some (.string (nm (k + 1))) := HN1.out.nm (k + 1) (by omega)
      have e1 : (k : Int) < 76 := by omega
      clear hkey
      go_wp2_with (first
        | (at_mapUpdate; refine wpList_mapUpdate_own _ rfl _ _ _ 66 rfl 9 3 keyed9 Tryd.underlying66 _ w.heap.size k _ rfl hown (by unfold maxLen; omega) _ _ _ rfl rfl hkey2 _ [] (plainElem_int Tryd.underlying3 (WalkArith.wf_i64 (by omega))) ?_))
      intro w1 hown1 hgrow1
      have R2 := hnx.grown hgrow1 hnx.size (fun j hj => by cases hj; exact Nat.le_refl _)
      clear hown c0
      go_wp2
      go_roundw
      case rel => exact ⟨k + 1, by omega, by go_num, hown1, R2⟩
      case measure => simp [intOf]; omega
    · have : k = 76 := by omega
      subst this
      clear hkey
      go_wp2
      go_ret
      exact ⟨rfl, hown, hnx⟩
theorem keyL_inj {s t : ByteArray} (h : keyL s = keyL t) : s = t := by
  have h1 : s.data.toList = t.data.toList := by
    unfold keyL at h
    exact Lit.string.inj h
  have h2 : s.data = t.data := by
    cases hs : s.data; cases ht : t.data
    rw [hs, ht] at h1
    simpa using h1
  cases s; cases t; simp_all
theorem isKey (s : ByteArray) : WideAt.IsKeyLit (keyL s) := by unfold keyL; simp [WideAt.IsKeyLit]
theorem opMap_isMap : ∀ k, IsMap (opMap k)
  | 0 => isMap_empty
  | k + 1 => IsMap.put (opMap_isMap k) _ _
theorem opMap_hit (p : Nat) (p1 : 1 ≤ p) : ∀ k, k ≤ 76 → p ≤ k → has (opMap k) (keyL (nm p)) = true ∧ ∀ z, (opMap k).atKey (keyL (nm p)) z = .lit (.int .i64 p) := by
  intro k
  induction k with
  | zero => intro _ h; omega
  | succ k ih =>
    intro hk hp
    by_cases e : p = k + 1
    · subst e
      exact ⟨has_put_same (opMap_isMap k) (isKey _) _, fun z => by
        rw [opMap, atKey_put_same (opMap_isMap k) (isKey _)]; congr 1⟩
    · have hne : keyL (nm p) ≠ keyL (nm (k + 1)) := fun h => e (nm_inj p (by omega) (k + 1) (by omega) (by have := keyL_inj h; unfold nm at this; exact ByteArray.mk.inj this))
      obtain ⟨h1, h2⟩ := ih (by omega) (by omega)
      exact ⟨by rw [opMap, has_put_other hne]; exact h1, fun z => by rw [opMap, atKey_put_other hne]; exact h2 z⟩
theorem opMap_miss (s : ByteArray) : ∀ k, (∀ p, 1 ≤ p → p ≤ k → nm p ≠ s) → has (opMap k) (keyL s) = false ∧ ∀ z, (opMap k).atKey (keyL s) z = z := by
  intro k
  induction k with
  | zero => exact fun _ => ⟨rfl, fun z => rfl⟩
  | succ k ih =>
    intro h
    have hne : keyL s ≠ keyL (nm (k + 1)) := fun e => h (k + 1) (by omega) (by omega) (keyL_inj e).symm
    obtain ⟨h1, h2⟩ := ih fun p p1 p2 => h p p1 (by omega)
    exact ⟨by rw [opMap, has_put_other hne]; exact h1, fun z => by rw [opMap, atKey_put_other hne]; exact h2 z⟩
/-- What a name is: its operation, or none. -/
def NamePost (n : Int) (b : Bool) (w : World) (e : Ending) (w' : World) : Prop := e = .returned (.tuple #[.int .i64 n, .bool b]) ∧ Below w.heap.size w w'
set_option maxRecDepth 100000 in
theorem byname_of (s : ByteArray) (hs : s.size ≤ maxLen) (n : Int) (b : Bool) (h1 : has (opMap 76) (keyL s) = b) (h2 : (opMap 76).atKey (keyL s) (.lit (.int .i64 0)) = .lit (.int .i64 n)) (w : World) (hN : NamesIn w) : Calls Tryd.prog 16 #[.string s] w (NamePost n b w) := by
  have hkey := keyOf_string_mk Tryd.underlying9 hs
  have HO := Lib.hid (ops_any w hN)
  have HA := Lib.hid h1
  have HB := Lib.hid h2
  clear hN h1 h2
  go_enter Tryd.func16, Tryd.ntmps16
  go_wp2_with fail
  refine HO.out.mono ?_
  rintro e w1 ⟨rfl, hown, hb⟩
  go_wp2_with (first | (at_lookup; refine wpList_lookup_own_ok_int _ rfl _ _ 66 rfl 9 3 .i64 keyed9 Tryd.underlying66 Tryd.underlying3 (zero3 _) w.heap.size 76 (opMap 76) rfl hown _ _ rfl hkey ?_))
  intro c hat hwc
  have hcn : c = n := by
    have h : (DataW.lit (Lit.int .i64 c) : DataW Unit) = .lit (.int .i64 n) := by
      rw [← HB.out]; exact hat.symm
    injection h with h
    injection h
  subst hcn
  rw [show has (opMap 76) (Lit.string s.data.toList) = b from HA.out]
  clear hat hown hkey
  go_wp2_with fail
  go_ret2
  exact ⟨rfl, hb⟩
set_option maxRecDepth 100000 in
theorem byname_hit (op : Nat) (p1 : 1 ≤ op) (p2 : op < 77) (w : World) (hN : NamesIn w) : Calls Tryd.prog 16 #[.string (nm op)] w (NamePost op true w) := by
  obtain ⟨h1, h2⟩ := opMap_hit op p1 76 (by omega) (by omega)
  exact byname_of (nm op) (nm_size op p2) op true h1 (h2 _) w hN
set_option maxRecDepth 100000 in
theorem byname_miss (s : ByteArray) (hs : s.size ≤ maxLen) (h : ∀ p, 1 ≤ p → p < 77 → nm p ≠ s) (w : World) (hN : NamesIn w) : Calls Tryd.prog 16 #[.string s] w (NamePost 0 false w) := by
  obtain ⟨h1, h2⟩ := opMap_miss s 76 (fun p p1 p2 => h p p1 (by omega))
  exact byname_of s hs 0 false h1 (h2 _) w hN
end Go.Proofs.YtgjiojcdifjhcaaDoor
