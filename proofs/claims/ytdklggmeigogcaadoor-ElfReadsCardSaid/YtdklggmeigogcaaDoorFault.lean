import Derived.Test.YtdklggmeigogcaaDoorRows
import Derived.WalkKit
import Derived.WalkSpells
import Derived.Outline
import Derived.Below
import Derived.RegionTactic
import Derived.BigRegion
import Derived.Deep.QuietTactic
import Derived.BigQuiet
import Derived.RowKit3
import Derived.WalkSmall
import Derived.Deep.Draws
import Derived.Laws.EntriesVeiled
import Derived.Lib.Hide
import Derived.Laws.Shifts
import Derived.Laws.BitsLemmas
set_option linter.unusedVariables false
namespace Go.Proofs.YtdklggmeigogcaaDoor
open Go.RowKit

theorem asFF (v : Value) (w : World) : (Instr.typeAssert (.iface 96 v) 29 96 true).run Tryd.prog w = .ok (.tuple #[v, .bool true]) w := by kernel_rfl
theorem asEF (v : Value) (w : World) : (Instr.typeAssert (.iface 69 v) 29 96 true).run Tryd.prog w = .ok (.tuple #[.pointer none, .bool false]) w := by kernel_rfl
theorem asEE (v : Value) (w : World) : (Instr.typeAssert (.iface 69 v) 29 69 true).run Tryd.prog w = .ok (.tuple #[v, .bool true]) w := by kernel_rfl
theorem capLink : (281474976710656 < Builtin.nextslicecap 1 0 * Tryd.t100.bytes) = False := eq_false (by decide)
attribute [local go_sem] asFF asEF asEE capLink

theorem told_nil (w : World) :
    Calls Tryd.prog 40 #[.nilIface] w fun e w' => e = .returned (.tuple #[.agg #[.slice none 0 0, .int .i64 0], .bool true]) ∧ Below w.heap.size w w' := by
  go_enter Tryd.func40, Tryd.ntmps40
  go_wp2
  refine wp_loop_rounds 1 ?_
  rw [rounds_succ]
  go_wp2
  go_region
  go_wp2
  refine bodyPost_ret (v := .tuple #[.agg #[.slice none 0 0, .int .i64 0], .bool true]) (by simp [results, Tryd.results40, go_sem]) rfl ⟨rfl, ?_⟩
  exact (((Below.refl _ _).alloc (Nat.le_refl _) _).alloc (by simp) _).drew

def ToldP (s : ByteArray) (p c : Int) (w : World) (e : Ending) (w' : World) : Prop := ∃ g cap, e = .returned (.tuple #[.agg #[.slice (some ⟨g, 0, none⟩) 1 cap, .int .i64 c], .bool true]) ∧ w'.cell? ⟨g, 0, none⟩ = some (.string s) ∧ w'.cell? ⟨g, 1, none⟩ = some (.int .i64 p) ∧ w.heap.size ≤ g ∧ g < w'.heap.size ∧ Below w.heap.size w w'
set_option maxHeartbeats 800000 in
theorem told_fault (b o : Nat) (s : ByteArray) (p c : Int) (w : World) (h0 : w.cell? ⟨b, o, none⟩ = some (.string s)) (h1 : w.cell? ⟨b, o+1, none⟩ = some (.int .i64 p)) (h2 : w.cell? ⟨b, o+2, none⟩ = some (.iface 69 (.int .i64 c))) (hc : (c != 0) = true) :
    Calls Tryd.prog 40 #[.iface 96 (.pointer (some ⟨b, o, none⟩))] w (ToldP s p c w) := by
  have hb : b < w.heap.size := World.block_lt_of_cell? w _ h0
  have hb1 : b < w.heap.size + 1 := by omega
  have hb2 : b < w.heap.size + 1 + 1 := by omega
  have hb3 : b < w.heap.size + 1 + 1 + 1 := by omega
  go_enter Tryd.func40, Tryd.ntmps40
  go_wp2
  refine wp_loop_rounds 2 ?_
  rw [rounds_succ]
  go_wp2
  go_region
  go_wp2
  rw [rounds_succ]
  go_wp2
  go_region
  go_wp2
  simp [bodyPost, results, Tryd.results40, go_sem]
  refine ⟨w.heap.size + 1 + 1 + 1, _, rfl, ?_, ?_, by omega, ?_, ?_⟩
  · simp [go_sem, Array.getElem?_append]
  · simp [go_sem, Array.getElem?_append]
  · simp [go_sem]
  · exact ((((((Below.refl _ _).alloc (Nat.le_refl _) _).alloc (by simp) _).alloc (by simp; omega) _).alloc (by simp; omega) _).drew.drew.drew)

theorem same_none (w : World) :
    Calls Tryd.prog 41 #[.agg #[.slice none 0 0, .int .i64 0], .agg #[.slice none 0 0, .int .i64 0]] w fun e w' => e = .returned (.bool true) ∧ Below w.heap.size w w' := by
  go_enter Tryd.func41, Tryd.ntmps41
  go_wp2
  refine wp_loop_rounds 1 ?_
  rw [rounds_succ]
  go_wp2
  go_ret
  exact ⟨rfl, (((Below.refl _ _).alloc (Nat.le_refl _) _).alloc (by simp) _)⟩

theorem same_one (b b' n n' : Nat) (s : ByteArray) (p c : Int) (w : World) (h0 : w.cell? ⟨b, 0, none⟩ = some (.string s)) (h1 : w.cell? ⟨b, 1, none⟩ = some (.int .i64 p)) (h0' : w.cell? ⟨b', 0, none⟩ = some (.string s)) (h1' : w.cell? ⟨b', 1, none⟩ = some (.int .i64 p)) :
    Calls Tryd.prog 41 #[.agg #[.slice (some ⟨b, 0, none⟩) 1 n, .int .i64 c], .agg #[.slice (some ⟨b', 0, none⟩) 1 n', .int .i64 c]] w fun e w' => e = .returned (.bool true) ∧ Below w.heap.size w w' := by
  have hb : b < w.heap.size := World.block_lt_of_cell? w _ h0
  have hb1 : b < w.heap.size + 1 := by omega
  have hb' : b' < w.heap.size := World.block_lt_of_cell? w _ h0'
  have hb1' : b' < w.heap.size + 1 := by omega
  go_enter Tryd.func41, Tryd.ntmps41
  go_wp2
  refine wp_loop_rounds 2 ?_
  rw [rounds_succ]
  go_wp2
  go_quiet (fail)
  go_wp2
  rw [rounds_succ]
  go_wp2
  go_ret
  exact ⟨rfl, below_drewN (((Below.refl _ _).alloc (Nat.le_refl _) _).alloc (by simp) _) _⟩

theorem bcell {W w1 : World} (hb : Below W.heap.size W w1) : (∀ b o, b < W.heap.size → w1.cell? ⟨b, o, none⟩ = W.cell? ⟨b, o, none⟩) ∧ (∀ b o, b < W.heap.size → w1.frozen? ⟨b, o, none⟩ = W.frozen? ⟨b, o, none⟩) :=
  ⟨fun b o h => hb.cell (p := ⟨b, o, none⟩) h, fun b o h => hb.frozen (p := ⟨b, o, none⟩) h⟩

/-- 'Is' of no error and no fault. -/
theorem is_none (w : World) :
    Calls Tryd.prog 12 #[.nilIface, .agg #[.slice none 0 0, .int .i64 0]] w fun e w' => e = .returned (.bool true) ∧ Below w.heap.size w w' := by
  go_enter Tryd.func12, Tryd.ntmps12
  go_wp2_with fail
  refine (told_nil _).mono ?_
  rintro e w1 ⟨rfl, hb⟩
  obtain ⟨hc, hf⟩ := bcell hb
  have hz := hb.size
  simp only [World.size_alloc] at hc hf hz
  have hz' : w.heap.size < w1.heap.size := by omega
  go_wp2_with fail
  refine (same_none _).mono ?_
  rintro e w2 ⟨rfl, hb2⟩
  go_wp2_with fail
  go_ret
  have e1 := (((Below.refl w.heap.size w).alloc (Nat.le_refl _) _).trans (hb.mono (by simp)))
  exact ⟨rfl, (e1.alloc (by omega) _).trans (hb2.mono (by simp; omega))⟩

/-- 'Is' of a fault of one link and the same as plain data. -/
theorem is_fault (b o d n : Nat) (s : ByteArray) (p c : Int) (w : World) (h0 : w.cell? ⟨b, o, none⟩ = some (.string s)) (h1 : w.cell? ⟨b, o+1, none⟩ = some (.int .i64 p)) (h2 : w.cell? ⟨b, o+2, none⟩ = some (.iface 69 (.int .i64 c))) (hc : (c != 0) = true)
    (h3 : w.cell? ⟨d, 0, none⟩ = some (.string s)) (h4 : w.cell? ⟨d, 1, none⟩ = some (.int .i64 p)) :
    Calls Tryd.prog 12 #[.iface 96 (.pointer (some ⟨b, o, none⟩)), .agg #[.slice (some ⟨d, 0, none⟩) 1 n, .int .i64 c]] w fun e w' => e = .returned (.bool true) ∧ Below w.heap.size w w' := by
  have hb : b < w.heap.size := World.block_lt_of_cell? w _ h0
  have hd : d < w.heap.size := World.block_lt_of_cell? w _ h3
  go_enter Tryd.func12, Tryd.ntmps12
  go_wp2_with fail
  refine (told_fault b o s p c _ (by simp [go_sem, hb, h0]) (by simp [go_sem, hb, h1]) (by simp [go_sem, hb, h2]) hc).mono ?_
  rintro e w1 ⟨g, cap, rfl, g0, g1, g2, g3, hbel⟩
  obtain ⟨hcl, hf⟩ := bcell hbel
  have hz := hbel.size
  simp only [World.size_alloc] at hcl hf hz g2
  have hz' : w.heap.size < w1.heap.size := by omega
  go_wp2_with fail
  have hd1 : d < w1.heap.size := by omega
  refine (same_one d g n cap s p c _ (by simp [go_sem, hd1, hcl d 0 (by omega), hd, h3]) (by simp [go_sem, hd1, hcl d 1 (by omega), hd, h4]) (by simp [go_sem, g3, g0]) (by simp [go_sem, g3, g1])).mono ?_
  rintro e w2 ⟨rfl, hb2⟩
  go_wp2_with fail
  go_ret
  have e1 := (((Below.refl w.heap.size w).alloc (Nat.le_refl _) _).trans (hbel.mono (by simp)))
  exact ⟨rfl, (e1.alloc (by omega) _).trans (hb2.mono (by simp; omega))⟩

theorem none_any (w : World) :
    Calls Tryd.prog 54 #[] w fun e w' => e = .returned (.agg #[.slice none 0 0, .int .i64 0]) ∧ w' = w.alloc (.cells #[.slice none 0 0, .int .i64 0] 34) := by
  go_enter Tryd.func54, Tryd.ntmps54
  go_wp2
  refine bodyPost_ret (v := .agg #[.slice none 0 0, .int .i64 0]) (by simp [results, Tryd.results54, go_sem]) rfl ⟨rfl, rfl⟩

theorem new_any (s : ByteArray) (p c : Int) (w : World) :
    Calls Tryd.prog 53 #[.string s, .int .i64 p, .int .i64 c] w fun e w' => e = .returned (.agg #[.slice (some ⟨w.heap.size + 1, 0, none⟩) 1 1, .int .i64 c]) ∧ w' = (w.alloc (.cells #[.slice (some ⟨w.heap.size + 1, 0, none⟩) 1 1, .int .i64 c] 34)).alloc (.cells #[.string s, .int .i64 p] 100) := by
  go_enter Tryd.func53, Tryd.ntmps53
  go_wp2
  refine bodyPost_ret (v := .agg #[.slice (some ⟨w.heap.size + 1, 0, none⟩) 1 1, .int .i64 c]) (by simp [results, Tryd.results53, go_sem]) rfl ⟨rfl, rfl⟩

theorem ret_bool {x y : Bool} (h : x = y) : Ending.returned (.bool x) = .returned (.bool y) := by rw [h]
theorem ret_int {k : IntKind} {x y : Int} (h : x = y) : Ending.returned (.int k x) = .returned (.int k y) := by rw [h]

end Go.Proofs.YtdklggmeigogcaaDoor
