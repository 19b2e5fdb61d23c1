/- elf.Read's deferred closure. By an AI agent. -/
import Derived.Test.YtdklggmeigogcaaDoorRRead0
import Derived.Defers
import Derived.Recover
import Derived.Laws.Pointers
set_option linter.unusedVariables false
set_option linter.unusedSimpArgs false
namespace Go.Proofs.YtdklggmeigogcaaDoor
open Go.RowKit
theorem asRef (v : Value) (w : World) : (Instr.typeAssert (.iface 61 v) 20 61 true).run Tryd.prog w = .ok (.tuple #[v, .bool true]) w := by kernel_rfl
theorem eqNil (v : Value) (w : World) : (binOp BinOp.eql 20 (.iface 61 v) .nilIface).run Tryd.prog w = .ok (.bool false) w := by kernel_rfl
attribute [local go_sem] asRef eqNil
/-- The variables of the program's two results. -/
structure RE (w : World) (r : Nat) (e0 e1 : Value) : Prop where
  a0 : w.cell? ⟨r, 0, none⟩ = some e0
  a1 : w.cell? ⟨r, 1, none⟩ = some e1
  a2 : w.cell? ⟨r + 1, 0, none⟩ = some .nilIface
  f0 : w.frozen? ⟨r, 0, none⟩ = false
  f1 : w.frozen? ⟨r, 1, none⟩ = false
  f2 : w.frozen? ⟨r + 1, 0, none⟩ = false
  lt : r + 1 < w.heap.size
def Caught (r : Nat) (er : Value) (w : World) (w' : World) : Prop :=
  w'.cell? ⟨r, 0, none⟩ = some (.int .u64 0) ∧ w'.cell? ⟨r, 1, none⟩ = some (.slice none 0 0) ∧ w'.cell? ⟨r + 1, 0, none⟩ = some er ∧ Below r w w' ∧ (∀ b o, r + 1 < b → b < w.heap.size → w'.cell? ⟨b, o, none⟩ = w.cell? ⟨b, o, none⟩) ∧ w.heap.size ≤ w'.heap.size
theorem caught_of {w : World} {r : Nat} {er : Value} {e0 e1 : Value} (h : RE w r e0 e1) (o : Obj) : Caught r er w (((((w.setCell ⟨r, 0, none⟩ (.int .u64 0)).setCell ⟨r, 1, none⟩ (.slice none 0 0)).setCell ⟨r + 1, 0, none⟩ er).alloc o).drew) := by
  obtain ⟨a0, a1, a2, f0, f1, f2, lt⟩ := h
  have l0 : r < w.heap.size := by omega
  have l1 : r < w.heap.size + 1 := by omega
  have l2 : r + 1 < w.heap.size + 1 := by omega
  refine ⟨by simp [go_sem, a0, a1, a2, l0, lt], by simp [go_sem, a0, a1, a2, l0, lt], by simp [go_sem, a0, a1, a2, l0, lt], (((((Below.refl r w).setCell (Nat.le_refl _) _).setCell (Nat.le_refl _) _).setCell (Nat.le_succ _) _).alloc (by simp; omega) _).drew, fun b o h1 h2 => ?_, by simp⟩
  have n1 : ¬ b = r := by omega
  have n2 : ¬ b = r + 1 := by omega
  have n3 : ¬ r = b := by omega
  have n4 : ¬ r + 1 = b := by omega
  simp [go_sem, n1, n2, n3, n4, h2]
set_option maxRecDepth 100000 in
theorem catch_panicking (r ge : Nat) (e0 e1 : Value) (older : List PanicEntry) (w : World) (h : RE w r e0 e1) :
    CallsD Tryd.prog 27 #[.pointer (some ⟨r, 0, none⟩), .pointer (some ⟨r + 1, 0, none⟩)] (.panicking ({ v := .iface 61 (.agg #[.iface 96 (.pointer (some ⟨ge, 0, none⟩))]), recovered := false } :: older)) w fun e u' w' =>
      e = .returned (.tuple #[]) ∧ u' = .panicking ({ v := .iface 61 (.agg #[.iface 96 (.pointer (some ⟨ge, 0, none⟩))]), recovered := true } :: older) ∧ Caught r (.iface 96 (.pointer (some ⟨ge, 0, none⟩))) w w' := by
  have HR := Lib.hid h
  obtain ⟨a0, a1, a2, f0, f1, f2, lt⟩ := h
  have l0 : r < w.heap.size := by omega
  have l1 : r < w.heap.size + 1 := by omega
  have l2 : r + 1 < w.heap.size + 1 := by omega
  refine callsD_of_wpS Tryd.func27 rfl fun c₀ cs hu => ?_
  apply wpS_seq
  apply wpS_region
  simp [wpOpsS, go_sem, recoverD, hu, Tryd.ntmps27, Exit.thenS]
  refine wpS_of_wp ?_
  clear hu
  change Code.wp _ _ _ { tmps := #[.pointer (some ⟨r, 0, none⟩), .pointer (some ⟨r + 1, 0, none⟩), undef, undef, undef, .iface 61 (.agg #[.iface 96 (.pointer (some ⟨ge, 0, none⟩))]), undef, undef, undef, undef, undef, undef, undef, undef], defers := [] } w
  go_wp2_with fail
  go_region
  all_goals
    go_wp2_with fail
    simp only [bodyPostS, results, Tryd.results27]
    first | exact ⟨rfl, _, rfl, rfl, rfl, caught_of HR.out _⟩ | (simp; exact caught_of HR.out _)
set_option maxRecDepth 100000 in
theorem catch_idle (r : Nat) (w : World) :
    CallsD Tryd.prog 27 #[.pointer (some ⟨r, 0, none⟩), .pointer (some ⟨r + 1, 0, none⟩)] .returning w fun e u' w' => e = .returned (.tuple #[]) ∧ u' = .returning ∧ w' = w := by
  refine callsD_of_wpS Tryd.func27 rfl fun c₀ cs hu => ?_
  apply wpS_seq
  apply wpS_region
  simp [wpOpsS, go_sem, recoverD, hu, Tryd.ntmps27, Exit.thenS]
  refine wpS_of_wp ?_
  change Code.wp _ _ _ { tmps := #[.pointer (some ⟨r, 0, none⟩), .pointer (some ⟨r + 1, 0, none⟩), undef, undef, undef, .nilIface, undef, undef, undef, undef, undef, undef, undef, undef], defers := [] } w
  have hn : ∀ w : World, (binOp BinOp.eql 20 .nilIface .nilIface).run Tryd.prog w = .ok (.bool true) w := fun _ => by kernel_rfl
  cases c₀
  simp only at hu
  subst hu
  go_wp2_with fail
  simp only [bodyPostS, results, Tryd.results27]
  first | exact ⟨rfl, _, rfl, rfl, rfl, rfl⟩ | simp
end Go.Proofs.YtdklggmeigogcaaDoor
