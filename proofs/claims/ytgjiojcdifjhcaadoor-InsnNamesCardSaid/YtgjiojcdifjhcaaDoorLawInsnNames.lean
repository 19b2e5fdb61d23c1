/- InsnNames: the row and its tied card, off the contract law_names. By an AI agent. -/
import Derived.Test.YtgjiojcdifjhcaaDoorCards
import Derived.Test.YtgjiojcdifjhcaaDoorTie
import Derived.Test.YtgjiojcdifjhcaaDoorNames
import Derived.Test.YtgjiojcdifjhcaaDoorPlain
import Derived.WalkKit
import Derived.ProofKit
import Derived.OpenShut
import Derived.Deep.DeepHandedRow
import Derived.Lib.LaidTab
import Derived.Stop.LaidErr
namespace Go.Proofs.YtgjiojcdifjhcaaDoor.insnNames
open Go.ChangeShapes Go.WideShapes Go.ChangeAt Go.RowKit
set_option linter.unusedVariables false
set_option linter.unusedSimpArgs false
theorem own : ownKnob Tryd.prog.godebug = none := by kernel_rfl
theorem g0 : Tryd.prog.globalNamed "hartix/insn.shapes" = some 0 := by kernel_rfl
theorem g1 : Tryd.prog.globalNamed "hartix/insn.names" = some 1 := by kernel_rfl
theorem g2 : Tryd.prog.globalNamed "hartix/insn.regNames" = some 2 := by kernel_rfl
theorem t0 : (Tryd.prog.globals[0]?).map (·.type) = some 57 := by kernel_rfl
theorem t1 : (Tryd.prog.globals[1]?).map (·.type) = some 62 := by kernel_rfl
theorem t2 : (Tryd.prog.globals[2]?).map (·.type) = some 63 := by kernel_rfl
theorem block {W : World} {g : Nat} {n : String} {cs : Array Value} (hg : Tryd.prog.globalNamed n = some g) (hv : W.var? Tryd.prog n = some cs) : ∃ tt fr, W.heap[g]? = some (.cells cs tt fr) := by
  simp only [World.var?, hg, Option.bind_some] at hv
  split at hv
  · rename_i c tt fr he
    obtain rfl := Option.some.inj hv
    exact ⟨tt, fr, he⟩
  · cases hv
theorem v2 : some (Plain.leaves (Rows.laid_hartix_insn_regNames (H := Unit))).toArray = some rgCells := by kernel_rfl
theorem v0 : some (Plain.leaves (Rows.laid_hartix_insn_shapes (H := Unit))).toArray = some shCells := by kernel_rfl
theorem v1 : some (Plain.leaves (Rows.laid_hartix_insn_names (H := Unit))).toArray = some nmCells := by kernel_rfl
/-- WHAT THE ROW's LIST GIVES: the tables' blocks. -/
theorem table {W : World} (h : laidMetH Tryd.prog Rows.insnNamesRow.laid W) : Tabs W := by
  have h2 : laidMet Tryd.prog (("hartix/insn.regNames", Rows.laid_hartix_insn_regNames) :: [("hartix/insn.shapes", Rows.laid_hartix_insn_shapes), ("hartix/insn.names", Rows.laid_hartix_insn_names)]) W := h
  have h0 := laidMet.tail h2
  have h1 := laidMet.tail h0
  exact ⟨block g0 ((Plain.var_of_head g0 t0 (m := 3) (by kernel_rfl) h0).trans v0), block g1 ((Plain.var_of_head g1 t1 (m := 3) (by kernel_rfl) h1).trans v1), block g2 ((Plain.var_of_head g2 t2 (m := 3) (by kernel_rfl) h2).trans v2)⟩
theorem contract (H : Type) (enc : TypeId × Value → H) (W : World) (base : Nat) (args : Array Value) (ds gs : List (DataW H)) (before : List MemPlace)
    (hval : ∀ (j : Nat) t v, Tryd.f3.params[j]? = some t → args[j]? = some v → Value.okWide Tryd.prog W .any base t v)
    (hW : DataW.Whole enc Tryd.prog Tryd.f3.params.toList Rows.insnNamesSpec.vars false W args.toList ds gs before) (hL : laidMetH Tryd.prog Rows.insnNamesRow.laid W) :
    Calls Tryd.prog 3 args W fun e W' => ∃ v, e = .returned v ∧ Rows.insnNamesSpec.post enc Tryd.prog Tryd.f3 false true false false W args v W' := by
  have hW' := hW
  obtain ⟨p, q, hA0, hV, rfl, hfz, hnd⟩ := hW
  have hA : DataW.TrodAll enc Tryd.prog W 0 (fun _ => true) true Tryd.f3.params.toList args.toList ds p := hA0
  rw [Tryd.params3] at hA hval
  obtain ⟨hargs, rfl, rfl⟩ := trodAll_nil hA
  obtain rfl : args = #[] := by cases args; simp_all
  obtain ⟨rfl, rfl⟩ := trodVars_none hV
  clear hA0
  refine (law_names W (table hL)).mono fun e W' ⟨he, bel⟩ => ?_
  subst he
  exact ⟨_, rfl, _, _, _, [], _, [], hW', trodAll_mk1 (shut_bool Tryd.underlying4 _), trodAll_mk0, rfl, bel.frame _, fun h => by cases h⟩
def setTo (c : Array Value) : Obj → Obj
  | .cells _ t frozen => .cells c t frozen
  | o => o
/-- A WORLD FOR THE WITNESS: the settled one, the tables holding what their initialisers lay. -/
noncomputable def laidWorld (os : Os) : World :=
  { World.holding Tryd.prog os ⟨#[], #[], []⟩ with heap := (((World.holding Tryd.prog os ⟨#[], #[], []⟩).heap.modify 0 (setTo shCells)).modify 1 (setTo nmCells)).modify 2 (setTo rgCells) }
theorem laid_met (os : Os) : laidMet Tryd.prog Rows.insnNamesRow.laid ((laidWorld os).forCall (fun _ _ => 0) ⟨#[], #[], []⟩).memory :=
  laidMet_of_run' 8 (by kernel_rfl) (by kernel_rfl)
theorem reads (os : Os) {H : Type} (enc : TypeId × Value → H) : ∃ places, DataW.whole enc Tryd.prog ((laidWorld os).forCall (fun _ _ => 0) ⟨#[], #[], []⟩).memory Tryd.f3.params.toList Rows.insnNamesSpec.vars false (#[] : Array Value).toList 8 = some ([], [], places) :=
  ⟨[], by kernel_rfl⟩
set_option maxRecDepth 100000 in
theorem lifted (os : Os) (started : os.Started) (H : Type) (enc : TypeId × Value → H) (F : Stop.Interp) :
    ReturnsInHanded {} Tryd.checked os 3 .any ((OpenSpec.ofChange Rows.insnNamesSpec).preRow enc Tryd.prog Tryd.f3 Rows.insnNamesRow.domain false Rows.insnNamesRow.laid) (((OpenSpec.ofChange Rows.insnNamesSpec).at F).post enc Tryd.prog Tryd.f3 false true false false) := by
  obtain ⟨places, hx⟩ := reads os enc
  refine returnsInHanded_of_row (C := Tryd.checked) (s := OpenSpec.ofChange Rows.insnNamesSpec) own started (by kernel_rfl) Tryd.func3
    (witness_row_at (enc := enc) (C := Tryd.checked) false (laidWorld os) #[] rfl (by kernel_rfl) (by kernel_rfl) (by kernel_rfl)
      (OpenSpec.preRow_of_cond 8 hx (by kernel_rfl) (fun k hk => by cases hk) (by kernel_rfl) (laid_met os))) ?_
  intro W base args ds gs before hval hW _ _ _ hL _ _
  exact contract H enc W base args ds gs before hval hW hL
theorem said : Rows.InsnNamesSaid :=
  OpenClaim.holds_of_cond 3 Tryd.f3 rfl rfl rfl rfl rfl rfl rfl ⟨rfl, rfl, rfl, rfl, rfl⟩ rfl rfl rfl rfl rfl (by kernel_rfl) Tryd.func3 (by kernel_rfl)
    (of_decide_eq_true (by kernel_rfl)) (by unfold Func.isWrapper; first | (rw [if_pos (by decide +kernel)]; kernel_rfl) | (rw [if_neg (by decide +kernel)]; exact ⟨rfl, rfl⟩))
    (fun os started H enc _ F => by rw [OpenClaim.pre_eq_preRow]; exact lifted os started H enc F)
theorem plain (f : FuncId) (fn : Func) (hf : Tryd.pinned.checked.prog.funcNamed "hartix/hartixlaw1.InsnNames" = some f) (hfn : Tryd.pinned.checked.prog.funcs[f]? = some fn) :
    true = Tryd.pinned.checked.prog.looks [] ∧ ∀ (j : Nat) t, fn.params[j]? = some t → Tryd.pinned.checked.prog.wantsStandIn t = false := by
  obtain rfl : f = 3 := Option.some.inj ((show Tryd.prog.funcNamed "hartix/hartixlaw1.InsnNames" = some 3 by kernel_rfl).symm.trans hf) |>.symm
  obtain rfl : fn = Tryd.f3 := (Option.some.inj (Tryd.func3.symm.trans hfn)).symm
  refine ⟨by kernel_rfl, fun j t ht => ?_⟩
  rw [Tryd.params3] at ht
  simp at ht
theorem card : Rows.InsnNamesCardSaid :=
  Claim7.holds_tied_plain_at .later [] _ _ _ _ said (fun _ h => by cases h) (by kernel_rfl) (fun _ h => by cases h) insnNames_row_tie rfl ⟨rfl, rfl⟩ (by kernel_rfl) rfl plain (by kernel_rfl)
end Go.Proofs.YtgjiojcdifjhcaaDoor.insnNames
namespace Go.Proofs.YtgjiojcdifjhcaaDoor
/-- The tied card, under a short name, for the claim. -/
theorem insnNames_card : Rows.InsnNamesCardSaid := insnNames.card
end Go.Proofs.YtgjiojcdifjhcaaDoor
