/- InsnRegs: the row and its tied card, off its contract. By an AI agent; written by wip/insnrow.py. -/
import Derived.Test.YtgjiojcdifjhcaaDoorCards
import Derived.Test.YtgjiojcdifjhcaaDoorTie
import Derived.Test.YtgjiojcdifjhcaaDoorLRegs
import Derived.Test.YtgjiojcdifjhcaaDoorOpen
import Derived.Test.YtgjiojcdifjhcaaDoorPlain
import Derived.WalkKit
import Derived.ProofKit
import Derived.OpenShut
import Derived.Deep.DeepHandedRow
import Derived.Lib.LaidTab
import Derived.Stop.LaidErr
import Derived.Carry
import Derived.Deep.Slices
import Derived.Deep.Fields
import Derived.ChangeSame
import Derived.Lib.SmallJoins
import Derived.ChangeMaps5
namespace Go.Proofs.YtgjiojcdifjhcaaDoor.insnRegs
open Go.ChangeShapes Go.WideShapes Go.ChangeAt Go.RowKit Go.Deep
set_option linter.unusedVariables false
set_option linter.unusedSimpArgs false
theorem own : ownKnob Tryd.prog.godebug = none := by kernel_rfl
theorem laidOut : laidOutB Tryd.prog = true := by kernel_rfl
theorem g_words : Tryd.prog.globalNamed "hartix/insn.words" = some 3 := by kernel_rfl
theorem t_words : (Tryd.prog.globals[3]?).map (·.type) = some 83 := by kernel_rfl
theorem v_words : some (Plain.leaves (Rows.laid_hartix_insn_words (H := Unit))).toArray = some wordCells := by kernel_rfl
theorem g_shapes : Tryd.prog.globalNamed "hartix/insn.shapes" = some 0 := by kernel_rfl
theorem t_shapes : (Tryd.prog.globals[0]?).map (·.type) = some 57 := by kernel_rfl
theorem v_shapes : some (Plain.leaves (Rows.laid_hartix_insn_shapes (H := Unit))).toArray = some shCells := by kernel_rfl
theorem block {W : World} {g : Nat} {n : String} {cs : Array Value} (hg : Tryd.prog.globalNamed n = some g) (hv : W.var? Tryd.prog n = some cs) : ∃ tt fr, W.heap[g]? = some (.cells cs tt fr) := by
  simp only [World.var?, hg, Option.bind_some] at hv
  split at hv
  · rename_i c tt fr he
    obtain rfl := Option.some.inj hv
    exact ⟨tt, fr, he⟩
  · cases hv
/-- WHAT THE ROW's LIST GIVES: the tables' blocks. -/
theorem table {W : World} (h : laidMetH Tryd.prog Rows.insnRegsRow.laid W) : TabsW W := by
  have h0 : laidMet Tryd.prog (("hartix/insn.words", Rows.laid_hartix_insn_words) :: ("hartix/insn.shapes", Rows.laid_hartix_insn_shapes) :: []) W := h
  have h1 := laidMet.tail h0
  exact ⟨block g_shapes ((Plain.var_of_head g_shapes t_shapes (m := 3) (by kernel_rfl) h1).trans v_shapes), block g_words ((Plain.var_of_head g_words t_words (m := 3) (by kernel_rfl) h0).trans v_words)⟩
set_option maxRecDepth 100000 in
theorem contract (H : Type) (enc : TypeId × Value → H) (W : World) (base : Nat) (args : Array Value) (ds gs : List (DataW H)) (before : List MemPlace)
    (hval : ∀ (j : Nat) t v, Tryd.f8.params[j]? = some t → args[j]? = some v → Value.okWide Tryd.prog W .any base t v)
    (hW : DataW.Whole enc Tryd.prog Tryd.f8.params.toList Rows.insnRegsSpec.vars false W args.toList ds gs before) (hL : laidMetH Tryd.prog Rows.insnRegsRow.laid W) :
    Calls Tryd.prog 8 args W fun e W' => ∃ v, e = .returned v ∧ Rows.insnRegsSpec.post enc Tryd.prog Tryd.f8 false true false false W args v W' := by
  have hW' := hW
  obtain ⟨p, q, hA0, hV, rfl, hfz, hnd⟩ := hW
  have hA : DataW.TrodAll enc Tryd.prog W 0 (fun _ => true) true Tryd.f8.params.toList args.toList ds p := hA0
  rw [Tryd.params8] at hA hval
  obtain ⟨v0, vs0, d0, ds0, p0, q0, hargs, rfl, rfl, h0, r0⟩ := trodAll_cons hA
  obtain ⟨rfl, rfl, rfl⟩ := trodAll_nil r0
  obtain rfl : args = #[v0] := by cases args; simp_all
  obtain ⟨rfl, rfl⟩ := trodVars_none hV
  clear hA0
  have hTab := table hL
  have lt0 : ∀ x ∈ p0, x.block < W.heap.size := fun x hx => by simpa using hW'.lt x (by simp [hx])
  have k0 : ∀ W' : World, Below W.heap.size W W' → DataW.Trod enc Tryd.prog W' 0 (fun b => decide (b < W.heap.size)) true 42 v0 d0 p0 := fun W' hn => Below.trod laidOut (by kernel_rfl) (of_decide_eq_true (by kernel_rfl)) h0 hn lt0
  have fin : Calls Tryd.prog 8 #[v0] W (TruePost W) → Calls Tryd.prog 8 #[v0] W fun e W' => ∃ v, e = .returned v ∧ Rows.insnRegsSpec.post enc Tryd.prog Tryd.f8 false true false false W #[v0] v W' := fun hc => by
    refine hc.mono fun e W' ⟨he, bel⟩ => ?_
    subst he
    exact ⟨_, rfl, _, _, _, [], _, [], hW', trodAll_mk1 (shut_bool Tryd.underlying4 _), (trodAll_cons_mk (k0 W' bel) trodAll_mk0), rfl, bel.frame _, fun h => by cases h⟩
  refine fin ?_
  rcases open_insns (hval 0 42 v0 rfl rfl) h0 with ⟨a, cap, rfl⟩ | ⟨b, off, len, cap, X, rfl, hm, hr⟩
  · exact law_regs_nil a cap W
  · exact law_regs b off len cap X W hTab (by unfold maxLen at hm; exact hm) hr
def setTo (c : Array Value) : Obj → Obj
  | .cells _ t frozen => .cells c t frozen
  | o => o
/-- A WORLD FOR THE WITNESS: the settled one, the tables holding what their initialisers lay. -/
noncomputable def laidWorld (os : Os) : World :=
  { World.holding Tryd.prog os ⟨#[], #[], []⟩ with heap := (((World.holding Tryd.prog os ⟨#[], #[], []⟩).heap.modify 3 (setTo wordCells)).modify 0 (setTo shCells)) }
theorem laid_met (os : Os) : laidMet Tryd.prog Rows.insnRegsRow.laid ((laidWorld os).forCall (fun _ _ => 0) ⟨#[], #[Value.slice none 0 0], []⟩).memory :=
  laidMet_of_run' 8 (by kernel_rfl) (by kernel_rfl)
theorem reads (os : Os) {H : Type} (enc : TypeId × Value → H) : ∃ places, DataW.whole enc Tryd.prog ((laidWorld os).forCall (fun _ _ => 0) ⟨#[], #[Value.slice none 0 0], []⟩).memory Tryd.f8.params.toList Rows.insnRegsSpec.vars false (#[Value.slice none 0 0] : Array Value).toList 8 = some ([.nil], [], places) :=
  ⟨[], by kernel_rfl⟩
set_option maxRecDepth 100000 in
theorem lifted (os : Os) (started : os.Started) (H : Type) (enc : TypeId × Value → H) (F : Stop.Interp) :
    ReturnsInHanded {} Tryd.checked os 8 .any ((OpenSpec.ofChange Rows.insnRegsSpec).preRow enc Tryd.prog Tryd.f8 Rows.insnRegsRow.domain false Rows.insnRegsRow.laid) (((OpenSpec.ofChange Rows.insnRegsSpec).at F).post enc Tryd.prog Tryd.f8 false true false false) := by
  obtain ⟨places, hx⟩ := reads os enc
  refine returnsInHanded_of_row (C := Tryd.checked) (s := OpenSpec.ofChange Rows.insnRegsSpec) own started (by kernel_rfl) Tryd.func8
    (witness_row_at (enc := enc) (C := Tryd.checked) false (laidWorld os) #[Value.slice none 0 0] rfl (by kernel_rfl) (by kernel_rfl) (by kernel_rfl)
      (OpenSpec.preRow_of_cond 8 hx (by kernel_rfl) (fun k hk => by cases hk) (by kernel_rfl) (laid_met os))) ?_
  intro W base args ds gs before hval hW _ _ _ hL _ _
  exact contract H enc W base args ds gs before hval hW hL
theorem said : Rows.InsnRegsSaid :=
  OpenClaim.holds_of_cond 8 Tryd.f8 rfl rfl rfl rfl rfl rfl rfl ⟨rfl, rfl, rfl, rfl, rfl⟩ rfl rfl rfl rfl rfl (by kernel_rfl) Tryd.func8 (by kernel_rfl)
    (of_decide_eq_true (by kernel_rfl)) (by unfold Func.isWrapper; first | (rw [if_pos (by decide +kernel)]; kernel_rfl) | (rw [if_neg (by decide +kernel)]; exact ⟨rfl, rfl⟩))
    (fun os started H enc _ F => by rw [OpenClaim.pre_eq_preRow]; exact lifted os started H enc F)
theorem plain (f : FuncId) (fn : Func) (hf : Tryd.pinned.checked.prog.funcNamed "hartix/hartixlaw1.InsnRegs" = some f) (hfn : Tryd.pinned.checked.prog.funcs[f]? = some fn) :
    true = Tryd.pinned.checked.prog.looks [] ∧ ∀ (j : Nat) t, fn.params[j]? = some t → Tryd.pinned.checked.prog.wantsStandIn t = false := by
  obtain rfl : f = 8 := Option.some.inj ((show Tryd.prog.funcNamed "hartix/hartixlaw1.InsnRegs" = some 8 by kernel_rfl).symm.trans hf) |>.symm
  obtain rfl : fn = Tryd.f8 := (Option.some.inj (Tryd.func8.symm.trans hfn)).symm
  refine ⟨by kernel_rfl, fun j t ht => ?_⟩
  rw [Tryd.params8] at ht
  have hm := Array.mem_of_getElem? ht
  obtain rfl : t = 42 := by simpa using hm
  exact (show Tryd.prog.wantsStandIn 42 = false by kernel_rfl)
theorem card : Rows.InsnRegsCardSaid :=
  Claim7.holds_tied_plain_at .later [] _ _ _ _ said (fun _ h => by cases h) (by kernel_rfl) (fun _ h => by cases h) insnRegs_row_tie rfl ⟨rfl, rfl⟩ (by kernel_rfl) rfl plain (by kernel_rfl)
end Go.Proofs.YtgjiojcdifjhcaaDoor.insnRegs
namespace Go.Proofs.YtgjiojcdifjhcaaDoor
/-- The tied card, under a short name, for the claim. -/
theorem insnRegs_card : Rows.InsnRegsCardSaid := insnRegs.card
end Go.Proofs.YtgjiojcdifjhcaaDoor
