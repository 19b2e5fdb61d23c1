/- InsnWords: the row and its tied card, off its contract. By an AI agent; written by wip/insnrow.py. -/
import Derived.Test.YtgjiojcdifjhcaaDoorCards
import Derived.Test.YtgjiojcdifjhcaaDoorTie
import Derived.Test.YtgjiojcdifjhcaaDoorRefBy
import Derived.Test.YtgjiojcdifjhcaaDoorOpen
import Derived.Test.YtgjiojcdifjhcaaDoorPlain
import Derived.WalkKit
import Derived.ProofKit
import Derived.OpenShut
import Derived.Deep.DeepHandedRow
import Derived.Lib.LaidTab
import Derived.Stop.LaidErr
import Derived.Carry
import Derived.Deep.Slices
import Derived.Deep.Fields
import Derived.ChangeSame
import Derived.Lib.SmallJoins
import Derived.ChangeMaps5
namespace Go.Proofs.YtgjiojcdifjhcaaDoor.insnWords
open Go.ChangeShapes Go.WideShapes Go.ChangeAt Go.RowKit Go.Deep
set_option linter.unusedVariables false
set_option linter.unusedSimpArgs false
theorem own : ownKnob Tryd.prog.godebug = none := by kernel_rfl
theorem laidOut : laidOutB Tryd.prog = true := by kernel_rfl
theorem g_regNames : Tryd.prog.globalNamed "hartix/insn.regNames" = some 2 := by kernel_rfl
theorem t_regNames : (Tryd.prog.globals[2]?).map (·.type) = some 63 := by kernel_rfl
theorem v_regNames : some (Plain.leaves (Rows.laid_hartix_insn_regNames (H := Unit))).toArray = some rgCells := by kernel_rfl
theorem g_shapes : Tryd.prog.globalNamed "hartix/insn.shapes" = some 0 := by kernel_rfl
theorem t_shapes : (Tryd.prog.globals[0]?).map (·.type) = some 57 := by kernel_rfl
theorem v_shapes : some (Plain.leaves (Rows.laid_hartix_insn_shapes (H := Unit))).toArray = some shCells := by kernel_rfl
theorem g_names : Tryd.prog.globalNamed "hartix/insn.names" = some 1 := by kernel_rfl
theorem t_names : (Tryd.prog.globals[1]?).map (·.type) = some 62 := by kernel_rfl
theorem v_names : some (Plain.leaves (Rows.laid_hartix_insn_names (H := Unit))).toArray = some nmCells := by kernel_rfl
theorem block {W : World} {g : Nat} {n : String} {cs : Array Value} (hg : Tryd.prog.globalNamed n = some g) (hv : W.var? Tryd.prog n = some cs) : ∃ tt fr, W.heap[g]? = some (.cells cs tt fr) := by
  simp only [World.var?, hg, Option.bind_some] at hv
  split at hv
  · rename_i c tt fr he
    obtain rfl := Option.some.inj hv
    exact ⟨tt, fr, he⟩
  · cases hv
/-- WHAT THE ROW's LIST GIVES: the tables' blocks. -/
theorem table {W : World} (h : laidMetH Tryd.prog Rows.insnWordsRow.laid W) : Tabs W := by
  have h0 : laidMet Tryd.prog (("hartix/insn.regNames", Rows.laid_hartix_insn_regNames) :: ("hartix/insn.shapes", Rows.laid_hartix_insn_shapes) :: ("hartix/insn.names", Rows.laid_hartix_insn_names) :: []) W := h
  have h1 := laidMet.tail h0
  have h2 := laidMet.tail h1
  exact ⟨block g_shapes ((Plain.var_of_head g_shapes t_shapes (m := 3) (by kernel_rfl) h1).trans v_shapes), block g_names ((Plain.var_of_head g_names t_names (m := 3) (by kernel_rfl) h2).trans v_names), block g_regNames ((Plain.var_of_head g_regNames t_regNames (m := 3) (by kernel_rfl) h0).trans v_regNames)⟩
set_option maxRecDepth 100000 in
theorem contract (H : Type) (enc : TypeId × Value → H) (W : World) (base : Nat) (args : Array Value) (ds gs : List (DataW H)) (before : List MemPlace)
    (hval : ∀ (j : Nat) t v, Tryd.f4.params[j]? = some t → args[j]? = some v → Value.okWide Tryd.prog W .any base t v)
    (hW : DataW.Whole enc Tryd.prog Tryd.f4.params.toList Rows.insnWordsSpec.vars false W args.toList ds gs before) (hL : laidMetH Tryd.prog Rows.insnWordsRow.laid W) :
    Calls Tryd.prog 4 args W fun e W' => ∃ v, e = .returned v ∧ Rows.insnWordsSpec.post enc Tryd.prog Tryd.f4 false true false false W args v W' := by
  have hW' := hW
  obtain ⟨p, q, hA0, hV, rfl, hfz, hnd⟩ := hW
  have hA : DataW.TrodAll enc Tryd.prog W 0 (fun _ => true) true Tryd.f4.params.toList args.toList ds p := hA0
  rw [Tryd.params4] at hA hval
  obtain ⟨v0, vs0, d0, ds0, p0, q0, hargs, rfl, rfl, h0, r0⟩ := trodAll_cons hA
  obtain ⟨v1, vs1, d1, ds1, p1, q1, rfl, rfl, rfl, h1, r1⟩ := trodAll_cons r0
  obtain ⟨v2, vs2, d2, ds2, p2, q2, rfl, rfl, rfl, h2, r2⟩ := trodAll_cons r1
  obtain ⟨rfl, rfl, rfl⟩ := trodAll_nil r2
  obtain rfl : args = #[v0, v1, v2] := by cases args; simp_all
  obtain ⟨rfl, rfl⟩ := trodVars_none hV
  clear hA0
  have hTab := table hL
  have lt0 : ∀ x ∈ p0, x.block < W.heap.size := fun x hx => by simpa using hW'.lt x (by simp [hx])
  have k0 : ∀ W' : World, Below W.heap.size W W' → DataW.Trod enc Tryd.prog W' 0 (fun b => decide (b < W.heap.size)) true 3 v0 d0 p0 := fun W' hn => Below.trod laidOut (by kernel_rfl) (of_decide_eq_true (by kernel_rfl)) h0 hn lt0
  have lt1 : ∀ x ∈ p1, x.block < W.heap.size := fun x hx => by simpa using hW'.lt x (by simp [hx])
  have k1 : ∀ W' : World, Below W.heap.size W W' → DataW.Trod enc Tryd.prog W' 0 (fun b => decide (b < W.heap.size)) true 9 v1 d1 p1 := fun W' hn => Below.trod laidOut (by kernel_rfl) (of_decide_eq_true (by kernel_rfl)) h1 hn lt1
  have lt2 : ∀ x ∈ p2, x.block < W.heap.size := fun x hx => by simpa using hW'.lt x (by simp [hx])
  have k2 : ∀ W' : World, Below W.heap.size W W' → DataW.Trod enc Tryd.prog W' 0 (fun b => decide (b < W.heap.size)) true 3 v2 d2 p2 := fun W' hn => Below.trod laidOut (by kernel_rfl) (of_decide_eq_true (by kernel_rfl)) h2 hn lt2
  have fin : Calls Tryd.prog 4 #[v0, v1, v2] W (TruePost W) → Calls Tryd.prog 4 #[v0, v1, v2] W fun e W' => ∃ v, e = .returned v ∧ Rows.insnWordsSpec.post enc Tryd.prog Tryd.f4 false true false false W #[v0, v1, v2] v W' := fun hc => by
    refine hc.mono fun e W' ⟨he, bel⟩ => ?_
    subst he
    exact ⟨_, rfl, _, _, _, [], _, [], hW', trodAll_mk1 (shut_bool Tryd.underlying4 _), (trodAll_cons_mk (k0 W' bel) (trodAll_cons_mk (k1 W' bel) (trodAll_cons_mk (k2 W' bel) trodAll_mk0))), rfl, bel.frame _, fun h => by cases h⟩
  refine fin ?_
  obtain ⟨x0, rfl, rfl, rfl, e0⟩ := open_int Tryd.underlying3 (hval 0 3 v0 rfl rfl) h0
  obtain ⟨x1, rfl, rfl, rfl, e1⟩ := Go.ChangeMaps.open_string Tryd.underlying9 (hval 1 9 v1 rfl rfl) h1
  obtain ⟨x2, rfl, rfl, rfl, e2⟩ := open_int Tryd.underlying3 (hval 2 3 v2 rfl rfl) h2
  exact law_words x0 x1 x2 e1 W hTab
def setTo (c : Array Value) : Obj → Obj
  | .cells _ t frozen => .cells c t frozen
  | o => o
/-- A WORLD FOR THE WITNESS: the settled one, the tables holding what their initialisers lay. -/
noncomputable def laidWorld (os : Os) : World :=
  { World.holding Tryd.prog os ⟨#[], #[], []⟩ with heap := ((((World.holding Tryd.prog os ⟨#[], #[], []⟩).heap.modify 2 (setTo rgCells)).modify 0 (setTo shCells)).modify 1 (setTo nmCells)) }
theorem laid_met (os : Os) : laidMet Tryd.prog Rows.insnWordsRow.laid ((laidWorld os).forCall (fun _ _ => 0) ⟨#[], #[Value.int .i64 0, Value.string ⟨#[]⟩, Value.int .i64 0], []⟩).memory :=
  laidMet_of_run' 8 (by kernel_rfl) (by kernel_rfl)
theorem reads (os : Os) {H : Type} (enc : TypeId × Value → H) : ∃ places, DataW.whole enc Tryd.prog ((laidWorld os).forCall (fun _ _ => 0) ⟨#[], #[Value.int .i64 0, Value.string ⟨#[]⟩, Value.int .i64 0], []⟩).memory Tryd.f4.params.toList Rows.insnWordsSpec.vars false (#[Value.int .i64 0, Value.string ⟨#[]⟩, Value.int .i64 0] : Array Value).toList 8 = some ([.lit (.int .i64 0), .lit (.string []), .lit (.int .i64 0)], [], places) :=
  ⟨[], by kernel_rfl⟩
set_option maxRecDepth 100000 in
theorem lifted (os : Os) (started : os.Started) (H : Type) (enc : TypeId × Value → H) (F : Stop.Interp) :
    ReturnsInHanded {} Tryd.checked os 4 .any ((OpenSpec.ofChange Rows.insnWordsSpec).preRow enc Tryd.prog Tryd.f4 Rows.insnWordsRow.domain false Rows.insnWordsRow.laid) (((OpenSpec.ofChange Rows.insnWordsSpec).at F).post enc Tryd.prog Tryd.f4 false true false false) := by
  obtain ⟨places, hx⟩ := reads os enc
  refine returnsInHanded_of_row (C := Tryd.checked) (s := OpenSpec.ofChange Rows.insnWordsSpec) own started (by kernel_rfl) Tryd.func4
    (witness_row_at (enc := enc) (C := Tryd.checked) false (laidWorld os) #[Value.int .i64 0, Value.string ⟨#[]⟩, Value.int .i64 0] rfl (by kernel_rfl) (by kernel_rfl) (by kernel_rfl)
      (OpenSpec.preRow_of_cond 8 hx (by kernel_rfl) (fun k hk => by cases hk) (by kernel_rfl) (laid_met os))) ?_
  intro W base args ds gs before hval hW _ _ _ hL _ _
  exact contract H enc W base args ds gs before hval hW hL
theorem said : Rows.InsnWordsSaid :=
  OpenClaim.holds_of_cond 4 Tryd.f4 rfl rfl rfl rfl rfl rfl rfl ⟨rfl, rfl, rfl, rfl, rfl⟩ rfl rfl rfl rfl rfl (by kernel_rfl) Tryd.func4 (by kernel_rfl)
    (of_decide_eq_true (by kernel_rfl)) (by unfold Func.isWrapper; first | (rw [if_pos (by decide +kernel)]; kernel_rfl) | (rw [if_neg (by decide +kernel)]; exact ⟨rfl, rfl⟩))
    (fun os started H enc _ F => by rw [OpenClaim.pre_eq_preRow]; exact lifted os started H enc F)
theorem plain (f : FuncId) (fn : Func) (hf : Tryd.pinned.checked.prog.funcNamed "hartix/hartixlaw1.InsnWords" = some f) (hfn : Tryd.pinned.checked.prog.funcs[f]? = some fn) :
    true = Tryd.pinned.checked.prog.looks [] ∧ ∀ (j : Nat) t, fn.params[j]? = some t → Tryd.pinned.checked.prog.wantsStandIn t = false := by
  obtain rfl : f = 4 := Option.some.inj ((show Tryd.prog.funcNamed "hartix/hartixlaw1.InsnWords" = some 4 by kernel_rfl).symm.trans hf) |>.symm
  obtain rfl : fn = Tryd.f4 := (Option.some.inj (Tryd.func4.symm.trans hfn)).symm
  refine ⟨by kernel_rfl, fun j t ht => ?_⟩
  rw [Tryd.params4] at ht
  have hm := Array.mem_of_getElem? ht
  have hc : t = 3 ∨ t = 9 ∨ t = 3 := by simpa using hm
  rcases hc with rfl | rfl | rfl
  · exact (show Tryd.prog.wantsStandIn 3 = false by kernel_rfl)
  · exact (show Tryd.prog.wantsStandIn 9 = false by kernel_rfl)
  · exact (show Tryd.prog.wantsStandIn 3 = false by kernel_rfl)
theorem card : Rows.InsnWordsCardSaid :=
  Claim7.holds_tied_plain_at .later [] _ _ _ _ said (fun _ h => by cases h) (by kernel_rfl) (fun _ h => by cases h) insnWords_row_tie rfl ⟨rfl, rfl⟩ (by kernel_rfl) rfl plain (by kernel_rfl)
end Go.Proofs.YtgjiojcdifjhcaaDoor.insnWords
namespace Go.Proofs.YtgjiojcdifjhcaaDoor
/-- The tied card, under a short name, for the claim. -/
theorem insnWords_card : Rows.InsnWordsCardSaid := insnWords.card
end Go.Proofs.YtgjiojcdifjhcaaDoor
