/- ElfReads: the row and its tied card, off its contract. By an AI agent; written by wip/elfrow.py. -/
import Derived.Test.YtdklggmeigogcaaDoorCards
import Derived.Test.YtdklggmeigogcaaDoorTie
import Derived.Test.YtdklggmeigogcaaDoorOpen
import Derived.Test.YtdklggmeigogcaaDoorLReads
import Derived.Test.YtdklggmeigogcaaDoorPlain
import Derived.WalkKit
import Derived.ProofKit
import Derived.OpenShut
import Derived.Deep.DeepHandedRow
import Derived.Lib.LaidTab
import Derived.Stop.LaidErr
import Derived.Carry
import Derived.Deep.Slices
import Derived.Deep.Fields
import Derived.ChangeSame
import Derived.Lib.SmallJoins
import Derived.ChangeMaps5
namespace Go.Proofs.YtdklggmeigogcaaDoor.elfReads
open Go.ChangeShapes Go.WideShapes Go.ChangeAt Go.RowKit Go.Deep
set_option linter.unusedVariables false
set_option linter.unusedSimpArgs false
theorem own : ownKnob Tryd.prog.godebug = none := by kernel_rfl
theorem laidOut : laidOutB Tryd.prog = true := by kernel_rfl
theorem g_fixed : Tryd.prog.globalNamed "hartix/elf.fixed" = some 3 := by kernel_rfl
theorem t_fixed : (Tryd.prog.globals[3]?).map (·.type) = some 83 := by kernel_rfl
theorem v_fixed : some (Plain.leaves (Rows.laid_hartix_elf_fixed (H := Unit))).toArray = some fixCells := by kernel_rfl
theorem g_entryAt : Tryd.prog.globalNamed "hartix/elf.entryAt" = some 2 := by kernel_rfl
theorem t_entryAt : (Tryd.prog.globals[2]?).map (·.type) = some 65 := by kernel_rfl
theorem v_entryAt : some (Plain.leaves (Rows.laid_hartix_elf_entryAt (H := Unit))).toArray = some (#[.int .i64 24, .int .i64 8, .int .u64 0] : Array Value) := by kernel_rfl
theorem g_headsAt : Tryd.prog.globalNamed "hartix/elf.headsAt" = some 4 := by kernel_rfl
theorem t_headsAt : (Tryd.prog.globals[4]?).map (·.type) = some 65 := by kernel_rfl
theorem v_headsAt : some (Plain.leaves (Rows.laid_hartix_elf_headsAt (H := Unit))).toArray = some (#[.int .i64 32, .int .i64 8, .int .u64 0] : Array Value) := by kernel_rfl
theorem g_countAt : Tryd.prog.globalNamed "hartix/elf.countAt" = some 1 := by kernel_rfl
theorem t_countAt : (Tryd.prog.globals[1]?).map (·.type) = some 65 := by kernel_rfl
theorem v_countAt : some (Plain.leaves (Rows.laid_hartix_elf_countAt (H := Unit))).toArray = some (#[.int .i64 56, .int .i64 2, .int .u64 0] : Array Value) := by kernel_rfl
theorem g_typeAt : Tryd.prog.globalNamed "hartix/elf.typeAt" = some 0 := by kernel_rfl
theorem t_typeAt : (Tryd.prog.globals[0]?).map (·.type) = some 65 := by kernel_rfl
theorem v_typeAt : some (Plain.leaves (Rows.laid_hartix_elf_typeAt (H := Unit))).toArray = some (#[.int .i64 0, .int .i64 4, .int .u64 0] : Array Value) := by kernel_rfl
theorem g_flagsAt : Tryd.prog.globalNamed "hartix/elf.flagsAt" = some 5 := by kernel_rfl
theorem t_flagsAt : (Tryd.prog.globals[5]?).map (·.type) = some 65 := by kernel_rfl
theorem v_flagsAt : some (Plain.leaves (Rows.laid_hartix_elf_flagsAt (H := Unit))).toArray = some (#[.int .i64 4, .int .i64 4, .int .u64 0] : Array Value) := by kernel_rfl
theorem g_fileAt : Tryd.prog.globalNamed "hartix/elf.fileAt" = some 6 := by kernel_rfl
theorem t_fileAt : (Tryd.prog.globals[6]?).map (·.type) = some 65 := by kernel_rfl
theorem v_fileAt : some (Plain.leaves (Rows.laid_hartix_elf_fileAt (H := Unit))).toArray = some (#[.int .i64 8, .int .i64 8, .int .u64 0] : Array Value) := by kernel_rfl
theorem g_vaAt : Tryd.prog.globalNamed "hartix/elf.vaAt" = some 7 := by kernel_rfl
theorem t_vaAt : (Tryd.prog.globals[7]?).map (·.type) = some 65 := by kernel_rfl
theorem v_vaAt : some (Plain.leaves (Rows.laid_hartix_elf_vaAt (H := Unit))).toArray = some (#[.int .i64 16, .int .i64 8, .int .u64 0] : Array Value) := by kernel_rfl
theorem g_sizeAt : Tryd.prog.globalNamed "hartix/elf.sizeAt" = some 9 := by kernel_rfl
theorem t_sizeAt : (Tryd.prog.globals[9]?).map (·.type) = some 65 := by kernel_rfl
theorem v_sizeAt : some (Plain.leaves (Rows.laid_hartix_elf_sizeAt (H := Unit))).toArray = some (#[.int .i64 32, .int .i64 8, .int .u64 0] : Array Value) := by kernel_rfl
theorem g_memAt : Tryd.prog.globalNamed "hartix/elf.memAt" = some 10 := by kernel_rfl
theorem t_memAt : (Tryd.prog.globals[10]?).map (·.type) = some 65 := by kernel_rfl
theorem v_memAt : some (Plain.leaves (Rows.laid_hartix_elf_memAt (H := Unit))).toArray = some (#[.int .i64 40, .int .i64 8, .int .u64 0] : Array Value) := by kernel_rfl
theorem block {W : World} {g : Nat} {n : String} {cs : Array Value} (hg : Tryd.prog.globalNamed n = some g) (hv : W.var? Tryd.prog n = some cs) : ∃ tt fr, W.heap[g]? = some (.cells cs tt fr) := by
  simp only [World.var?, hg, Option.bind_some] at hv
  split at hv
  · rename_i c tt fr he
    obtain rfl := Option.some.inj hv
    exact ⟨tt, fr, he⟩
  · cases hv
/-- WHAT THE ROW's LIST GIVES: the tables' blocks. -/
theorem table {W : World} (h : laidMetH Tryd.prog Rows.elfReadsRow.laid W) : TabR W := by
  have h0 : laidMet Tryd.prog (("hartix/elf.fixed", Rows.laid_hartix_elf_fixed) :: ("hartix/elf.entryAt", Rows.laid_hartix_elf_entryAt) :: ("hartix/elf.headsAt", Rows.laid_hartix_elf_headsAt) :: ("hartix/elf.countAt", Rows.laid_hartix_elf_countAt) :: ("hartix/elf.typeAt", Rows.laid_hartix_elf_typeAt) :: ("hartix/elf.flagsAt", Rows.laid_hartix_elf_flagsAt) :: ("hartix/elf.fileAt", Rows.laid_hartix_elf_fileAt) :: ("hartix/elf.vaAt", Rows.laid_hartix_elf_vaAt) :: ("hartix/elf.sizeAt", Rows.laid_hartix_elf_sizeAt) :: ("hartix/elf.memAt", Rows.laid_hartix_elf_memAt) :: []) W := h
  have h1 := laidMet.tail h0
  have h2 := laidMet.tail h1
  have h3 := laidMet.tail h2
  have h4 := laidMet.tail h3
  have h5 := laidMet.tail h4
  have h6 := laidMet.tail h5
  have h7 := laidMet.tail h6
  have h8 := laidMet.tail h7
  have h9 := laidMet.tail h8
  exact ⟨block g_fixed ((Plain.var_of_head g_fixed t_fixed (m := 3) (by kernel_rfl) h0).trans v_fixed), block g_entryAt ((Plain.var_of_head g_entryAt t_entryAt (m := 3) (by kernel_rfl) h1).trans v_entryAt), block g_headsAt ((Plain.var_of_head g_headsAt t_headsAt (m := 3) (by kernel_rfl) h2).trans v_headsAt), block g_countAt ((Plain.var_of_head g_countAt t_countAt (m := 3) (by kernel_rfl) h3).trans v_countAt), block g_typeAt ((Plain.var_of_head g_typeAt t_typeAt (m := 3) (by kernel_rfl) h4).trans v_typeAt), block g_flagsAt ((Plain.var_of_head g_flagsAt t_flagsAt (m := 3) (by kernel_rfl) h5).trans v_flagsAt), block g_fileAt ((Plain.var_of_head g_fileAt t_fileAt (m := 3) (by kernel_rfl) h6).trans v_fileAt), block g_vaAt ((Plain.var_of_head g_vaAt t_vaAt (m := 3) (by kernel_rfl) h7).trans v_vaAt), block g_sizeAt ((Plain.var_of_head g_sizeAt t_sizeAt (m := 3) (by kernel_rfl) h8).trans v_sizeAt), block g_memAt ((Plain.var_of_head g_memAt t_memAt (m := 3) (by kernel_rfl) h9).trans v_memAt)⟩
set_option maxRecDepth 100000 in
theorem contract (H : Type) (enc : TypeId × Value → H) (W : World) (base : Nat) (args : Array Value) (ds gs : List (DataW H)) (before : List MemPlace)
    (hval : ∀ (j : Nat) t v, Tryd.f3.params[j]? = some t → args[j]? = some v → Value.okWide Tryd.prog W .any base t v)
    (hW : DataW.Whole enc Tryd.prog Tryd.f3.params.toList Rows.elfReadsSpec.vars false W args.toList ds gs before) (hL : laidMetH Tryd.prog Rows.elfReadsRow.laid W) :
    Calls Tryd.prog 3 args W fun e W' => ∃ v, e = .returned v ∧ Rows.elfReadsSpec.post enc Tryd.prog Tryd.f3 false true false false W args v W' := by
  have hW' := hW
  obtain ⟨p, q, hA0, hV, rfl, hfz, hnd⟩ := hW
  have hA : DataW.TrodAll enc Tryd.prog W 0 (fun _ => true) true Tryd.f3.params.toList args.toList ds p := hA0
  rw [Tryd.params3] at hA hval
  obtain ⟨v0, vs0, d0, ds0, p0, q0, hargs, rfl, rfl, h0, r0⟩ := trodAll_cons hA
  obtain ⟨rfl, rfl, rfl⟩ := trodAll_nil r0
  obtain rfl : args = #[v0] := by cases args; simp_all
  obtain ⟨rfl, rfl⟩ := trodVars_none hV
  clear hA0
  have hTab := table hL
  have lt0 : ∀ x ∈ p0, x.block < W.heap.size := fun x hx => by simpa using hW'.lt x (by simp [hx])
  have k0 : ∀ W' : World, Below W.heap.size W W' → DataW.Trod enc Tryd.prog W' 0 (fun b => decide (b < W.heap.size)) true 22 v0 d0 p0 := fun W' hn => Below.trod laidOut (by kernel_rfl) (of_decide_eq_true (by kernel_rfl)) h0 hn lt0
  have fin : Calls Tryd.prog 3 #[v0] W (TruePost W) → Calls Tryd.prog 3 #[v0] W fun e W' => ∃ v, e = .returned v ∧ Rows.elfReadsSpec.post enc Tryd.prog Tryd.f3 false true false false W #[v0] v W' := fun hc => by
    refine hc.mono fun e W' ⟨he, bel⟩ => ?_
    subst he
    exact ⟨_, rfl, _, _, _, [], _, [], hW', trodAll_mk1 (shut_bool Tryd.underlying4 _), (trodAll_cons_mk (k0 W' bel) trodAll_mk0), rfl, bel.frame _, fun h => by cases h⟩
  refine fin ?_
  obtain ⟨A, n, c, L, rfl, hn, hm, hL, hB⟩ := open_bytes (hval 0 _ v0 rfl rfl) h0
  exact law_reads A n c L W hn hm hL hTab hB
def setTo (c : Array Value) : Obj → Obj
  | .cells _ t frozen => .cells c t frozen
  | o => o
/-- A WORLD FOR THE WITNESS: the settled one, the tables holding what their initialisers lay. -/
noncomputable def laidWorld (os : Os) : World :=
  { World.holding Tryd.prog os ⟨#[], #[], []⟩ with heap := (((((((((((World.holding Tryd.prog os ⟨#[], #[], []⟩).heap.modify 3 (setTo fixCells)).modify 2 (setTo (#[.int .i64 24, .int .i64 8, .int .u64 0] : Array Value))).modify 4 (setTo (#[.int .i64 32, .int .i64 8, .int .u64 0] : Array Value))).modify 1 (setTo (#[.int .i64 56, .int .i64 2, .int .u64 0] : Array Value))).modify 0 (setTo (#[.int .i64 0, .int .i64 4, .int .u64 0] : Array Value))).modify 5 (setTo (#[.int .i64 4, .int .i64 4, .int .u64 0] : Array Value))).modify 6 (setTo (#[.int .i64 8, .int .i64 8, .int .u64 0] : Array Value))).modify 7 (setTo (#[.int .i64 16, .int .i64 8, .int .u64 0] : Array Value))).modify 9 (setTo (#[.int .i64 32, .int .i64 8, .int .u64 0] : Array Value))).modify 10 (setTo (#[.int .i64 40, .int .i64 8, .int .u64 0] : Array Value))) }
theorem laid_met (os : Os) : laidMet Tryd.prog Rows.elfReadsRow.laid ((laidWorld os).forCall (fun _ _ => 0) ⟨#[], #[Value.slice none 0 0], []⟩).memory :=
  laidMet_of_run' 8 (by kernel_rfl) (by kernel_rfl)
theorem reads (os : Os) {H : Type} (enc : TypeId × Value → H) : ∃ places, DataW.whole enc Tryd.prog ((laidWorld os).forCall (fun _ _ => 0) ⟨#[], #[Value.slice none 0 0], []⟩).memory Tryd.f3.params.toList Rows.elfReadsSpec.vars false (#[Value.slice none 0 0] : Array Value).toList 8 = some ([.nil], [], places) :=
  ⟨[], by kernel_rfl⟩
set_option maxRecDepth 100000 in
theorem lifted (os : Os) (started : os.Started) (H : Type) (enc : TypeId × Value → H) (F : Stop.Interp) :
    ReturnsInHanded {} Tryd.checked os 3 .any ((OpenSpec.ofChange Rows.elfReadsSpec).preRow enc Tryd.prog Tryd.f3 Rows.elfReadsRow.domain false Rows.elfReadsRow.laid) (((OpenSpec.ofChange Rows.elfReadsSpec).at F).post enc Tryd.prog Tryd.f3 false true false false) := by
  obtain ⟨places, hx⟩ := reads os enc
  refine returnsInHanded_of_row (C := Tryd.checked) (s := OpenSpec.ofChange Rows.elfReadsSpec) own started (by kernel_rfl) Tryd.func3
    (witness_row_at (enc := enc) (C := Tryd.checked) false (laidWorld os) #[Value.slice none 0 0] rfl (by kernel_rfl) (by kernel_rfl) (by kernel_rfl)
      (OpenSpec.preRow_of_cond 8 hx (by kernel_rfl) (fun k hk => by cases hk) (by kernel_rfl) (laid_met os))) ?_
  intro W base args ds gs before hval hW _ _ _ hL _ _
  exact contract H enc W base args ds gs before hval hW hL
theorem said : Rows.ElfReadsSaid :=
  OpenClaim.holds_of_cond 3 Tryd.f3 rfl rfl rfl rfl rfl rfl rfl ⟨rfl, rfl, rfl, rfl, rfl⟩ rfl rfl rfl rfl rfl (by kernel_rfl) Tryd.func3 (by kernel_rfl)
    (of_decide_eq_true (by kernel_rfl)) (by unfold Func.isWrapper; first | (rw [if_pos (by decide +kernel)]; kernel_rfl) | (rw [if_neg (by decide +kernel)]; exact ⟨rfl, rfl⟩))
    (fun os started H enc _ F => by rw [OpenClaim.pre_eq_preRow]; exact lifted os started H enc F)
theorem plain (f : FuncId) (fn : Func) (hf : Tryd.pinned.checked.prog.funcNamed "hartix/hartixlaw7.ElfReads" = some f) (hfn : Tryd.pinned.checked.prog.funcs[f]? = some fn) :
    true = Tryd.pinned.checked.prog.looks [] ∧ ∀ (j : Nat) t, fn.params[j]? = some t → Tryd.pinned.checked.prog.wantsStandIn t = false := by
  obtain rfl : f = 3 := Option.some.inj ((show Tryd.prog.funcNamed "hartix/hartixlaw7.ElfReads" = some 3 by kernel_rfl).symm.trans hf) |>.symm
  obtain rfl : fn = Tryd.f3 := (Option.some.inj (Tryd.func3.symm.trans hfn)).symm
  refine ⟨by kernel_rfl, fun j t ht => ?_⟩
  rw [Tryd.params3] at ht
  have hm := Array.mem_of_getElem? ht
  obtain rfl : t = 22 := by simpa using hm
  exact (show Tryd.prog.wantsStandIn 22 = false by kernel_rfl)
theorem card : Rows.ElfReadsCardSaid :=
  Claim7.holds_tied_plain_at .later [] _ _ _ _ said (fun _ h => by cases h) (by kernel_rfl) (fun _ h => by cases h) elfReads_row_tie rfl ⟨rfl, rfl⟩ (by kernel_rfl) rfl plain (by kernel_rfl)
end Go.Proofs.YtdklggmeigogcaaDoor.elfReads
namespace Go.Proofs.YtdklggmeigogcaaDoor
/-- The tied card, under a short name, for the claim. -/
theorem elfReads_card : Rows.ElfReadsCardSaid := elfReads.card
end Go.Proofs.YtdklggmeigogcaaDoor
