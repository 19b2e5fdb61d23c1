/-
  No cell of these rows narrows 'for every input' (looked for: loops, veiled, ifaces, maps, wideKeys, modest, calm, conditions, laid).
  DERIVED. THE GIVEN ROWS OF THIS SEAT. 7 by the template 'for every input the law returns true; each argument reads behind the call as it read before'; 0 by the template 'total and deterministic' (their statements: YtcaijkkinkdfjaaTotals.lean).
  GIVEN WITH THE SEED: the statements are not yours to turn. If you find one false, say at which input.
  Laid BY PROGRAM, IN A SANDBOX (cutbox-rows.mjs): the forced cells as the released guide's own fill.sh prints them over the translation ccb75116cae48e70… (all of the seat's roots in one cut). By AI agents, Wed Nov 11 2026. No macro, syntax, notation, axiom, sorry.
-/
import Derived.Test.YtcaijkkinkdfjaaChecked
import GoSem.Claim
import GoSem.ClaimJoined
import GoSem.ClaimMapViews
import Derived.JoinedTies
import Derived.KernelRfl
namespace Go.Proofs.Ytcaijkkinkdfjaa
/- THE CELL 'sum', in the pinned program and in every row, IS THE sha256 OF THE DUMP (.gsa) THAT YtcaijkkinkdfjaaProg.lean LOADS. Nothing in Lean hashes anything: it is a label: what it is worth is what the hold of that sum in a sandbox is worth. -/
noncomputable def Try.pinned : Pinned := { name := "ytcaijkkinkdfjaa", sum := "ccb75116cae48e70217a99d1c056ee30f7092b0623b8ed1315e04a2e8da66327", checked := Try.checked }
namespace Rows
def none {H : Type} : Left H := { results := [], args := [] }

/-- 'hartixlaw3.RamNames': WHATEVER THE INPUT: true; the input reads as it did. -/
def ramNamesSpec : ChangeSpec := { name := "ramNames", fn := fun _ => fun
  | [] => { results := [.lit (.bool true)], args := [] }
  | _ => none }
def ramNamesRow : OpenClaim := { program := "ytcaijkkinkdfjaa", sum := "ccb75116cae48e70217a99d1c056ee30f7092b0623b8ed1315e04a2e8da66327", func := "hartix/hartixlaw3.RamNames", spec := "ramNames", apart := false }
def RamNamesSaid : Prop := ramNamesRow.holds Try.pinned (OpenSpec.ofChange ramNamesSpec)

/-- ITS FALSE NEIGHBOUR: 'it returns false'. Refute it at one input. -/
def ramNamesWrong : ChangeSpec := { name := "ramNames", fn := fun _ => fun
  | [] => { results := [.lit (.bool false)], args := [] }
  | _ => none }
def RamNamesWrongFalsely : Prop := ramNamesRow.holds Try.pinned (OpenSpec.ofChange ramNamesWrong)

/-- 'hartixlaw5.HartNames': WHATEVER THE INPUT: true; the input reads as it did. -/
def hartNamesSpec : ChangeSpec := { name := "hartNames", fn := fun _ => fun
  | [] => { results := [.lit (.bool true)], args := [] }
  | _ => none }
def hartNamesRow : OpenClaim := { program := "ytcaijkkinkdfjaa", sum := "ccb75116cae48e70217a99d1c056ee30f7092b0623b8ed1315e04a2e8da66327", func := "hartix/hartixlaw5.HartNames", spec := "hartNames", apart := false }
def HartNamesSaid : Prop := hartNamesRow.holds Try.pinned (OpenSpec.ofChange hartNamesSpec)

/-- ITS FALSE NEIGHBOUR: 'it returns false'. Refute it at one input. -/
def hartNamesWrong : ChangeSpec := { name := "hartNames", fn := fun _ => fun
  | [] => { results := [.lit (.bool false)], args := [] }
  | _ => none }
def HartNamesWrongFalsely : Prop := hartNamesRow.holds Try.pinned (OpenSpec.ofChange hartNamesWrong)

/-- 'hartixlaw8.SpaceNames': WHATEVER THE INPUT: true; the input reads as it did. -/
def spaceNamesSpec : ChangeSpec := { name := "spaceNames", fn := fun _ => fun
  | [] => { results := [.lit (.bool true)], args := [] }
  | _ => none }
def spaceNamesRow : OpenClaim := { program := "ytcaijkkinkdfjaa", sum := "ccb75116cae48e70217a99d1c056ee30f7092b0623b8ed1315e04a2e8da66327", func := "hartix/hartixlaw8.SpaceNames", spec := "spaceNames", apart := false }
def SpaceNamesSaid : Prop := spaceNamesRow.holds Try.pinned (OpenSpec.ofChange spaceNamesSpec)

/-- ITS FALSE NEIGHBOUR: 'it returns false'. Refute it at one input. -/
def spaceNamesWrong : ChangeSpec := { name := "spaceNames", fn := fun _ => fun
  | [] => { results := [.lit (.bool false)], args := [] }
  | _ => none }
def SpaceNamesWrongFalsely : Prop := spaceNamesRow.holds Try.pinned (OpenSpec.ofChange spaceNamesWrong)

/-- 'hartixlaw14.ExecNames': WHATEVER THE INPUT: true; the input reads as it did. -/
def execNamesSpec : ChangeSpec := { name := "execNames", fn := fun _ => fun
  | [] => { results := [.lit (.bool true)], args := [] }
  | _ => none }
def execNamesRow : OpenClaim := { program := "ytcaijkkinkdfjaa", sum := "ccb75116cae48e70217a99d1c056ee30f7092b0623b8ed1315e04a2e8da66327", func := "hartix/hartixlaw14.ExecNames", spec := "execNames", apart := false }
def ExecNamesSaid : Prop := execNamesRow.holds Try.pinned (OpenSpec.ofChange execNamesSpec)

/-- ITS FALSE NEIGHBOUR: 'it returns false'. Refute it at one input. -/
def execNamesWrong : ChangeSpec := { name := "execNames", fn := fun _ => fun
  | [] => { results := [.lit (.bool false)], args := [] }
  | _ => none }
def ExecNamesWrongFalsely : Prop := execNamesRow.holds Try.pinned (OpenSpec.ofChange execNamesWrong)

/-- 'hartixlaw4.SvNames': WHATEVER THE INPUT: true; the input reads as it did. -/
def svNamesSpec : ChangeSpec := { name := "svNames", fn := fun _ => fun
  | [] => { results := [.lit (.bool true)], args := [] }
  | _ => none }
def svNamesRow : OpenClaim := { program := "ytcaijkkinkdfjaa", sum := "ccb75116cae48e70217a99d1c056ee30f7092b0623b8ed1315e04a2e8da66327", func := "hartix/hartixlaw4.SvNames", spec := "svNames", apart := false }
def SvNamesSaid : Prop := svNamesRow.holds Try.pinned (OpenSpec.ofChange svNamesSpec)

/-- ITS FALSE NEIGHBOUR: 'it returns false'. Refute it at one input. -/
def svNamesWrong : ChangeSpec := { name := "svNames", fn := fun _ => fun
  | [] => { results := [.lit (.bool false)], args := [] }
  | _ => none }
def SvNamesWrongFalsely : Prop := svNamesRow.holds Try.pinned (OpenSpec.ofChange svNamesWrong)

/-- 'hartixlaw7.ElfNames': WHATEVER THE INPUT: true; the input reads as it did. -/
def elfNamesSpec : ChangeSpec := { name := "elfNames", fn := fun _ => fun
  | [] => { results := [.lit (.bool true)], args := [] }
  | _ => none }
def elfNamesRow : OpenClaim := { program := "ytcaijkkinkdfjaa", sum := "ccb75116cae48e70217a99d1c056ee30f7092b0623b8ed1315e04a2e8da66327", func := "hartix/hartixlaw7.ElfNames", spec := "elfNames", apart := false }
def ElfNamesSaid : Prop := elfNamesRow.holds Try.pinned (OpenSpec.ofChange elfNamesSpec)

/-- ITS FALSE NEIGHBOUR: 'it returns false'. Refute it at one input. -/
def elfNamesWrong : ChangeSpec := { name := "elfNames", fn := fun _ => fun
  | [] => { results := [.lit (.bool false)], args := [] }
  | _ => none }
def ElfNamesWrongFalsely : Prop := elfNamesRow.holds Try.pinned (OpenSpec.ofChange elfNamesWrong)

/-- 'hartixlaw8.SpaceFormula': WHATEVER THE INPUT: true; the input reads as it did. -/
def spaceFormulaSpec : ChangeSpec := { name := "spaceFormula", fn := fun _ => fun
  | [d] => { results := [.lit (.bool true)], args := [d] }
  | _ => none }
def spaceFormulaRow : OpenClaim := { program := "ytcaijkkinkdfjaa", sum := "ccb75116cae48e70217a99d1c056ee30f7092b0623b8ed1315e04a2e8da66327", func := "hartix/hartixlaw8.SpaceFormula", spec := "spaceFormula", apart := false }
def SpaceFormulaSaid : Prop := spaceFormulaRow.holds Try.pinned (OpenSpec.ofChange spaceFormulaSpec)

/-- ITS FALSE NEIGHBOUR: 'it returns false'. Refute it at one input. -/
def spaceFormulaWrong : ChangeSpec := { name := "spaceFormula", fn := fun _ => fun
  | [d] => { results := [.lit (.bool false)], args := [d] }
  | _ => none }
def SpaceFormulaWrongFalsely : Prop := spaceFormulaRow.holds Try.pinned (OpenSpec.ofChange spaceFormulaWrong)

/- THE SECOND FORM. 'bulk': how many values and letters a reading holds, each counted each time it is reached (what is shared counts as often as it is met; a slice's spare places count too). A statement '..UptoSaid' is the law's where the arguments, and the package variables that the reading takes, are together of bulk at most 1048576: NARROWER than '..Said'. Prove '..Said' where nothing that the law and all that it calls make is longer than what came in: it says more and counts as full. Else prove '..UptoSaid'. A law counts once. -/
mutual
def uptoBulk {H : Type} : DataW H → Nat
  | .lit (.string bytes) => bytes.length + 1
  | .lit _ => 1
  | .nil => 1
  | .ptr d => uptoBulk d + 1
  | .slice elems spare => uptoBulkAll elems + uptoBulkAll spare + 1
  | .agg parts => uptoBulkAll parts + 1
  | .iface _ d => uptoBulk d + 1
  | .map entries => uptoBulkEntries entries + 1
  | .held _ => 1
def uptoBulkAll {H : Type} : List (DataW H) → Nat
  | [] => 0
  | d :: r => uptoBulk d + uptoBulkAll r
def uptoBulkEntries {H : Type} : List (Lit × DataW H) → Nat
  | [] => 0
  | x :: r => uptoBulkEntry x + uptoBulkEntries r
def uptoBulkEntry {H : Type} : Lit × DataW H → Nat
  | (.string bytes, d) => bytes.length + uptoBulk d + 1
  | (_, d) => uptoBulk d + 1
 end
def uptoSmall : (H : Type) → List (DataW H) → Bool := fun _ ds => decide (uptoBulkAll ds ≤ 1048576)
def OpenSpec.upto (s : _root_.Go.ChangeSpec) : _root_.Go.OpenSpec := { _root_.Go.OpenSpec.ofChange s with cond := some uptoSmall }

/-- 'hartixlaw3.RamNames', WHERE WHAT IT READS IS OF BULK AT MOST 1048576: true; the input reads as it did. -/
def ramNamesUptoRow : OpenClaim := { program := "ytcaijkkinkdfjaa", sum := "ccb75116cae48e70217a99d1c056ee30f7092b0623b8ed1315e04a2e8da66327", func := "hartix/hartixlaw3.RamNames", spec := "ramNames", apart := false, narrowed := true }
def RamNamesUptoSaid : Prop := ramNamesUptoRow.holds Try.pinned (OpenSpec.upto ramNamesSpec)

/-- 'hartixlaw5.HartNames', WHERE WHAT IT READS IS OF BULK AT MOST 1048576: true; the input reads as it did. -/
def hartNamesUptoRow : OpenClaim := { program := "ytcaijkkinkdfjaa", sum := "ccb75116cae48e70217a99d1c056ee30f7092b0623b8ed1315e04a2e8da66327", func := "hartix/hartixlaw5.HartNames", spec := "hartNames", apart := false, narrowed := true }
def HartNamesUptoSaid : Prop := hartNamesUptoRow.holds Try.pinned (OpenSpec.upto hartNamesSpec)

/-- 'hartixlaw8.SpaceNames', WHERE WHAT IT READS IS OF BULK AT MOST 1048576: true; the input reads as it did. -/
def spaceNamesUptoRow : OpenClaim := { program := "ytcaijkkinkdfjaa", sum := "ccb75116cae48e70217a99d1c056ee30f7092b0623b8ed1315e04a2e8da66327", func := "hartix/hartixlaw8.SpaceNames", spec := "spaceNames", apart := false, narrowed := true }
def SpaceNamesUptoSaid : Prop := spaceNamesUptoRow.holds Try.pinned (OpenSpec.upto spaceNamesSpec)

/-- 'hartixlaw14.ExecNames', WHERE WHAT IT READS IS OF BULK AT MOST 1048576: true; the input reads as it did. -/
def execNamesUptoRow : OpenClaim := { program := "ytcaijkkinkdfjaa", sum := "ccb75116cae48e70217a99d1c056ee30f7092b0623b8ed1315e04a2e8da66327", func := "hartix/hartixlaw14.ExecNames", spec := "execNames", apart := false, narrowed := true }
def ExecNamesUptoSaid : Prop := execNamesUptoRow.holds Try.pinned (OpenSpec.upto execNamesSpec)

/-- 'hartixlaw4.SvNames', WHERE WHAT IT READS IS OF BULK AT MOST 1048576: true; the input reads as it did. -/
def svNamesUptoRow : OpenClaim := { program := "ytcaijkkinkdfjaa", sum := "ccb75116cae48e70217a99d1c056ee30f7092b0623b8ed1315e04a2e8da66327", func := "hartix/hartixlaw4.SvNames", spec := "svNames", apart := false, narrowed := true }
def SvNamesUptoSaid : Prop := svNamesUptoRow.holds Try.pinned (OpenSpec.upto svNamesSpec)

/-- 'hartixlaw7.ElfNames', WHERE WHAT IT READS IS OF BULK AT MOST 1048576: true; the input reads as it did. -/
def elfNamesUptoRow : OpenClaim := { program := "ytcaijkkinkdfjaa", sum := "ccb75116cae48e70217a99d1c056ee30f7092b0623b8ed1315e04a2e8da66327", func := "hartix/hartixlaw7.ElfNames", spec := "elfNames", apart := false, narrowed := true }
def ElfNamesUptoSaid : Prop := elfNamesUptoRow.holds Try.pinned (OpenSpec.upto elfNamesSpec)

/-- 'hartixlaw8.SpaceFormula', WHERE WHAT IT READS IS OF BULK AT MOST 1048576: true; the input reads as it did. -/
def spaceFormulaUptoRow : OpenClaim := { program := "ytcaijkkinkdfjaa", sum := "ccb75116cae48e70217a99d1c056ee30f7092b0623b8ed1315e04a2e8da66327", func := "hartix/hartixlaw8.SpaceFormula", spec := "spaceFormula", apart := false, narrowed := true }
def SpaceFormulaUptoSaid : Prop := spaceFormulaUptoRow.holds Try.pinned (OpenSpec.upto spaceFormulaSpec)

end Rows
end Go.Proofs.Ytcaijkkinkdfjaa
