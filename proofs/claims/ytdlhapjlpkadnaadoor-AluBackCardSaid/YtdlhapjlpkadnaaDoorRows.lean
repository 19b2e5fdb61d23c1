/-
  NARROWER THAN 'FOR EVERY INPUT', by the rows' own cells (each row's printed sentence says how): AluNames: laid · AluMoves: laid · AluBack: laid.
  DERIVED. THE GIVEN ROWS OF THIS SEAT. 3 by the template 'for every input the law returns true; each argument reads behind the call as it read before'; 0 by the template 'total and deterministic' (their statements: YtdlhapjlpkadnaaDoorTotals.lean).
  GIVEN WITH THE SEED: the statements are not yours to turn. If you find one false, say at which input.
  Laid BY PROGRAM, IN A SANDBOX (cutbox-rows.mjs): the forced cells as the released guide's own fill.sh prints them over the translation b795ff9230f5ed20… (all of the seat's roots in one cut). By AI agents, Wed Nov 11 2026. No macro, syntax, notation, axiom, sorry.
-/
import Derived.Test.YtdlhapjlpkadnaaDoorChecked
import GoSem.Claim
import GoSem.ClaimJoined
import GoSem.ClaimMapViews
import Derived.JoinedTies
import Derived.KernelRfl
namespace Go.Proofs.YtdlhapjlpkadnaaDoor
/- THE CELL 'sum', in the pinned program and in every row, IS THE sha256 OF THE DUMP (.gsa) THAT YtdlhapjlpkadnaaDoorProg.lean LOADS. Nothing in Lean hashes anything: it is a label: what it is worth is what the hold of that sum in a sandbox is worth. -/
noncomputable def Tryd.pinned : Pinned := { name := "ytdlhapjlpkadnaadoor", sum := "b795ff9230f5ed2042b71f9af546cb0d52ca132aa70d5129fc1330c0a2214851", checked := Tryd.checked }
namespace Rows
def none {H : Type} : Left H := { results := [], args := [] }

/- WHAT THE LISTED PACKAGE-LEVEL VARIABLES READ AS WHEN THE CALL BEGINS. Each datum BY PROGRAM (the guide's laid-datum.mjs) off the statement by which the dump's own 'gosem.cut.vars' lays the variable. In a bare row this is a premise. The card (YtdlhapjlpkadnaaDoorCards.lean) ties it to the program's text. -/
def laid_hartix_alu_moves {H : Type} : DataW H := .agg [.agg [.lit (.int .i64 11), .lit (.int .i64 1), .lit (.bool true), .lit (.bool true)], .agg [.lit (.int .i64 12), .lit (.int .i64 2), .lit (.bool true), .lit (.bool true)], .agg [.lit (.int .i64 13), .lit (.int .i64 4), .lit (.bool true), .lit (.bool true)], .agg [.lit (.int .i64 14), .lit (.int .i64 8), .lit (.bool true), .lit (.bool false)], .agg [.lit (.int .i64 15), .lit (.int .i64 1), .lit (.bool true), .lit (.bool false)], .agg [.lit (.int .i64 16), .lit (.int .i64 2), .lit (.bool true), .lit (.bool false)], .agg [.lit (.int .i64 17), .lit (.int .i64 4), .lit (.bool true), .lit (.bool false)], .agg [.lit (.int .i64 18), .lit (.int .i64 1), .lit (.bool false), .lit (.bool false)], .agg [.lit (.int .i64 19), .lit (.int .i64 2), .lit (.bool false), .lit (.bool false)], .agg [.lit (.int .i64 20), .lit (.int .i64 4), .lit (.bool false), .lit (.bool false)], .agg [.lit (.int .i64 21), .lit (.int .i64 8), .lit (.bool false), .lit (.bool false)]]

/-- 'hartixlaw2.AluNames': WHATEVER THE INPUT: true; the input reads as it did. -/
def aluNamesSpec : ChangeSpec := { name := "aluNames", fn := fun _ => fun
  | [] => { results := [.lit (.bool true)], args := [] }
  | _ => none }
def aluNamesRow : OpenClaim := { program := "ytdlhapjlpkadnaadoor", sum := "b795ff9230f5ed2042b71f9af546cb0d52ca132aa70d5129fc1330c0a2214851", func := "hartix/hartixlaw2.AluNames", spec := "aluNames", named := ["hartix/alu.moves"], apart := false, laid := [("hartix/alu.moves", laid_hartix_alu_moves)] }
def AluNamesSaid : Prop := aluNamesRow.holds Tryd.pinned (OpenSpec.ofChange aluNamesSpec)

/-- ITS FALSE NEIGHBOUR: 'it returns false'. Refute it at one input. -/
def aluNamesWrong : ChangeSpec := { name := "aluNames", fn := fun _ => fun
  | [] => { results := [.lit (.bool false)], args := [] }
  | _ => none }
def AluNamesWrongFalsely : Prop := aluNamesRow.holds Tryd.pinned (OpenSpec.ofChange aluNamesWrong)

/-- 'hartixlaw2.AluMoves': WHATEVER THE INPUT: true; the input reads as it did. -/
def aluMovesSpec : ChangeSpec := { name := "aluMoves", fn := fun _ => fun
  | [d1, d2] => { results := [.lit (.bool true)], args := [d1, d2] }
  | _ => none }
def aluMovesRow : OpenClaim := { program := "ytdlhapjlpkadnaadoor", sum := "b795ff9230f5ed2042b71f9af546cb0d52ca132aa70d5129fc1330c0a2214851", func := "hartix/hartixlaw2.AluMoves", spec := "aluMoves", named := ["hartix/alu.moves"], apart := false, laid := [("hartix/alu.moves", laid_hartix_alu_moves)] }
def AluMovesSaid : Prop := aluMovesRow.holds Tryd.pinned (OpenSpec.ofChange aluMovesSpec)

/-- ITS FALSE NEIGHBOUR: 'it returns false'. Refute it at one input. -/
def aluMovesWrong : ChangeSpec := { name := "aluMoves", fn := fun _ => fun
  | [d1, d2] => { results := [.lit (.bool false)], args := [d1, d2] }
  | _ => none }
def AluMovesWrongFalsely : Prop := aluMovesRow.holds Tryd.pinned (OpenSpec.ofChange aluMovesWrong)

/-- 'hartixlaw2.AluBack': WHATEVER THE INPUT: true; the input reads as it did. -/
def aluBackSpec : ChangeSpec := { name := "aluBack", fn := fun _ => fun
  | [d1, d2, d3] => { results := [.lit (.bool true)], args := [d1, d2, d3] }
  | _ => none }
def aluBackRow : OpenClaim := { program := "ytdlhapjlpkadnaadoor", sum := "b795ff9230f5ed2042b71f9af546cb0d52ca132aa70d5129fc1330c0a2214851", func := "hartix/hartixlaw2.AluBack", spec := "aluBack", named := ["hartix/alu.moves"], apart := false, laid := [("hartix/alu.moves", laid_hartix_alu_moves)] }
def AluBackSaid : Prop := aluBackRow.holds Tryd.pinned (OpenSpec.ofChange aluBackSpec)

/-- ITS FALSE NEIGHBOUR: 'it returns false'. Refute it at one input. -/
def aluBackWrong : ChangeSpec := { name := "aluBack", fn := fun _ => fun
  | [d1, d2, d3] => { results := [.lit (.bool false)], args := [d1, d2, d3] }
  | _ => none }
def AluBackWrongFalsely : Prop := aluBackRow.holds Tryd.pinned (OpenSpec.ofChange aluBackWrong)

/- THE SECOND FORM. 'bulk': how many values and letters a reading holds, each counted each time it is reached (what is shared counts as often as it is met; a slice's spare places count too). A statement '..UptoSaid' is the law's where the arguments, and the package variables that the reading takes, are together of bulk at most 1048576: NARROWER than '..Said'. Prove '..Said' where nothing that the law and all that it calls make is longer than what came in: it says more and counts as full. Else prove '..UptoSaid'. A law counts once. -/
mutual
def uptoBulk {H : Type} : DataW H → Nat
  | .lit (.string bytes) => bytes.length + 1
  | .lit _ => 1
  | .nil => 1
  | .ptr d => uptoBulk d + 1
  | .slice elems spare => uptoBulkAll elems + uptoBulkAll spare + 1
  | .agg parts => uptoBulkAll parts + 1
  | .iface _ d => uptoBulk d + 1
  | .map entries => uptoBulkEntries entries + 1
  | .held _ => 1
def uptoBulkAll {H : Type} : List (DataW H) → Nat
  | [] => 0
  | d :: r => uptoBulk d + uptoBulkAll r
def uptoBulkEntries {H : Type} : List (Lit × DataW H) → Nat
  | [] => 0
  | x :: r => uptoBulkEntry x + uptoBulkEntries r
def uptoBulkEntry {H : Type} : Lit × DataW H → Nat
  | (.string bytes, d) => bytes.length + uptoBulk d + 1
  | (_, d) => uptoBulk d + 1
 end
def uptoSmall : (H : Type) → List (DataW H) → Bool := fun _ ds => decide (uptoBulkAll ds ≤ 1048576)
def OpenSpec.upto (s : _root_.Go.ChangeSpec) : _root_.Go.OpenSpec := { _root_.Go.OpenSpec.ofChange s with cond := some uptoSmall }

/-- 'hartixlaw2.AluNames', WHERE WHAT IT READS IS OF BULK AT MOST 1048576: true; the input reads as it did. -/
def aluNamesUptoRow : OpenClaim := { program := "ytdlhapjlpkadnaadoor", sum := "b795ff9230f5ed2042b71f9af546cb0d52ca132aa70d5129fc1330c0a2214851", func := "hartix/hartixlaw2.AluNames", spec := "aluNames", named := ["hartix/alu.moves"], apart := false, laid := [("hartix/alu.moves", laid_hartix_alu_moves)], narrowed := true }
def AluNamesUptoSaid : Prop := aluNamesUptoRow.holds Tryd.pinned (OpenSpec.upto aluNamesSpec)

/-- 'hartixlaw2.AluMoves', WHERE WHAT IT READS IS OF BULK AT MOST 1048576: true; the input reads as it did. -/
def aluMovesUptoRow : OpenClaim := { program := "ytdlhapjlpkadnaadoor", sum := "b795ff9230f5ed2042b71f9af546cb0d52ca132aa70d5129fc1330c0a2214851", func := "hartix/hartixlaw2.AluMoves", spec := "aluMoves", named := ["hartix/alu.moves"], apart := false, laid := [("hartix/alu.moves", laid_hartix_alu_moves)], narrowed := true }
def AluMovesUptoSaid : Prop := aluMovesUptoRow.holds Tryd.pinned (OpenSpec.upto aluMovesSpec)

/-- 'hartixlaw2.AluBack', WHERE WHAT IT READS IS OF BULK AT MOST 1048576: true; the input reads as it did. -/
def aluBackUptoRow : OpenClaim := { program := "ytdlhapjlpkadnaadoor", sum := "b795ff9230f5ed2042b71f9af546cb0d52ca132aa70d5129fc1330c0a2214851", func := "hartix/hartixlaw2.AluBack", spec := "aluBack", named := ["hartix/alu.moves"], apart := false, laid := [("hartix/alu.moves", laid_hartix_alu_moves)], narrowed := true }
def AluBackUptoSaid : Prop := aluBackUptoRow.holds Tryd.pinned (OpenSpec.upto aluBackSpec)

end Rows
end Go.Proofs.YtdlhapjlpkadnaaDoor
