/-
  NARROWER THAN 'FOR EVERY INPUT', by the rows' own cells (each row's printed sentence says how): InsnNames: laid · InsnWords: laid · InsnDecodes: laid · InsnEncodes: laid · InsnBare: laid · InsnRegs: laid · InsnBack: laid.
  DERIVED. THE GIVEN ROWS OF THIS SEAT. 7 by the template 'for every input the law returns true; each argument reads behind the call as it read before'; 0 by the template 'total and deterministic' (their statements: YtgjiojcdifjhcaaDoorTotals.lean).
  GIVEN WITH THE SEED: the statements are not yours to turn. If you find one false, say at which input.
  Laid BY PROGRAM, IN A SANDBOX (cutbox-rows.mjs): the forced cells as the released guide's own fill.sh prints them over the translation aa3a27627c06699a… (all of the seat's roots in one cut). By AI agents, Wed Nov 11 2026. No macro, syntax, notation, axiom, sorry.
-/
import Derived.Test.YtgjiojcdifjhcaaDoorChecked
import GoSem.Claim
import GoSem.ClaimJoined
import GoSem.ClaimMapViews
import Derived.JoinedTies
import Derived.KernelRfl
namespace Go.Proofs.YtgjiojcdifjhcaaDoor
/- THE CELL 'sum', in the pinned program and in every row, IS THE sha256 OF THE DUMP (.gsa) THAT YtgjiojcdifjhcaaDoorProg.lean LOADS. Nothing in Lean hashes anything: it is a label: what it is worth is what the hold of that sum in a sandbox is worth. -/
noncomputable def Tryd.pinned : Pinned := { name := "ytgjiojcdifjhcaadoor", sum := "aa3a27627c06699ae625a8158262ba751f3a38ec6febe5ea84e12182043d0c67", checked := Tryd.checked }
namespace Rows
def none {H : Type} : Left H := { results := [], args := [] }

/- WHAT THE LISTED PACKAGE-LEVEL VARIABLES READ AS WHEN THE CALL BEGINS. Each datum BY PROGRAM (the guide's laid-datum.mjs) off the statement by which the dump's own 'gosem.cut.vars' lays the variable. In a bare row this is a premise. The card (YtgjiojcdifjhcaaDoorCards.lean) ties it to the program's text. -/
def laid_hartix_insn_regNames {H : Type} : DataW H := .agg [.lit (.string [122, 101, 114, 111]), .lit (.string [114, 97]), .lit (.string [115, 112]), .lit (.string [103, 112]), .lit (.string [116, 112]), .lit (.string [116, 48]), .lit (.string [116, 49]), .lit (.string [116, 50]), .lit (.string [115, 48]), .lit (.string [115, 49]), .lit (.string [97, 48]), .lit (.string [97, 49]), .lit (.string [97, 50]), .lit (.string [97, 51]), .lit (.string [97, 52]), .lit (.string [97, 53]), .lit (.string [97, 54]), .lit (.string [97, 55]), .lit (.string [115, 50]), .lit (.string [115, 51]), .lit (.string [115, 52]), .lit (.string [115, 53]), .lit (.string [115, 54]), .lit (.string [115, 55]), .lit (.string [115, 56]), .lit (.string [115, 57]), .lit (.string [115, 49, 48]), .lit (.string [115, 49, 49]), .lit (.string [116, 51]), .lit (.string [116, 52]), .lit (.string [116, 53]), .lit (.string [116, 54])]
def laid_hartix_insn_shapes {H : Type} : DataW H := .agg [.lit (.int .i64 0), .lit (.int .i64 8), .lit (.int .i64 8), .lit (.int .i64 9), .lit (.int .i64 2), .lit (.int .i64 7), .lit (.int .i64 7), .lit (.int .i64 7), .lit (.int .i64 7), .lit (.int .i64 7), .lit (.int .i64 7), .lit (.int .i64 5), .lit (.int .i64 5), .lit (.int .i64 5), .lit (.int .i64 5), .lit (.int .i64 5), .lit (.int .i64 5), .lit (.int .i64 5), .lit (.int .i64 6), .lit (.int .i64 6), .lit (.int .i64 6), .lit (.int .i64 6), .lit (.int .i64 2), .lit (.int .i64 2), .lit (.int .i64 2), .lit (.int .i64 2), .lit (.int .i64 2), .lit (.int .i64 2), .lit (.int .i64 3), .lit (.int .i64 3), .lit (.int .i64 3), .lit (.int .i64 1), .lit (.int .i64 1), .lit (.int .i64 1), .lit (.int .i64 1), .lit (.int .i64 1), .lit (.int .i64 1), .lit (.int .i64 1), .lit (.int .i64 1), .lit (.int .i64 1), .lit (.int .i64 1), .lit (.int .i64 2), .lit (.int .i64 4), .lit (.int .i64 4), .lit (.int .i64 4), .lit (.int .i64 1), .lit (.int .i64 1), .lit (.int .i64 1), .lit (.int .i64 1), .lit (.int .i64 1), .lit (.int .i64 1), .lit (.int .i64 1), .lit (.int .i64 1), .lit (.int .i64 1), .lit (.int .i64 1), .lit (.int .i64 1), .lit (.int .i64 1), .lit (.int .i64 1), .lit (.int .i64 1), .lit (.int .i64 1), .lit (.int .i64 1), .lit (.int .i64 1), .lit (.int .i64 1), .lit (.int .i64 10), .lit (.int .i64 10), .lit (.int .i64 11), .lit (.int .i64 11), .lit (.int .i64 11), .lit (.int .i64 11), .lit (.int .i64 11), .lit (.int .i64 12), .lit (.int .i64 13), .lit (.int .i64 13), .lit (.int .i64 13), .lit (.int .i64 14), .lit (.int .i64 14), .lit (.int .i64 14)]
def laid_hartix_insn_names {H : Type} : DataW H := .agg [.lit (.string []), .lit (.string [108, 117, 105]), .lit (.string [97, 117, 105, 112, 99]), .lit (.string [106, 97, 108]), .lit (.string [106, 97, 108, 114]), .lit (.string [98, 101, 113]), .lit (.string [98, 110, 101]), .lit (.string [98, 108, 116]), .lit (.string [98, 103, 101]), .lit (.string [98, 108, 116, 117]), .lit (.string [98, 103, 101, 117]), .lit (.string [108, 98]), .lit (.string [108, 104]), .lit (.string [108, 119]), .lit (.string [108, 100]), .lit (.string [108, 98, 117]), .lit (.string [108, 104, 117]), .lit (.string [108, 119, 117]), .lit (.string [115, 98]), .lit (.string [115, 104]), .lit (.string [115, 119]), .lit (.string [115, 100]), .lit (.string [97, 100, 100, 105]), .lit (.string [115, 108, 116, 105]), .lit (.string [115, 108, 116, 105, 117]), .lit (.string [120, 111, 114, 105]), .lit (.string [111, 114, 105]), .lit (.string [97, 110, 100, 105]), .lit (.string [115, 108, 108, 105]), .lit (.string [115, 114, 108, 105]), .lit (.string [115, 114, 97, 105]), .lit (.string [97, 100, 100]), .lit (.string [115, 117, 98]), .lit (.string [115, 108, 108]), .lit (.string [115, 108, 116]), .lit (.string [115, 108, 116, 117]), .lit (.string [120, 111, 114]), .lit (.string [115, 114, 108]), .lit (.string [115, 114, 97]), .lit (.string [111, 114]), .lit (.string [97, 110, 100]), .lit (.string [97, 100, 100, 105, 119]), .lit (.string [115, 108, 108, 105, 119]), .lit (.string [115, 114, 108, 105, 119]), .lit (.string [115, 114, 97, 105, 119]), .lit (.string [97, 100, 100, 119]), .lit (.string [115, 117, 98, 119]), .lit (.string [115, 108, 108, 119]), .lit (.string [115, 114, 108, 119]), .lit (.string [115, 114, 97, 119]), .lit (.string [109, 117, 108]), .lit (.string [109, 117, 108, 104]), .lit (.string [109, 117, 108, 104, 115, 117]), .lit (.string [109, 117, 108, 104, 117]), .lit (.string [100, 105, 118]), .lit (.string [100, 105, 118, 117]), .lit (.string [114, 101, 109]), .lit (.string [114, 101, 109, 117]), .lit (.string [109, 117, 108, 119]), .lit (.string [100, 105, 118, 119]), .lit (.string [100, 105, 118, 117, 119]), .lit (.string [114, 101, 109, 119]), .lit (.string [114, 101, 109, 117, 119]), .lit (.string [102, 101, 110, 99, 101]), .lit (.string [102, 101, 110, 99, 101, 46, 105]), .lit (.string [101, 99, 97, 108, 108]), .lit (.string [101, 98, 114, 101, 97, 107]), .lit (.string [115, 114, 101, 116]), .lit (.string [109, 114, 101, 116]), .lit (.string [119, 102, 105]), .lit (.string [115, 102, 101, 110, 99, 101, 46, 118, 109, 97]), .lit (.string [99, 115, 114, 114, 119]), .lit (.string [99, 115, 114, 114, 115]), .lit (.string [99, 115, 114, 114, 99]), .lit (.string [99, 115, 114, 114, 119, 105]), .lit (.string [99, 115, 114, 114, 115, 105]), .lit (.string [99, 115, 114, 114, 99, 105])]
def laid_hartix_insn_words {H : Type} : DataW H := .agg [.lit (.int .u32 0), .lit (.int .u32 55), .lit (.int .u32 23), .lit (.int .u32 111), .lit (.int .u32 103), .lit (.int .u32 99), .lit (.int .u32 4195), .lit (.int .u32 16483), .lit (.int .u32 20579), .lit (.int .u32 24675), .lit (.int .u32 28771), .lit (.int .u32 3), .lit (.int .u32 4099), .lit (.int .u32 8195), .lit (.int .u32 12291), .lit (.int .u32 16387), .lit (.int .u32 20483), .lit (.int .u32 24579), .lit (.int .u32 35), .lit (.int .u32 4131), .lit (.int .u32 8227), .lit (.int .u32 12323), .lit (.int .u32 19), .lit (.int .u32 8211), .lit (.int .u32 12307), .lit (.int .u32 16403), .lit (.int .u32 24595), .lit (.int .u32 28691), .lit (.int .u32 4115), .lit (.int .u32 20499), .lit (.int .u32 1073762323), .lit (.int .u32 51), .lit (.int .u32 1073741875), .lit (.int .u32 4147), .lit (.int .u32 8243), .lit (.int .u32 12339), .lit (.int .u32 16435), .lit (.int .u32 20531), .lit (.int .u32 1073762355), .lit (.int .u32 24627), .lit (.int .u32 28723), .lit (.int .u32 27), .lit (.int .u32 4123), .lit (.int .u32 20507), .lit (.int .u32 1073762331), .lit (.int .u32 59), .lit (.int .u32 1073741883), .lit (.int .u32 4155), .lit (.int .u32 20539), .lit (.int .u32 1073762363), .lit (.int .u32 33554483), .lit (.int .u32 33558579), .lit (.int .u32 33562675), .lit (.int .u32 33566771), .lit (.int .u32 33570867), .lit (.int .u32 33574963), .lit (.int .u32 33579059), .lit (.int .u32 33583155), .lit (.int .u32 33554491), .lit (.int .u32 33570875), .lit (.int .u32 33574971), .lit (.int .u32 33579067), .lit (.int .u32 33583163), .lit (.int .u32 15), .lit (.int .u32 4111), .lit (.int .u32 115), .lit (.int .u32 1048691), .lit (.int .u32 270532723), .lit (.int .u32 807403635), .lit (.int .u32 273678451), .lit (.int .u32 301990003), .lit (.int .u32 4211), .lit (.int .u32 8307), .lit (.int .u32 12403), .lit (.int .u32 20595), .lit (.int .u32 24691), .lit (.int .u32 28787)]

/-- 'hartixlaw1.InsnNames': WHATEVER THE INPUT: true; the input reads as it did. -/
def insnNamesSpec : ChangeSpec := { name := "insnNames", fn := fun _ => fun
  | [] => { results := [.lit (.bool true)], args := [] }
  | _ => none }
def insnNamesRow : OpenClaim := { program := "ytgjiojcdifjhcaadoor", sum := "aa3a27627c06699ae625a8158262ba751f3a38ec6febe5ea84e12182043d0c67", func := "hartix/hartixlaw1.InsnNames", spec := "insnNames", named := ["hartix/insn.shapes", "hartix/insn.names", "hartix/insn.regNames"], apart := false, laid := [("hartix/insn.regNames", laid_hartix_insn_regNames), ("hartix/insn.shapes", laid_hartix_insn_shapes), ("hartix/insn.names", laid_hartix_insn_names)] }
def InsnNamesSaid : Prop := insnNamesRow.holds Tryd.pinned (OpenSpec.ofChange insnNamesSpec)

/-- ITS FALSE NEIGHBOUR: 'it returns false'. Refute it at one input. -/
def insnNamesWrong : ChangeSpec := { name := "insnNames", fn := fun _ => fun
  | [] => { results := [.lit (.bool false)], args := [] }
  | _ => none }
def InsnNamesWrongFalsely : Prop := insnNamesRow.holds Tryd.pinned (OpenSpec.ofChange insnNamesWrong)

/-- 'hartixlaw1.InsnWords': WHATEVER THE INPUT: true; the input reads as it did. -/
def insnWordsSpec : ChangeSpec := { name := "insnWords", fn := fun _ => fun
  | [d1, d2, d3] => { results := [.lit (.bool true)], args := [d1, d2, d3] }
  | _ => none }
def insnWordsRow : OpenClaim := { program := "ytgjiojcdifjhcaadoor", sum := "aa3a27627c06699ae625a8158262ba751f3a38ec6febe5ea84e12182043d0c67", func := "hartix/hartixlaw1.InsnWords", spec := "insnWords", recurses := true, named := ["hartix/insn.names", "hartix/insn.regNames", "hartix/insn.shapes"], apart := false, laid := [("hartix/insn.regNames", laid_hartix_insn_regNames), ("hartix/insn.shapes", laid_hartix_insn_shapes), ("hartix/insn.names", laid_hartix_insn_names)] }
def InsnWordsSaid : Prop := insnWordsRow.holds Tryd.pinned (OpenSpec.ofChange insnWordsSpec)

/-- ITS FALSE NEIGHBOUR: 'it returns false'. Refute it at one input. -/
def insnWordsWrong : ChangeSpec := { name := "insnWords", fn := fun _ => fun
  | [d1, d2, d3] => { results := [.lit (.bool false)], args := [d1, d2, d3] }
  | _ => none }
def InsnWordsWrongFalsely : Prop := insnWordsRow.holds Tryd.pinned (OpenSpec.ofChange insnWordsWrong)

/-- 'hartixlaw1.InsnDecodes': WHATEVER THE INPUT: true; the input reads as it did. -/
def insnDecodesSpec : ChangeSpec := { name := "insnDecodes", fn := fun _ => fun
  | [d] => { results := [.lit (.bool true)], args := [d] }
  | _ => none }
def insnDecodesRow : OpenClaim := { program := "ytgjiojcdifjhcaadoor", sum := "aa3a27627c06699ae625a8158262ba751f3a38ec6febe5ea84e12182043d0c67", func := "hartix/hartixlaw1.InsnDecodes", spec := "insnDecodes", unfollowed := true, recurses := true, named := ["hartix/insn.shapes", "hartix/insn.words"], apart := false, laid := [("hartix/insn.words", laid_hartix_insn_words), ("hartix/insn.shapes", laid_hartix_insn_shapes)] }
def InsnDecodesSaid : Prop := insnDecodesRow.holds Tryd.pinned (OpenSpec.ofChange insnDecodesSpec)

/-- ITS FALSE NEIGHBOUR: 'it returns false'. Refute it at one input. -/
def insnDecodesWrong : ChangeSpec := { name := "insnDecodes", fn := fun _ => fun
  | [d] => { results := [.lit (.bool false)], args := [d] }
  | _ => none }
def InsnDecodesWrongFalsely : Prop := insnDecodesRow.holds Tryd.pinned (OpenSpec.ofChange insnDecodesWrong)

/-- 'hartixlaw1.InsnEncodes': WHATEVER THE INPUT: true; the input reads as it did. -/
def insnEncodesSpec : ChangeSpec := { name := "insnEncodes", fn := fun _ => fun
  | [d] => { results := [.lit (.bool true)], args := [d] }
  | _ => none }
def insnEncodesRow : OpenClaim := { program := "ytgjiojcdifjhcaadoor", sum := "aa3a27627c06699ae625a8158262ba751f3a38ec6febe5ea84e12182043d0c67", func := "hartix/hartixlaw1.InsnEncodes", spec := "insnEncodes", unfollowed := true, recurses := true, named := ["hartix/insn.shapes", "hartix/insn.words"], apart := false, laid := [("hartix/insn.words", laid_hartix_insn_words), ("hartix/insn.shapes", laid_hartix_insn_shapes)] }
def InsnEncodesSaid : Prop := insnEncodesRow.holds Tryd.pinned (OpenSpec.ofChange insnEncodesSpec)

/-- ITS FALSE NEIGHBOUR: 'it returns false'. Refute it at one input. -/
def insnEncodesWrong : ChangeSpec := { name := "insnEncodes", fn := fun _ => fun
  | [d] => { results := [.lit (.bool false)], args := [d] }
  | _ => none }
def InsnEncodesWrongFalsely : Prop := insnEncodesRow.holds Tryd.pinned (OpenSpec.ofChange insnEncodesWrong)

/-- 'hartixlaw1.InsnBare': WHATEVER THE INPUT: true; the input reads as it did. -/
def insnBareSpec : ChangeSpec := { name := "insnBare", fn := fun _ => fun
  | [d1, d2] => { results := [.lit (.bool true)], args := [d1, d2] }
  | _ => none }
def insnBareRow : OpenClaim := { program := "ytgjiojcdifjhcaadoor", sum := "aa3a27627c06699ae625a8158262ba751f3a38ec6febe5ea84e12182043d0c67", func := "hartix/hartixlaw1.InsnBare", spec := "insnBare", unfollowed := true, recurses := true, named := ["hartix/insn.shapes", "hartix/insn.words"], apart := false, laid := [("hartix/insn.words", laid_hartix_insn_words), ("hartix/insn.shapes", laid_hartix_insn_shapes)] }
def InsnBareSaid : Prop := insnBareRow.holds Tryd.pinned (OpenSpec.ofChange insnBareSpec)

/-- ITS FALSE NEIGHBOUR: 'it returns false'. Refute it at one input. -/
def insnBareWrong : ChangeSpec := { name := "insnBare", fn := fun _ => fun
  | [d1, d2] => { results := [.lit (.bool false)], args := [d1, d2] }
  | _ => none }
def InsnBareWrongFalsely : Prop := insnBareRow.holds Tryd.pinned (OpenSpec.ofChange insnBareWrong)

/-- 'hartixlaw1.InsnRegs': WHATEVER THE INPUT: true; the input reads as it did. -/
def insnRegsSpec : ChangeSpec := { name := "insnRegs", fn := fun _ => fun
  | [d] => { results := [.lit (.bool true)], args := [d] }
  | _ => none }
def insnRegsRow : OpenClaim := { program := "ytgjiojcdifjhcaadoor", sum := "aa3a27627c06699ae625a8158262ba751f3a38ec6febe5ea84e12182043d0c67", func := "hartix/hartixlaw1.InsnRegs", spec := "insnRegs", unfollowed := true, recurses := true, named := ["hartix/insn.shapes", "hartix/insn.words"], apart := false, laid := [("hartix/insn.words", laid_hartix_insn_words), ("hartix/insn.shapes", laid_hartix_insn_shapes)] }
def InsnRegsSaid : Prop := insnRegsRow.holds Tryd.pinned (OpenSpec.ofChange insnRegsSpec)

/-- ITS FALSE NEIGHBOUR: 'it returns false'. Refute it at one input. -/
def insnRegsWrong : ChangeSpec := { name := "insnRegs", fn := fun _ => fun
  | [d] => { results := [.lit (.bool false)], args := [d] }
  | _ => none }
def InsnRegsWrongFalsely : Prop := insnRegsRow.holds Tryd.pinned (OpenSpec.ofChange insnRegsWrong)

/-- 'hartixlaw1.InsnBack': WHATEVER THE INPUT: true; the input reads as it did. -/
def insnBackSpec : ChangeSpec := { name := "insnBack", fn := fun _ => fun
  | [d1, d2, d3, d4] => { results := [.lit (.bool true)], args := [d1, d2, d3, d4] }
  | _ => none }
def insnBackRow : OpenClaim := { program := "ytgjiojcdifjhcaadoor", sum := "aa3a27627c06699ae625a8158262ba751f3a38ec6febe5ea84e12182043d0c67", func := "hartix/hartixlaw1.InsnBack", spec := "insnBack", unfollowed := true, recurses := true, named := ["hartix/insn.shapes", "hartix/insn.words", "hartix/insn.names", "hartix/insn.regNames"], apart := false, laid := [("hartix/insn.regNames", laid_hartix_insn_regNames), ("hartix/insn.words", laid_hartix_insn_words), ("hartix/insn.shapes", laid_hartix_insn_shapes), ("hartix/insn.names", laid_hartix_insn_names)] }
def InsnBackSaid : Prop := insnBackRow.holds Tryd.pinned (OpenSpec.ofChange insnBackSpec)

/-- ITS FALSE NEIGHBOUR: 'it returns false'. Refute it at one input. -/
def insnBackWrong : ChangeSpec := { name := "insnBack", fn := fun _ => fun
  | [d1, d2, d3, d4] => { results := [.lit (.bool false)], args := [d1, d2, d3, d4] }
  | _ => none }
def InsnBackWrongFalsely : Prop := insnBackRow.holds Tryd.pinned (OpenSpec.ofChange insnBackWrong)

/- THE SECOND FORM. 'bulk': how many values and letters a reading holds, each counted each time it is reached (what is shared counts as often as it is met; a slice's spare places count too). A statement '..UptoSaid' is the law's where the arguments, and the package variables that the reading takes, are together of bulk at most 1048576: NARROWER than '..Said'. Prove '..Said' where nothing that the law and all that it calls make is longer than what came in: it says more and counts as full. Else prove '..UptoSaid'. A law counts once. -/
mutual
def uptoBulk {H : Type} : DataW H → Nat
  | .lit (.string bytes) => bytes.length + 1
  | .lit _ => 1
  | .nil => 1
  | .ptr d => uptoBulk d + 1
  | .slice elems spare => uptoBulkAll elems + uptoBulkAll spare + 1
  | .agg parts => uptoBulkAll parts + 1
  | .iface _ d => uptoBulk d + 1
  | .map entries => uptoBulkEntries entries + 1
  | .held _ => 1
def uptoBulkAll {H : Type} : List (DataW H) → Nat
  | [] => 0
  | d :: r => uptoBulk d + uptoBulkAll r
def uptoBulkEntries {H : Type} : List (Lit × DataW H) → Nat
  | [] => 0
  | x :: r => uptoBulkEntry x + uptoBulkEntries r
def uptoBulkEntry {H : Type} : Lit × DataW H → Nat
  | (.string bytes, d) => bytes.length + uptoBulk d + 1
  | (_, d) => uptoBulk d + 1
 end
def uptoSmall : (H : Type) → List (DataW H) → Bool := fun _ ds => decide (uptoBulkAll ds ≤ 1048576)
def OpenSpec.upto (s : _root_.Go.ChangeSpec) : _root_.Go.OpenSpec := { _root_.Go.OpenSpec.ofChange s with cond := some uptoSmall }

/-- 'hartixlaw1.InsnNames', WHERE WHAT IT READS IS OF BULK AT MOST 1048576: true; the input reads as it did. -/
def insnNamesUptoRow : OpenClaim := { program := "ytgjiojcdifjhcaadoor", sum := "aa3a27627c06699ae625a8158262ba751f3a38ec6febe5ea84e12182043d0c67", func := "hartix/hartixlaw1.InsnNames", spec := "insnNames", named := ["hartix/insn.shapes", "hartix/insn.names", "hartix/insn.regNames"], apart := false, laid := [("hartix/insn.regNames", laid_hartix_insn_regNames), ("hartix/insn.shapes", laid_hartix_insn_shapes), ("hartix/insn.names", laid_hartix_insn_names)], narrowed := true }
def InsnNamesUptoSaid : Prop := insnNamesUptoRow.holds Tryd.pinned (OpenSpec.upto insnNamesSpec)

/-- 'hartixlaw1.InsnWords', WHERE WHAT IT READS IS OF BULK AT MOST 1048576: true; the input reads as it did. -/
def insnWordsUptoRow : OpenClaim := { program := "ytgjiojcdifjhcaadoor", sum := "aa3a27627c06699ae625a8158262ba751f3a38ec6febe5ea84e12182043d0c67", func := "hartix/hartixlaw1.InsnWords", spec := "insnWords", recurses := true, named := ["hartix/insn.names", "hartix/insn.regNames", "hartix/insn.shapes"], apart := false, laid := [("hartix/insn.regNames", laid_hartix_insn_regNames), ("hartix/insn.shapes", laid_hartix_insn_shapes), ("hartix/insn.names", laid_hartix_insn_names)], narrowed := true }
def InsnWordsUptoSaid : Prop := insnWordsUptoRow.holds Tryd.pinned (OpenSpec.upto insnWordsSpec)

/-- 'hartixlaw1.InsnDecodes', WHERE WHAT IT READS IS OF BULK AT MOST 1048576: true; the input reads as it did. -/
def insnDecodesUptoRow : OpenClaim := { program := "ytgjiojcdifjhcaadoor", sum := "aa3a27627c06699ae625a8158262ba751f3a38ec6febe5ea84e12182043d0c67", func := "hartix/hartixlaw1.InsnDecodes", spec := "insnDecodes", unfollowed := true, recurses := true, named := ["hartix/insn.shapes", "hartix/insn.words"], apart := false, laid := [("hartix/insn.words", laid_hartix_insn_words), ("hartix/insn.shapes", laid_hartix_insn_shapes)], narrowed := true }
def InsnDecodesUptoSaid : Prop := insnDecodesUptoRow.holds Tryd.pinned (OpenSpec.upto insnDecodesSpec)

/-- 'hartixlaw1.InsnEncodes', WHERE WHAT IT READS IS OF BULK AT MOST 1048576: true; the input reads as it did. -/
def insnEncodesUptoRow : OpenClaim := { program := "ytgjiojcdifjhcaadoor", sum := "aa3a27627c06699ae625a8158262ba751f3a38ec6febe5ea84e12182043d0c67", func := "hartix/hartixlaw1.InsnEncodes", spec := "insnEncodes", unfollowed := true, recurses := true, named := ["hartix/insn.shapes", "hartix/insn.words"], apart := false, laid := [("hartix/insn.words", laid_hartix_insn_words), ("hartix/insn.shapes", laid_hartix_insn_shapes)], narrowed := true }
def InsnEncodesUptoSaid : Prop := insnEncodesUptoRow.holds Tryd.pinned (OpenSpec.upto insnEncodesSpec)

/-- 'hartixlaw1.InsnBare', WHERE WHAT IT READS IS OF BULK AT MOST 1048576: true; the input reads as it did. -/
def insnBareUptoRow : OpenClaim := { program := "ytgjiojcdifjhcaadoor", sum := "aa3a27627c06699ae625a8158262ba751f3a38ec6febe5ea84e12182043d0c67", func := "hartix/hartixlaw1.InsnBare", spec := "insnBare", unfollowed := true, recurses := true, named := ["hartix/insn.shapes", "hartix/insn.words"], apart := false, laid := [("hartix/insn.words", laid_hartix_insn_words), ("hartix/insn.shapes", laid_hartix_insn_shapes)], narrowed := true }
def InsnBareUptoSaid : Prop := insnBareUptoRow.holds Tryd.pinned (OpenSpec.upto insnBareSpec)

/-- 'hartixlaw1.InsnRegs', WHERE WHAT IT READS IS OF BULK AT MOST 1048576: true; the input reads as it did. -/
def insnRegsUptoRow : OpenClaim := { program := "ytgjiojcdifjhcaadoor", sum := "aa3a27627c06699ae625a8158262ba751f3a38ec6febe5ea84e12182043d0c67", func := "hartix/hartixlaw1.InsnRegs", spec := "insnRegs", unfollowed := true, recurses := true, named := ["hartix/insn.shapes", "hartix/insn.words"], apart := false, laid := [("hartix/insn.words", laid_hartix_insn_words), ("hartix/insn.shapes", laid_hartix_insn_shapes)], narrowed := true }
def InsnRegsUptoSaid : Prop := insnRegsUptoRow.holds Tryd.pinned (OpenSpec.upto insnRegsSpec)

/-- 'hartixlaw1.InsnBack', WHERE WHAT IT READS IS OF BULK AT MOST 1048576: true; the input reads as it did. -/
def insnBackUptoRow : OpenClaim := { program := "ytgjiojcdifjhcaadoor", sum := "aa3a27627c06699ae625a8158262ba751f3a38ec6febe5ea84e12182043d0c67", func := "hartix/hartixlaw1.InsnBack", spec := "insnBack", unfollowed := true, recurses := true, named := ["hartix/insn.shapes", "hartix/insn.words", "hartix/insn.names", "hartix/insn.regNames"], apart := false, laid := [("hartix/insn.regNames", laid_hartix_insn_regNames), ("hartix/insn.words", laid_hartix_insn_words), ("hartix/insn.shapes", laid_hartix_insn_shapes), ("hartix/insn.names", laid_hartix_insn_names)], narrowed := true }
def InsnBackUptoSaid : Prop := insnBackUptoRow.holds Tryd.pinned (OpenSpec.upto insnBackSpec)

end Rows
end Go.Proofs.YtgjiojcdifjhcaaDoor
