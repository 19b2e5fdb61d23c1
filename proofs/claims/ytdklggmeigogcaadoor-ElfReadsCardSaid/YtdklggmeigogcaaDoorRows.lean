/-
  NARROWER THAN 'FOR EVERY INPUT', by the rows' own cells (each row's printed sentence says how): ElfReads: laid · ElfWrites: laid · ElfBack: laid · ElfAgain: laid · ElfCut: laid · ElfFresh: laid.
  DERIVED. THE GIVEN ROWS OF THIS SEAT. 6 by the template 'for every input the law returns true; each argument reads behind the call as it read before'; 0 by the template 'total and deterministic' (their statements: YtdklggmeigogcaaDoorTotals.lean).
  GIVEN WITH THE SEED: the statements are not yours to turn. If you find one false, say at which input.
  Laid BY PROGRAM, IN A SANDBOX (cutbox-rows.mjs): the forced cells as the released guide's own fill.sh prints them over the translation f7131ce9ed244951… (all of the seat's roots in one cut). By AI agents, Wed Nov 11 2026. No macro, syntax, notation, axiom, sorry.
-/
import Derived.Test.YtdklggmeigogcaaDoorChecked
import GoSem.Claim
import GoSem.ClaimJoined
import GoSem.ClaimMapViews
import Derived.JoinedTies
import Derived.KernelRfl
namespace Go.Proofs.YtdklggmeigogcaaDoor
/- THE CELL 'sum', in the pinned program and in every row, IS THE sha256 OF THE DUMP (.gsa) THAT YtdklggmeigogcaaDoorProg.lean LOADS. Nothing in Lean hashes anything: it is a label: what it is worth is what the hold of that sum in a sandbox is worth. -/
noncomputable def Tryd.pinned : Pinned := { name := "ytdklggmeigogcaadoor", sum := "f7131ce9ed244951ac64d6820ce62742e5a38e9b15498a4544d249cd72202ed2", checked := Tryd.checked }
namespace Rows
def none {H : Type} : Left H := { results := [], args := [] }

/- WHAT THE LISTED PACKAGE-LEVEL VARIABLES READ AS WHEN THE CALL BEGINS. Each datum BY PROGRAM (the guide's laid-datum.mjs) off the statement by which the dump's own 'gosem.cut.vars' lays the variable. In a bare row this is a premise. The card (YtdklggmeigogcaaDoorCards.lean) ties it to the program's text. -/
def laid_hartix_elf_fixed {H : Type} : DataW H := .agg [.agg [.lit (.int .i64 0), .lit (.int .i64 4), .lit (.int .u64 1179403647)], .agg [.lit (.int .i64 4), .lit (.int .i64 1), .lit (.int .u64 2)], .agg [.lit (.int .i64 5), .lit (.int .i64 1), .lit (.int .u64 1)], .agg [.lit (.int .i64 6), .lit (.int .i64 1), .lit (.int .u64 1)], .agg [.lit (.int .i64 16), .lit (.int .i64 2), .lit (.int .u64 2)], .agg [.lit (.int .i64 18), .lit (.int .i64 2), .lit (.int .u64 243)], .agg [.lit (.int .i64 20), .lit (.int .i64 4), .lit (.int .u64 1)], .agg [.lit (.int .i64 52), .lit (.int .i64 2), .lit (.int .u64 64)], .agg [.lit (.int .i64 54), .lit (.int .i64 2), .lit (.int .u64 56)]]
def laid_hartix_elf_entryAt {H : Type} : DataW H := .agg [.lit (.int .i64 24), .lit (.int .i64 8), .lit (.int .u64 0)]
def laid_hartix_elf_headsAt {H : Type} : DataW H := .agg [.lit (.int .i64 32), .lit (.int .i64 8), .lit (.int .u64 0)]
def laid_hartix_elf_countAt {H : Type} : DataW H := .agg [.lit (.int .i64 56), .lit (.int .i64 2), .lit (.int .u64 0)]
def laid_hartix_elf_typeAt {H : Type} : DataW H := .agg [.lit (.int .i64 0), .lit (.int .i64 4), .lit (.int .u64 0)]
def laid_hartix_elf_flagsAt {H : Type} : DataW H := .agg [.lit (.int .i64 4), .lit (.int .i64 4), .lit (.int .u64 0)]
def laid_hartix_elf_fileAt {H : Type} : DataW H := .agg [.lit (.int .i64 8), .lit (.int .i64 8), .lit (.int .u64 0)]
def laid_hartix_elf_vaAt {H : Type} : DataW H := .agg [.lit (.int .i64 16), .lit (.int .i64 8), .lit (.int .u64 0)]
def laid_hartix_elf_sizeAt {H : Type} : DataW H := .agg [.lit (.int .i64 32), .lit (.int .i64 8), .lit (.int .u64 0)]
def laid_hartix_elf_memAt {H : Type} : DataW H := .agg [.lit (.int .i64 40), .lit (.int .i64 8), .lit (.int .u64 0)]
def laid_hartix_elf_paAt {H : Type} : DataW H := .agg [.lit (.int .i64 24), .lit (.int .i64 8), .lit (.int .u64 0)]
def laid_hartix_elf_alignAt {H : Type} : DataW H := .agg [.lit (.int .i64 48), .lit (.int .i64 8), .lit (.int .u64 0)]

/-- 'hartixlaw7.ElfReads': WHATEVER THE INPUT: true; the input reads as it did. -/
def elfReadsSpec : ChangeSpec := { name := "elfReads", fn := fun _ => fun
  | [d] => { results := [.lit (.bool true)], args := [d] }
  | _ => none }
def elfReadsRow : OpenClaim := { program := "ytdklggmeigogcaadoor", sum := "f7131ce9ed244951ac64d6820ce62742e5a38e9b15498a4544d249cd72202ed2", func := "hartix/hartixlaw7.ElfReads", spec := "elfReads", unfollowed := true, recurses := true, named := ["hartix/elf.typeAt", "hartix/elf.countAt", "hartix/elf.entryAt", "hartix/elf.fixed", "hartix/elf.headsAt", "hartix/elf.fileAt", "hartix/elf.sizeAt", "hartix/elf.vaAt", "hartix/elf.flagsAt", "hartix/elf.memAt"], apart := false, laid := [("hartix/elf.fixed", laid_hartix_elf_fixed), ("hartix/elf.entryAt", laid_hartix_elf_entryAt), ("hartix/elf.headsAt", laid_hartix_elf_headsAt), ("hartix/elf.countAt", laid_hartix_elf_countAt), ("hartix/elf.typeAt", laid_hartix_elf_typeAt), ("hartix/elf.flagsAt", laid_hartix_elf_flagsAt), ("hartix/elf.fileAt", laid_hartix_elf_fileAt), ("hartix/elf.vaAt", laid_hartix_elf_vaAt), ("hartix/elf.sizeAt", laid_hartix_elf_sizeAt), ("hartix/elf.memAt", laid_hartix_elf_memAt)] }
def ElfReadsSaid : Prop := elfReadsRow.holds Tryd.pinned (OpenSpec.ofChange elfReadsSpec)

/-- ITS FALSE NEIGHBOUR: 'it returns false'. Refute it at one input. -/
def elfReadsWrong : ChangeSpec := { name := "elfReads", fn := fun _ => fun
  | [d] => { results := [.lit (.bool false)], args := [d] }
  | _ => none }
def ElfReadsWrongFalsely : Prop := elfReadsRow.holds Tryd.pinned (OpenSpec.ofChange elfReadsWrong)

/-- 'hartixlaw7.ElfWrites': WHATEVER THE INPUT: true; the input reads as it did. -/
def elfWritesSpec : ChangeSpec := { name := "elfWrites", fn := fun _ => fun
  | [d] => { results := [.lit (.bool true)], args := [d] }
  | _ => none }
def elfWritesRow : OpenClaim := { program := "ytdklggmeigogcaadoor", sum := "f7131ce9ed244951ac64d6820ce62742e5a38e9b15498a4544d249cd72202ed2", func := "hartix/hartixlaw7.ElfWrites", spec := "elfWrites", named := ["hartix/elf.fixed", "hartix/elf.entryAt", "hartix/elf.headsAt", "hartix/elf.countAt", "hartix/elf.typeAt", "hartix/elf.flagsAt", "hartix/elf.fileAt", "hartix/elf.vaAt", "hartix/elf.paAt", "hartix/elf.sizeAt", "hartix/elf.memAt", "hartix/elf.alignAt"], apart := false, laid := [("hartix/elf.fixed", laid_hartix_elf_fixed), ("hartix/elf.entryAt", laid_hartix_elf_entryAt), ("hartix/elf.headsAt", laid_hartix_elf_headsAt), ("hartix/elf.countAt", laid_hartix_elf_countAt), ("hartix/elf.typeAt", laid_hartix_elf_typeAt), ("hartix/elf.flagsAt", laid_hartix_elf_flagsAt), ("hartix/elf.fileAt", laid_hartix_elf_fileAt), ("hartix/elf.vaAt", laid_hartix_elf_vaAt), ("hartix/elf.paAt", laid_hartix_elf_paAt), ("hartix/elf.sizeAt", laid_hartix_elf_sizeAt), ("hartix/elf.memAt", laid_hartix_elf_memAt), ("hartix/elf.alignAt", laid_hartix_elf_alignAt)] }
def ElfWritesSaid : Prop := elfWritesRow.holds Tryd.pinned (OpenSpec.ofChange elfWritesSpec)

/-- ITS FALSE NEIGHBOUR: 'it returns false'. Refute it at one input. -/
def elfWritesWrong : ChangeSpec := { name := "elfWrites", fn := fun _ => fun
  | [d] => { results := [.lit (.bool false)], args := [d] }
  | _ => none }
def ElfWritesWrongFalsely : Prop := elfWritesRow.holds Tryd.pinned (OpenSpec.ofChange elfWritesWrong)

/-- 'hartixlaw7.ElfBack': WHATEVER THE INPUT: true; the input reads as it did. -/
def elfBackSpec : ChangeSpec := { name := "elfBack", fn := fun _ => fun
  | [d] => { results := [.lit (.bool true)], args := [d] }
  | _ => none }
def elfBackRow : OpenClaim := { program := "ytdklggmeigogcaadoor", sum := "f7131ce9ed244951ac64d6820ce62742e5a38e9b15498a4544d249cd72202ed2", func := "hartix/hartixlaw7.ElfBack", spec := "elfBack", unfollowed := true, recurses := true, named := ["hartix/elf.fixed", "hartix/elf.entryAt", "hartix/elf.headsAt", "hartix/elf.countAt", "hartix/elf.typeAt", "hartix/elf.flagsAt", "hartix/elf.fileAt", "hartix/elf.vaAt", "hartix/elf.paAt", "hartix/elf.sizeAt", "hartix/elf.memAt", "hartix/elf.alignAt"], apart := false, laid := [("hartix/elf.fixed", laid_hartix_elf_fixed), ("hartix/elf.entryAt", laid_hartix_elf_entryAt), ("hartix/elf.headsAt", laid_hartix_elf_headsAt), ("hartix/elf.countAt", laid_hartix_elf_countAt), ("hartix/elf.typeAt", laid_hartix_elf_typeAt), ("hartix/elf.flagsAt", laid_hartix_elf_flagsAt), ("hartix/elf.fileAt", laid_hartix_elf_fileAt), ("hartix/elf.vaAt", laid_hartix_elf_vaAt), ("hartix/elf.paAt", laid_hartix_elf_paAt), ("hartix/elf.sizeAt", laid_hartix_elf_sizeAt), ("hartix/elf.memAt", laid_hartix_elf_memAt), ("hartix/elf.alignAt", laid_hartix_elf_alignAt)] }
def ElfBackSaid : Prop := elfBackRow.holds Tryd.pinned (OpenSpec.ofChange elfBackSpec)

/-- ITS FALSE NEIGHBOUR: 'it returns false'. Refute it at one input. -/
def elfBackWrong : ChangeSpec := { name := "elfBack", fn := fun _ => fun
  | [d] => { results := [.lit (.bool false)], args := [d] }
  | _ => none }
def ElfBackWrongFalsely : Prop := elfBackRow.holds Tryd.pinned (OpenSpec.ofChange elfBackWrong)

/-- 'hartixlaw7.ElfAgain': WHATEVER THE INPUT: true; the input reads as it did. -/
def elfAgainSpec : ChangeSpec := { name := "elfAgain", fn := fun _ => fun
  | [d] => { results := [.lit (.bool true)], args := [d] }
  | _ => none }
def elfAgainRow : OpenClaim := { program := "ytdklggmeigogcaadoor", sum := "f7131ce9ed244951ac64d6820ce62742e5a38e9b15498a4544d249cd72202ed2", func := "hartix/hartixlaw7.ElfAgain", spec := "elfAgain", unfollowed := true, recurses := true, named := ["hartix/elf.fixed", "hartix/elf.entryAt", "hartix/elf.headsAt", "hartix/elf.countAt", "hartix/elf.typeAt", "hartix/elf.flagsAt", "hartix/elf.fileAt", "hartix/elf.vaAt", "hartix/elf.paAt", "hartix/elf.sizeAt", "hartix/elf.memAt", "hartix/elf.alignAt"], apart := false, laid := [("hartix/elf.fixed", laid_hartix_elf_fixed), ("hartix/elf.entryAt", laid_hartix_elf_entryAt), ("hartix/elf.headsAt", laid_hartix_elf_headsAt), ("hartix/elf.countAt", laid_hartix_elf_countAt), ("hartix/elf.typeAt", laid_hartix_elf_typeAt), ("hartix/elf.flagsAt", laid_hartix_elf_flagsAt), ("hartix/elf.fileAt", laid_hartix_elf_fileAt), ("hartix/elf.vaAt", laid_hartix_elf_vaAt), ("hartix/elf.paAt", laid_hartix_elf_paAt), ("hartix/elf.sizeAt", laid_hartix_elf_sizeAt), ("hartix/elf.memAt", laid_hartix_elf_memAt), ("hartix/elf.alignAt", laid_hartix_elf_alignAt)] }
def ElfAgainSaid : Prop := elfAgainRow.holds Tryd.pinned (OpenSpec.ofChange elfAgainSpec)

/-- ITS FALSE NEIGHBOUR: 'it returns false'. Refute it at one input. -/
def elfAgainWrong : ChangeSpec := { name := "elfAgain", fn := fun _ => fun
  | [d] => { results := [.lit (.bool false)], args := [d] }
  | _ => none }
def ElfAgainWrongFalsely : Prop := elfAgainRow.holds Tryd.pinned (OpenSpec.ofChange elfAgainWrong)

/-- 'hartixlaw7.ElfCut': WHATEVER THE INPUT: true; the input reads as it did. -/
def elfCutSpec : ChangeSpec := { name := "elfCut", fn := fun _ => fun
  | [d1, d2] => { results := [.lit (.bool true)], args := [d1, d2] }
  | _ => none }
def elfCutRow : OpenClaim := { program := "ytdklggmeigogcaadoor", sum := "f7131ce9ed244951ac64d6820ce62742e5a38e9b15498a4544d249cd72202ed2", func := "hartix/hartixlaw7.ElfCut", spec := "elfCut", unfollowed := true, recurses := true, named := ["hartix/elf.fixed", "hartix/elf.entryAt", "hartix/elf.headsAt", "hartix/elf.countAt", "hartix/elf.typeAt", "hartix/elf.flagsAt", "hartix/elf.fileAt", "hartix/elf.vaAt", "hartix/elf.paAt", "hartix/elf.sizeAt", "hartix/elf.memAt", "hartix/elf.alignAt"], apart := false, laid := [("hartix/elf.fixed", laid_hartix_elf_fixed), ("hartix/elf.entryAt", laid_hartix_elf_entryAt), ("hartix/elf.headsAt", laid_hartix_elf_headsAt), ("hartix/elf.countAt", laid_hartix_elf_countAt), ("hartix/elf.typeAt", laid_hartix_elf_typeAt), ("hartix/elf.flagsAt", laid_hartix_elf_flagsAt), ("hartix/elf.fileAt", laid_hartix_elf_fileAt), ("hartix/elf.vaAt", laid_hartix_elf_vaAt), ("hartix/elf.paAt", laid_hartix_elf_paAt), ("hartix/elf.sizeAt", laid_hartix_elf_sizeAt), ("hartix/elf.memAt", laid_hartix_elf_memAt), ("hartix/elf.alignAt", laid_hartix_elf_alignAt)] }
def ElfCutSaid : Prop := elfCutRow.holds Tryd.pinned (OpenSpec.ofChange elfCutSpec)

/-- ITS FALSE NEIGHBOUR: 'it returns false'. Refute it at one input. -/
def elfCutWrong : ChangeSpec := { name := "elfCut", fn := fun _ => fun
  | [d1, d2] => { results := [.lit (.bool false)], args := [d1, d2] }
  | _ => none }
def ElfCutWrongFalsely : Prop := elfCutRow.holds Tryd.pinned (OpenSpec.ofChange elfCutWrong)

/-- 'hartixlaw7.ElfFresh': WHATEVER THE INPUT: true; the input reads as it did. -/
def elfFreshSpec : ChangeSpec := { name := "elfFresh", fn := fun _ => fun
  | [d1, d2] => { results := [.lit (.bool true)], args := [d1, d2] }
  | _ => none }
def elfFreshRow : OpenClaim := { program := "ytdklggmeigogcaadoor", sum := "f7131ce9ed244951ac64d6820ce62742e5a38e9b15498a4544d249cd72202ed2", func := "hartix/hartixlaw7.ElfFresh", spec := "elfFresh", unfollowed := true, recurses := true, named := ["hartix/elf.fixed", "hartix/elf.entryAt", "hartix/elf.headsAt", "hartix/elf.countAt", "hartix/elf.typeAt", "hartix/elf.flagsAt", "hartix/elf.fileAt", "hartix/elf.vaAt", "hartix/elf.paAt", "hartix/elf.sizeAt", "hartix/elf.memAt", "hartix/elf.alignAt"], apart := false, laid := [("hartix/elf.fixed", laid_hartix_elf_fixed), ("hartix/elf.entryAt", laid_hartix_elf_entryAt), ("hartix/elf.headsAt", laid_hartix_elf_headsAt), ("hartix/elf.countAt", laid_hartix_elf_countAt), ("hartix/elf.typeAt", laid_hartix_elf_typeAt), ("hartix/elf.flagsAt", laid_hartix_elf_flagsAt), ("hartix/elf.fileAt", laid_hartix_elf_fileAt), ("hartix/elf.vaAt", laid_hartix_elf_vaAt), ("hartix/elf.paAt", laid_hartix_elf_paAt), ("hartix/elf.sizeAt", laid_hartix_elf_sizeAt), ("hartix/elf.memAt", laid_hartix_elf_memAt), ("hartix/elf.alignAt", laid_hartix_elf_alignAt)] }
def ElfFreshSaid : Prop := elfFreshRow.holds Tryd.pinned (OpenSpec.ofChange elfFreshSpec)

/-- ITS FALSE NEIGHBOUR: 'it returns false'. Refute it at one input. -/
def elfFreshWrong : ChangeSpec := { name := "elfFresh", fn := fun _ => fun
  | [d1, d2] => { results := [.lit (.bool false)], args := [d1, d2] }
  | _ => none }
def ElfFreshWrongFalsely : Prop := elfFreshRow.holds Tryd.pinned (OpenSpec.ofChange elfFreshWrong)

/- THE SECOND FORM. 'bulk': how many values and letters a reading holds, each counted each time it is reached (what is shared counts as often as it is met; a slice's spare places count too). A statement '..UptoSaid' is the law's where the arguments, and the package variables that the reading takes, are together of bulk at most 1048576: NARROWER than '..Said'. Prove '..Said' where nothing that the law and all that it calls make is longer than what came in: it says more and counts as full. Else prove '..UptoSaid'. A law counts once. -/
mutual
def uptoBulk {H : Type} : DataW H → Nat
  | .lit (.string bytes) => bytes.length + 1
  | .lit _ => 1
  | .nil => 1
  | .ptr d => uptoBulk d + 1
  | .slice elems spare => uptoBulkAll elems + uptoBulkAll spare + 1
  | .agg parts => uptoBulkAll parts + 1
  | .iface _ d => uptoBulk d + 1
  | .map entries => uptoBulkEntries entries + 1
  | .held _ => 1
def uptoBulkAll {H : Type} : List (DataW H) → Nat
  | [] => 0
  | d :: r => uptoBulk d + uptoBulkAll r
def uptoBulkEntries {H : Type} : List (Lit × DataW H) → Nat
  | [] => 0
  | x :: r => uptoBulkEntry x + uptoBulkEntries r
def uptoBulkEntry {H : Type} : Lit × DataW H → Nat
  | (.string bytes, d) => bytes.length + uptoBulk d + 1
  | (_, d) => uptoBulk d + 1
 end
def uptoSmall : (H : Type) → List (DataW H) → Bool := fun _ ds => decide (uptoBulkAll ds ≤ 1048576)
def OpenSpec.upto (s : _root_.Go.ChangeSpec) : _root_.Go.OpenSpec := { _root_.Go.OpenSpec.ofChange s with cond := some uptoSmall }

/-- 'hartixlaw7.ElfReads', WHERE WHAT IT READS IS OF BULK AT MOST 1048576: true; the input reads as it did. -/
def elfReadsUptoRow : OpenClaim := { program := "ytdklggmeigogcaadoor", sum := "f7131ce9ed244951ac64d6820ce62742e5a38e9b15498a4544d249cd72202ed2", func := "hartix/hartixlaw7.ElfReads", spec := "elfReads", unfollowed := true, recurses := true, named := ["hartix/elf.typeAt", "hartix/elf.countAt", "hartix/elf.entryAt", "hartix/elf.fixed", "hartix/elf.headsAt", "hartix/elf.fileAt", "hartix/elf.sizeAt", "hartix/elf.vaAt", "hartix/elf.flagsAt", "hartix/elf.memAt"], apart := false, laid := [("hartix/elf.fixed", laid_hartix_elf_fixed), ("hartix/elf.entryAt", laid_hartix_elf_entryAt), ("hartix/elf.headsAt", laid_hartix_elf_headsAt), ("hartix/elf.countAt", laid_hartix_elf_countAt), ("hartix/elf.typeAt", laid_hartix_elf_typeAt), ("hartix/elf.flagsAt", laid_hartix_elf_flagsAt), ("hartix/elf.fileAt", laid_hartix_elf_fileAt), ("hartix/elf.vaAt", laid_hartix_elf_vaAt), ("hartix/elf.sizeAt", laid_hartix_elf_sizeAt), ("hartix/elf.memAt", laid_hartix_elf_memAt)], narrowed := true }
def ElfReadsUptoSaid : Prop := elfReadsUptoRow.holds Tryd.pinned (OpenSpec.upto elfReadsSpec)

/-- 'hartixlaw7.ElfWrites', WHERE WHAT IT READS IS OF BULK AT MOST 1048576: true; the input reads as it did. -/
def elfWritesUptoRow : OpenClaim := { program := "ytdklggmeigogcaadoor", sum := "f7131ce9ed244951ac64d6820ce62742e5a38e9b15498a4544d249cd72202ed2", func := "hartix/hartixlaw7.ElfWrites", spec := "elfWrites", named := ["hartix/elf.fixed", "hartix/elf.entryAt", "hartix/elf.headsAt", "hartix/elf.countAt", "hartix/elf.typeAt", "hartix/elf.flagsAt", "hartix/elf.fileAt", "hartix/elf.vaAt", "hartix/elf.paAt", "hartix/elf.sizeAt", "hartix/elf.memAt", "hartix/elf.alignAt"], apart := false, laid := [("hartix/elf.fixed", laid_hartix_elf_fixed), ("hartix/elf.entryAt", laid_hartix_elf_entryAt), ("hartix/elf.headsAt", laid_hartix_elf_headsAt), ("hartix/elf.countAt", laid_hartix_elf_countAt), ("hartix/elf.typeAt", laid_hartix_elf_typeAt), ("hartix/elf.flagsAt", laid_hartix_elf_flagsAt), ("hartix/elf.fileAt", laid_hartix_elf_fileAt), ("hartix/elf.vaAt", laid_hartix_elf_vaAt), ("hartix/elf.paAt", laid_hartix_elf_paAt), ("hartix/elf.sizeAt", laid_hartix_elf_sizeAt), ("hartix/elf.memAt", laid_hartix_elf_memAt), ("hartix/elf.alignAt", laid_hartix_elf_alignAt)], narrowed := true }
def ElfWritesUptoSaid : Prop := elfWritesUptoRow.holds Tryd.pinned (OpenSpec.upto elfWritesSpec)

/-- 'hartixlaw7.ElfBack', WHERE WHAT IT READS IS OF BULK AT MOST 1048576: true; the input reads as it did. -/
def elfBackUptoRow : OpenClaim := { program := "ytdklggmeigogcaadoor", sum := "f7131ce9ed244951ac64d6820ce62742e5a38e9b15498a4544d249cd72202ed2", func := "hartix/hartixlaw7.ElfBack", spec := "elfBack", unfollowed := true, recurses := true, named := ["hartix/elf.fixed", "hartix/elf.entryAt", "hartix/elf.headsAt", "hartix/elf.countAt", "hartix/elf.typeAt", "hartix/elf.flagsAt", "hartix/elf.fileAt", "hartix/elf.vaAt", "hartix/elf.paAt", "hartix/elf.sizeAt", "hartix/elf.memAt", "hartix/elf.alignAt"], apart := false, laid := [("hartix/elf.fixed", laid_hartix_elf_fixed), ("hartix/elf.entryAt", laid_hartix_elf_entryAt), ("hartix/elf.headsAt", laid_hartix_elf_headsAt), ("hartix/elf.countAt", laid_hartix_elf_countAt), ("hartix/elf.typeAt", laid_hartix_elf_typeAt), ("hartix/elf.flagsAt", laid_hartix_elf_flagsAt), ("hartix/elf.fileAt", laid_hartix_elf_fileAt), ("hartix/elf.vaAt", laid_hartix_elf_vaAt), ("hartix/elf.paAt", laid_hartix_elf_paAt), ("hartix/elf.sizeAt", laid_hartix_elf_sizeAt), ("hartix/elf.memAt", laid_hartix_elf_memAt), ("hartix/elf.alignAt", laid_hartix_elf_alignAt)], narrowed := true }
def ElfBackUptoSaid : Prop := elfBackUptoRow.holds Tryd.pinned (OpenSpec.upto elfBackSpec)

/-- 'hartixlaw7.ElfAgain', WHERE WHAT IT READS IS OF BULK AT MOST 1048576: true; the input reads as it did. -/
def elfAgainUptoRow : OpenClaim := { program := "ytdklggmeigogcaadoor", sum := "f7131ce9ed244951ac64d6820ce62742e5a38e9b15498a4544d249cd72202ed2", func := "hartix/hartixlaw7.ElfAgain", spec := "elfAgain", unfollowed := true, recurses := true, named := ["hartix/elf.fixed", "hartix/elf.entryAt", "hartix/elf.headsAt", "hartix/elf.countAt", "hartix/elf.typeAt", "hartix/elf.flagsAt", "hartix/elf.fileAt", "hartix/elf.vaAt", "hartix/elf.paAt", "hartix/elf.sizeAt", "hartix/elf.memAt", "hartix/elf.alignAt"], apart := false, laid := [("hartix/elf.fixed", laid_hartix_elf_fixed), ("hartix/elf.entryAt", laid_hartix_elf_entryAt), ("hartix/elf.headsAt", laid_hartix_elf_headsAt), ("hartix/elf.countAt", laid_hartix_elf_countAt), ("hartix/elf.typeAt", laid_hartix_elf_typeAt), ("hartix/elf.flagsAt", laid_hartix_elf_flagsAt), ("hartix/elf.fileAt", laid_hartix_elf_fileAt), ("hartix/elf.vaAt", laid_hartix_elf_vaAt), ("hartix/elf.paAt", laid_hartix_elf_paAt), ("hartix/elf.sizeAt", laid_hartix_elf_sizeAt), ("hartix/elf.memAt", laid_hartix_elf_memAt), ("hartix/elf.alignAt", laid_hartix_elf_alignAt)], narrowed := true }
def ElfAgainUptoSaid : Prop := elfAgainUptoRow.holds Tryd.pinned (OpenSpec.upto elfAgainSpec)

/-- 'hartixlaw7.ElfCut', WHERE WHAT IT READS IS OF BULK AT MOST 1048576: true; the input reads as it did. -/
def elfCutUptoRow : OpenClaim := { program := "ytdklggmeigogcaadoor", sum := "f7131ce9ed244951ac64d6820ce62742e5a38e9b15498a4544d249cd72202ed2", func := "hartix/hartixlaw7.ElfCut", spec := "elfCut", unfollowed := true, recurses := true, named := ["hartix/elf.fixed", "hartix/elf.entryAt", "hartix/elf.headsAt", "hartix/elf.countAt", "hartix/elf.typeAt", "hartix/elf.flagsAt", "hartix/elf.fileAt", "hartix/elf.vaAt", "hartix/elf.paAt", "hartix/elf.sizeAt", "hartix/elf.memAt", "hartix/elf.alignAt"], apart := false, laid := [("hartix/elf.fixed", laid_hartix_elf_fixed), ("hartix/elf.entryAt", laid_hartix_elf_entryAt), ("hartix/elf.headsAt", laid_hartix_elf_headsAt), ("hartix/elf.countAt", laid_hartix_elf_countAt), ("hartix/elf.typeAt", laid_hartix_elf_typeAt), ("hartix/elf.flagsAt", laid_hartix_elf_flagsAt), ("hartix/elf.fileAt", laid_hartix_elf_fileAt), ("hartix/elf.vaAt", laid_hartix_elf_vaAt), ("hartix/elf.paAt", laid_hartix_elf_paAt), ("hartix/elf.sizeAt", laid_hartix_elf_sizeAt), ("hartix/elf.memAt", laid_hartix_elf_memAt), ("hartix/elf.alignAt", laid_hartix_elf_alignAt)], narrowed := true }
def ElfCutUptoSaid : Prop := elfCutUptoRow.holds Tryd.pinned (OpenSpec.upto elfCutSpec)

/-- 'hartixlaw7.ElfFresh', WHERE WHAT IT READS IS OF BULK AT MOST 1048576: true; the input reads as it did. -/
def elfFreshUptoRow : OpenClaim := { program := "ytdklggmeigogcaadoor", sum := "f7131ce9ed244951ac64d6820ce62742e5a38e9b15498a4544d249cd72202ed2", func := "hartix/hartixlaw7.ElfFresh", spec := "elfFresh", unfollowed := true, recurses := true, named := ["hartix/elf.fixed", "hartix/elf.entryAt", "hartix/elf.headsAt", "hartix/elf.countAt", "hartix/elf.typeAt", "hartix/elf.flagsAt", "hartix/elf.fileAt", "hartix/elf.vaAt", "hartix/elf.paAt", "hartix/elf.sizeAt", "hartix/elf.memAt", "hartix/elf.alignAt"], apart := false, laid := [("hartix/elf.fixed", laid_hartix_elf_fixed), ("hartix/elf.entryAt", laid_hartix_elf_entryAt), ("hartix/elf.headsAt", laid_hartix_elf_headsAt), ("hartix/elf.countAt", laid_hartix_elf_countAt), ("hartix/elf.typeAt", laid_hartix_elf_typeAt), ("hartix/elf.flagsAt", laid_hartix_elf_flagsAt), ("hartix/elf.fileAt", laid_hartix_elf_fileAt), ("hartix/elf.vaAt", laid_hartix_elf_vaAt), ("hartix/elf.paAt", laid_hartix_elf_paAt), ("hartix/elf.sizeAt", laid_hartix_elf_sizeAt), ("hartix/elf.memAt", laid_hartix_elf_memAt), ("hartix/elf.alignAt", laid_hartix_elf_alignAt)], narrowed := true }
def ElfFreshUptoSaid : Prop := elfFreshUptoRow.holds Tryd.pinned (OpenSpec.upto elfFreshSpec)

end Rows
end Go.Proofs.YtdklggmeigogcaaDoor
