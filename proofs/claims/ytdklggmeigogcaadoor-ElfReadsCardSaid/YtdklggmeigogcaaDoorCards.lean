/-
  DERIVED. GIVEN WITH THE SEED: THE CARDS: each row of YtdklggmeigogcaaDoorRows.lean that lists a variable, with what it lists TIED to the program's text (the seventh form; the later family's looks); each row that meets fmt, with fmt's text TOLD by the authors' own Lean function (tested against real Go, not proved from fmt's source: count such statements apart). THE CARD IS WHAT COUNTS. Prove the row's statement (the work); the ties are given (YtdklggmeigogcaaDoorTie.lean); close each card by the builder's one call (the guide's Derived/Test/ToyasCard.lean, 'card_holds'). Laid BY PROGRAM, IN A SANDBOX (cutbox-door.mjs). By AI agents, Wed Nov 11 2026. No macro, syntax, notation, axiom, sorry.
-/
import Derived.Test.YtdklggmeigogcaaDoorRows
import GoSem.ClaimSeven
namespace Go.Proofs.YtdklggmeigogcaaDoor
namespace Rows

/-- THE TIED CARD OF 'hartixlaw7.ElfReads'. -/
def elfReadsCard : Claim7 := { stood := { row := elfReadsRow, standIns := [], harness := (true, "de7cd4246ebb8365be163c2cbd83ad82384c031e25190ad575281fa29d998b42"), looks := true }, kinds := [], alts := [], laidByText := true, laidKinds := [.data, .wider, .wider, .wider, .wider, .wider, .wider, .wider, .wider, .wider], laidTests := true, laidLooks := .later }
def ElfReadsCardSaid : Prop := Claim7.holds Tryd.pinned (.plain (OpenSpec.ofChange elfReadsSpec)) elfReadsCard

/-- THE TIED CARD OF 'hartixlaw7.ElfWrites'. -/
def elfWritesCard : Claim7 := { stood := { row := elfWritesRow, standIns := [], harness := (true, "de7cd4246ebb8365be163c2cbd83ad82384c031e25190ad575281fa29d998b42"), looks := true }, kinds := [], alts := [], laidByText := true, laidKinds := [.data, .wider, .wider, .wider, .wider, .wider, .wider, .wider, .wider, .wider, .wider, .wider], laidTests := true, laidLooks := .later }
def ElfWritesCardSaid : Prop := Claim7.holds Tryd.pinned (.plain (OpenSpec.ofChange elfWritesSpec)) elfWritesCard

/-- THE TIED CARD OF 'hartixlaw7.ElfBack'. -/
def elfBackCard : Claim7 := { stood := { row := elfBackRow, standIns := [], harness := (true, "de7cd4246ebb8365be163c2cbd83ad82384c031e25190ad575281fa29d998b42"), looks := true }, kinds := [], alts := [], laidByText := true, laidKinds := [.data, .wider, .wider, .wider, .wider, .wider, .wider, .wider, .wider, .wider, .wider, .wider], laidTests := true, laidLooks := .later }
def ElfBackCardSaid : Prop := Claim7.holds Tryd.pinned (.plain (OpenSpec.ofChange elfBackSpec)) elfBackCard

/-- THE TIED CARD OF 'hartixlaw7.ElfAgain'. -/
def elfAgainCard : Claim7 := { stood := { row := elfAgainRow, standIns := [], harness := (true, "de7cd4246ebb8365be163c2cbd83ad82384c031e25190ad575281fa29d998b42"), looks := true }, kinds := [], alts := [], laidByText := true, laidKinds := [.data, .wider, .wider, .wider, .wider, .wider, .wider, .wider, .wider, .wider, .wider, .wider], laidTests := true, laidLooks := .later }
def ElfAgainCardSaid : Prop := Claim7.holds Tryd.pinned (.plain (OpenSpec.ofChange elfAgainSpec)) elfAgainCard

/-- THE TIED CARD OF 'hartixlaw7.ElfCut'. -/
def elfCutCard : Claim7 := { stood := { row := elfCutRow, standIns := [], harness := (true, "de7cd4246ebb8365be163c2cbd83ad82384c031e25190ad575281fa29d998b42"), looks := true }, kinds := [], alts := [], laidByText := true, laidKinds := [.data, .wider, .wider, .wider, .wider, .wider, .wider, .wider, .wider, .wider, .wider, .wider], laidTests := true, laidLooks := .later }
def ElfCutCardSaid : Prop := Claim7.holds Tryd.pinned (.plain (OpenSpec.ofChange elfCutSpec)) elfCutCard

/-- THE TIED CARD OF 'hartixlaw7.ElfFresh'. -/
def elfFreshCard : Claim7 := { stood := { row := elfFreshRow, standIns := [], harness := (true, "de7cd4246ebb8365be163c2cbd83ad82384c031e25190ad575281fa29d998b42"), looks := true }, kinds := [], alts := [], laidByText := true, laidKinds := [.data, .wider, .wider, .wider, .wider, .wider, .wider, .wider, .wider, .wider, .wider, .wider], laidTests := true, laidLooks := .later }
def ElfFreshCardSaid : Prop := Claim7.holds Tryd.pinned (.plain (OpenSpec.ofChange elfFreshSpec)) elfFreshCard

/-- THE SECOND FORM's CARD OF 'hartixlaw7.ElfReads'. -/
def elfReadsUptoCard : Claim7 := { stood := { row := elfReadsUptoRow, standIns := [], harness := (true, "de7cd4246ebb8365be163c2cbd83ad82384c031e25190ad575281fa29d998b42"), looks := true }, kinds := [], alts := [], laidByText := true, laidKinds := [.data, .wider, .wider, .wider, .wider, .wider, .wider, .wider, .wider, .wider], laidTests := true, laidLooks := .later }
def ElfReadsUptoCardSaid : Prop := Claim7.holds Tryd.pinned (.plain (OpenSpec.upto elfReadsSpec)) elfReadsUptoCard

/-- THE SECOND FORM's CARD OF 'hartixlaw7.ElfWrites'. -/
def elfWritesUptoCard : Claim7 := { stood := { row := elfWritesUptoRow, standIns := [], harness := (true, "de7cd4246ebb8365be163c2cbd83ad82384c031e25190ad575281fa29d998b42"), looks := true }, kinds := [], alts := [], laidByText := true, laidKinds := [.data, .wider, .wider, .wider, .wider, .wider, .wider, .wider, .wider, .wider, .wider, .wider], laidTests := true, laidLooks := .later }
def ElfWritesUptoCardSaid : Prop := Claim7.holds Tryd.pinned (.plain (OpenSpec.upto elfWritesSpec)) elfWritesUptoCard

/-- THE SECOND FORM's CARD OF 'hartixlaw7.ElfBack'. -/
def elfBackUptoCard : Claim7 := { stood := { row := elfBackUptoRow, standIns := [], harness := (true, "de7cd4246ebb8365be163c2cbd83ad82384c031e25190ad575281fa29d998b42"), looks := true }, kinds := [], alts := [], laidByText := true, laidKinds := [.data, .wider, .wider, .wider, .wider, .wider, .wider, .wider, .wider, .wider, .wider, .wider], laidTests := true, laidLooks := .later }
def ElfBackUptoCardSaid : Prop := Claim7.holds Tryd.pinned (.plain (OpenSpec.upto elfBackSpec)) elfBackUptoCard

/-- THE SECOND FORM's CARD OF 'hartixlaw7.ElfAgain'. -/
def elfAgainUptoCard : Claim7 := { stood := { row := elfAgainUptoRow, standIns := [], harness := (true, "de7cd4246ebb8365be163c2cbd83ad82384c031e25190ad575281fa29d998b42"), looks := true }, kinds := [], alts := [], laidByText := true, laidKinds := [.data, .wider, .wider, .wider, .wider, .wider, .wider, .wider, .wider, .wider, .wider, .wider], laidTests := true, laidLooks := .later }
def ElfAgainUptoCardSaid : Prop := Claim7.holds Tryd.pinned (.plain (OpenSpec.upto elfAgainSpec)) elfAgainUptoCard

/-- THE SECOND FORM's CARD OF 'hartixlaw7.ElfCut'. -/
def elfCutUptoCard : Claim7 := { stood := { row := elfCutUptoRow, standIns := [], harness := (true, "de7cd4246ebb8365be163c2cbd83ad82384c031e25190ad575281fa29d998b42"), looks := true }, kinds := [], alts := [], laidByText := true, laidKinds := [.data, .wider, .wider, .wider, .wider, .wider, .wider, .wider, .wider, .wider, .wider, .wider], laidTests := true, laidLooks := .later }
def ElfCutUptoCardSaid : Prop := Claim7.holds Tryd.pinned (.plain (OpenSpec.upto elfCutSpec)) elfCutUptoCard

/-- THE SECOND FORM's CARD OF 'hartixlaw7.ElfFresh'. -/
def elfFreshUptoCard : Claim7 := { stood := { row := elfFreshUptoRow, standIns := [], harness := (true, "de7cd4246ebb8365be163c2cbd83ad82384c031e25190ad575281fa29d998b42"), looks := true }, kinds := [], alts := [], laidByText := true, laidKinds := [.data, .wider, .wider, .wider, .wider, .wider, .wider, .wider, .wider, .wider, .wider, .wider], laidTests := true, laidLooks := .later }
def ElfFreshUptoCardSaid : Prop := Claim7.holds Tryd.pinned (.plain (OpenSpec.upto elfFreshSpec)) elfFreshUptoCard
end Rows
end Go.Proofs.YtdklggmeigogcaaDoor
