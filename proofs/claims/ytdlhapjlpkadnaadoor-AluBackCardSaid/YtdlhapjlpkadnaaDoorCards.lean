/-
  DERIVED. GIVEN WITH THE SEED: THE CARDS: each row of YtdlhapjlpkadnaaDoorRows.lean that lists a variable, with what it lists TIED to the program's text (the seventh form; the later family's looks); each row that meets fmt, with fmt's text TOLD by the authors' own Lean function (tested against real Go, not proved from fmt's source: count such statements apart). THE CARD IS WHAT COUNTS. Prove the row's statement (the work); the ties are given (YtdlhapjlpkadnaaDoorTie.lean); close each card by the builder's one call (the guide's Derived/Test/ToyasCard.lean, 'card_holds'). Laid BY PROGRAM, IN A SANDBOX (cutbox-door.mjs). By AI agents, Wed Nov 11 2026. No macro, syntax, notation, axiom, sorry.
-/
import Derived.Test.YtdlhapjlpkadnaaDoorRows
import GoSem.ClaimSeven
namespace Go.Proofs.YtdlhapjlpkadnaaDoor
namespace Rows

/-- THE TIED CARD OF 'hartixlaw2.AluNames'. -/
def aluNamesCard : Claim7 := { stood := { row := aluNamesRow, standIns := [], harness := (true, "922c3ebcaf8312c2e6622cd9bd72ae0a5feddb8064b172affc5edab997b425ea"), looks := true }, kinds := [], alts := [], laidByText := true, laidKinds := [.data], laidTests := true, laidLooks := .later }
def AluNamesCardSaid : Prop := Claim7.holds Tryd.pinned (.plain (OpenSpec.ofChange aluNamesSpec)) aluNamesCard

/-- THE TIED CARD OF 'hartixlaw2.AluMoves'. -/
def aluMovesCard : Claim7 := { stood := { row := aluMovesRow, standIns := [], harness := (true, "922c3ebcaf8312c2e6622cd9bd72ae0a5feddb8064b172affc5edab997b425ea"), looks := true }, kinds := [], alts := [], laidByText := true, laidKinds := [.data], laidTests := true, laidLooks := .later }
def AluMovesCardSaid : Prop := Claim7.holds Tryd.pinned (.plain (OpenSpec.ofChange aluMovesSpec)) aluMovesCard

/-- THE TIED CARD OF 'hartixlaw2.AluBack'. -/
def aluBackCard : Claim7 := { stood := { row := aluBackRow, standIns := [], harness := (true, "922c3ebcaf8312c2e6622cd9bd72ae0a5feddb8064b172affc5edab997b425ea"), looks := true }, kinds := [], alts := [], laidByText := true, laidKinds := [.data], laidTests := true, laidLooks := .later }
def AluBackCardSaid : Prop := Claim7.holds Tryd.pinned (.plain (OpenSpec.ofChange aluBackSpec)) aluBackCard

/-- THE SECOND FORM's CARD OF 'hartixlaw2.AluNames'. -/
def aluNamesUptoCard : Claim7 := { stood := { row := aluNamesUptoRow, standIns := [], harness := (true, "922c3ebcaf8312c2e6622cd9bd72ae0a5feddb8064b172affc5edab997b425ea"), looks := true }, kinds := [], alts := [], laidByText := true, laidKinds := [.data], laidTests := true, laidLooks := .later }
def AluNamesUptoCardSaid : Prop := Claim7.holds Tryd.pinned (.plain (OpenSpec.upto aluNamesSpec)) aluNamesUptoCard

/-- THE SECOND FORM's CARD OF 'hartixlaw2.AluMoves'. -/
def aluMovesUptoCard : Claim7 := { stood := { row := aluMovesUptoRow, standIns := [], harness := (true, "922c3ebcaf8312c2e6622cd9bd72ae0a5feddb8064b172affc5edab997b425ea"), looks := true }, kinds := [], alts := [], laidByText := true, laidKinds := [.data], laidTests := true, laidLooks := .later }
def AluMovesUptoCardSaid : Prop := Claim7.holds Tryd.pinned (.plain (OpenSpec.upto aluMovesSpec)) aluMovesUptoCard

/-- THE SECOND FORM's CARD OF 'hartixlaw2.AluBack'. -/
def aluBackUptoCard : Claim7 := { stood := { row := aluBackUptoRow, standIns := [], harness := (true, "922c3ebcaf8312c2e6622cd9bd72ae0a5feddb8064b172affc5edab997b425ea"), looks := true }, kinds := [], alts := [], laidByText := true, laidKinds := [.data], laidTests := true, laidLooks := .later }
def AluBackUptoCardSaid : Prop := Claim7.holds Tryd.pinned (.plain (OpenSpec.upto aluBackSpec)) aluBackUptoCard
end Rows
end Go.Proofs.YtdlhapjlpkadnaaDoor
