/-
  DERIVED. GIVEN WITH THE SEED: THE CARDS: each row of YtgjiojcdifjhcaaDoorRows.lean that lists a variable, with what it lists TIED to the program's text (the seventh form; the later family's looks); each row that meets fmt, with fmt's text TOLD by the authors' own Lean function (tested against real Go, not proved from fmt's source: count such statements apart). THE CARD IS WHAT COUNTS. Prove the row's statement (the work); the ties are given (YtgjiojcdifjhcaaDoorTie.lean); close each card by the builder's one call (the guide's Derived/Test/ToyasCard.lean, 'card_holds'). Laid BY PROGRAM, IN A SANDBOX (cutbox-door.mjs). By AI agents, Wed Nov 11 2026. No macro, syntax, notation, axiom, sorry.
-/
import Derived.Test.YtgjiojcdifjhcaaDoorRows
import GoSem.ClaimSeven
namespace Go.Proofs.YtgjiojcdifjhcaaDoor
namespace Rows

/-- THE TIED CARD OF 'hartixlaw1.InsnNames'. -/
def insnNamesCard : Claim7 := { stood := { row := insnNamesRow, standIns := [], harness := (true, "0e35958f2e86de66c6c7953527c281e893eb73a7e41a76286f822d4b0135df5f"), looks := true }, kinds := [], alts := [], laidByText := true, laidKinds := [.data, .data, .data], laidTests := true, laidLooks := .later }
def InsnNamesCardSaid : Prop := Claim7.holds Tryd.pinned (.plain (OpenSpec.ofChange insnNamesSpec)) insnNamesCard

/-- THE TIED CARD OF 'hartixlaw1.InsnWords'. -/
def insnWordsCard : Claim7 := { stood := { row := insnWordsRow, standIns := [], harness := (true, "0e35958f2e86de66c6c7953527c281e893eb73a7e41a76286f822d4b0135df5f"), looks := true }, kinds := [], alts := [], laidByText := true, laidKinds := [.data, .data, .data], laidTests := true, laidLooks := .later }
def InsnWordsCardSaid : Prop := Claim7.holds Tryd.pinned (.plain (OpenSpec.ofChange insnWordsSpec)) insnWordsCard

/-- THE TIED CARD OF 'hartixlaw1.InsnDecodes'. -/
def insnDecodesCard : Claim7 := { stood := { row := insnDecodesRow, standIns := [], harness := (true, "0e35958f2e86de66c6c7953527c281e893eb73a7e41a76286f822d4b0135df5f"), looks := true }, kinds := [], alts := [], laidByText := true, laidKinds := [.data, .data], laidTests := true, laidLooks := .later }
def InsnDecodesCardSaid : Prop := Claim7.holds Tryd.pinned (.plain (OpenSpec.ofChange insnDecodesSpec)) insnDecodesCard

/-- THE TIED CARD OF 'hartixlaw1.InsnEncodes'. -/
def insnEncodesCard : Claim7 := { stood := { row := insnEncodesRow, standIns := [], harness := (true, "0e35958f2e86de66c6c7953527c281e893eb73a7e41a76286f822d4b0135df5f"), looks := true }, kinds := [], alts := [], laidByText := true, laidKinds := [.data, .data], laidTests := true, laidLooks := .later }
def InsnEncodesCardSaid : Prop := Claim7.holds Tryd.pinned (.plain (OpenSpec.ofChange insnEncodesSpec)) insnEncodesCard

/-- THE TIED CARD OF 'hartixlaw1.InsnBare'. -/
def insnBareCard : Claim7 := { stood := { row := insnBareRow, standIns := [], harness := (true, "0e35958f2e86de66c6c7953527c281e893eb73a7e41a76286f822d4b0135df5f"), looks := true }, kinds := [], alts := [], laidByText := true, laidKinds := [.data, .data], laidTests := true, laidLooks := .later }
def InsnBareCardSaid : Prop := Claim7.holds Tryd.pinned (.plain (OpenSpec.ofChange insnBareSpec)) insnBareCard

/-- THE TIED CARD OF 'hartixlaw1.InsnRegs'. -/
def insnRegsCard : Claim7 := { stood := { row := insnRegsRow, standIns := [], harness := (true, "0e35958f2e86de66c6c7953527c281e893eb73a7e41a76286f822d4b0135df5f"), looks := true }, kinds := [], alts := [], laidByText := true, laidKinds := [.data, .data], laidTests := true, laidLooks := .later }
def InsnRegsCardSaid : Prop := Claim7.holds Tryd.pinned (.plain (OpenSpec.ofChange insnRegsSpec)) insnRegsCard

/-- THE TIED CARD OF 'hartixlaw1.InsnBack'. -/
def insnBackCard : Claim7 := { stood := { row := insnBackRow, standIns := [], harness := (true, "0e35958f2e86de66c6c7953527c281e893eb73a7e41a76286f822d4b0135df5f"), looks := true }, kinds := [], alts := [], laidByText := true, laidKinds := [.data, .data, .data, .data], laidTests := true, laidLooks := .later }
def InsnBackCardSaid : Prop := Claim7.holds Tryd.pinned (.plain (OpenSpec.ofChange insnBackSpec)) insnBackCard

/-- THE SECOND FORM's CARD OF 'hartixlaw1.InsnNames'. -/
def insnNamesUptoCard : Claim7 := { stood := { row := insnNamesUptoRow, standIns := [], harness := (true, "0e35958f2e86de66c6c7953527c281e893eb73a7e41a76286f822d4b0135df5f"), looks := true }, kinds := [], alts := [], laidByText := true, laidKinds := [.data, .data, .data], laidTests := true, laidLooks := .later }
def InsnNamesUptoCardSaid : Prop := Claim7.holds Tryd.pinned (.plain (OpenSpec.upto insnNamesSpec)) insnNamesUptoCard

/-- THE SECOND FORM's CARD OF 'hartixlaw1.InsnWords'. -/
def insnWordsUptoCard : Claim7 := { stood := { row := insnWordsUptoRow, standIns := [], harness := (true, "0e35958f2e86de66c6c7953527c281e893eb73a7e41a76286f822d4b0135df5f"), looks := true }, kinds := [], alts := [], laidByText := true, laidKinds := [.data, .data, .data], laidTests := true, laidLooks := .later }
def InsnWordsUptoCardSaid : Prop := Claim7.holds Tryd.pinned (.plain (OpenSpec.upto insnWordsSpec)) insnWordsUptoCard

/-- THE SECOND FORM's CARD OF 'hartixlaw1.InsnDecodes'. -/
def insnDecodesUptoCard : Claim7 := { stood := { row := insnDecodesUptoRow, standIns := [], harness := (true, "0e35958f2e86de66c6c7953527c281e893eb73a7e41a76286f822d4b0135df5f"), looks := true }, kinds := [], alts := [], laidByText := true, laidKinds := [.data, .data], laidTests := true, laidLooks := .later }
def InsnDecodesUptoCardSaid : Prop := Claim7.holds Tryd.pinned (.plain (OpenSpec.upto insnDecodesSpec)) insnDecodesUptoCard

/-- THE SECOND FORM's CARD OF 'hartixlaw1.InsnEncodes'. -/
def insnEncodesUptoCard : Claim7 := { stood := { row := insnEncodesUptoRow, standIns := [], harness := (true, "0e35958f2e86de66c6c7953527c281e893eb73a7e41a76286f822d4b0135df5f"), looks := true }, kinds := [], alts := [], laidByText := true, laidKinds := [.data, .data], laidTests := true, laidLooks := .later }
def InsnEncodesUptoCardSaid : Prop := Claim7.holds Tryd.pinned (.plain (OpenSpec.upto insnEncodesSpec)) insnEncodesUptoCard

/-- THE SECOND FORM's CARD OF 'hartixlaw1.InsnBare'. -/
def insnBareUptoCard : Claim7 := { stood := { row := insnBareUptoRow, standIns := [], harness := (true, "0e35958f2e86de66c6c7953527c281e893eb73a7e41a76286f822d4b0135df5f"), looks := true }, kinds := [], alts := [], laidByText := true, laidKinds := [.data, .data], laidTests := true, laidLooks := .later }
def InsnBareUptoCardSaid : Prop := Claim7.holds Tryd.pinned (.plain (OpenSpec.upto insnBareSpec)) insnBareUptoCard

/-- THE SECOND FORM's CARD OF 'hartixlaw1.InsnRegs'. -/
def insnRegsUptoCard : Claim7 := { stood := { row := insnRegsUptoRow, standIns := [], harness := (true, "0e35958f2e86de66c6c7953527c281e893eb73a7e41a76286f822d4b0135df5f"), looks := true }, kinds := [], alts := [], laidByText := true, laidKinds := [.data, .data], laidTests := true, laidLooks := .later }
def InsnRegsUptoCardSaid : Prop := Claim7.holds Tryd.pinned (.plain (OpenSpec.upto insnRegsSpec)) insnRegsUptoCard

/-- THE SECOND FORM's CARD OF 'hartixlaw1.InsnBack'. -/
def insnBackUptoCard : Claim7 := { stood := { row := insnBackUptoRow, standIns := [], harness := (true, "0e35958f2e86de66c6c7953527c281e893eb73a7e41a76286f822d4b0135df5f"), looks := true }, kinds := [], alts := [], laidByText := true, laidKinds := [.data, .data, .data, .data], laidTests := true, laidLooks := .later }
def InsnBackUptoCardSaid : Prop := Claim7.holds Tryd.pinned (.plain (OpenSpec.upto insnBackSpec)) insnBackUptoCard
end Rows
end Go.Proofs.YtgjiojcdifjhcaaDoor
