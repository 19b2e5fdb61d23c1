/-
  DERIVED. GIVEN WITH THE SEED: THE PROGRAM's TIES (one call each: nine closed facts by the kernel) AND EACH ROW's TIE, after the 31st guide's Derived/Test/Toyas{Tie, Card}.lean. No idea stands in it: it is a product of the set-up. Laid BY PROGRAM, IN A SANDBOX (cutbox-door.mjs). By AI agents, Wed Nov 11 2026. No macro, syntax, notation, axiom, sorry.
-/
import Derived.Test.YtgjiojcdifjhcaaDoorRows
import Derived.LaidByTextLater
import Derived.SevenTiedAt
import Derived.LaidSub
import Derived.LaidOnce
namespace Go.Proofs.YtgjiojcdifjhcaaDoor
open Go
set_option maxRecDepth 100000
theorem seatTie1 : Tryd.prog.laidByTextLater [("hartix/insn.regNames", Rows.laid_hartix_insn_regNames), ("hartix/insn.shapes", Rows.laid_hartix_insn_shapes), ("hartix/insn.names", Rows.laid_hartix_insn_names)] [.data, .data, .data] true :=
  Program.laidByTextLater_by_one 29 8 78 (by kernel_rfl) (by kernel_rfl) (by kernel_rfl) (by kernel_rfl) (by kernel_rfl) (by kernel_rfl) (fun _ _ => by kernel_rfl)
theorem seatTie2 : Tryd.prog.laidByTextLater [("hartix/insn.words", Rows.laid_hartix_insn_words), ("hartix/insn.shapes", Rows.laid_hartix_insn_shapes)] [.data, .data] true :=
  Program.laidByTextLater_by_one 29 8 78 (by kernel_rfl) (by kernel_rfl) (by kernel_rfl) (by kernel_rfl) (by kernel_rfl) (by kernel_rfl) (fun _ _ => by kernel_rfl)
theorem seatTie3 : Tryd.prog.laidByTextLater [("hartix/insn.regNames", Rows.laid_hartix_insn_regNames), ("hartix/insn.words", Rows.laid_hartix_insn_words), ("hartix/insn.shapes", Rows.laid_hartix_insn_shapes), ("hartix/insn.names", Rows.laid_hartix_insn_names)] [.data, .data, .data, .data] true :=
  Program.laidByTextLater_by_one 29 8 78 (by kernel_rfl) (by kernel_rfl) (by kernel_rfl) (by kernel_rfl) (by kernel_rfl) (by kernel_rfl) (fun _ _ => by kernel_rfl)
theorem noOwnUnsafe : Tryd.pinned.checked.prog.headLifts.contains "ownunsafe" = false := by kernel_rfl
theorem tie : Tryd.prog.laidByTextLater [("hartix/insn.regNames", Rows.laid_hartix_insn_regNames), ("hartix/insn.shapes", Rows.laid_hartix_insn_shapes), ("hartix/insn.names", Rows.laid_hartix_insn_names)] [.data, .data, .data] true :=
  Program.laidByTextLater.sub seatTie1 ["hartix/insn.regNames", "hartix/insn.shapes", "hartix/insn.names"] (by kernel_rfl) (by kernel_rfl)
theorem insnNames_row_tie : Rows.insnNamesRow.laidByTextAt .later Tryd.pinned [.data, .data, .data] true :=
  OpenClaim.laidByTextAt_later rfl rfl tie noOwnUnsafe
theorem insnWords_row_tie : Rows.insnWordsRow.laidByTextAt .later Tryd.pinned [.data, .data, .data] true :=
  OpenClaim.laidByTextAt_later rfl rfl tie noOwnUnsafe
theorem tie2 : Tryd.prog.laidByTextLater [("hartix/insn.words", Rows.laid_hartix_insn_words), ("hartix/insn.shapes", Rows.laid_hartix_insn_shapes)] [.data, .data] true :=
  Program.laidByTextLater.sub seatTie2 ["hartix/insn.words", "hartix/insn.shapes"] (by kernel_rfl) (by kernel_rfl)
theorem insnDecodes_row_tie : Rows.insnDecodesRow.laidByTextAt .later Tryd.pinned [.data, .data] true :=
  OpenClaim.laidByTextAt_later rfl rfl tie2 noOwnUnsafe
theorem insnEncodes_row_tie : Rows.insnEncodesRow.laidByTextAt .later Tryd.pinned [.data, .data] true :=
  OpenClaim.laidByTextAt_later rfl rfl tie2 noOwnUnsafe
theorem insnBare_row_tie : Rows.insnBareRow.laidByTextAt .later Tryd.pinned [.data, .data] true :=
  OpenClaim.laidByTextAt_later rfl rfl tie2 noOwnUnsafe
theorem insnRegs_row_tie : Rows.insnRegsRow.laidByTextAt .later Tryd.pinned [.data, .data] true :=
  OpenClaim.laidByTextAt_later rfl rfl tie2 noOwnUnsafe
theorem tie3 : Tryd.prog.laidByTextLater [("hartix/insn.regNames", Rows.laid_hartix_insn_regNames), ("hartix/insn.words", Rows.laid_hartix_insn_words), ("hartix/insn.shapes", Rows.laid_hartix_insn_shapes), ("hartix/insn.names", Rows.laid_hartix_insn_names)] [.data, .data, .data, .data] true :=
  Program.laidByTextLater.sub seatTie3 ["hartix/insn.regNames", "hartix/insn.words", "hartix/insn.shapes", "hartix/insn.names"] (by kernel_rfl) (by kernel_rfl)
theorem insnBack_row_tie : Rows.insnBackRow.laidByTextAt .later Tryd.pinned [.data, .data, .data, .data] true :=
  OpenClaim.laidByTextAt_later rfl rfl tie3 noOwnUnsafe
theorem insnNamesUpto_row_tie : Rows.insnNamesUptoRow.laidByTextAt .later Tryd.pinned [.data, .data, .data] true :=
  OpenClaim.laidByTextAt_later rfl rfl tie noOwnUnsafe
theorem insnWordsUpto_row_tie : Rows.insnWordsUptoRow.laidByTextAt .later Tryd.pinned [.data, .data, .data] true :=
  OpenClaim.laidByTextAt_later rfl rfl tie noOwnUnsafe
theorem insnDecodesUpto_row_tie : Rows.insnDecodesUptoRow.laidByTextAt .later Tryd.pinned [.data, .data] true :=
  OpenClaim.laidByTextAt_later rfl rfl tie2 noOwnUnsafe
theorem insnEncodesUpto_row_tie : Rows.insnEncodesUptoRow.laidByTextAt .later Tryd.pinned [.data, .data] true :=
  OpenClaim.laidByTextAt_later rfl rfl tie2 noOwnUnsafe
theorem insnBareUpto_row_tie : Rows.insnBareUptoRow.laidByTextAt .later Tryd.pinned [.data, .data] true :=
  OpenClaim.laidByTextAt_later rfl rfl tie2 noOwnUnsafe
theorem insnRegsUpto_row_tie : Rows.insnRegsUptoRow.laidByTextAt .later Tryd.pinned [.data, .data] true :=
  OpenClaim.laidByTextAt_later rfl rfl tie2 noOwnUnsafe
theorem insnBackUpto_row_tie : Rows.insnBackUptoRow.laidByTextAt .later Tryd.pinned [.data, .data, .data, .data] true :=
  OpenClaim.laidByTextAt_later rfl rfl tie3 noOwnUnsafe
end Go.Proofs.YtgjiojcdifjhcaaDoor
