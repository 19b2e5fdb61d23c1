/-
  DERIVED. GIVEN WITH THE SEED: THE PROGRAM's TIES (one call each: nine closed facts by the kernel) AND EACH ROW's TIE, after the 31st guide's Derived/Test/Toyas{Tie, Card}.lean. No idea stands in it: it is a product of the set-up. Laid BY PROGRAM, IN A SANDBOX (cutbox-door.mjs). By AI agents, Wed Nov 11 2026. No macro, syntax, notation, axiom, sorry.
-/
import Derived.Test.YtdklggmeigogcaaDoorRows
import Derived.LaidByTextLater
import Derived.SevenTiedAt
import Derived.LaidSub
import Derived.LaidOnce
namespace Go.Proofs.YtdklggmeigogcaaDoor
open Go
set_option maxRecDepth 100000
theorem seatTie1 : Tryd.prog.laidByTextLater [("hartix/elf.fixed", Rows.laid_hartix_elf_fixed), ("hartix/elf.entryAt", Rows.laid_hartix_elf_entryAt), ("hartix/elf.headsAt", Rows.laid_hartix_elf_headsAt), ("hartix/elf.countAt", Rows.laid_hartix_elf_countAt), ("hartix/elf.typeAt", Rows.laid_hartix_elf_typeAt), ("hartix/elf.flagsAt", Rows.laid_hartix_elf_flagsAt), ("hartix/elf.fileAt", Rows.laid_hartix_elf_fileAt), ("hartix/elf.vaAt", Rows.laid_hartix_elf_vaAt), ("hartix/elf.paAt", Rows.laid_hartix_elf_paAt), ("hartix/elf.sizeAt", Rows.laid_hartix_elf_sizeAt), ("hartix/elf.memAt", Rows.laid_hartix_elf_memAt), ("hartix/elf.alignAt", Rows.laid_hartix_elf_alignAt)] [.data, .wider, .wider, .wider, .wider, .wider, .wider, .wider, .wider, .wider, .wider, .wider] true :=
  Program.laidByTextLater_by_one 78 8 28 (by kernel_rfl) (by kernel_rfl) (by kernel_rfl) (by kernel_rfl) (by kernel_rfl) (by kernel_rfl) (fun _ _ => by kernel_rfl)
theorem noOwnUnsafe : Tryd.pinned.checked.prog.headLifts.contains "ownunsafe" = false := by kernel_rfl
theorem tie : Tryd.prog.laidByTextLater [("hartix/elf.fixed", Rows.laid_hartix_elf_fixed), ("hartix/elf.entryAt", Rows.laid_hartix_elf_entryAt), ("hartix/elf.headsAt", Rows.laid_hartix_elf_headsAt), ("hartix/elf.countAt", Rows.laid_hartix_elf_countAt), ("hartix/elf.typeAt", Rows.laid_hartix_elf_typeAt), ("hartix/elf.flagsAt", Rows.laid_hartix_elf_flagsAt), ("hartix/elf.fileAt", Rows.laid_hartix_elf_fileAt), ("hartix/elf.vaAt", Rows.laid_hartix_elf_vaAt), ("hartix/elf.sizeAt", Rows.laid_hartix_elf_sizeAt), ("hartix/elf.memAt", Rows.laid_hartix_elf_memAt)] [.data, .wider, .wider, .wider, .wider, .wider, .wider, .wider, .wider, .wider] true :=
  Program.laidByTextLater.sub seatTie1 ["hartix/elf.fixed", "hartix/elf.entryAt", "hartix/elf.headsAt", "hartix/elf.countAt", "hartix/elf.typeAt", "hartix/elf.flagsAt", "hartix/elf.fileAt", "hartix/elf.vaAt", "hartix/elf.sizeAt", "hartix/elf.memAt"] (by kernel_rfl) (by kernel_rfl)
theorem elfReads_row_tie : Rows.elfReadsRow.laidByTextAt .later Tryd.pinned [.data, .wider, .wider, .wider, .wider, .wider, .wider, .wider, .wider, .wider] true :=
  OpenClaim.laidByTextAt_later rfl rfl tie noOwnUnsafe
theorem tie2 : Tryd.prog.laidByTextLater [("hartix/elf.fixed", Rows.laid_hartix_elf_fixed), ("hartix/elf.entryAt", Rows.laid_hartix_elf_entryAt), ("hartix/elf.headsAt", Rows.laid_hartix_elf_headsAt), ("hartix/elf.countAt", Rows.laid_hartix_elf_countAt), ("hartix/elf.typeAt", Rows.laid_hartix_elf_typeAt), ("hartix/elf.flagsAt", Rows.laid_hartix_elf_flagsAt), ("hartix/elf.fileAt", Rows.laid_hartix_elf_fileAt), ("hartix/elf.vaAt", Rows.laid_hartix_elf_vaAt), ("hartix/elf.paAt", Rows.laid_hartix_elf_paAt), ("hartix/elf.sizeAt", Rows.laid_hartix_elf_sizeAt), ("hartix/elf.memAt", Rows.laid_hartix_elf_memAt), ("hartix/elf.alignAt", Rows.laid_hartix_elf_alignAt)] [.data, .wider, .wider, .wider, .wider, .wider, .wider, .wider, .wider, .wider, .wider, .wider] true :=
  Program.laidByTextLater.sub seatTie1 ["hartix/elf.fixed", "hartix/elf.entryAt", "hartix/elf.headsAt", "hartix/elf.countAt", "hartix/elf.typeAt", "hartix/elf.flagsAt", "hartix/elf.fileAt", "hartix/elf.vaAt", "hartix/elf.paAt", "hartix/elf.sizeAt", "hartix/elf.memAt", "hartix/elf.alignAt"] (by kernel_rfl) (by kernel_rfl)
theorem elfWrites_row_tie : Rows.elfWritesRow.laidByTextAt .later Tryd.pinned [.data, .wider, .wider, .wider, .wider, .wider, .wider, .wider, .wider, .wider, .wider, .wider] true :=
  OpenClaim.laidByTextAt_later rfl rfl tie2 noOwnUnsafe
theorem elfBack_row_tie : Rows.elfBackRow.laidByTextAt .later Tryd.pinned [.data, .wider, .wider, .wider, .wider, .wider, .wider, .wider, .wider, .wider, .wider, .wider] true :=
  OpenClaim.laidByTextAt_later rfl rfl tie2 noOwnUnsafe
theorem elfAgain_row_tie : Rows.elfAgainRow.laidByTextAt .later Tryd.pinned [.data, .wider, .wider, .wider, .wider, .wider, .wider, .wider, .wider, .wider, .wider, .wider] true :=
  OpenClaim.laidByTextAt_later rfl rfl tie2 noOwnUnsafe
theorem elfCut_row_tie : Rows.elfCutRow.laidByTextAt .later Tryd.pinned [.data, .wider, .wider, .wider, .wider, .wider, .wider, .wider, .wider, .wider, .wider, .wider] true :=
  OpenClaim.laidByTextAt_later rfl rfl tie2 noOwnUnsafe
theorem elfFresh_row_tie : Rows.elfFreshRow.laidByTextAt .later Tryd.pinned [.data, .wider, .wider, .wider, .wider, .wider, .wider, .wider, .wider, .wider, .wider, .wider] true :=
  OpenClaim.laidByTextAt_later rfl rfl tie2 noOwnUnsafe
theorem elfReadsUpto_row_tie : Rows.elfReadsUptoRow.laidByTextAt .later Tryd.pinned [.data, .wider, .wider, .wider, .wider, .wider, .wider, .wider, .wider, .wider] true :=
  OpenClaim.laidByTextAt_later rfl rfl tie noOwnUnsafe
theorem elfWritesUpto_row_tie : Rows.elfWritesUptoRow.laidByTextAt .later Tryd.pinned [.data, .wider, .wider, .wider, .wider, .wider, .wider, .wider, .wider, .wider, .wider, .wider] true :=
  OpenClaim.laidByTextAt_later rfl rfl tie2 noOwnUnsafe
theorem elfBackUpto_row_tie : Rows.elfBackUptoRow.laidByTextAt .later Tryd.pinned [.data, .wider, .wider, .wider, .wider, .wider, .wider, .wider, .wider, .wider, .wider, .wider] true :=
  OpenClaim.laidByTextAt_later rfl rfl tie2 noOwnUnsafe
theorem elfAgainUpto_row_tie : Rows.elfAgainUptoRow.laidByTextAt .later Tryd.pinned [.data, .wider, .wider, .wider, .wider, .wider, .wider, .wider, .wider, .wider, .wider, .wider] true :=
  OpenClaim.laidByTextAt_later rfl rfl tie2 noOwnUnsafe
theorem elfCutUpto_row_tie : Rows.elfCutUptoRow.laidByTextAt .later Tryd.pinned [.data, .wider, .wider, .wider, .wider, .wider, .wider, .wider, .wider, .wider, .wider, .wider] true :=
  OpenClaim.laidByTextAt_later rfl rfl tie2 noOwnUnsafe
theorem elfFreshUpto_row_tie : Rows.elfFreshUptoRow.laidByTextAt .later Tryd.pinned [.data, .wider, .wider, .wider, .wider, .wider, .wider, .wider, .wider, .wider, .wider, .wider] true :=
  OpenClaim.laidByTextAt_later rfl rfl tie2 noOwnUnsafe
end Go.Proofs.YtdklggmeigogcaaDoor
