/- The closed statement ElfNames of chapter 7: the function returns true (no input, no condition). -/
import Derived.Test.YtcaijkkinkdfjaaPElfNamesx1
namespace Go.Proofs.Ytcaijkkinkdfjaa.Pure
open Go.RowKit Go.Proofs.Ytcaijkkinkdfjaa.PElfNames Go.Proofs.YtcaijkkinkdfjaaW.PrintWords Go.Proofs.YtcaijkkinkdfjaaW.PrintLast

theorem ElfNames : hartixlaw7_ElfNames.Pure := by
  rfl

end Go.Proofs.Ytcaijkkinkdfjaa.Pure
