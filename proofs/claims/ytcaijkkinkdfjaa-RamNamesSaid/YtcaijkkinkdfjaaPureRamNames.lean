/- The closed statement RamNames of chapter 3: the function returns true (no input, no condition). -/
import Derived.Test.YtcaijkkinkdfjaaPRamNamesx1
namespace Go.Proofs.Ytcaijkkinkdfjaa.Pure
open Go.RowKit Go.Proofs.Ytcaijkkinkdfjaa.PRamNames Go.Proofs.YtcaijkkinkdfjaaW.PrintWords Go.Proofs.YtcaijkkinkdfjaaW.PrintLast

theorem RamNames : hartixlaw3_RamNames.Pure := by
  rfl

end Go.Proofs.Ytcaijkkinkdfjaa.Pure
