/- The closed statement SpaceNames of chapter 8: the function returns true (no input, no condition). -/
import Derived.Test.YtcaijkkinkdfjaaPSpaceNamesx1
namespace Go.Proofs.Ytcaijkkinkdfjaa.Pure
open Go.RowKit Go.Proofs.Ytcaijkkinkdfjaa.PSpaceNames Go.Proofs.YtcaijkkinkdfjaaW.PrintWords Go.Proofs.YtcaijkkinkdfjaaW.PrintLast

theorem SpaceNames : hartixlaw8_SpaceNames.Pure := by
  rfl

end Go.Proofs.Ytcaijkkinkdfjaa.Pure
