/- The closed statement SvNames of chapter 4: the function returns true (no input, no condition). -/
import Derived.Test.YtcaijkkinkdfjaaPSvNamesx1
namespace Go.Proofs.Ytcaijkkinkdfjaa.Pure
open Go.RowKit Go.Proofs.Ytcaijkkinkdfjaa.PSvNames Go.Proofs.YtcaijkkinkdfjaaW.PrintWords Go.Proofs.YtcaijkkinkdfjaaW.PrintLast

theorem SvNames : hartixlaw4_SvNames.Pure := by
  rfl

end Go.Proofs.Ytcaijkkinkdfjaa.Pure
