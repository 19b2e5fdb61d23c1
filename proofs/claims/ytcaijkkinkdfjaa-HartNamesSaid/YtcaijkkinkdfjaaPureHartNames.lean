/- The closed statement HartNames of chapter 5: the function returns true (no input, no condition). -/
import Derived.Test.YtcaijkkinkdfjaaPHartNamesx1
namespace Go.Proofs.Ytcaijkkinkdfjaa.Pure
open Go.RowKit Go.Proofs.Ytcaijkkinkdfjaa.PHartNames Go.Proofs.YtcaijkkinkdfjaaW.PrintWords Go.Proofs.YtcaijkkinkdfjaaW.PrintLast

theorem HartNames : hartixlaw5_HartNames.Pure := by
  rfl

end Go.Proofs.Ytcaijkkinkdfjaa.Pure
