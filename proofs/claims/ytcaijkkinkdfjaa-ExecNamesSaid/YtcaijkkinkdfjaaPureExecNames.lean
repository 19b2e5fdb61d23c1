/- The closed statement ExecNames of chapter 14: the function returns true (no input, no condition). -/
import Derived.Test.YtcaijkkinkdfjaaPExecNamesx1
namespace Go.Proofs.Ytcaijkkinkdfjaa.Pure
open Go.RowKit Go.Proofs.Ytcaijkkinkdfjaa.PExecNames Go.Proofs.YtcaijkkinkdfjaaW.PrintWords Go.Proofs.YtcaijkkinkdfjaaW.PrintLast

theorem ExecNames : hartixlaw14_ExecNames.Pure := by
  rfl

end Go.Proofs.Ytcaijkkinkdfjaa.Pure
