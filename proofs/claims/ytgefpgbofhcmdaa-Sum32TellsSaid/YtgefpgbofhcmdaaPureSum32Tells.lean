/- Any bytes have the sum that the document says, are sealed, and are opened or not, as it says; what was sealed is opened: for every slice of bytes; no condition. -/
import Derived.Test.YtgefpgbofhcmdaaPvariorumlaw02Sum32Tells
namespace Go.Proofs.Ytgefpgbofhcmdaa.Pure
theorem Sum32Tells : Go.Proofs.Ytgefpgbofhcmdaa.P.variorumlaw02_Sum32Tells.Pure := trivial
end Go.Proofs.Ytgefpgbofhcmdaa.Pure
