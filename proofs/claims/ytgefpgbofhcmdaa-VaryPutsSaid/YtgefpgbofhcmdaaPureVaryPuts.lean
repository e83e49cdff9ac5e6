/- Any number, of any sign, and any text, have the bytes that the document says, behind any others: for every slice of bytes, every number, every text; no condition. -/
import Derived.Test.YtgefpgbofhcmdaaPvariorumlaw01VaryPuts
namespace Go.Proofs.Ytgefpgbofhcmdaa.Pure
theorem VaryPuts : Go.Proofs.Ytgefpgbofhcmdaa.P.variorumlaw01_VaryPuts.Pure := trivial
end Go.Proofs.Ytgefpgbofhcmdaa.Pure
