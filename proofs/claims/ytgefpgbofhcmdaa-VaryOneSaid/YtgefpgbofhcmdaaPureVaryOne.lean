/- What was read has just the bytes that are put of it, a number and a number of any sign, and both readers are bad together: for every slice of bytes; no condition. -/
import Derived.Test.YtgefpgbofhcmdaaPvariorumlaw01VaryOne
namespace Go.Proofs.Ytgefpgbofhcmdaa.Pure
theorem VaryOne : Go.Proofs.Ytgefpgbofhcmdaa.P.variorumlaw01_VaryOne.Pure := trivial
end Go.Proofs.Ytgefpgbofhcmdaa.Pure
