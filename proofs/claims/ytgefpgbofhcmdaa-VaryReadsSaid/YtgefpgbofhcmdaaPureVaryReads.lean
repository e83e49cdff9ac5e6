/- Any bytes are read, one thing behind the other, in any order of kinds, as the document says, and once they are wrong they stay so: for every two slices of bytes; no condition. -/
import Derived.Test.YtgefpgbofhcmdaaPvariorumlaw01VaryReads
namespace Go.Proofs.Ytgefpgbofhcmdaa.Pure
theorem VaryReads : Go.Proofs.Ytgefpgbofhcmdaa.P.variorumlaw01_VaryReads.Pure := trivial
end Go.Proofs.Ytgefpgbofhcmdaa.Pure
