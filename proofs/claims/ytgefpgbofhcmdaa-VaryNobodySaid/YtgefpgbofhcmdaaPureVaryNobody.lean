/- A reader that no call made, nil or zero, has nothing, and is bad: for every number; no condition. -/
import Derived.Test.YtgefpgbofhcmdaaPvariorumlaw01VaryNobody
namespace Go.Proofs.Ytgefpgbofhcmdaa.Pure
theorem VaryNobody : Go.Proofs.Ytgefpgbofhcmdaa.P.variorumlaw01_VaryNobody.Pure := trivial
end Go.Proofs.Ytgefpgbofhcmdaa.Pure
