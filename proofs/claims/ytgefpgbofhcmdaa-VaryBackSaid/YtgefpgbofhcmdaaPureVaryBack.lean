/- What was put, a number, a number of any sign and a text, is read, whatever bytes stand behind it: for all numbers, every text, every slice of bytes; no condition. -/
import Derived.Test.YtgefpgbofhcmdaaPvariorumlaw01VaryBack
namespace Go.Proofs.Ytgefpgbofhcmdaa.Pure
theorem VaryBack : Go.Proofs.Ytgefpgbofhcmdaa.P.variorumlaw01_VaryBack.Pure := trivial
end Go.Proofs.Ytgefpgbofhcmdaa.Pure
