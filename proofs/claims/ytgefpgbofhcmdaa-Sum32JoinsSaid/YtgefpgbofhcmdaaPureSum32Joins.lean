/- The sum of two texts together is told of their sums and of the second one's length, by the matrix of bits as by the plain noughts: for every two slices of bytes, all sums, all counts; no condition. -/
import Derived.Test.YtgefpgbofhcmdaaPvariorumlaw02Sum32Joins
namespace Go.Proofs.Ytgefpgbofhcmdaa.Pure
theorem Sum32Joins : Go.Proofs.Ytgefpgbofhcmdaa.P.variorumlaw02_Sum32Joins.Pure := trivial
end Go.Proofs.Ytgefpgbofhcmdaa.Pure
