-- Of the printed words, what PartnerUntilIsTheLast uses (xprune.py).
import Derived.Test.YtdlgohhecicnoaaDoorVPartnerUntilIsTheLastShare
import Derived.Test.YtdlgohhecicnoaaDoorVPartnerUntilIsTheLastZeros
namespace Go.Proofs.YtdlgohhecicnoaaDoorW.PrintWords
end Go.Proofs.YtdlgohhecicnoaaDoorW.PrintWords
