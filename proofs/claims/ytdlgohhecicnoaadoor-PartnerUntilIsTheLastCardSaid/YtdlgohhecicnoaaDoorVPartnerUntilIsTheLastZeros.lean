-- Of the printed words, what PartnerUntilIsTheLast uses (xprune.py).
import Derived.Test.YtdlgohhecicnoaaDoorVPartnerUntilIsTheLastApart
import Derived.Test.YtdlgohhecicnoaaDoorVPartnerUntilIsTheLastArr
namespace Go.Proofs.YtdlgohhecicnoaaDoorW.PrintWords
end Go.Proofs.YtdlgohhecicnoaaDoorW.PrintWords
