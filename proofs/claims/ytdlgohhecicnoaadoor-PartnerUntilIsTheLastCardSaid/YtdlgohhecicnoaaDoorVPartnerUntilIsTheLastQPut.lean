-- Of the printed words, what PartnerUntilIsTheLast uses (xprune.py).
import Derived.Test.YtdlgohhecicnoaaDoorVPartnerUntilIsTheLastWords
import Derived.Test.YtdlgohhecicnoaaDoorVPartnerUntilIsTheLastLast
namespace Go.Proofs.YtdlgohhecicnoaaDoorW.PrintWords
end Go.Proofs.YtdlgohhecicnoaaDoorW.PrintWords
