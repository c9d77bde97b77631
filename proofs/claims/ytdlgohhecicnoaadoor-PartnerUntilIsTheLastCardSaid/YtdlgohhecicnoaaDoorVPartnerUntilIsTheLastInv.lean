-- Of the printed words, what PartnerUntilIsTheLast uses (xprune.py).
import Derived.Test.YtdlgohhecicnoaaDoorVPartnerUntilIsTheLastTab
namespace Go.Proofs.YtdlgohhecicnoaaDoorW.PrintLast
end Go.Proofs.YtdlgohhecicnoaaDoorW.PrintLast
