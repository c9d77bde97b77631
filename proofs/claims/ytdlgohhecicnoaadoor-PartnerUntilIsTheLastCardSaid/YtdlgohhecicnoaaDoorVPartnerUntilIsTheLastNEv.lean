-- Of the printed words, what PartnerUntilIsTheLast uses (xprune.py).
import Derived.Test.YtdlgohhecicnoaaDoorVPartnerUntilIsTheLastN
namespace Go.Proofs.YtdlgohhecicnoaaDoorW.PrintWords
end Go.Proofs.YtdlgohhecicnoaaDoorW.PrintWords
