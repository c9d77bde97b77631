-- Of the printed words, what PartnerFindsMatchSpec uses (xprune.py).
import Derived.Test.YtdlgohhecicnoaaDoorVPartnerFindsMatchSpecTab
namespace Go.Proofs.YtdlgohhecicnoaaDoorW.PrintLast
end Go.Proofs.YtdlgohhecicnoaaDoorW.PrintLast
