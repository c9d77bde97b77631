-- Of the printed words, what PartnerFindsMatchSpec uses (xprune.py).
import Derived.Test.YtdlgohhecicnoaaDoorVPartnerFindsMatchSpecInv
import Derived.Test.YtdlgohhecicnoaaDoorVPartnerFindsMatchSpecFootNe
namespace Go.Proofs.YtdlgohhecicnoaaDoorW.PrintLast
end Go.Proofs.YtdlgohhecicnoaaDoorW.PrintLast
namespace Go.Proofs.YtdlgohhecicnoaaDoorW.PrintWords
end Go.Proofs.YtdlgohhecicnoaaDoorW.PrintWords
