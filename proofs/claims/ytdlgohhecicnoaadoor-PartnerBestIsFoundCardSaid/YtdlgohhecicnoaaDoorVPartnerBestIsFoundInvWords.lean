-- Of the printed words, what PartnerBestIsFound uses (xprune.py).
import Derived.Test.YtdlgohhecicnoaaDoorVPartnerBestIsFoundInv
import Derived.Test.YtdlgohhecicnoaaDoorVPartnerBestIsFoundFootNe
namespace Go.Proofs.YtdlgohhecicnoaaDoorW.PrintLast
end Go.Proofs.YtdlgohhecicnoaaDoorW.PrintLast
namespace Go.Proofs.YtdlgohhecicnoaaDoorW.PrintWords
end Go.Proofs.YtdlgohhecicnoaaDoorW.PrintWords
