-- Of the printed words, what PartnerBestIsFound uses (xprune.py).
import Derived.Test.YtdlgohhecicnoaaDoorVPartnerBestIsFoundTab
namespace Go.Proofs.YtdlgohhecicnoaaDoorW.PrintLast
end Go.Proofs.YtdlgohhecicnoaaDoorW.PrintLast
