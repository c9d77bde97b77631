-- Of the printed words, what PartnerBestIsFound uses (xprune.py).
import Derived.Test.YtdlgohhecicnoaaDoorVPartnerBestIsFoundWords
import Derived.Test.YtdlgohhecicnoaaDoorVPartnerBestIsFoundLast
namespace Go.Proofs.YtdlgohhecicnoaaDoorW.PrintWords
end Go.Proofs.YtdlgohhecicnoaaDoorW.PrintWords
