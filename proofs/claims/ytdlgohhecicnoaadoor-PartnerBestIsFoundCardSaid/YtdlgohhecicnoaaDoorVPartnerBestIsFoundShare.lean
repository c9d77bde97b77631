-- Of the printed words, what PartnerBestIsFound uses (xprune.py).
import Derived.Test.YtdlgohhecicnoaaDoorVPartnerBestIsFoundKept
namespace Go.Proofs.YtdlgohhecicnoaaDoorW.PrintWords
end Go.Proofs.YtdlgohhecicnoaaDoorW.PrintWords
