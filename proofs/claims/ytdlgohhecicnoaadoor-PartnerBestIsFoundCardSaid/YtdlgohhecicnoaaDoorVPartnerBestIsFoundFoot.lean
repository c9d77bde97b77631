-- Of the printed words, what PartnerBestIsFound uses (xprune.py).
import Derived.Test.YtdlgohhecicnoaaDoorVPartnerBestIsFoundApart
import Derived.Test.YtdlgohhecicnoaaDoorVPartnerBestIsFoundArr
namespace Go.Proofs.YtdlgohhecicnoaaDoorW.PrintWords
end Go.Proofs.YtdlgohhecicnoaaDoorW.PrintWords
