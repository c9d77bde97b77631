-- Of the printed words, what PartnerNeverIsNever uses (xprune.py).
import Derived.Test.YtdlgohhecicnoaaDoorVPartnerNeverIsNeverApart
import Derived.Test.YtdlgohhecicnoaaDoorVPartnerNeverIsNeverArr
namespace Go.Proofs.YtdlgohhecicnoaaDoorW.PrintWords
end Go.Proofs.YtdlgohhecicnoaaDoorW.PrintWords
