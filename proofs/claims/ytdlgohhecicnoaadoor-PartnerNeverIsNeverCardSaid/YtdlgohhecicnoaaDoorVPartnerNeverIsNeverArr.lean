-- Of the printed words, what PartnerNeverIsNever uses (xprune.py).
import Derived.Test.YtdlgohhecicnoaaDoorVPartnerNeverIsNeverWords
namespace Go.Proofs.YtdlgohhecicnoaaDoorW.PrintWords
end Go.Proofs.YtdlgohhecicnoaaDoorW.PrintWords
