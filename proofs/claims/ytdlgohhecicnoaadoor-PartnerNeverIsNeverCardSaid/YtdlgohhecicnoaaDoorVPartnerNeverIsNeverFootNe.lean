-- Of the printed words, what PartnerNeverIsNever uses (xprune.py).
import Derived.Test.YtdlgohhecicnoaaDoorVPartnerNeverIsNeverN
namespace Go.Proofs.YtdlgohhecicnoaaDoorW.PrintWords
end Go.Proofs.YtdlgohhecicnoaaDoorW.PrintWords
