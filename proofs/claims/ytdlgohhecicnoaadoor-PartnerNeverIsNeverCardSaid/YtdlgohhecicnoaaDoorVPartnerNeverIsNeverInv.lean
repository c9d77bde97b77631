-- Of the printed words, what PartnerNeverIsNever uses (xprune.py).
import Derived.Test.YtdlgohhecicnoaaDoorVPartnerNeverIsNeverTab
namespace Go.Proofs.YtdlgohhecicnoaaDoorW.PrintLast
end Go.Proofs.YtdlgohhecicnoaaDoorW.PrintLast
