-- Of the printed words, what PartnerNeverIsNever uses (xprune.py).
import Derived.Test.YtdlgohhecicnoaaDoorVPartnerNeverIsNeverInv
import Derived.Test.YtdlgohhecicnoaaDoorVPartnerNeverIsNeverFootNe
namespace Go.Proofs.YtdlgohhecicnoaaDoorW.PrintLast
end Go.Proofs.YtdlgohhecicnoaaDoorW.PrintLast
namespace Go.Proofs.YtdlgohhecicnoaaDoorW.PrintWords
end Go.Proofs.YtdlgohhecicnoaaDoorW.PrintWords
