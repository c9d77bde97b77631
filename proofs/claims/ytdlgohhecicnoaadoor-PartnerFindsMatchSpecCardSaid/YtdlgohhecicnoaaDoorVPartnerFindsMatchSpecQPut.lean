-- Of the printed words, what PartnerFindsMatchSpec uses (xprune.py).
import Derived.Test.YtdlgohhecicnoaaDoorVPartnerFindsMatchSpecWords
import Derived.Test.YtdlgohhecicnoaaDoorVPartnerFindsMatchSpecLast
namespace Go.Proofs.YtdlgohhecicnoaaDoorW.PrintWords
end Go.Proofs.YtdlgohhecicnoaaDoorW.PrintWords
