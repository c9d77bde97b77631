-- Of the printed words, what PartnerFindsMatchSpec uses (xprune.py).
import Derived.Test.YtdlgohhecicnoaaDoorVPartnerFindsMatchSpecShare
import Derived.Test.YtdlgohhecicnoaaDoorVPartnerFindsMatchSpecZeros
namespace Go.Proofs.YtdlgohhecicnoaaDoorW.PrintWords
end Go.Proofs.YtdlgohhecicnoaaDoorW.PrintWords
