-- Of the printed words, what PartnerFindsMatchSpec uses (xprune.py).
import Derived.Test.YtdlgohhecicnoaaDoorVPartnerFindsMatchSpecFootNe
namespace Go.Proofs.YtdlgohhecicnoaaDoorW.PrintWords
end Go.Proofs.YtdlgohhecicnoaaDoorW.PrintWords
