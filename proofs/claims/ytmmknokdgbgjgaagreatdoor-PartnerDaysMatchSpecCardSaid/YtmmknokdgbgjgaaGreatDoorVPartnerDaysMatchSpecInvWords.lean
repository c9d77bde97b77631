-- Of the printed words, what PartnerDaysMatchSpec uses (xprune.py).
import Derived.Test.YtmmknokdgbgjgaaGreatDoorVPartnerDaysMatchSpecInv
import Derived.Test.YtmmknokdgbgjgaaGreatDoorVPartnerDaysMatchSpecFootNe
namespace Go.Proofs.YtmmknokdgbgjgaaGreatDoorW.PrintLast
end Go.Proofs.YtmmknokdgbgjgaaGreatDoorW.PrintLast
namespace Go.Proofs.YtmmknokdgbgjgaaGreatDoorW.PrintWords
end Go.Proofs.YtmmknokdgbgjgaaGreatDoorW.PrintWords
