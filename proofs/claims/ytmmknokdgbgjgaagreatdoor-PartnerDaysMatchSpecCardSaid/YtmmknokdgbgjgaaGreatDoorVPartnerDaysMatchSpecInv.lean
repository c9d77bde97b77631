-- Of the printed words, what PartnerDaysMatchSpec uses (xprune.py).
import Derived.Test.YtmmknokdgbgjgaaGreatDoorVPartnerDaysMatchSpecTab
namespace Go.Proofs.YtmmknokdgbgjgaaGreatDoorW.PrintLast
end Go.Proofs.YtmmknokdgbgjgaaGreatDoorW.PrintLast
