-- Of the printed words, what PartnerDaysMatchSpec uses (xprune.py).
import Derived.Test.YtmmknokdgbgjgaaGreatDoorVPartnerDaysMatchSpecKept
namespace Go.Proofs.YtmmknokdgbgjgaaGreatDoorW.PrintWords
end Go.Proofs.YtmmknokdgbgjgaaGreatDoorW.PrintWords
