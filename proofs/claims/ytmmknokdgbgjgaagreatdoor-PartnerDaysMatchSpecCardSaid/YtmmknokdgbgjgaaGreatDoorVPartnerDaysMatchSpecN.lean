-- Of the printed words, what PartnerDaysMatchSpec uses (xprune.py).
import Derived.Test.YtmmknokdgbgjgaaGreatDoorVPartnerDaysMatchSpecShare
import Derived.Test.YtmmknokdgbgjgaaGreatDoorVPartnerDaysMatchSpecZeros
namespace Go.Proofs.YtmmknokdgbgjgaaGreatDoorW.PrintWords
end Go.Proofs.YtmmknokdgbgjgaaGreatDoorW.PrintWords
