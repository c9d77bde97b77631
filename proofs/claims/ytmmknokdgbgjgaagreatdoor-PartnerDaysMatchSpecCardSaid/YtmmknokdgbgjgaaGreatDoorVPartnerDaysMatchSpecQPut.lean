-- Of the printed words, what PartnerDaysMatchSpec uses (xprune.py).
import Derived.Test.YtmmknokdgbgjgaaGreatDoorVPartnerDaysMatchSpecWords
import Derived.Test.YtmmknokdgbgjgaaGreatDoorVPartnerDaysMatchSpecLast
namespace Go.Proofs.YtmmknokdgbgjgaaGreatDoorW.PrintWords
end Go.Proofs.YtmmknokdgbgjgaaGreatDoorW.PrintWords
