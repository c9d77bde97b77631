-- Of the printed words, what PartnerDaysMatchSpec uses (xprune.py).
import Derived.Test.YtmmknokdgbgjgaaGreatDoorVPartnerDaysMatchSpecApart
import Derived.Test.YtmmknokdgbgjgaaGreatDoorVPartnerDaysMatchSpecArr
namespace Go.Proofs.YtmmknokdgbgjgaaGreatDoorW.PrintWords
end Go.Proofs.YtmmknokdgbgjgaaGreatDoorW.PrintWords
