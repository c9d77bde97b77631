-- The pure statement of PartnerDaysMatchSpec over numbers, strings and lists.
import Derived.Test.YtmmknokdgbgjgaaGreatDoorXPartnerDaysMatchSpecx21
namespace Go.Proofs.YtmmknokdgbgjgaaGreatDoor.XPartnerDaysMatchSpec
open Go.RowKit Go.Proofs.YtmmknokdgbgjgaaGreatDoorW.PrintWords
set_option linter.unusedVariables false
def ok119 (x : S119) : Prop := (x.f0).size ≤ 140737488351232 ∧ (x.f1).size ≤ 140737488351232
def ok110 (x : S110) : Prop := (x.f0).size ≤ 140737488351232 ∧ ((x.f1).length ≤ maxLen ∧ (x.f1).length * 32 ≤ 140737488351232 ∧ ∀ y ∈ x.f1, ok119 y)
def ok53 (x : S53) : Prop := (x.f0).size ≤ 140737488351232 ∧ (x.f1).size ≤ 140737488351232 ∧ (x.f2).size ≤ 140737488351232 ∧ (x.f3).size ≤ 140737488351232 ∧ (Lit.int .i64 x.f4).wf = true ∧ (Lit.int .i64 x.f5).wf = true ∧ True ∧ (Lit.int .i64 x.f7).wf = true ∧ True
def ok25 (x : S25) : Prop := (x.f0).size ≤ 140737488351232 ∧ (x.f1).size ≤ 140737488351232 ∧ (x.f2).size ≤ 140737488351232 ∧ (x.f3).size ≤ 140737488351232 ∧ (Lit.int .i64 x.f4).wf = true ∧ True
/-- The pure statement. -/
def Pure : Prop := ∀ (a0 : List S110) (a1 : List S53) (a2 : S25), ((a0).length ≤ maxLen ∧ (a0).length * 40 ≤ 140737488351232 ∧ ∀ y ∈ a0, ok110 y) → ((a1).length ≤ maxLen ∧ (a1).length * 104 ≤ 140737488351232 ∧ ∀ y ∈ a1, ok53 y) → ok25 a2 → ∃ k, l8PartnerDaysMatchSpec.f k a0 a1 (a2.f0) (a2.f1) (a2.f2) (a2.f3) (a2.f4) (a2.f5) = some true
end Go.Proofs.YtmmknokdgbgjgaaGreatDoor.XPartnerDaysMatchSpec
