-- The pure statement of PartnersMatchSpec over numbers, strings and lists.
import Derived.Test.YtdlgohhecicnoaaDoorXPartnersMatchSpecx6
namespace Go.Proofs.YtdlgohhecicnoaaDoor.XPartnersMatchSpec
open Go.RowKit Go.Proofs.YtdlgohhecicnoaaDoorW.PrintWords
set_option linter.unusedVariables false
def ok31 (x : S31) : Prop := (x.f0).size ≤ 140737488351232 ∧ (x.f1).size ≤ 140737488351232
def ok86 (x : S86) : Prop := (x.f0).size ≤ 140737488351232 ∧ ((x.f1).length ≤ maxLen ∧ (x.f1).length * 32 ≤ 140737488351232 ∧ ∀ y ∈ x.f1, ok31 y)
/-- The pure statement. -/
def Pure : Prop := ∀ (a0 : List S86) (a1 : S31), ((a0).length ≤ maxLen ∧ (a0).length * 40 ≤ 140737488351232 ∧ ∀ y ∈ a0, ok86 y) → ok31 a1 → ∃ k, interchangelaw8_PartnersMatchSpec.f k a0 (a1.f0) (a1.f1) = some true
end Go.Proofs.YtdlgohhecicnoaaDoor.XPartnersMatchSpec
