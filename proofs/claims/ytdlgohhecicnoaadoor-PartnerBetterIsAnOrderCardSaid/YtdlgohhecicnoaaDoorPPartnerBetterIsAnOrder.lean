-- The pure statement of PartnerBetterIsAnOrder over numbers, strings and lists.
import Derived.Test.YtdlgohhecicnoaaDoorXPartnerBetterIsAnOrderx3
namespace Go.Proofs.YtdlgohhecicnoaaDoor.XPartnerBetterIsAnOrder
open Go.RowKit Go.Proofs.YtdlgohhecicnoaaDoorW.PrintWords
set_option linter.unusedVariables false
def ok23 (x : S23) : Prop := (x.f0).size ≤ 140737488351232 ∧ (x.f1).size ≤ 140737488351232 ∧ (x.f2).size ≤ 140737488351232 ∧ (x.f3).size ≤ 140737488351232 ∧ (Lit.int .i64 x.f4).wf = true ∧ (Lit.int .i64 x.f5).wf = true ∧ True ∧ (Lit.int .i64 x.f7).wf = true ∧ True
/-- The pure statement. -/
def Pure : Prop := ∀ (a0 : S23) (a1 : S23) (a2 : S23), ok23 a0 → ok23 a1 → ok23 a2 → ∃ k, interchangelaw8_PartnerBetterIsAnOrder.f k (a0.f0) (a0.f1) (a0.f2) (a0.f3) (a0.f4) (a0.f5) (a0.f6) (a0.f7) (a0.f8) (a1.f0) (a1.f1) (a1.f2) (a1.f3) (a1.f4) (a1.f5) (a1.f6) (a1.f7) (a1.f8) (a2.f0) (a2.f1) (a2.f2) (a2.f3) (a2.f4) (a2.f5) (a2.f6) (a2.f7) (a2.f8) = some true
end Go.Proofs.YtdlgohhecicnoaaDoor.XPartnerBetterIsAnOrder
