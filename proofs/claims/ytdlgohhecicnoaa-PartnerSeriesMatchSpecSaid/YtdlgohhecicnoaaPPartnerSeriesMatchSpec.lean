-- The pure statement of PartnerSeriesMatchSpec over numbers, strings and lists.
import Derived.Test.YtdlgohhecicnoaaXPartnerSeriesMatchSpecx8
namespace Go.Proofs.Ytdlgohhecicnoaa.XPartnerSeriesMatchSpec
open Go.RowKit Go.Proofs.YtdlgohhecicnoaaW.PrintWords
set_option linter.unusedVariables false
def ok23 (x : S23) : Prop := (Lit.int .i64 x.f0).wf = true ∧ (Lit.int .i64 x.f1).wf = true
/-- The pure statement. -/
def Pure : Prop := ∀ (a0 : S23) (a1 : Int) (a2 : Int) (a3 : List Int), ok23 a0 → (Lit.int .i64 a1).wf = true → (Lit.int .i64 a2).wf = true → ((a3).length ≤ maxLen ∧ (a3).length * 8 ≤ 140737488351232 ∧ ∀ x ∈ a3, (Lit.int .i64 x).wf = true) → ∃ k, interchangelaw8_PartnerSeriesMatchSpec.f k (a0.f0) (a0.f1) a1 a2 a3 = some true
end Go.Proofs.Ytdlgohhecicnoaa.XPartnerSeriesMatchSpec
