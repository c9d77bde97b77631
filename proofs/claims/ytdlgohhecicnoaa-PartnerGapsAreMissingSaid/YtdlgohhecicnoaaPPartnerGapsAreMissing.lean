-- The pure statement of PartnerGapsAreMissing over numbers, strings and lists.
import Derived.Test.YtdlgohhecicnoaaXPartnerGapsAreMissingx4
namespace Go.Proofs.Ytdlgohhecicnoaa.XPartnerGapsAreMissing
open Go.RowKit Go.Proofs.YtdlgohhecicnoaaW.PrintWords
set_option linter.unusedVariables false
def ok23 (x : S23) : Prop := (Lit.int .i64 x.f0).wf = true ∧ (Lit.int .i64 x.f1).wf = true
/-- The pure statement. -/
def Pure : Prop := ∀ (a0 : S23) (a1 : List Int), ok23 a0 → ((a1).length ≤ maxLen ∧ (a1).length * 8 ≤ 140737488351232 ∧ ∀ x ∈ a1, (Lit.int .i64 x).wf = true) → ∃ k, interchangelaw8_PartnerGapsAreMissing.f k (a0.f0) (a0.f1) a1 = some true
end Go.Proofs.Ytdlgohhecicnoaa.XPartnerGapsAreMissing
