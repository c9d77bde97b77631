-- The pure statement of PartnerNeverIsNever over numbers, strings and lists.
import Derived.Test.YtdlgohhecicnoaaDoorXPartnerNeverIsNeverx11
namespace Go.Proofs.YtdlgohhecicnoaaDoor.XPartnerNeverIsNever
open Go.RowKit Go.Proofs.YtdlgohhecicnoaaDoorW.PrintWords
set_option linter.unusedVariables false
def ok31 (x : S31) : Prop := (x.f0).size ≤ 140737488351232 ∧ (x.f1).size ≤ 140737488351232
def ok86 (x : S86) : Prop := (x.f0).size ≤ 140737488351232 ∧ ((x.f1).length ≤ maxLen ∧ (x.f1).length * 32 ≤ 140737488351232 ∧ ∀ y ∈ x.f1, ok31 y)
def ok23 (x : S23) : Prop := (x.f0).size ≤ 140737488351232 ∧ (x.f1).size ≤ 140737488351232 ∧ (x.f2).size ≤ 140737488351232 ∧ (x.f3).size ≤ 140737488351232 ∧ (Lit.int .i64 x.f4).wf = true ∧ (Lit.int .i64 x.f5).wf = true ∧ True ∧ (Lit.int .i64 x.f7).wf = true ∧ True
/-- The pure statement. -/
def Pure : Prop := ∀ (a0 : List S86) (a1 : List S23) (a2 : ByteArray) (a3 : ByteArray) (a4 : Int), ((a0).length ≤ maxLen ∧ (a0).length * 40 ≤ 140737488351232 ∧ ∀ y ∈ a0, ok86 y) → ((a1).length ≤ maxLen ∧ (a1).length * 104 ≤ 140737488351232 ∧ ∀ y ∈ a1, ok23 y) → (a2).size ≤ 140737488351232 → (a3).size ≤ 140737488351232 → (Lit.int .i64 a4).wf = true → ∃ k, interchangelaw8_PartnerNeverIsNever.f k a0 a1 a2 a3 a4 = some true
end Go.Proofs.YtdlgohhecicnoaaDoor.XPartnerNeverIsNever
