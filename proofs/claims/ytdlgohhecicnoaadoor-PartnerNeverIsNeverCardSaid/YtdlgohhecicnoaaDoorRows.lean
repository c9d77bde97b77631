/-
  NARROWER THAN 'FOR EVERY INPUT', by the rows' own cells (each row's printed sentence says how): PartnerBetterIsAnOrder: laid · PartnersMatchSpec: laid · PartnerCasesMatchSpec: laid · PartnerTakesEachOnce: laid · PartnerIntakeMatchesSpec: laid · PartnerBestIsFound: laid · PartnerPassedMatchesSpec: laid · PartnerFindsMatchSpec: laid · PartnerUntilIsTheLast: laid · PartnerNeverIsNever: laid.
  DERIVED. THE GIVEN ROWS OF THIS SEAT. 10 by the template 'for every input the law returns true; each argument reads behind the call as it read before'; 0 by the template 'total and deterministic' (their statements: YtdlgohhecicnoaaDoorTotals.lean).
  GIVEN WITH THE SEED: the statements are not yours to turn. If you find one false, say at which input.
  Laid BY PROGRAM, IN A SANDBOX (cutbox-rows.mjs): the forced cells as the released guide's own fill.sh prints them over the translation 0f052ca32111422b… (all of the seat's roots in one cut). By AI agents, Wed Nov 11 2026. No macro, syntax, notation, axiom, sorry.
-/
import Derived.Test.YtdlgohhecicnoaaDoorChecked
import GoSem.PinnedTables
import GoSem.Claim
import GoSem.ClaimJoined
import GoSem.ClaimMapViews
import Derived.JoinedTies
import Derived.KernelRfl
namespace Go.Proofs.YtdlgohhecicnoaaDoor
/- THE CELL 'sum', in the pinned program and in every row, IS THE sha256 OF THE DUMP (.gsa) THAT YtdlgohhecicnoaaDoorProg.lean LOADS. Nothing in Lean hashes anything: it is a label: what it is worth is what the hold of that sum in a sandbox is worth. -/
noncomputable def Tryd.pinned : Pinned := { name := "ytdlgohhecicnoaadoor", sum := "0f052ca32111422ba50b63d01e32268f450225d0566cc83c9c7968839c9fba2d", checked := Tryd.checked }
namespace Rows
def none {H : Type} : Left H := { results := [], args := [] }

/- WHAT THE LISTED PACKAGE-LEVEL VARIABLES READ AS WHEN THE CALL BEGINS. Each datum BY PROGRAM (the guide's laid-datum.mjs) off the statement by which the dump's own 'gosem.cut.vars' lays the variable. In a bare row this is a premise. The card (YtdlgohhecicnoaaDoorCards.lean) ties it to the program's text. -/
def laid_unicode_utf8_acceptRanges {H : Type} : DataW H := .agg [.agg [.lit (.int .u8 128), .lit (.int .u8 191)], .agg [.lit (.int .u8 160), .lit (.int .u8 191)], .agg [.lit (.int .u8 128), .lit (.int .u8 159)], .agg [.lit (.int .u8 144), .lit (.int .u8 191)], .agg [.lit (.int .u8 128), .lit (.int .u8 143)], .agg [.lit (.int .u8 0), .lit (.int .u8 0)], .agg [.lit (.int .u8 0), .lit (.int .u8 0)], .agg [.lit (.int .u8 0), .lit (.int .u8 0)], .agg [.lit (.int .u8 0), .lit (.int .u8 0)], .agg [.lit (.int .u8 0), .lit (.int .u8 0)], .agg [.lit (.int .u8 0), .lit (.int .u8 0)], .agg [.lit (.int .u8 0), .lit (.int .u8 0)], .agg [.lit (.int .u8 0), .lit (.int .u8 0)], .agg [.lit (.int .u8 0), .lit (.int .u8 0)], .agg [.lit (.int .u8 0), .lit (.int .u8 0)], .agg [.lit (.int .u8 0), .lit (.int .u8 0)]]
/-- One of Go's own tables, pinned by name: the form's constant. -/
def laid_unicode_utf8_first : DataW Unit := Go.Pinned.utf8First

/-- 'interchangelaw8.PartnerBetterIsAnOrder': WHATEVER THE INPUT: true; the input reads as it did. -/
def partnerBetterIsAnOrderSpec : ChangeSpec := { name := "partnerBetterIsAnOrder", fn := fun _ => fun
  | [d1, d2, d3] => { results := [.lit (.bool true)], args := [d1, d2, d3] }
  | _ => none }
def partnerBetterIsAnOrderRow : OpenClaim := { program := "ytdlgohhecicnoaadoor", sum := "0f052ca32111422ba50b63d01e32268f450225d0566cc83c9c7968839c9fba2d", func := "interchange/interchangelaw8.PartnerBetterIsAnOrder", spec := "partnerBetterIsAnOrder", inPlace := ["internal/bytealg.IndexByteString", "internal/bytealg.IndexString"], named := ["unicode/utf8.first", "unicode/utf8.acceptRanges", "internal/bytealg.MaxLen"], plainKeys := false, apart := false, laid := [("unicode/utf8.acceptRanges", laid_unicode_utf8_acceptRanges), ("unicode/utf8.first", laid_unicode_utf8_first)] }
def PartnerBetterIsAnOrderSaid : Prop := partnerBetterIsAnOrderRow.holds Tryd.pinned (OpenSpec.ofChange partnerBetterIsAnOrderSpec)

/-- ITS FALSE NEIGHBOUR: 'it returns false'. Refute it at one input. -/
def partnerBetterIsAnOrderWrong : ChangeSpec := { name := "partnerBetterIsAnOrder", fn := fun _ => fun
  | [d1, d2, d3] => { results := [.lit (.bool false)], args := [d1, d2, d3] }
  | _ => none }
def PartnerBetterIsAnOrderWrongFalsely : Prop := partnerBetterIsAnOrderRow.holds Tryd.pinned (OpenSpec.ofChange partnerBetterIsAnOrderWrong)

/-- 'interchangelaw8.PartnersMatchSpec': WHATEVER THE INPUT: true; the input reads as it did. -/
def partnersMatchSpecSpec : ChangeSpec := { name := "partnersMatchSpec", fn := fun _ => fun
  | [d1, d2] => { results := [.lit (.bool true)], args := [d1, d2] }
  | _ => none }
def partnersMatchSpecRow : OpenClaim := { program := "ytdlgohhecicnoaadoor", sum := "0f052ca32111422ba50b63d01e32268f450225d0566cc83c9c7968839c9fba2d", func := "interchange/interchangelaw8.PartnersMatchSpec", spec := "partnersMatchSpec", inPlace := ["internal/bytealg.IndexByteString", "internal/bytealg.IndexString"], named := ["unicode/utf8.first", "unicode/utf8.acceptRanges", "internal/bytealg.MaxLen"], plainKeys := false, apart := false, laid := [("unicode/utf8.acceptRanges", laid_unicode_utf8_acceptRanges), ("unicode/utf8.first", laid_unicode_utf8_first)] }
def PartnersMatchSpecSaid : Prop := partnersMatchSpecRow.holds Tryd.pinned (OpenSpec.ofChange partnersMatchSpecSpec)

/-- ITS FALSE NEIGHBOUR: 'it returns false'. Refute it at one input. -/
def partnersMatchSpecWrong : ChangeSpec := { name := "partnersMatchSpec", fn := fun _ => fun
  | [d1, d2] => { results := [.lit (.bool false)], args := [d1, d2] }
  | _ => none }
def PartnersMatchSpecWrongFalsely : Prop := partnersMatchSpecRow.holds Tryd.pinned (OpenSpec.ofChange partnersMatchSpecWrong)

/-- 'interchangelaw8.PartnerCasesMatchSpec': WHATEVER THE INPUT: true; the input reads as it did. -/
def partnerCasesMatchSpecSpec : ChangeSpec := { name := "partnerCasesMatchSpec", fn := fun _ => fun
  | [d1, d2, d3] => { results := [.lit (.bool true)], args := [d1, d2, d3] }
  | _ => none }
def partnerCasesMatchSpecRow : OpenClaim := { program := "ytdlgohhecicnoaadoor", sum := "0f052ca32111422ba50b63d01e32268f450225d0566cc83c9c7968839c9fba2d", func := "interchange/interchangelaw8.PartnerCasesMatchSpec", spec := "partnerCasesMatchSpec", inPlace := ["internal/bytealg.IndexByteString", "internal/bytealg.IndexString"], named := ["unicode/utf8.first", "unicode/utf8.acceptRanges", "internal/bytealg.MaxLen"], plainKeys := false, apart := false, laid := [("unicode/utf8.acceptRanges", laid_unicode_utf8_acceptRanges), ("unicode/utf8.first", laid_unicode_utf8_first)] }
def PartnerCasesMatchSpecSaid : Prop := partnerCasesMatchSpecRow.holds Tryd.pinned (OpenSpec.ofChange partnerCasesMatchSpecSpec)

/-- ITS FALSE NEIGHBOUR: 'it returns false'. Refute it at one input. -/
def partnerCasesMatchSpecWrong : ChangeSpec := { name := "partnerCasesMatchSpec", fn := fun _ => fun
  | [d1, d2, d3] => { results := [.lit (.bool false)], args := [d1, d2, d3] }
  | _ => none }
def PartnerCasesMatchSpecWrongFalsely : Prop := partnerCasesMatchSpecRow.holds Tryd.pinned (OpenSpec.ofChange partnerCasesMatchSpecWrong)

/-- 'interchangelaw8.PartnerTakesEachOnce': WHATEVER THE INPUT: true; the input reads as it did. -/
def partnerTakesEachOnceSpec : ChangeSpec := { name := "partnerTakesEachOnce", fn := fun _ => fun
  | [d1, d2, d3, d4, d5] => { results := [.lit (.bool true)], args := [d1, d2, d3, d4, d5] }
  | _ => none }
def partnerTakesEachOnceRow : OpenClaim := { program := "ytdlgohhecicnoaadoor", sum := "0f052ca32111422ba50b63d01e32268f450225d0566cc83c9c7968839c9fba2d", func := "interchange/interchangelaw8.PartnerTakesEachOnce", spec := "partnerTakesEachOnce", inPlace := ["internal/bytealg.IndexByteString", "internal/bytealg.IndexString"], named := ["unicode/utf8.first", "unicode/utf8.acceptRanges", "internal/bytealg.MaxLen"], plainKeys := false, apart := false, laid := [("unicode/utf8.acceptRanges", laid_unicode_utf8_acceptRanges), ("unicode/utf8.first", laid_unicode_utf8_first)] }
def PartnerTakesEachOnceSaid : Prop := partnerTakesEachOnceRow.holds Tryd.pinned (OpenSpec.ofChange partnerTakesEachOnceSpec)

/-- ITS FALSE NEIGHBOUR: 'it returns false'. Refute it at one input. -/
def partnerTakesEachOnceWrong : ChangeSpec := { name := "partnerTakesEachOnce", fn := fun _ => fun
  | [d1, d2, d3, d4, d5] => { results := [.lit (.bool false)], args := [d1, d2, d3, d4, d5] }
  | _ => none }
def PartnerTakesEachOnceWrongFalsely : Prop := partnerTakesEachOnceRow.holds Tryd.pinned (OpenSpec.ofChange partnerTakesEachOnceWrong)

/-- 'interchangelaw8.PartnerIntakeMatchesSpec': WHATEVER THE INPUT: true; the input reads as it did. -/
def partnerIntakeMatchesSpecSpec : ChangeSpec := { name := "partnerIntakeMatchesSpec", fn := fun _ => fun
  | [d1, d2, d3] => { results := [.lit (.bool true)], args := [d1, d2, d3] }
  | _ => none }
def partnerIntakeMatchesSpecRow : OpenClaim := { program := "ytdlgohhecicnoaadoor", sum := "0f052ca32111422ba50b63d01e32268f450225d0566cc83c9c7968839c9fba2d", func := "interchange/interchangelaw8.PartnerIntakeMatchesSpec", spec := "partnerIntakeMatchesSpec", inPlace := ["internal/bytealg.IndexByteString", "internal/bytealg.IndexString"], named := ["unicode/utf8.first", "unicode/utf8.acceptRanges", "internal/bytealg.MaxLen"], plainKeys := false, apart := false, laid := [("unicode/utf8.acceptRanges", laid_unicode_utf8_acceptRanges), ("unicode/utf8.first", laid_unicode_utf8_first)] }
def PartnerIntakeMatchesSpecSaid : Prop := partnerIntakeMatchesSpecRow.holds Tryd.pinned (OpenSpec.ofChange partnerIntakeMatchesSpecSpec)

/-- ITS FALSE NEIGHBOUR: 'it returns false'. Refute it at one input. -/
def partnerIntakeMatchesSpecWrong : ChangeSpec := { name := "partnerIntakeMatchesSpec", fn := fun _ => fun
  | [d1, d2, d3] => { results := [.lit (.bool false)], args := [d1, d2, d3] }
  | _ => none }
def PartnerIntakeMatchesSpecWrongFalsely : Prop := partnerIntakeMatchesSpecRow.holds Tryd.pinned (OpenSpec.ofChange partnerIntakeMatchesSpecWrong)

/-- 'interchangelaw8.PartnerBestIsFound': WHATEVER THE INPUT: true; the input reads as it did. -/
def partnerBestIsFoundSpec : ChangeSpec := { name := "partnerBestIsFound", fn := fun _ => fun
  | [d1, d2, d3] => { results := [.lit (.bool true)], args := [d1, d2, d3] }
  | _ => none }
def partnerBestIsFoundRow : OpenClaim := { program := "ytdlgohhecicnoaadoor", sum := "0f052ca32111422ba50b63d01e32268f450225d0566cc83c9c7968839c9fba2d", func := "interchange/interchangelaw8.PartnerBestIsFound", spec := "partnerBestIsFound", inPlace := ["internal/bytealg.IndexByteString", "internal/bytealg.IndexString", "internal/bytealg.abigen_runtime_cmpstring"], unfollowed := true, recurses := true, named := ["unicode/utf8.first", "unicode/utf8.acceptRanges", "internal/bytealg.MaxLen"], plainKeys := false, apart := false, laid := [("unicode/utf8.acceptRanges", laid_unicode_utf8_acceptRanges), ("unicode/utf8.first", laid_unicode_utf8_first)] }
def PartnerBestIsFoundSaid : Prop := partnerBestIsFoundRow.holds Tryd.pinned (OpenSpec.ofChange partnerBestIsFoundSpec)

/-- ITS FALSE NEIGHBOUR: 'it returns false'. Refute it at one input. -/
def partnerBestIsFoundWrong : ChangeSpec := { name := "partnerBestIsFound", fn := fun _ => fun
  | [d1, d2, d3] => { results := [.lit (.bool false)], args := [d1, d2, d3] }
  | _ => none }
def PartnerBestIsFoundWrongFalsely : Prop := partnerBestIsFoundRow.holds Tryd.pinned (OpenSpec.ofChange partnerBestIsFoundWrong)

/-- 'interchangelaw8.PartnerPassedMatchesSpec': WHATEVER THE INPUT: true; the input reads as it did. -/
def partnerPassedMatchesSpecSpec : ChangeSpec := { name := "partnerPassedMatchesSpec", fn := fun _ => fun
  | [d1, d2, d3, d4] => { results := [.lit (.bool true)], args := [d1, d2, d3, d4] }
  | _ => none }
def partnerPassedMatchesSpecRow : OpenClaim := { program := "ytdlgohhecicnoaadoor", sum := "0f052ca32111422ba50b63d01e32268f450225d0566cc83c9c7968839c9fba2d", func := "interchange/interchangelaw8.PartnerPassedMatchesSpec", spec := "partnerPassedMatchesSpec", inPlace := ["internal/bytealg.IndexByteString", "internal/bytealg.IndexString"], recurses := true, named := ["unicode/utf8.first", "unicode/utf8.acceptRanges", "internal/bytealg.MaxLen"], plainKeys := false, apart := false, laid := [("unicode/utf8.acceptRanges", laid_unicode_utf8_acceptRanges), ("unicode/utf8.first", laid_unicode_utf8_first)] }
def PartnerPassedMatchesSpecSaid : Prop := partnerPassedMatchesSpecRow.holds Tryd.pinned (OpenSpec.ofChange partnerPassedMatchesSpecSpec)

/-- ITS FALSE NEIGHBOUR: 'it returns false'. Refute it at one input. -/
def partnerPassedMatchesSpecWrong : ChangeSpec := { name := "partnerPassedMatchesSpec", fn := fun _ => fun
  | [d1, d2, d3, d4] => { results := [.lit (.bool false)], args := [d1, d2, d3, d4] }
  | _ => none }
def PartnerPassedMatchesSpecWrongFalsely : Prop := partnerPassedMatchesSpecRow.holds Tryd.pinned (OpenSpec.ofChange partnerPassedMatchesSpecWrong)

/-- 'interchangelaw8.PartnerFindsMatchSpec': WHATEVER THE INPUT: true; the input reads as it did. -/
def partnerFindsMatchSpecSpec : ChangeSpec := { name := "partnerFindsMatchSpec", fn := fun _ => fun
  | [d1, d2, d3, d4, d5] => { results := [.lit (.bool true)], args := [d1, d2, d3, d4, d5] }
  | _ => none }
def partnerFindsMatchSpecRow : OpenClaim := { program := "ytdlgohhecicnoaadoor", sum := "0f052ca32111422ba50b63d01e32268f450225d0566cc83c9c7968839c9fba2d", func := "interchange/interchangelaw8.PartnerFindsMatchSpec", spec := "partnerFindsMatchSpec", inPlace := ["internal/bytealg.IndexByteString", "internal/bytealg.IndexString", "internal/bytealg.abigen_runtime_cmpstring"], unfollowed := true, recurses := true, named := ["unicode/utf8.first", "unicode/utf8.acceptRanges", "internal/bytealg.MaxLen"], plainKeys := false, apart := false, laid := [("unicode/utf8.acceptRanges", laid_unicode_utf8_acceptRanges), ("unicode/utf8.first", laid_unicode_utf8_first)] }
def PartnerFindsMatchSpecSaid : Prop := partnerFindsMatchSpecRow.holds Tryd.pinned (OpenSpec.ofChange partnerFindsMatchSpecSpec)

/-- ITS FALSE NEIGHBOUR: 'it returns false'. Refute it at one input. -/
def partnerFindsMatchSpecWrong : ChangeSpec := { name := "partnerFindsMatchSpec", fn := fun _ => fun
  | [d1, d2, d3, d4, d5] => { results := [.lit (.bool false)], args := [d1, d2, d3, d4, d5] }
  | _ => none }
def PartnerFindsMatchSpecWrongFalsely : Prop := partnerFindsMatchSpecRow.holds Tryd.pinned (OpenSpec.ofChange partnerFindsMatchSpecWrong)

/-- 'interchangelaw8.PartnerUntilIsTheLast': WHATEVER THE INPUT: true; the input reads as it did. -/
def partnerUntilIsTheLastSpec : ChangeSpec := { name := "partnerUntilIsTheLast", fn := fun _ => fun
  | [d1, d2, d3, d4] => { results := [.lit (.bool true)], args := [d1, d2, d3, d4] }
  | _ => none }
def partnerUntilIsTheLastRow : OpenClaim := { program := "ytdlgohhecicnoaadoor", sum := "0f052ca32111422ba50b63d01e32268f450225d0566cc83c9c7968839c9fba2d", func := "interchange/interchangelaw8.PartnerUntilIsTheLast", spec := "partnerUntilIsTheLast", inPlace := ["internal/bytealg.IndexByteString", "internal/bytealg.IndexString", "internal/bytealg.abigen_runtime_cmpstring"], unfollowed := true, recurses := true, named := ["unicode/utf8.first", "unicode/utf8.acceptRanges", "internal/bytealg.MaxLen"], plainKeys := false, apart := false, laid := [("unicode/utf8.acceptRanges", laid_unicode_utf8_acceptRanges), ("unicode/utf8.first", laid_unicode_utf8_first)] }
def PartnerUntilIsTheLastSaid : Prop := partnerUntilIsTheLastRow.holds Tryd.pinned (OpenSpec.ofChange partnerUntilIsTheLastSpec)

/-- ITS FALSE NEIGHBOUR: 'it returns false'. Refute it at one input. -/
def partnerUntilIsTheLastWrong : ChangeSpec := { name := "partnerUntilIsTheLast", fn := fun _ => fun
  | [d1, d2, d3, d4] => { results := [.lit (.bool false)], args := [d1, d2, d3, d4] }
  | _ => none }
def PartnerUntilIsTheLastWrongFalsely : Prop := partnerUntilIsTheLastRow.holds Tryd.pinned (OpenSpec.ofChange partnerUntilIsTheLastWrong)

/-- 'interchangelaw8.PartnerNeverIsNever': WHATEVER THE INPUT: true; the input reads as it did. -/
def partnerNeverIsNeverSpec : ChangeSpec := { name := "partnerNeverIsNever", fn := fun _ => fun
  | [d1, d2, d3, d4, d5] => { results := [.lit (.bool true)], args := [d1, d2, d3, d4, d5] }
  | _ => none }
def partnerNeverIsNeverRow : OpenClaim := { program := "ytdlgohhecicnoaadoor", sum := "0f052ca32111422ba50b63d01e32268f450225d0566cc83c9c7968839c9fba2d", func := "interchange/interchangelaw8.PartnerNeverIsNever", spec := "partnerNeverIsNever", inPlace := ["internal/bytealg.IndexByteString", "internal/bytealg.IndexString", "internal/bytealg.abigen_runtime_cmpstring"], unfollowed := true, recurses := true, named := ["unicode/utf8.first", "unicode/utf8.acceptRanges", "internal/bytealg.MaxLen"], plainKeys := false, apart := false, laid := [("unicode/utf8.acceptRanges", laid_unicode_utf8_acceptRanges), ("unicode/utf8.first", laid_unicode_utf8_first)] }
def PartnerNeverIsNeverSaid : Prop := partnerNeverIsNeverRow.holds Tryd.pinned (OpenSpec.ofChange partnerNeverIsNeverSpec)

/-- ITS FALSE NEIGHBOUR: 'it returns false'. Refute it at one input. -/
def partnerNeverIsNeverWrong : ChangeSpec := { name := "partnerNeverIsNever", fn := fun _ => fun
  | [d1, d2, d3, d4, d5] => { results := [.lit (.bool false)], args := [d1, d2, d3, d4, d5] }
  | _ => none }
def PartnerNeverIsNeverWrongFalsely : Prop := partnerNeverIsNeverRow.holds Tryd.pinned (OpenSpec.ofChange partnerNeverIsNeverWrong)

/- THE SECOND FORM. 'bulk': how many values and letters a reading holds, each counted each time it is reached (what is shared counts as often as it is met; a slice's spare places count too). A statement '..UptoSaid' is the law's where the arguments, and the package variables that the reading takes, are together of bulk at most 1048576: NARROWER than '..Said'. Prove '..Said' where nothing that the law and all that it calls make is longer than what came in: it says more and counts as full. Else prove '..UptoSaid'. A law counts once. -/
mutual
def uptoBulk {H : Type} : DataW H → Nat
  | .lit (.string bytes) => bytes.length + 1
  | .lit _ => 1
  | .nil => 1
  | .ptr d => uptoBulk d + 1
  | .slice elems spare => uptoBulkAll elems + uptoBulkAll spare + 1
  | .agg parts => uptoBulkAll parts + 1
  | .iface _ d => uptoBulk d + 1
  | .map entries => uptoBulkEntries entries + 1
  | .held _ => 1
def uptoBulkAll {H : Type} : List (DataW H) → Nat
  | [] => 0
  | d :: r => uptoBulk d + uptoBulkAll r
def uptoBulkEntries {H : Type} : List (Lit × DataW H) → Nat
  | [] => 0
  | x :: r => uptoBulkEntry x + uptoBulkEntries r
def uptoBulkEntry {H : Type} : Lit × DataW H → Nat
  | (.string bytes, d) => bytes.length + uptoBulk d + 1
  | (_, d) => uptoBulk d + 1
 end
def uptoSmall : (H : Type) → List (DataW H) → Bool := fun _ ds => decide (uptoBulkAll ds ≤ 1048576)
def OpenSpec.upto (s : _root_.Go.ChangeSpec) : _root_.Go.OpenSpec := { _root_.Go.OpenSpec.ofChange s with cond := some uptoSmall }

/-- 'interchangelaw8.PartnerBetterIsAnOrder', WHERE WHAT IT READS IS OF BULK AT MOST 1048576: true; the input reads as it did. -/
def partnerBetterIsAnOrderUptoRow : OpenClaim := { program := "ytdlgohhecicnoaadoor", sum := "0f052ca32111422ba50b63d01e32268f450225d0566cc83c9c7968839c9fba2d", func := "interchange/interchangelaw8.PartnerBetterIsAnOrder", spec := "partnerBetterIsAnOrder", inPlace := ["internal/bytealg.IndexByteString", "internal/bytealg.IndexString"], named := ["unicode/utf8.first", "unicode/utf8.acceptRanges", "internal/bytealg.MaxLen"], plainKeys := false, apart := false, laid := [("unicode/utf8.acceptRanges", laid_unicode_utf8_acceptRanges), ("unicode/utf8.first", laid_unicode_utf8_first)], narrowed := true }
def PartnerBetterIsAnOrderUptoSaid : Prop := partnerBetterIsAnOrderUptoRow.holds Tryd.pinned (OpenSpec.upto partnerBetterIsAnOrderSpec)

/-- 'interchangelaw8.PartnersMatchSpec', WHERE WHAT IT READS IS OF BULK AT MOST 1048576: true; the input reads as it did. -/
def partnersMatchSpecUptoRow : OpenClaim := { program := "ytdlgohhecicnoaadoor", sum := "0f052ca32111422ba50b63d01e32268f450225d0566cc83c9c7968839c9fba2d", func := "interchange/interchangelaw8.PartnersMatchSpec", spec := "partnersMatchSpec", inPlace := ["internal/bytealg.IndexByteString", "internal/bytealg.IndexString"], named := ["unicode/utf8.first", "unicode/utf8.acceptRanges", "internal/bytealg.MaxLen"], plainKeys := false, apart := false, laid := [("unicode/utf8.acceptRanges", laid_unicode_utf8_acceptRanges), ("unicode/utf8.first", laid_unicode_utf8_first)], narrowed := true }
def PartnersMatchSpecUptoSaid : Prop := partnersMatchSpecUptoRow.holds Tryd.pinned (OpenSpec.upto partnersMatchSpecSpec)

/-- 'interchangelaw8.PartnerCasesMatchSpec', WHERE WHAT IT READS IS OF BULK AT MOST 1048576: true; the input reads as it did. -/
def partnerCasesMatchSpecUptoRow : OpenClaim := { program := "ytdlgohhecicnoaadoor", sum := "0f052ca32111422ba50b63d01e32268f450225d0566cc83c9c7968839c9fba2d", func := "interchange/interchangelaw8.PartnerCasesMatchSpec", spec := "partnerCasesMatchSpec", inPlace := ["internal/bytealg.IndexByteString", "internal/bytealg.IndexString"], named := ["unicode/utf8.first", "unicode/utf8.acceptRanges", "internal/bytealg.MaxLen"], plainKeys := false, apart := false, laid := [("unicode/utf8.acceptRanges", laid_unicode_utf8_acceptRanges), ("unicode/utf8.first", laid_unicode_utf8_first)], narrowed := true }
def PartnerCasesMatchSpecUptoSaid : Prop := partnerCasesMatchSpecUptoRow.holds Tryd.pinned (OpenSpec.upto partnerCasesMatchSpecSpec)

/-- 'interchangelaw8.PartnerTakesEachOnce', WHERE WHAT IT READS IS OF BULK AT MOST 1048576: true; the input reads as it did. -/
def partnerTakesEachOnceUptoRow : OpenClaim := { program := "ytdlgohhecicnoaadoor", sum := "0f052ca32111422ba50b63d01e32268f450225d0566cc83c9c7968839c9fba2d", func := "interchange/interchangelaw8.PartnerTakesEachOnce", spec := "partnerTakesEachOnce", inPlace := ["internal/bytealg.IndexByteString", "internal/bytealg.IndexString"], named := ["unicode/utf8.first", "unicode/utf8.acceptRanges", "internal/bytealg.MaxLen"], plainKeys := false, apart := false, laid := [("unicode/utf8.acceptRanges", laid_unicode_utf8_acceptRanges), ("unicode/utf8.first", laid_unicode_utf8_first)], narrowed := true }
def PartnerTakesEachOnceUptoSaid : Prop := partnerTakesEachOnceUptoRow.holds Tryd.pinned (OpenSpec.upto partnerTakesEachOnceSpec)

/-- 'interchangelaw8.PartnerIntakeMatchesSpec', WHERE WHAT IT READS IS OF BULK AT MOST 1048576: true; the input reads as it did. -/
def partnerIntakeMatchesSpecUptoRow : OpenClaim := { program := "ytdlgohhecicnoaadoor", sum := "0f052ca32111422ba50b63d01e32268f450225d0566cc83c9c7968839c9fba2d", func := "interchange/interchangelaw8.PartnerIntakeMatchesSpec", spec := "partnerIntakeMatchesSpec", inPlace := ["internal/bytealg.IndexByteString", "internal/bytealg.IndexString"], named := ["unicode/utf8.first", "unicode/utf8.acceptRanges", "internal/bytealg.MaxLen"], plainKeys := false, apart := false, laid := [("unicode/utf8.acceptRanges", laid_unicode_utf8_acceptRanges), ("unicode/utf8.first", laid_unicode_utf8_first)], narrowed := true }
def PartnerIntakeMatchesSpecUptoSaid : Prop := partnerIntakeMatchesSpecUptoRow.holds Tryd.pinned (OpenSpec.upto partnerIntakeMatchesSpecSpec)

/-- 'interchangelaw8.PartnerBestIsFound', WHERE WHAT IT READS IS OF BULK AT MOST 1048576: true; the input reads as it did. -/
def partnerBestIsFoundUptoRow : OpenClaim := { program := "ytdlgohhecicnoaadoor", sum := "0f052ca32111422ba50b63d01e32268f450225d0566cc83c9c7968839c9fba2d", func := "interchange/interchangelaw8.PartnerBestIsFound", spec := "partnerBestIsFound", inPlace := ["internal/bytealg.IndexByteString", "internal/bytealg.IndexString", "internal/bytealg.abigen_runtime_cmpstring"], unfollowed := true, recurses := true, named := ["unicode/utf8.first", "unicode/utf8.acceptRanges", "internal/bytealg.MaxLen"], plainKeys := false, apart := false, laid := [("unicode/utf8.acceptRanges", laid_unicode_utf8_acceptRanges), ("unicode/utf8.first", laid_unicode_utf8_first)], narrowed := true }
def PartnerBestIsFoundUptoSaid : Prop := partnerBestIsFoundUptoRow.holds Tryd.pinned (OpenSpec.upto partnerBestIsFoundSpec)

/-- 'interchangelaw8.PartnerPassedMatchesSpec', WHERE WHAT IT READS IS OF BULK AT MOST 1048576: true; the input reads as it did. -/
def partnerPassedMatchesSpecUptoRow : OpenClaim := { program := "ytdlgohhecicnoaadoor", sum := "0f052ca32111422ba50b63d01e32268f450225d0566cc83c9c7968839c9fba2d", func := "interchange/interchangelaw8.PartnerPassedMatchesSpec", spec := "partnerPassedMatchesSpec", inPlace := ["internal/bytealg.IndexByteString", "internal/bytealg.IndexString"], recurses := true, named := ["unicode/utf8.first", "unicode/utf8.acceptRanges", "internal/bytealg.MaxLen"], plainKeys := false, apart := false, laid := [("unicode/utf8.acceptRanges", laid_unicode_utf8_acceptRanges), ("unicode/utf8.first", laid_unicode_utf8_first)], narrowed := true }
def PartnerPassedMatchesSpecUptoSaid : Prop := partnerPassedMatchesSpecUptoRow.holds Tryd.pinned (OpenSpec.upto partnerPassedMatchesSpecSpec)

/-- 'interchangelaw8.PartnerFindsMatchSpec', WHERE WHAT IT READS IS OF BULK AT MOST 1048576: true; the input reads as it did. -/
def partnerFindsMatchSpecUptoRow : OpenClaim := { program := "ytdlgohhecicnoaadoor", sum := "0f052ca32111422ba50b63d01e32268f450225d0566cc83c9c7968839c9fba2d", func := "interchange/interchangelaw8.PartnerFindsMatchSpec", spec := "partnerFindsMatchSpec", inPlace := ["internal/bytealg.IndexByteString", "internal/bytealg.IndexString", "internal/bytealg.abigen_runtime_cmpstring"], unfollowed := true, recurses := true, named := ["unicode/utf8.first", "unicode/utf8.acceptRanges", "internal/bytealg.MaxLen"], plainKeys := false, apart := false, laid := [("unicode/utf8.acceptRanges", laid_unicode_utf8_acceptRanges), ("unicode/utf8.first", laid_unicode_utf8_first)], narrowed := true }
def PartnerFindsMatchSpecUptoSaid : Prop := partnerFindsMatchSpecUptoRow.holds Tryd.pinned (OpenSpec.upto partnerFindsMatchSpecSpec)

/-- 'interchangelaw8.PartnerUntilIsTheLast', WHERE WHAT IT READS IS OF BULK AT MOST 1048576: true; the input reads as it did. -/
def partnerUntilIsTheLastUptoRow : OpenClaim := { program := "ytdlgohhecicnoaadoor", sum := "0f052ca32111422ba50b63d01e32268f450225d0566cc83c9c7968839c9fba2d", func := "interchange/interchangelaw8.PartnerUntilIsTheLast", spec := "partnerUntilIsTheLast", inPlace := ["internal/bytealg.IndexByteString", "internal/bytealg.IndexString", "internal/bytealg.abigen_runtime_cmpstring"], unfollowed := true, recurses := true, named := ["unicode/utf8.first", "unicode/utf8.acceptRanges", "internal/bytealg.MaxLen"], plainKeys := false, apart := false, laid := [("unicode/utf8.acceptRanges", laid_unicode_utf8_acceptRanges), ("unicode/utf8.first", laid_unicode_utf8_first)], narrowed := true }
def PartnerUntilIsTheLastUptoSaid : Prop := partnerUntilIsTheLastUptoRow.holds Tryd.pinned (OpenSpec.upto partnerUntilIsTheLastSpec)

/-- 'interchangelaw8.PartnerNeverIsNever', WHERE WHAT IT READS IS OF BULK AT MOST 1048576: true; the input reads as it did. -/
def partnerNeverIsNeverUptoRow : OpenClaim := { program := "ytdlgohhecicnoaadoor", sum := "0f052ca32111422ba50b63d01e32268f450225d0566cc83c9c7968839c9fba2d", func := "interchange/interchangelaw8.PartnerNeverIsNever", spec := "partnerNeverIsNever", inPlace := ["internal/bytealg.IndexByteString", "internal/bytealg.IndexString", "internal/bytealg.abigen_runtime_cmpstring"], unfollowed := true, recurses := true, named := ["unicode/utf8.first", "unicode/utf8.acceptRanges", "internal/bytealg.MaxLen"], plainKeys := false, apart := false, laid := [("unicode/utf8.acceptRanges", laid_unicode_utf8_acceptRanges), ("unicode/utf8.first", laid_unicode_utf8_first)], narrowed := true }
def PartnerNeverIsNeverUptoSaid : Prop := partnerNeverIsNeverUptoRow.holds Tryd.pinned (OpenSpec.upto partnerNeverIsNeverSpec)

end Rows
end Go.Proofs.YtdlgohhecicnoaaDoor
