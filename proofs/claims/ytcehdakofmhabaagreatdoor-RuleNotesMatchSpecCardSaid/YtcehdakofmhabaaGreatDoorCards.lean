/-
  DERIVED. GIVEN WITH THE SEED: THE CARDS: each row of YtcehdakofmhabaaGreatDoorRows.lean that lists a variable, with what it lists TIED to the program's text (the seventh form; the later family's looks); each row that meets fmt, with fmt's text TOLD by the authors' own Lean function (tested against real Go, not proved from fmt's source: count such statements apart). THE CARD IS WHAT COUNTS. Prove the row's statement (the work); the ties are given (YtcehdakofmhabaaGreatDoorTie.lean); close each card by the builder's one call (the guide's Derived/Test/ToyasCard.lean, 'card_holds'). Laid BY PROGRAM, IN A SANDBOX (cutbox-door.mjs). By AI agents, Wed Nov 11 2026. No macro, syntax, notation, axiom, sorry.
-/
import Derived.Test.YtcehdakofmhabaaGreatDoorRows
import GoSem.ClaimSeven
namespace Go.Proofs.YtcehdakofmhabaaGreatDoor
namespace Rows

/-- THE TIED CARD OF 'interchangelaw4.RuleChecksMatchSpec'. -/
def ruleChecksMatchSpecCard : Claim7 := { stood := { row := ruleChecksMatchSpecRow, standIns := [], harness := (true, "cacedf3b76b5cef45f4ebadcb539107cf1dbe6a0a6925a557b5615ab4f4c0e74"), looks := true }, kinds := [], alts := [], laidByText := true, laidKinds := [.data, .data, .data, .data, .sentinel, .sentinel, .pinned], laidTests := true, laidLooks := .later }
def RuleChecksMatchSpecCardSaid : Prop := Claim7.holds Tryz.pinned (.plain (OpenSpec.ofChange ruleChecksMatchSpecSpec)) ruleChecksMatchSpecCard

/-- THE TIED CARD OF 'interchangelaw4.RuleNotesMatchSpec'. -/
def ruleNotesMatchSpecCard : Claim7 := { stood := { row := ruleNotesMatchSpecRow, standIns := [], harness := (true, "cacedf3b76b5cef45f4ebadcb539107cf1dbe6a0a6925a557b5615ab4f4c0e74"), looks := true }, kinds := [], alts := [], laidByText := true, laidKinds := [.data, .data, .data, .data, .sentinel, .sentinel, .pinned], laidTests := true, laidLooks := .later }
def RuleNotesMatchSpecCardSaid : Prop := Claim7.holds Tryz.pinned (.plain (OpenSpec.ofChange ruleNotesMatchSpecSpec)) ruleNotesMatchSpecCard

/-- THE SECOND FORM's CARD OF 'interchangelaw4.RuleChecksMatchSpec'. -/
def ruleChecksMatchSpecUptoCard : Claim7 := { stood := { row := ruleChecksMatchSpecUptoRow, standIns := [], harness := (true, "cacedf3b76b5cef45f4ebadcb539107cf1dbe6a0a6925a557b5615ab4f4c0e74"), looks := true }, kinds := [], alts := [], laidByText := true, laidKinds := [.data, .data, .data, .data, .sentinel, .sentinel, .pinned], laidTests := true, laidLooks := .later }
def RuleChecksMatchSpecUptoCardSaid : Prop := Claim7.holds Tryz.pinned (.plain (OpenSpec.upto ruleChecksMatchSpecSpec)) ruleChecksMatchSpecUptoCard

/-- THE SECOND FORM's CARD OF 'interchangelaw4.RuleNotesMatchSpec'. -/
def ruleNotesMatchSpecUptoCard : Claim7 := { stood := { row := ruleNotesMatchSpecUptoRow, standIns := [], harness := (true, "cacedf3b76b5cef45f4ebadcb539107cf1dbe6a0a6925a557b5615ab4f4c0e74"), looks := true }, kinds := [], alts := [], laidByText := true, laidKinds := [.data, .data, .data, .data, .sentinel, .sentinel, .pinned], laidTests := true, laidLooks := .later }
def RuleNotesMatchSpecUptoCardSaid : Prop := Claim7.holds Tryz.pinned (.plain (OpenSpec.upto ruleNotesMatchSpecSpec)) ruleNotesMatchSpecUptoCard
end Rows
end Go.Proofs.YtcehdakofmhabaaGreatDoor
