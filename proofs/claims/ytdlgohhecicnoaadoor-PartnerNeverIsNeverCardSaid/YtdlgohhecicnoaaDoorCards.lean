/-
  DERIVED. GIVEN WITH THE SEED: THE CARDS: each row of YtdlgohhecicnoaaDoorRows.lean that lists a variable, with what it lists TIED to the program's text (the seventh form; the later family's looks); each row that meets fmt, with fmt's text TOLD by the authors' own Lean function (tested against real Go, not proved from fmt's source: count such statements apart). THE CARD IS WHAT COUNTS. Prove the row's statement (the work); the ties are given (YtdlgohhecicnoaaDoorTie.lean); close each card by the builder's one call (the guide's Derived/Test/ToyasCard.lean, 'card_holds'). Laid BY PROGRAM, IN A SANDBOX (cutbox-door.mjs). By AI agents, Wed Nov 11 2026. No macro, syntax, notation, axiom, sorry.
-/
import Derived.Test.YtdlgohhecicnoaaDoorRows
import GoSem.ClaimSeven
namespace Go.Proofs.YtdlgohhecicnoaaDoor
namespace Rows

/-- THE TIED CARD OF 'interchangelaw8.PartnerBetterIsAnOrder'. -/
def partnerBetterIsAnOrderCard : Claim7 := { stood := { row := partnerBetterIsAnOrderRow, standIns := [], harness := (true, "b4683dd45d489fe2bd974dc9e96cc70e76ba5c71eafc784027e9453770b0e1b6"), looks := false }, kinds := [], alts := [], laidByText := true, laidKinds := [.data, .pinned], laidTests := true, laidLooks := .later }
def PartnerBetterIsAnOrderCardSaid : Prop := Claim7.holds Tryd.pinned (.plain (OpenSpec.ofChange partnerBetterIsAnOrderSpec)) partnerBetterIsAnOrderCard

/-- THE TIED CARD OF 'interchangelaw8.PartnersMatchSpec'. -/
def partnersMatchSpecCard : Claim7 := { stood := { row := partnersMatchSpecRow, standIns := [], harness := (true, "b4683dd45d489fe2bd974dc9e96cc70e76ba5c71eafc784027e9453770b0e1b6"), looks := false }, kinds := [], alts := [], laidByText := true, laidKinds := [.data, .pinned], laidTests := true, laidLooks := .later }
def PartnersMatchSpecCardSaid : Prop := Claim7.holds Tryd.pinned (.plain (OpenSpec.ofChange partnersMatchSpecSpec)) partnersMatchSpecCard

/-- THE TIED CARD OF 'interchangelaw8.PartnerCasesMatchSpec'. -/
def partnerCasesMatchSpecCard : Claim7 := { stood := { row := partnerCasesMatchSpecRow, standIns := [], harness := (true, "b4683dd45d489fe2bd974dc9e96cc70e76ba5c71eafc784027e9453770b0e1b6"), looks := false }, kinds := [], alts := [], laidByText := true, laidKinds := [.data, .pinned], laidTests := true, laidLooks := .later }
def PartnerCasesMatchSpecCardSaid : Prop := Claim7.holds Tryd.pinned (.plain (OpenSpec.ofChange partnerCasesMatchSpecSpec)) partnerCasesMatchSpecCard

/-- THE TIED CARD OF 'interchangelaw8.PartnerTakesEachOnce'. -/
def partnerTakesEachOnceCard : Claim7 := { stood := { row := partnerTakesEachOnceRow, standIns := [], harness := (true, "b4683dd45d489fe2bd974dc9e96cc70e76ba5c71eafc784027e9453770b0e1b6"), looks := false }, kinds := [], alts := [], laidByText := true, laidKinds := [.data, .pinned], laidTests := true, laidLooks := .later }
def PartnerTakesEachOnceCardSaid : Prop := Claim7.holds Tryd.pinned (.plain (OpenSpec.ofChange partnerTakesEachOnceSpec)) partnerTakesEachOnceCard

/-- THE TIED CARD OF 'interchangelaw8.PartnerIntakeMatchesSpec'. -/
def partnerIntakeMatchesSpecCard : Claim7 := { stood := { row := partnerIntakeMatchesSpecRow, standIns := [], harness := (true, "b4683dd45d489fe2bd974dc9e96cc70e76ba5c71eafc784027e9453770b0e1b6"), looks := false }, kinds := [], alts := [], laidByText := true, laidKinds := [.data, .pinned], laidTests := true, laidLooks := .later }
def PartnerIntakeMatchesSpecCardSaid : Prop := Claim7.holds Tryd.pinned (.plain (OpenSpec.ofChange partnerIntakeMatchesSpecSpec)) partnerIntakeMatchesSpecCard

/-- THE TIED CARD OF 'interchangelaw8.PartnerBestIsFound'. -/
def partnerBestIsFoundCard : Claim7 := { stood := { row := partnerBestIsFoundRow, standIns := [], harness := (true, "b4683dd45d489fe2bd974dc9e96cc70e76ba5c71eafc784027e9453770b0e1b6"), looks := false }, kinds := [], alts := [], laidByText := true, laidKinds := [.data, .pinned], laidTests := true, laidLooks := .later }
def PartnerBestIsFoundCardSaid : Prop := Claim7.holds Tryd.pinned (.plain (OpenSpec.ofChange partnerBestIsFoundSpec)) partnerBestIsFoundCard

/-- THE TIED CARD OF 'interchangelaw8.PartnerPassedMatchesSpec'. -/
def partnerPassedMatchesSpecCard : Claim7 := { stood := { row := partnerPassedMatchesSpecRow, standIns := [], harness := (true, "b4683dd45d489fe2bd974dc9e96cc70e76ba5c71eafc784027e9453770b0e1b6"), looks := false }, kinds := [], alts := [], laidByText := true, laidKinds := [.data, .pinned], laidTests := true, laidLooks := .later }
def PartnerPassedMatchesSpecCardSaid : Prop := Claim7.holds Tryd.pinned (.plain (OpenSpec.ofChange partnerPassedMatchesSpecSpec)) partnerPassedMatchesSpecCard

/-- THE TIED CARD OF 'interchangelaw8.PartnerFindsMatchSpec'. -/
def partnerFindsMatchSpecCard : Claim7 := { stood := { row := partnerFindsMatchSpecRow, standIns := [], harness := (true, "b4683dd45d489fe2bd974dc9e96cc70e76ba5c71eafc784027e9453770b0e1b6"), looks := false }, kinds := [], alts := [], laidByText := true, laidKinds := [.data, .pinned], laidTests := true, laidLooks := .later }
def PartnerFindsMatchSpecCardSaid : Prop := Claim7.holds Tryd.pinned (.plain (OpenSpec.ofChange partnerFindsMatchSpecSpec)) partnerFindsMatchSpecCard

/-- THE TIED CARD OF 'interchangelaw8.PartnerUntilIsTheLast'. -/
def partnerUntilIsTheLastCard : Claim7 := { stood := { row := partnerUntilIsTheLastRow, standIns := [], harness := (true, "b4683dd45d489fe2bd974dc9e96cc70e76ba5c71eafc784027e9453770b0e1b6"), looks := false }, kinds := [], alts := [], laidByText := true, laidKinds := [.data, .pinned], laidTests := true, laidLooks := .later }
def PartnerUntilIsTheLastCardSaid : Prop := Claim7.holds Tryd.pinned (.plain (OpenSpec.ofChange partnerUntilIsTheLastSpec)) partnerUntilIsTheLastCard

/-- THE TIED CARD OF 'interchangelaw8.PartnerNeverIsNever'. -/
def partnerNeverIsNeverCard : Claim7 := { stood := { row := partnerNeverIsNeverRow, standIns := [], harness := (true, "b4683dd45d489fe2bd974dc9e96cc70e76ba5c71eafc784027e9453770b0e1b6"), looks := false }, kinds := [], alts := [], laidByText := true, laidKinds := [.data, .pinned], laidTests := true, laidLooks := .later }
def PartnerNeverIsNeverCardSaid : Prop := Claim7.holds Tryd.pinned (.plain (OpenSpec.ofChange partnerNeverIsNeverSpec)) partnerNeverIsNeverCard

/-- THE SECOND FORM's CARD OF 'interchangelaw8.PartnerBetterIsAnOrder'. -/
def partnerBetterIsAnOrderUptoCard : Claim7 := { stood := { row := partnerBetterIsAnOrderUptoRow, standIns := [], harness := (true, "b4683dd45d489fe2bd974dc9e96cc70e76ba5c71eafc784027e9453770b0e1b6"), looks := false }, kinds := [], alts := [], laidByText := true, laidKinds := [.data, .pinned], laidTests := true, laidLooks := .later }
def PartnerBetterIsAnOrderUptoCardSaid : Prop := Claim7.holds Tryd.pinned (.plain (OpenSpec.upto partnerBetterIsAnOrderSpec)) partnerBetterIsAnOrderUptoCard

/-- THE SECOND FORM's CARD OF 'interchangelaw8.PartnersMatchSpec'. -/
def partnersMatchSpecUptoCard : Claim7 := { stood := { row := partnersMatchSpecUptoRow, standIns := [], harness := (true, "b4683dd45d489fe2bd974dc9e96cc70e76ba5c71eafc784027e9453770b0e1b6"), looks := false }, kinds := [], alts := [], laidByText := true, laidKinds := [.data, .pinned], laidTests := true, laidLooks := .later }
def PartnersMatchSpecUptoCardSaid : Prop := Claim7.holds Tryd.pinned (.plain (OpenSpec.upto partnersMatchSpecSpec)) partnersMatchSpecUptoCard

/-- THE SECOND FORM's CARD OF 'interchangelaw8.PartnerCasesMatchSpec'. -/
def partnerCasesMatchSpecUptoCard : Claim7 := { stood := { row := partnerCasesMatchSpecUptoRow, standIns := [], harness := (true, "b4683dd45d489fe2bd974dc9e96cc70e76ba5c71eafc784027e9453770b0e1b6"), looks := false }, kinds := [], alts := [], laidByText := true, laidKinds := [.data, .pinned], laidTests := true, laidLooks := .later }
def PartnerCasesMatchSpecUptoCardSaid : Prop := Claim7.holds Tryd.pinned (.plain (OpenSpec.upto partnerCasesMatchSpecSpec)) partnerCasesMatchSpecUptoCard

/-- THE SECOND FORM's CARD OF 'interchangelaw8.PartnerTakesEachOnce'. -/
def partnerTakesEachOnceUptoCard : Claim7 := { stood := { row := partnerTakesEachOnceUptoRow, standIns := [], harness := (true, "b4683dd45d489fe2bd974dc9e96cc70e76ba5c71eafc784027e9453770b0e1b6"), looks := false }, kinds := [], alts := [], laidByText := true, laidKinds := [.data, .pinned], laidTests := true, laidLooks := .later }
def PartnerTakesEachOnceUptoCardSaid : Prop := Claim7.holds Tryd.pinned (.plain (OpenSpec.upto partnerTakesEachOnceSpec)) partnerTakesEachOnceUptoCard

/-- THE SECOND FORM's CARD OF 'interchangelaw8.PartnerIntakeMatchesSpec'. -/
def partnerIntakeMatchesSpecUptoCard : Claim7 := { stood := { row := partnerIntakeMatchesSpecUptoRow, standIns := [], harness := (true, "b4683dd45d489fe2bd974dc9e96cc70e76ba5c71eafc784027e9453770b0e1b6"), looks := false }, kinds := [], alts := [], laidByText := true, laidKinds := [.data, .pinned], laidTests := true, laidLooks := .later }
def PartnerIntakeMatchesSpecUptoCardSaid : Prop := Claim7.holds Tryd.pinned (.plain (OpenSpec.upto partnerIntakeMatchesSpecSpec)) partnerIntakeMatchesSpecUptoCard

/-- THE SECOND FORM's CARD OF 'interchangelaw8.PartnerBestIsFound'. -/
def partnerBestIsFoundUptoCard : Claim7 := { stood := { row := partnerBestIsFoundUptoRow, standIns := [], harness := (true, "b4683dd45d489fe2bd974dc9e96cc70e76ba5c71eafc784027e9453770b0e1b6"), looks := false }, kinds := [], alts := [], laidByText := true, laidKinds := [.data, .pinned], laidTests := true, laidLooks := .later }
def PartnerBestIsFoundUptoCardSaid : Prop := Claim7.holds Tryd.pinned (.plain (OpenSpec.upto partnerBestIsFoundSpec)) partnerBestIsFoundUptoCard

/-- THE SECOND FORM's CARD OF 'interchangelaw8.PartnerPassedMatchesSpec'. -/
def partnerPassedMatchesSpecUptoCard : Claim7 := { stood := { row := partnerPassedMatchesSpecUptoRow, standIns := [], harness := (true, "b4683dd45d489fe2bd974dc9e96cc70e76ba5c71eafc784027e9453770b0e1b6"), looks := false }, kinds := [], alts := [], laidByText := true, laidKinds := [.data, .pinned], laidTests := true, laidLooks := .later }
def PartnerPassedMatchesSpecUptoCardSaid : Prop := Claim7.holds Tryd.pinned (.plain (OpenSpec.upto partnerPassedMatchesSpecSpec)) partnerPassedMatchesSpecUptoCard

/-- THE SECOND FORM's CARD OF 'interchangelaw8.PartnerFindsMatchSpec'. -/
def partnerFindsMatchSpecUptoCard : Claim7 := { stood := { row := partnerFindsMatchSpecUptoRow, standIns := [], harness := (true, "b4683dd45d489fe2bd974dc9e96cc70e76ba5c71eafc784027e9453770b0e1b6"), looks := false }, kinds := [], alts := [], laidByText := true, laidKinds := [.data, .pinned], laidTests := true, laidLooks := .later }
def PartnerFindsMatchSpecUptoCardSaid : Prop := Claim7.holds Tryd.pinned (.plain (OpenSpec.upto partnerFindsMatchSpecSpec)) partnerFindsMatchSpecUptoCard

/-- THE SECOND FORM's CARD OF 'interchangelaw8.PartnerUntilIsTheLast'. -/
def partnerUntilIsTheLastUptoCard : Claim7 := { stood := { row := partnerUntilIsTheLastUptoRow, standIns := [], harness := (true, "b4683dd45d489fe2bd974dc9e96cc70e76ba5c71eafc784027e9453770b0e1b6"), looks := false }, kinds := [], alts := [], laidByText := true, laidKinds := [.data, .pinned], laidTests := true, laidLooks := .later }
def PartnerUntilIsTheLastUptoCardSaid : Prop := Claim7.holds Tryd.pinned (.plain (OpenSpec.upto partnerUntilIsTheLastSpec)) partnerUntilIsTheLastUptoCard

/-- THE SECOND FORM's CARD OF 'interchangelaw8.PartnerNeverIsNever'. -/
def partnerNeverIsNeverUptoCard : Claim7 := { stood := { row := partnerNeverIsNeverUptoRow, standIns := [], harness := (true, "b4683dd45d489fe2bd974dc9e96cc70e76ba5c71eafc784027e9453770b0e1b6"), looks := false }, kinds := [], alts := [], laidByText := true, laidKinds := [.data, .pinned], laidTests := true, laidLooks := .later }
def PartnerNeverIsNeverUptoCardSaid : Prop := Claim7.holds Tryd.pinned (.plain (OpenSpec.upto partnerNeverIsNeverSpec)) partnerNeverIsNeverUptoCard
end Rows
end Go.Proofs.YtdlgohhecicnoaaDoor
