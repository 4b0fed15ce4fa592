/-
  DERIVED. GIVEN WITH THE SEED: THE CARDS: each row of YtnagecfpbkffpaaDoorRows.lean that lists a variable, with what it lists TIED to the program's text (the seventh form; the later family's looks); each row that meets fmt, with fmt's text TOLD by the authors' own Lean function (tested against real Go, not proved from fmt's source: count such statements apart). THE CARD IS WHAT COUNTS. Prove the row's statement (the work); the ties are given (YtnagecfpbkffpaaDoorTie.lean); close each card by the builder's one call (the guide's Derived/Test/ToyasCard.lean, 'card_holds'). Laid BY PROGRAM, IN A SANDBOX (cutbox-door.mjs). By AI agents, Wed Nov 11 2026. No macro, syntax, notation, axiom, sorry.
-/
import Derived.Test.YtnagecfpbkffpaaDoorRows
import GoSem.ClaimSeven
namespace Go.Proofs.YtnagecfpbkffpaaDoor
namespace Rows

/-- THE TIED CARD OF 'horariumlaw10.ClockBack'. -/
def clockBackCard : Claim7 := { stood := { row := clockBackRow, standIns := [], harness := (true, "a675b837898d5ebdf6a8839cc5c72a958caef760fb373e634fc92a19661b7335"), looks := false }, kinds := [], alts := [], laidByText := true, laidKinds := [.data, .pinned], laidTests := true, laidLooks := .later }
def ClockBackCardSaid : Prop := Claim7.holds Tryd.pinned (.plain (OpenSpec.ofChange clockBackSpec)) clockBackCard

/-- THE TIED CARD OF 'horariumlaw10.ClockTells'. -/
def clockTellsCard : Claim7 := { stood := { row := clockTellsRow, standIns := [], harness := (true, "a675b837898d5ebdf6a8839cc5c72a958caef760fb373e634fc92a19661b7335"), looks := false }, kinds := [], alts := [], laidByText := true, laidKinds := [.data, .pinned], laidTests := true, laidLooks := .later }
def ClockTellsCardSaid : Prop := Claim7.holds Tryd.pinned (.plain (OpenSpec.ofChange clockTellsSpec)) clockTellsCard

/-- THE TIED CARD OF 'horariumlaw10.ClockWeeks'. -/
def clockWeeksCard : Claim7 := { stood := { row := clockWeeksRow, standIns := [], harness := (true, "a675b837898d5ebdf6a8839cc5c72a958caef760fb373e634fc92a19661b7335"), looks := false }, kinds := [], alts := [], laidByText := true, laidKinds := [.data, .pinned], laidTests := true, laidLooks := .later }
def ClockWeeksCardSaid : Prop := Claim7.holds Tryd.pinned (.plain (OpenSpec.ofChange clockWeeksSpec)) clockWeeksCard

/-- THE TIED CARD OF 'horariumlaw10.ClockDays'. -/
def clockDaysCard : Claim7 := { stood := { row := clockDaysRow, standIns := [], harness := (true, "a675b837898d5ebdf6a8839cc5c72a958caef760fb373e634fc92a19661b7335"), looks := false }, kinds := [], alts := [], laidByText := true, laidKinds := [.data, .pinned], laidTests := true, laidLooks := .later }
def ClockDaysCardSaid : Prop := Claim7.holds Tryd.pinned (.plain (OpenSpec.ofChange clockDaysSpec)) clockDaysCard

/-- THE TIED CARD OF 'horariumlaw10.ClockRuns'. -/
def clockRunsCard : Claim7 := { stood := { row := clockRunsRow, standIns := [], harness := (true, "a675b837898d5ebdf6a8839cc5c72a958caef760fb373e634fc92a19661b7335"), looks := false }, kinds := [], alts := [], laidByText := true, laidKinds := [.data, .pinned], laidTests := true, laidLooks := .later }
def ClockRunsCardSaid : Prop := Claim7.holds Tryd.pinned (.plain (OpenSpec.ofChange clockRunsSpec)) clockRunsCard

/-- THE TIED CARD OF 'horariumlaw10.ClockApart'. -/
def clockApartCard : Claim7 := { stood := { row := clockApartRow, standIns := [], harness := (true, "a675b837898d5ebdf6a8839cc5c72a958caef760fb373e634fc92a19661b7335"), looks := false }, kinds := [], alts := [], laidByText := true, laidKinds := [.data, .pinned], laidTests := true, laidLooks := .later }
def ClockApartCardSaid : Prop := Claim7.holds Tryd.pinned (.plain (OpenSpec.ofChange clockApartSpec)) clockApartCard

/-- THE SECOND FORM's CARD OF 'horariumlaw10.ClockBack'. -/
def clockBackUptoCard : Claim7 := { stood := { row := clockBackUptoRow, standIns := [], harness := (true, "a675b837898d5ebdf6a8839cc5c72a958caef760fb373e634fc92a19661b7335"), looks := false }, kinds := [], alts := [], laidByText := true, laidKinds := [.data, .pinned], laidTests := true, laidLooks := .later }
def ClockBackUptoCardSaid : Prop := Claim7.holds Tryd.pinned (.plain (OpenSpec.upto clockBackSpec)) clockBackUptoCard

/-- THE SECOND FORM's CARD OF 'horariumlaw10.ClockTells'. -/
def clockTellsUptoCard : Claim7 := { stood := { row := clockTellsUptoRow, standIns := [], harness := (true, "a675b837898d5ebdf6a8839cc5c72a958caef760fb373e634fc92a19661b7335"), looks := false }, kinds := [], alts := [], laidByText := true, laidKinds := [.data, .pinned], laidTests := true, laidLooks := .later }
def ClockTellsUptoCardSaid : Prop := Claim7.holds Tryd.pinned (.plain (OpenSpec.upto clockTellsSpec)) clockTellsUptoCard

/-- THE SECOND FORM's CARD OF 'horariumlaw10.ClockWeeks'. -/
def clockWeeksUptoCard : Claim7 := { stood := { row := clockWeeksUptoRow, standIns := [], harness := (true, "a675b837898d5ebdf6a8839cc5c72a958caef760fb373e634fc92a19661b7335"), looks := false }, kinds := [], alts := [], laidByText := true, laidKinds := [.data, .pinned], laidTests := true, laidLooks := .later }
def ClockWeeksUptoCardSaid : Prop := Claim7.holds Tryd.pinned (.plain (OpenSpec.upto clockWeeksSpec)) clockWeeksUptoCard

/-- THE SECOND FORM's CARD OF 'horariumlaw10.ClockDays'. -/
def clockDaysUptoCard : Claim7 := { stood := { row := clockDaysUptoRow, standIns := [], harness := (true, "a675b837898d5ebdf6a8839cc5c72a958caef760fb373e634fc92a19661b7335"), looks := false }, kinds := [], alts := [], laidByText := true, laidKinds := [.data, .pinned], laidTests := true, laidLooks := .later }
def ClockDaysUptoCardSaid : Prop := Claim7.holds Tryd.pinned (.plain (OpenSpec.upto clockDaysSpec)) clockDaysUptoCard

/-- THE SECOND FORM's CARD OF 'horariumlaw10.ClockRuns'. -/
def clockRunsUptoCard : Claim7 := { stood := { row := clockRunsUptoRow, standIns := [], harness := (true, "a675b837898d5ebdf6a8839cc5c72a958caef760fb373e634fc92a19661b7335"), looks := false }, kinds := [], alts := [], laidByText := true, laidKinds := [.data, .pinned], laidTests := true, laidLooks := .later }
def ClockRunsUptoCardSaid : Prop := Claim7.holds Tryd.pinned (.plain (OpenSpec.upto clockRunsSpec)) clockRunsUptoCard

/-- THE SECOND FORM's CARD OF 'horariumlaw10.ClockApart'. -/
def clockApartUptoCard : Claim7 := { stood := { row := clockApartUptoRow, standIns := [], harness := (true, "a675b837898d5ebdf6a8839cc5c72a958caef760fb373e634fc92a19661b7335"), looks := false }, kinds := [], alts := [], laidByText := true, laidKinds := [.data, .pinned], laidTests := true, laidLooks := .later }
def ClockApartUptoCardSaid : Prop := Claim7.holds Tryd.pinned (.plain (OpenSpec.upto clockApartSpec)) clockApartUptoCard
end Rows
end Go.Proofs.YtnagecfpbkffpaaDoor
