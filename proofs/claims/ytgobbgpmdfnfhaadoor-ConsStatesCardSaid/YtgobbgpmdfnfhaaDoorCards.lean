/-
  DERIVED. GIVEN WITH THE SEED: THE CARDS: each row of YtgobbgpmdfnfhaaDoorRows.lean that lists a variable, with what it lists TIED to the program's text (the seventh form; the later family's looks); each row that meets fmt, with fmt's text TOLD by the authors' own Lean function (tested against real Go, not proved from fmt's source: count such statements apart). THE CARD IS WHAT COUNTS. Prove the row's statement (the work); the ties are given (YtgobbgpmdfnfhaaDoorTie.lean); close each card by the builder's one call (the guide's Derived/Test/ToyasCard.lean, 'card_holds'). Laid BY PROGRAM, IN A SANDBOX (cutbox-door.mjs). By AI agents, Wed Nov 11 2026. No macro, syntax, notation, axiom, sorry.
-/
import Derived.Test.YtgobbgpmdfnfhaaDoorRows
import GoSem.ClaimSeven
namespace Go.Proofs.YtgobbgpmdfnfhaaDoor
namespace Rows

/-- THE TIED CARD OF 'shibbolethlaw08.SpotsKnown'. -/
def spotsKnownCard : Claim7 := { stood := { row := spotsKnownRow, standIns := [], harness := (true, "bd3d5a2f25a99cd6e25a6ffc304ccbadfc29343db7ef4e6289a3729748af04c9"), looks := true }, kinds := [], alts := [], laidByText := true, laidKinds := [.data], laidTests := true, laidLooks := .later }
def SpotsKnownCardSaid : Prop := Claim7.holds Tryd.pinned (.plain (OpenSpec.ofChange spotsKnownSpec)) spotsKnownCard

/-- THE TIED CARD OF 'shibbolethlaw08.SpotsTimes'. -/
def spotsTimesCard : Claim7 := { stood := { row := spotsTimesRow, standIns := [], harness := (true, "bd3d5a2f25a99cd6e25a6ffc304ccbadfc29343db7ef4e6289a3729748af04c9"), looks := true }, kinds := [], alts := [], laidByText := true, laidKinds := [.data], laidTests := true, laidLooks := .later }
def SpotsTimesCardSaid : Prop := Claim7.holds Tryd.pinned (.plain (OpenSpec.ofChange spotsTimesSpec)) spotsTimesCard

/-- THE TIED CARD OF 'shibbolethlaw08.SpotsApart'. -/
def spotsApartCard : Claim7 := { stood := { row := spotsApartRow, standIns := [], harness := (true, "bd3d5a2f25a99cd6e25a6ffc304ccbadfc29343db7ef4e6289a3729748af04c9"), looks := true }, kinds := [], alts := [], laidByText := true, laidKinds := [.data], laidTests := true, laidLooks := .later }
def SpotsApartCardSaid : Prop := Claim7.holds Tryd.pinned (.plain (OpenSpec.ofChange spotsApartSpec)) spotsApartCard

/-- THE TIED CARD OF 'shibbolethlaw09.ConsKnown'. -/
def consKnownCard : Claim7 := { stood := { row := consKnownRow, standIns := [], harness := (true, "bd3d5a2f25a99cd6e25a6ffc304ccbadfc29343db7ef4e6289a3729748af04c9"), looks := true }, kinds := [], alts := [], laidByText := true, laidKinds := [.data], laidTests := true, laidLooks := .later }
def ConsKnownCardSaid : Prop := Claim7.holds Tryd.pinned (.plain (OpenSpec.ofChange consKnownSpec)) consKnownCard

/-- THE TIED CARD OF 'shibbolethlaw09.ConsStates'. -/
def consStatesCard : Claim7 := { stood := { row := consStatesRow, standIns := [], harness := (true, "bd3d5a2f25a99cd6e25a6ffc304ccbadfc29343db7ef4e6289a3729748af04c9"), looks := true }, kinds := [], alts := [], laidByText := true, laidKinds := [.data], laidTests := true, laidLooks := .later }
def ConsStatesCardSaid : Prop := Claim7.holds Tryd.pinned (.plain (OpenSpec.ofChange consStatesSpec)) consStatesCard

/-- THE TIED CARD OF 'shibbolethlaw09.ConsBool'. -/
def consBoolCard : Claim7 := { stood := { row := consBoolRow, standIns := [], harness := (true, "bd3d5a2f25a99cd6e25a6ffc304ccbadfc29343db7ef4e6289a3729748af04c9"), looks := true }, kinds := [], alts := [], laidByText := true, laidKinds := [.data], laidTests := true, laidLooks := .later }
def ConsBoolCardSaid : Prop := Claim7.holds Tryd.pinned (.plain (OpenSpec.ofChange consBoolSpec)) consBoolCard

/-- THE TIED CARD OF 'shibbolethlaw09.ConsSteps'. -/
def consStepsCard : Claim7 := { stood := { row := consStepsRow, standIns := [], harness := (true, "bd3d5a2f25a99cd6e25a6ffc304ccbadfc29343db7ef4e6289a3729748af04c9"), looks := true }, kinds := [], alts := [], laidByText := true, laidKinds := [.data], laidTests := true, laidLooks := .later }
def ConsStepsCardSaid : Prop := Claim7.holds Tryd.pinned (.plain (OpenSpec.ofChange consStepsSpec)) consStepsCard

/-- THE TIED CARD OF 'shibbolethlaw09.ConsClasses'. -/
def consClassesCard : Claim7 := { stood := { row := consClassesRow, standIns := [], harness := (true, "bd3d5a2f25a99cd6e25a6ffc304ccbadfc29343db7ef4e6289a3729748af04c9"), looks := true }, kinds := [], alts := [], laidByText := true, laidKinds := [.data], laidTests := true, laidLooks := .later }
def ConsClassesCardSaid : Prop := Claim7.holds Tryd.pinned (.plain (OpenSpec.ofChange consClassesSpec)) consClassesCard

/-- THE SECOND FORM's CARD OF 'shibbolethlaw08.SpotsKnown'. -/
def spotsKnownUptoCard : Claim7 := { stood := { row := spotsKnownUptoRow, standIns := [], harness := (true, "bd3d5a2f25a99cd6e25a6ffc304ccbadfc29343db7ef4e6289a3729748af04c9"), looks := true }, kinds := [], alts := [], laidByText := true, laidKinds := [.data], laidTests := true, laidLooks := .later }
def SpotsKnownUptoCardSaid : Prop := Claim7.holds Tryd.pinned (.plain (OpenSpec.upto spotsKnownSpec)) spotsKnownUptoCard

/-- THE SECOND FORM's CARD OF 'shibbolethlaw08.SpotsTimes'. -/
def spotsTimesUptoCard : Claim7 := { stood := { row := spotsTimesUptoRow, standIns := [], harness := (true, "bd3d5a2f25a99cd6e25a6ffc304ccbadfc29343db7ef4e6289a3729748af04c9"), looks := true }, kinds := [], alts := [], laidByText := true, laidKinds := [.data], laidTests := true, laidLooks := .later }
def SpotsTimesUptoCardSaid : Prop := Claim7.holds Tryd.pinned (.plain (OpenSpec.upto spotsTimesSpec)) spotsTimesUptoCard

/-- THE SECOND FORM's CARD OF 'shibbolethlaw08.SpotsApart'. -/
def spotsApartUptoCard : Claim7 := { stood := { row := spotsApartUptoRow, standIns := [], harness := (true, "bd3d5a2f25a99cd6e25a6ffc304ccbadfc29343db7ef4e6289a3729748af04c9"), looks := true }, kinds := [], alts := [], laidByText := true, laidKinds := [.data], laidTests := true, laidLooks := .later }
def SpotsApartUptoCardSaid : Prop := Claim7.holds Tryd.pinned (.plain (OpenSpec.upto spotsApartSpec)) spotsApartUptoCard

/-- THE SECOND FORM's CARD OF 'shibbolethlaw09.ConsKnown'. -/
def consKnownUptoCard : Claim7 := { stood := { row := consKnownUptoRow, standIns := [], harness := (true, "bd3d5a2f25a99cd6e25a6ffc304ccbadfc29343db7ef4e6289a3729748af04c9"), looks := true }, kinds := [], alts := [], laidByText := true, laidKinds := [.data], laidTests := true, laidLooks := .later }
def ConsKnownUptoCardSaid : Prop := Claim7.holds Tryd.pinned (.plain (OpenSpec.upto consKnownSpec)) consKnownUptoCard

/-- THE SECOND FORM's CARD OF 'shibbolethlaw09.ConsStates'. -/
def consStatesUptoCard : Claim7 := { stood := { row := consStatesUptoRow, standIns := [], harness := (true, "bd3d5a2f25a99cd6e25a6ffc304ccbadfc29343db7ef4e6289a3729748af04c9"), looks := true }, kinds := [], alts := [], laidByText := true, laidKinds := [.data], laidTests := true, laidLooks := .later }
def ConsStatesUptoCardSaid : Prop := Claim7.holds Tryd.pinned (.plain (OpenSpec.upto consStatesSpec)) consStatesUptoCard

/-- THE SECOND FORM's CARD OF 'shibbolethlaw09.ConsBool'. -/
def consBoolUptoCard : Claim7 := { stood := { row := consBoolUptoRow, standIns := [], harness := (true, "bd3d5a2f25a99cd6e25a6ffc304ccbadfc29343db7ef4e6289a3729748af04c9"), looks := true }, kinds := [], alts := [], laidByText := true, laidKinds := [.data], laidTests := true, laidLooks := .later }
def ConsBoolUptoCardSaid : Prop := Claim7.holds Tryd.pinned (.plain (OpenSpec.upto consBoolSpec)) consBoolUptoCard

/-- THE SECOND FORM's CARD OF 'shibbolethlaw09.ConsSteps'. -/
def consStepsUptoCard : Claim7 := { stood := { row := consStepsUptoRow, standIns := [], harness := (true, "bd3d5a2f25a99cd6e25a6ffc304ccbadfc29343db7ef4e6289a3729748af04c9"), looks := true }, kinds := [], alts := [], laidByText := true, laidKinds := [.data], laidTests := true, laidLooks := .later }
def ConsStepsUptoCardSaid : Prop := Claim7.holds Tryd.pinned (.plain (OpenSpec.upto consStepsSpec)) consStepsUptoCard

/-- THE SECOND FORM's CARD OF 'shibbolethlaw09.ConsClasses'. -/
def consClassesUptoCard : Claim7 := { stood := { row := consClassesUptoRow, standIns := [], harness := (true, "bd3d5a2f25a99cd6e25a6ffc304ccbadfc29343db7ef4e6289a3729748af04c9"), looks := true }, kinds := [], alts := [], laidByText := true, laidKinds := [.data], laidTests := true, laidLooks := .later }
def ConsClassesUptoCardSaid : Prop := Claim7.holds Tryd.pinned (.plain (OpenSpec.upto consClassesSpec)) consClassesUptoCard
end Rows
end Go.Proofs.YtgobbgpmdfnfhaaDoor
