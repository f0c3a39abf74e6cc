/-
  DERIVED. GIVEN WITH THE SEED: THE CARDS: each row of YtlcmimjdnhjeoaaDoorRows.lean that lists a variable, with what it lists TIED to the program's text (the seventh form; the later family's looks); each row that meets fmt, with fmt's text TOLD by the authors' own Lean function (tested against real Go, not proved from fmt's source: count such statements apart). THE CARD IS WHAT COUNTS. Prove the row's statement (the work); the ties are given (YtlcmimjdnhjeoaaDoorTie.lean); close each card by the builder's one call (the guide's Derived/Test/ToyasCard.lean, 'card_holds'). Laid BY PROGRAM, IN A SANDBOX (cutbox-door.mjs). By AI agents, Wed Nov 11 2026. No macro, syntax, notation, axiom, sorry.
-/
import Derived.Test.YtlcmimjdnhjeoaaDoorRows
import GoSem.ClaimSeven
namespace Go.Proofs.YtlcmimjdnhjeoaaDoor
namespace Rows

/-- THE TIED CARD OF 'shibbolethlaw01.OctetsOf'. -/
def octetsOfCard : Claim7 := { stood := { row := octetsOfRow, standIns := [], harness := (true, "d64a5d63d7f652c06b84abee1169a8ff0e10a5891fefebaec06a2c7ff4aa6304"), looks := false }, kinds := [], alts := [], laidByText := true, laidKinds := [.data], laidTests := true, laidLooks := .later }
def OctetsOfCardSaid : Prop := Claim7.holds Tryd.pinned (.plain (OpenSpec.ofChange octetsOfSpec)) octetsOfCard

/-- THE TIED CARD OF 'shibbolethlaw01.OctetsBack'. -/
def octetsBackCard : Claim7 := { stood := { row := octetsBackRow, standIns := [], harness := (true, "d64a5d63d7f652c06b84abee1169a8ff0e10a5891fefebaec06a2c7ff4aa6304"), looks := false }, kinds := [], alts := [], laidByText := true, laidKinds := [.data], laidTests := true, laidLooks := .later }
def OctetsBackCardSaid : Prop := Claim7.holds Tryd.pinned (.plain (OpenSpec.ofChange octetsBackSpec)) octetsBackCard

/-- THE TIED CARD OF 'shibbolethlaw01.OctetsKnown'. -/
def octetsKnownCard : Claim7 := { stood := { row := octetsKnownRow, standIns := [], harness := (true, "d64a5d63d7f652c06b84abee1169a8ff0e10a5891fefebaec06a2c7ff4aa6304"), looks := false }, kinds := [], alts := [], laidByText := true, laidKinds := [.data], laidTests := true, laidLooks := .later }
def OctetsKnownCardSaid : Prop := Claim7.holds Tryd.pinned (.plain (OpenSpec.ofChange octetsKnownSpec)) octetsKnownCard

/-- THE TIED CARD OF 'shibbolethlaw01.OctetsTells'. -/
def octetsTellsCard : Claim7 := { stood := { row := octetsTellsRow, standIns := [], harness := (true, "d64a5d63d7f652c06b84abee1169a8ff0e10a5891fefebaec06a2c7ff4aa6304"), looks := false }, kinds := [], alts := [], laidByText := true, laidKinds := [.data], laidTests := true, laidLooks := .later }
def OctetsTellsCardSaid : Prop := Claim7.holds Tryd.pinned (.plain (OpenSpec.ofChange octetsTellsSpec)) octetsTellsCard

/-- THE TIED CARD OF 'shibbolethlaw01.OctetsAlgebra'. -/
def octetsAlgebraCard : Claim7 := { stood := { row := octetsAlgebraRow, standIns := [], harness := (true, "d64a5d63d7f652c06b84abee1169a8ff0e10a5891fefebaec06a2c7ff4aa6304"), looks := false }, kinds := [], alts := [], laidByText := true, laidKinds := [.data], laidTests := true, laidLooks := .later }
def OctetsAlgebraCardSaid : Prop := Claim7.holds Tryd.pinned (.plain (OpenSpec.ofChange octetsAlgebraSpec)) octetsAlgebraCard

/-- THE TIED CARD OF 'shibbolethlaw02.ClassesTells'. -/
def classesTellsCard : Claim7 := { stood := { row := classesTellsRow, standIns := [], harness := (true, "d64a5d63d7f652c06b84abee1169a8ff0e10a5891fefebaec06a2c7ff4aa6304"), looks := false }, kinds := [], alts := [], laidByText := true, laidKinds := [.data], laidTests := true, laidLooks := .later }
def ClassesTellsCardSaid : Prop := Claim7.holds Tryd.pinned (.plain (OpenSpec.ofChange classesTellsSpec)) classesTellsCard

/-- THE TIED CARD OF 'shibbolethlaw02.ClassesFew'. -/
def classesFewCard : Claim7 := { stood := { row := classesFewRow, standIns := [], harness := (true, "d64a5d63d7f652c06b84abee1169a8ff0e10a5891fefebaec06a2c7ff4aa6304"), looks := false }, kinds := [], alts := [], laidByText := true, laidKinds := [.data], laidTests := true, laidLooks := .later }
def ClassesFewCardSaid : Prop := Claim7.holds Tryd.pinned (.plain (OpenSpec.ofChange classesFewSpec)) classesFewCard

/-- THE TIED CARD OF 'shibbolethlaw02.ClassesParts'. -/
def classesPartsCard : Claim7 := { stood := { row := classesPartsRow, standIns := [], harness := (true, "d64a5d63d7f652c06b84abee1169a8ff0e10a5891fefebaec06a2c7ff4aa6304"), looks := false }, kinds := [], alts := [], laidByText := true, laidKinds := [.data], laidTests := true, laidLooks := .later }
def ClassesPartsCardSaid : Prop := Claim7.holds Tryd.pinned (.plain (OpenSpec.ofChange classesPartsSpec)) classesPartsCard

/-- THE TIED CARD OF 'shibbolethlaw02.ClassesKnown'. -/
def classesKnownCard : Claim7 := { stood := { row := classesKnownRow, standIns := [], harness := (true, "d64a5d63d7f652c06b84abee1169a8ff0e10a5891fefebaec06a2c7ff4aa6304"), looks := false }, kinds := [], alts := [], laidByText := true, laidKinds := [.data], laidTests := true, laidLooks := .later }
def ClassesKnownCardSaid : Prop := Claim7.holds Tryd.pinned (.plain (OpenSpec.ofChange classesKnownSpec)) classesKnownCard

/-- THE TIED CARD OF 'shibbolethlaw02.ClassesUnions'. -/
def classesUnionsCard : Claim7 := { stood := { row := classesUnionsRow, standIns := [], harness := (true, "d64a5d63d7f652c06b84abee1169a8ff0e10a5891fefebaec06a2c7ff4aa6304"), looks := false }, kinds := [], alts := [], laidByText := true, laidKinds := [.data], laidTests := true, laidLooks := .later }
def ClassesUnionsCardSaid : Prop := Claim7.holds Tryd.pinned (.plain (OpenSpec.ofChange classesUnionsSpec)) classesUnionsCard

/-- THE SECOND FORM's CARD OF 'shibbolethlaw01.OctetsOf'. -/
def octetsOfUptoCard : Claim7 := { stood := { row := octetsOfUptoRow, standIns := [], harness := (true, "d64a5d63d7f652c06b84abee1169a8ff0e10a5891fefebaec06a2c7ff4aa6304"), looks := false }, kinds := [], alts := [], laidByText := true, laidKinds := [.data], laidTests := true, laidLooks := .later }
def OctetsOfUptoCardSaid : Prop := Claim7.holds Tryd.pinned (.plain (OpenSpec.upto octetsOfSpec)) octetsOfUptoCard

/-- THE SECOND FORM's CARD OF 'shibbolethlaw01.OctetsBack'. -/
def octetsBackUptoCard : Claim7 := { stood := { row := octetsBackUptoRow, standIns := [], harness := (true, "d64a5d63d7f652c06b84abee1169a8ff0e10a5891fefebaec06a2c7ff4aa6304"), looks := false }, kinds := [], alts := [], laidByText := true, laidKinds := [.data], laidTests := true, laidLooks := .later }
def OctetsBackUptoCardSaid : Prop := Claim7.holds Tryd.pinned (.plain (OpenSpec.upto octetsBackSpec)) octetsBackUptoCard

/-- THE SECOND FORM's CARD OF 'shibbolethlaw01.OctetsKnown'. -/
def octetsKnownUptoCard : Claim7 := { stood := { row := octetsKnownUptoRow, standIns := [], harness := (true, "d64a5d63d7f652c06b84abee1169a8ff0e10a5891fefebaec06a2c7ff4aa6304"), looks := false }, kinds := [], alts := [], laidByText := true, laidKinds := [.data], laidTests := true, laidLooks := .later }
def OctetsKnownUptoCardSaid : Prop := Claim7.holds Tryd.pinned (.plain (OpenSpec.upto octetsKnownSpec)) octetsKnownUptoCard

/-- THE SECOND FORM's CARD OF 'shibbolethlaw01.OctetsTells'. -/
def octetsTellsUptoCard : Claim7 := { stood := { row := octetsTellsUptoRow, standIns := [], harness := (true, "d64a5d63d7f652c06b84abee1169a8ff0e10a5891fefebaec06a2c7ff4aa6304"), looks := false }, kinds := [], alts := [], laidByText := true, laidKinds := [.data], laidTests := true, laidLooks := .later }
def OctetsTellsUptoCardSaid : Prop := Claim7.holds Tryd.pinned (.plain (OpenSpec.upto octetsTellsSpec)) octetsTellsUptoCard

/-- THE SECOND FORM's CARD OF 'shibbolethlaw01.OctetsAlgebra'. -/
def octetsAlgebraUptoCard : Claim7 := { stood := { row := octetsAlgebraUptoRow, standIns := [], harness := (true, "d64a5d63d7f652c06b84abee1169a8ff0e10a5891fefebaec06a2c7ff4aa6304"), looks := false }, kinds := [], alts := [], laidByText := true, laidKinds := [.data], laidTests := true, laidLooks := .later }
def OctetsAlgebraUptoCardSaid : Prop := Claim7.holds Tryd.pinned (.plain (OpenSpec.upto octetsAlgebraSpec)) octetsAlgebraUptoCard

/-- THE SECOND FORM's CARD OF 'shibbolethlaw02.ClassesTells'. -/
def classesTellsUptoCard : Claim7 := { stood := { row := classesTellsUptoRow, standIns := [], harness := (true, "d64a5d63d7f652c06b84abee1169a8ff0e10a5891fefebaec06a2c7ff4aa6304"), looks := false }, kinds := [], alts := [], laidByText := true, laidKinds := [.data], laidTests := true, laidLooks := .later }
def ClassesTellsUptoCardSaid : Prop := Claim7.holds Tryd.pinned (.plain (OpenSpec.upto classesTellsSpec)) classesTellsUptoCard

/-- THE SECOND FORM's CARD OF 'shibbolethlaw02.ClassesFew'. -/
def classesFewUptoCard : Claim7 := { stood := { row := classesFewUptoRow, standIns := [], harness := (true, "d64a5d63d7f652c06b84abee1169a8ff0e10a5891fefebaec06a2c7ff4aa6304"), looks := false }, kinds := [], alts := [], laidByText := true, laidKinds := [.data], laidTests := true, laidLooks := .later }
def ClassesFewUptoCardSaid : Prop := Claim7.holds Tryd.pinned (.plain (OpenSpec.upto classesFewSpec)) classesFewUptoCard

/-- THE SECOND FORM's CARD OF 'shibbolethlaw02.ClassesParts'. -/
def classesPartsUptoCard : Claim7 := { stood := { row := classesPartsUptoRow, standIns := [], harness := (true, "d64a5d63d7f652c06b84abee1169a8ff0e10a5891fefebaec06a2c7ff4aa6304"), looks := false }, kinds := [], alts := [], laidByText := true, laidKinds := [.data], laidTests := true, laidLooks := .later }
def ClassesPartsUptoCardSaid : Prop := Claim7.holds Tryd.pinned (.plain (OpenSpec.upto classesPartsSpec)) classesPartsUptoCard

/-- THE SECOND FORM's CARD OF 'shibbolethlaw02.ClassesKnown'. -/
def classesKnownUptoCard : Claim7 := { stood := { row := classesKnownUptoRow, standIns := [], harness := (true, "d64a5d63d7f652c06b84abee1169a8ff0e10a5891fefebaec06a2c7ff4aa6304"), looks := false }, kinds := [], alts := [], laidByText := true, laidKinds := [.data], laidTests := true, laidLooks := .later }
def ClassesKnownUptoCardSaid : Prop := Claim7.holds Tryd.pinned (.plain (OpenSpec.upto classesKnownSpec)) classesKnownUptoCard

/-- THE SECOND FORM's CARD OF 'shibbolethlaw02.ClassesUnions'. -/
def classesUnionsUptoCard : Claim7 := { stood := { row := classesUnionsUptoRow, standIns := [], harness := (true, "d64a5d63d7f652c06b84abee1169a8ff0e10a5891fefebaec06a2c7ff4aa6304"), looks := false }, kinds := [], alts := [], laidByText := true, laidKinds := [.data], laidTests := true, laidLooks := .later }
def ClassesUnionsUptoCardSaid : Prop := Claim7.holds Tryd.pinned (.plain (OpenSpec.upto classesUnionsSpec)) classesUnionsUptoCard
end Rows
end Go.Proofs.YtlcmimjdnhjeoaaDoor
