/-
  DERIVED. GIVEN WITH THE SEED: THE CARDS: each row of YtdfkpjchnndniaaDoorRows.lean that lists a variable, with what it lists TIED to the program's text (the seventh form; the later family's looks); each row that meets fmt, with fmt's text TOLD by the authors' own Lean function (tested against real Go, not proved from fmt's source: count such statements apart). THE CARD IS WHAT COUNTS. Prove the row's statement (the work); the ties are given (YtdfkpjchnndniaaDoorTie.lean); close each card by the builder's one call (the guide's Derived/Test/ToyasCard.lean, 'card_holds'). Laid BY PROGRAM, IN A SANDBOX (cutbox-door.mjs). By AI agents, Wed Nov 11 2026. No macro, syntax, notation, axiom, sorry.
-/
import Derived.Test.YtdfkpjchnndniaaDoorRows
import GoSem.ClaimSeven
namespace Go.Proofs.YtdfkpjchnndniaaDoor
namespace Rows

/-- THE TIED CARD OF 'shibbolethlaw10.NfaUseful'. -/
def nfaUsefulCard : Claim7 := { stood := { row := nfaUsefulRow, standIns := [], harness := (true, "db02e65c3d20afddd9015c9a1675b3c5a1e6dfecd58b4718fa08adafaeef64e7"), looks := false }, kinds := [], alts := [], laidByText := true, laidKinds := [.data], laidTests := true, laidLooks := .later }
def NfaUsefulCardSaid : Prop := Claim7.holds Tryd.pinned (.plain (OpenSpec.ofChange nfaUsefulSpec)) nfaUsefulCard

/-- THE TIED CARD OF 'shibbolethlaw10.NfaClasses'. -/
def nfaClassesCard : Claim7 := { stood := { row := nfaClassesRow, standIns := [], harness := (true, "db02e65c3d20afddd9015c9a1675b3c5a1e6dfecd58b4718fa08adafaeef64e7"), looks := false }, kinds := [], alts := [], laidByText := true, laidKinds := [.data], laidTests := true, laidLooks := .later }
def NfaClassesCardSaid : Prop := Claim7.holds Tryd.pinned (.plain (OpenSpec.ofChange nfaClassesSpec)) nfaClassesCard

/-- THE SECOND FORM's CARD OF 'shibbolethlaw10.NfaUseful'. -/
def nfaUsefulUptoCard : Claim7 := { stood := { row := nfaUsefulUptoRow, standIns := [], harness := (true, "db02e65c3d20afddd9015c9a1675b3c5a1e6dfecd58b4718fa08adafaeef64e7"), looks := false }, kinds := [], alts := [], laidByText := true, laidKinds := [.data], laidTests := true, laidLooks := .later }
def NfaUsefulUptoCardSaid : Prop := Claim7.holds Tryd.pinned (.plain (OpenSpec.upto nfaUsefulSpec)) nfaUsefulUptoCard

/-- THE SECOND FORM's CARD OF 'shibbolethlaw10.NfaClasses'. -/
def nfaClassesUptoCard : Claim7 := { stood := { row := nfaClassesUptoRow, standIns := [], harness := (true, "db02e65c3d20afddd9015c9a1675b3c5a1e6dfecd58b4718fa08adafaeef64e7"), looks := false }, kinds := [], alts := [], laidByText := true, laidKinds := [.data], laidTests := true, laidLooks := .later }
def NfaClassesUptoCardSaid : Prop := Claim7.holds Tryd.pinned (.plain (OpenSpec.upto nfaClassesSpec)) nfaClassesUptoCard
end Rows
end Go.Proofs.YtdfkpjchnndniaaDoor
