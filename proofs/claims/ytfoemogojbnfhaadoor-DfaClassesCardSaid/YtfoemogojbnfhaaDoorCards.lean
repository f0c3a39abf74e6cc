/-
  DERIVED. GIVEN WITH THE SEED: THE CARDS: each row of YtfoemogojbnfhaaDoorRows.lean that lists a variable, with what it lists TIED to the program's text (the seventh form; the later family's looks); each row that meets fmt, with fmt's text TOLD by the authors' own Lean function (tested against real Go, not proved from fmt's source: count such statements apart). THE CARD IS WHAT COUNTS. Prove the row's statement (the work); the ties are given (YtfoemogojbnfhaaDoorTie.lean); close each card by the builder's one call (the guide's Derived/Test/ToyasCard.lean, 'card_holds'). Laid BY PROGRAM, IN A SANDBOX (cutbox-door.mjs). By AI agents, Wed Nov 11 2026. No macro, syntax, notation, axiom, sorry.
-/
import Derived.Test.YtfoemogojbnfhaaDoorRows
import GoSem.ClaimSeven
namespace Go.Proofs.YtfoemogojbnfhaaDoor
namespace Rows

/-- THE TIED CARD OF 'shibbolethlaw11.DfaClasses'. -/
def dfaClassesCard : Claim7 := { stood := { row := dfaClassesRow, standIns := [], harness := (true, "6d06a939527c1bececad9cdba1e2447c4588d6f38a3aba26e960e13327b8b719"), looks := true }, kinds := [], alts := [], laidByText := true, laidKinds := [.data], laidTests := true, laidLooks := .later }
def DfaClassesCardSaid : Prop := Claim7.holds Tryd.pinned (.plain (OpenSpec.ofChange dfaClassesSpec)) dfaClassesCard

/-- THE TIED CARD OF 'shibbolethlaw11.DfaBuilds'. -/
def dfaBuildsCard : Claim7 := { stood := { row := dfaBuildsRow, standIns := [], harness := (true, "6d06a939527c1bececad9cdba1e2447c4588d6f38a3aba26e960e13327b8b719"), looks := true }, kinds := [], alts := [], laidByText := true, laidKinds := [.data], laidTests := true, laidLooks := .later }
def DfaBuildsCardSaid : Prop := Claim7.holds Tryd.pinned (.plain (OpenSpec.ofChange dfaBuildsSpec)) dfaBuildsCard

/-- THE TIED CARD OF 'shibbolethlaw11.DfaReached'. -/
def dfaReachedCard : Claim7 := { stood := { row := dfaReachedRow, standIns := [], harness := (true, "6d06a939527c1bececad9cdba1e2447c4588d6f38a3aba26e960e13327b8b719"), looks := true }, kinds := [], alts := [], laidByText := true, laidKinds := [.data], laidTests := true, laidLooks := .later }
def DfaReachedCardSaid : Prop := Claim7.holds Tryd.pinned (.plain (OpenSpec.ofChange dfaReachedSpec)) dfaReachedCard

/-- THE TIED CARD OF 'shibbolethlaw11.DfaTakes'. -/
def dfaTakesCard : Claim7 := { stood := { row := dfaTakesRow, standIns := [], harness := (true, "6d06a939527c1bececad9cdba1e2447c4588d6f38a3aba26e960e13327b8b719"), looks := true }, kinds := [], alts := [], laidByText := true, laidKinds := [.data], laidTests := true, laidLooks := .later }
def DfaTakesCardSaid : Prop := Claim7.holds Tryd.pinned (.plain (OpenSpec.ofChange dfaTakesSpec)) dfaTakesCard

/-- THE TIED CARD OF 'shibbolethlaw08.SpotsKnown'. -/
def spotsKnownCard : Claim7 := { stood := { row := spotsKnownRow, standIns := [], harness := (true, "6d06a939527c1bececad9cdba1e2447c4588d6f38a3aba26e960e13327b8b719"), looks := true }, kinds := [], alts := [], laidByText := true, laidKinds := [.data], laidTests := true, laidLooks := .later }
def SpotsKnownCardSaid : Prop := Claim7.holds Tryd.pinned (.plain (OpenSpec.ofChange spotsKnownSpec)) spotsKnownCard

/-- THE TIED CARD OF 'shibbolethlaw08.SpotsTimes'. -/
def spotsTimesCard : Claim7 := { stood := { row := spotsTimesRow, standIns := [], harness := (true, "6d06a939527c1bececad9cdba1e2447c4588d6f38a3aba26e960e13327b8b719"), looks := true }, kinds := [], alts := [], laidByText := true, laidKinds := [.data], laidTests := true, laidLooks := .later }
def SpotsTimesCardSaid : Prop := Claim7.holds Tryd.pinned (.plain (OpenSpec.ofChange spotsTimesSpec)) spotsTimesCard

/-- THE TIED CARD OF 'shibbolethlaw11.DfaKnown'. -/
def dfaKnownCard : Claim7 := { stood := { row := dfaKnownRow, standIns := [], harness := (true, "6d06a939527c1bececad9cdba1e2447c4588d6f38a3aba26e960e13327b8b719"), looks := true }, kinds := [], alts := [], laidByText := true, laidKinds := [.data], laidTests := true, laidLooks := .later }
def DfaKnownCardSaid : Prop := Claim7.holds Tryd.pinned (.plain (OpenSpec.ofChange dfaKnownSpec)) dfaKnownCard

/-- THE TIED CARD OF 'shibbolethlaw08.SpotsApart'. -/
def spotsApartCard : Claim7 := { stood := { row := spotsApartRow, standIns := [], harness := (true, "6d06a939527c1bececad9cdba1e2447c4588d6f38a3aba26e960e13327b8b719"), looks := true }, kinds := [], alts := [], laidByText := true, laidKinds := [.data], laidTests := true, laidLooks := .later }
def SpotsApartCardSaid : Prop := Claim7.holds Tryd.pinned (.plain (OpenSpec.ofChange spotsApartSpec)) spotsApartCard

/-- THE TIED CARD OF 'shibbolethlaw13.SeekWords'. -/
def seekWordsCard : Claim7 := { stood := { row := seekWordsRow, standIns := [], harness := (true, "6d06a939527c1bececad9cdba1e2447c4588d6f38a3aba26e960e13327b8b719"), looks := true }, kinds := [], alts := [], laidByText := true, laidKinds := [.data], laidTests := true, laidLooks := .later }
def SeekWordsCardSaid : Prop := Claim7.holds Tryd.pinned (.plain (OpenSpec.ofChange seekWordsSpec)) seekWordsCard

/-- THE TIED CARD OF 'shibbolethlaw13.SeekPaths'. -/
def seekPathsCard : Claim7 := { stood := { row := seekPathsRow, standIns := [], harness := (true, "6d06a939527c1bececad9cdba1e2447c4588d6f38a3aba26e960e13327b8b719"), looks := true }, kinds := [], alts := [], laidByText := true, laidKinds := [.data], laidTests := true, laidLooks := .later }
def SeekPathsCardSaid : Prop := Claim7.holds Tryd.pinned (.plain (OpenSpec.ofChange seekPathsSpec)) seekPathsCard

/-- THE TIED CARD OF 'shibbolethlaw13.SeekOrder'. -/
def seekOrderCard : Claim7 := { stood := { row := seekOrderRow, standIns := [], harness := (true, "6d06a939527c1bececad9cdba1e2447c4588d6f38a3aba26e960e13327b8b719"), looks := true }, kinds := [], alts := [], laidByText := true, laidKinds := [.data], laidTests := true, laidLooks := .later }
def SeekOrderCardSaid : Prop := Claim7.holds Tryd.pinned (.plain (OpenSpec.ofChange seekOrderSpec)) seekOrderCard

/-- THE TIED CARD OF 'shibbolethlaw13.SeekKnown'. -/
def seekKnownCard : Claim7 := { stood := { row := seekKnownRow, standIns := [], harness := (true, "6d06a939527c1bececad9cdba1e2447c4588d6f38a3aba26e960e13327b8b719"), looks := true }, kinds := [], alts := [], laidByText := true, laidKinds := [.data], laidTests := true, laidLooks := .later }
def SeekKnownCardSaid : Prop := Claim7.holds Tryd.pinned (.plain (OpenSpec.ofChange seekKnownSpec)) seekKnownCard

/-- THE TIED CARD OF 'shibbolethlaw13.SeekLeast'. -/
def seekLeastCard : Claim7 := { stood := { row := seekLeastRow, standIns := [], harness := (true, "6d06a939527c1bececad9cdba1e2447c4588d6f38a3aba26e960e13327b8b719"), looks := true }, kinds := [], alts := [], laidByText := true, laidKinds := [.data], laidTests := true, laidLooks := .later }
def SeekLeastCardSaid : Prop := Claim7.holds Tryd.pinned (.plain (OpenSpec.ofChange seekLeastSpec)) seekLeastCard

/-- THE TIED CARD OF 'shibbolethlaw09.ConsKnown'. -/
def consKnownCard : Claim7 := { stood := { row := consKnownRow, standIns := [], harness := (true, "6d06a939527c1bececad9cdba1e2447c4588d6f38a3aba26e960e13327b8b719"), looks := true }, kinds := [], alts := [], laidByText := true, laidKinds := [.data], laidTests := true, laidLooks := .later }
def ConsKnownCardSaid : Prop := Claim7.holds Tryd.pinned (.plain (OpenSpec.ofChange consKnownSpec)) consKnownCard

/-- THE TIED CARD OF 'shibbolethlaw13.SeekPath'. -/
def seekPathCard : Claim7 := { stood := { row := seekPathRow, standIns := [], harness := (true, "6d06a939527c1bececad9cdba1e2447c4588d6f38a3aba26e960e13327b8b719"), looks := true }, kinds := [], alts := [], laidByText := true, laidKinds := [.data], laidTests := true, laidLooks := .later }
def SeekPathCardSaid : Prop := Claim7.holds Tryd.pinned (.plain (OpenSpec.ofChange seekPathSpec)) seekPathCard

/-- THE SECOND FORM's CARD OF 'shibbolethlaw11.DfaClasses'. -/
def dfaClassesUptoCard : Claim7 := { stood := { row := dfaClassesUptoRow, standIns := [], harness := (true, "6d06a939527c1bececad9cdba1e2447c4588d6f38a3aba26e960e13327b8b719"), looks := true }, kinds := [], alts := [], laidByText := true, laidKinds := [.data], laidTests := true, laidLooks := .later }
def DfaClassesUptoCardSaid : Prop := Claim7.holds Tryd.pinned (.plain (OpenSpec.upto dfaClassesSpec)) dfaClassesUptoCard

/-- THE SECOND FORM's CARD OF 'shibbolethlaw11.DfaBuilds'. -/
def dfaBuildsUptoCard : Claim7 := { stood := { row := dfaBuildsUptoRow, standIns := [], harness := (true, "6d06a939527c1bececad9cdba1e2447c4588d6f38a3aba26e960e13327b8b719"), looks := true }, kinds := [], alts := [], laidByText := true, laidKinds := [.data], laidTests := true, laidLooks := .later }
def DfaBuildsUptoCardSaid : Prop := Claim7.holds Tryd.pinned (.plain (OpenSpec.upto dfaBuildsSpec)) dfaBuildsUptoCard

/-- THE SECOND FORM's CARD OF 'shibbolethlaw11.DfaReached'. -/
def dfaReachedUptoCard : Claim7 := { stood := { row := dfaReachedUptoRow, standIns := [], harness := (true, "6d06a939527c1bececad9cdba1e2447c4588d6f38a3aba26e960e13327b8b719"), looks := true }, kinds := [], alts := [], laidByText := true, laidKinds := [.data], laidTests := true, laidLooks := .later }
def DfaReachedUptoCardSaid : Prop := Claim7.holds Tryd.pinned (.plain (OpenSpec.upto dfaReachedSpec)) dfaReachedUptoCard

/-- THE SECOND FORM's CARD OF 'shibbolethlaw11.DfaTakes'. -/
def dfaTakesUptoCard : Claim7 := { stood := { row := dfaTakesUptoRow, standIns := [], harness := (true, "6d06a939527c1bececad9cdba1e2447c4588d6f38a3aba26e960e13327b8b719"), looks := true }, kinds := [], alts := [], laidByText := true, laidKinds := [.data], laidTests := true, laidLooks := .later }
def DfaTakesUptoCardSaid : Prop := Claim7.holds Tryd.pinned (.plain (OpenSpec.upto dfaTakesSpec)) dfaTakesUptoCard

/-- THE SECOND FORM's CARD OF 'shibbolethlaw08.SpotsKnown'. -/
def spotsKnownUptoCard : Claim7 := { stood := { row := spotsKnownUptoRow, standIns := [], harness := (true, "6d06a939527c1bececad9cdba1e2447c4588d6f38a3aba26e960e13327b8b719"), looks := true }, kinds := [], alts := [], laidByText := true, laidKinds := [.data], laidTests := true, laidLooks := .later }
def SpotsKnownUptoCardSaid : Prop := Claim7.holds Tryd.pinned (.plain (OpenSpec.upto spotsKnownSpec)) spotsKnownUptoCard

/-- THE SECOND FORM's CARD OF 'shibbolethlaw08.SpotsTimes'. -/
def spotsTimesUptoCard : Claim7 := { stood := { row := spotsTimesUptoRow, standIns := [], harness := (true, "6d06a939527c1bececad9cdba1e2447c4588d6f38a3aba26e960e13327b8b719"), looks := true }, kinds := [], alts := [], laidByText := true, laidKinds := [.data], laidTests := true, laidLooks := .later }
def SpotsTimesUptoCardSaid : Prop := Claim7.holds Tryd.pinned (.plain (OpenSpec.upto spotsTimesSpec)) spotsTimesUptoCard

/-- THE SECOND FORM's CARD OF 'shibbolethlaw11.DfaKnown'. -/
def dfaKnownUptoCard : Claim7 := { stood := { row := dfaKnownUptoRow, standIns := [], harness := (true, "6d06a939527c1bececad9cdba1e2447c4588d6f38a3aba26e960e13327b8b719"), looks := true }, kinds := [], alts := [], laidByText := true, laidKinds := [.data], laidTests := true, laidLooks := .later }
def DfaKnownUptoCardSaid : Prop := Claim7.holds Tryd.pinned (.plain (OpenSpec.upto dfaKnownSpec)) dfaKnownUptoCard

/-- THE SECOND FORM's CARD OF 'shibbolethlaw08.SpotsApart'. -/
def spotsApartUptoCard : Claim7 := { stood := { row := spotsApartUptoRow, standIns := [], harness := (true, "6d06a939527c1bececad9cdba1e2447c4588d6f38a3aba26e960e13327b8b719"), looks := true }, kinds := [], alts := [], laidByText := true, laidKinds := [.data], laidTests := true, laidLooks := .later }
def SpotsApartUptoCardSaid : Prop := Claim7.holds Tryd.pinned (.plain (OpenSpec.upto spotsApartSpec)) spotsApartUptoCard

/-- THE SECOND FORM's CARD OF 'shibbolethlaw13.SeekWords'. -/
def seekWordsUptoCard : Claim7 := { stood := { row := seekWordsUptoRow, standIns := [], harness := (true, "6d06a939527c1bececad9cdba1e2447c4588d6f38a3aba26e960e13327b8b719"), looks := true }, kinds := [], alts := [], laidByText := true, laidKinds := [.data], laidTests := true, laidLooks := .later }
def SeekWordsUptoCardSaid : Prop := Claim7.holds Tryd.pinned (.plain (OpenSpec.upto seekWordsSpec)) seekWordsUptoCard

/-- THE SECOND FORM's CARD OF 'shibbolethlaw13.SeekPaths'. -/
def seekPathsUptoCard : Claim7 := { stood := { row := seekPathsUptoRow, standIns := [], harness := (true, "6d06a939527c1bececad9cdba1e2447c4588d6f38a3aba26e960e13327b8b719"), looks := true }, kinds := [], alts := [], laidByText := true, laidKinds := [.data], laidTests := true, laidLooks := .later }
def SeekPathsUptoCardSaid : Prop := Claim7.holds Tryd.pinned (.plain (OpenSpec.upto seekPathsSpec)) seekPathsUptoCard

/-- THE SECOND FORM's CARD OF 'shibbolethlaw13.SeekOrder'. -/
def seekOrderUptoCard : Claim7 := { stood := { row := seekOrderUptoRow, standIns := [], harness := (true, "6d06a939527c1bececad9cdba1e2447c4588d6f38a3aba26e960e13327b8b719"), looks := true }, kinds := [], alts := [], laidByText := true, laidKinds := [.data], laidTests := true, laidLooks := .later }
def SeekOrderUptoCardSaid : Prop := Claim7.holds Tryd.pinned (.plain (OpenSpec.upto seekOrderSpec)) seekOrderUptoCard

/-- THE SECOND FORM's CARD OF 'shibbolethlaw13.SeekKnown'. -/
def seekKnownUptoCard : Claim7 := { stood := { row := seekKnownUptoRow, standIns := [], harness := (true, "6d06a939527c1bececad9cdba1e2447c4588d6f38a3aba26e960e13327b8b719"), looks := true }, kinds := [], alts := [], laidByText := true, laidKinds := [.data], laidTests := true, laidLooks := .later }
def SeekKnownUptoCardSaid : Prop := Claim7.holds Tryd.pinned (.plain (OpenSpec.upto seekKnownSpec)) seekKnownUptoCard

/-- THE SECOND FORM's CARD OF 'shibbolethlaw13.SeekLeast'. -/
def seekLeastUptoCard : Claim7 := { stood := { row := seekLeastUptoRow, standIns := [], harness := (true, "6d06a939527c1bececad9cdba1e2447c4588d6f38a3aba26e960e13327b8b719"), looks := true }, kinds := [], alts := [], laidByText := true, laidKinds := [.data], laidTests := true, laidLooks := .later }
def SeekLeastUptoCardSaid : Prop := Claim7.holds Tryd.pinned (.plain (OpenSpec.upto seekLeastSpec)) seekLeastUptoCard

/-- THE SECOND FORM's CARD OF 'shibbolethlaw09.ConsKnown'. -/
def consKnownUptoCard : Claim7 := { stood := { row := consKnownUptoRow, standIns := [], harness := (true, "6d06a939527c1bececad9cdba1e2447c4588d6f38a3aba26e960e13327b8b719"), looks := true }, kinds := [], alts := [], laidByText := true, laidKinds := [.data], laidTests := true, laidLooks := .later }
def ConsKnownUptoCardSaid : Prop := Claim7.holds Tryd.pinned (.plain (OpenSpec.upto consKnownSpec)) consKnownUptoCard

/-- THE SECOND FORM's CARD OF 'shibbolethlaw13.SeekPath'. -/
def seekPathUptoCard : Claim7 := { stood := { row := seekPathUptoRow, standIns := [], harness := (true, "6d06a939527c1bececad9cdba1e2447c4588d6f38a3aba26e960e13327b8b719"), looks := true }, kinds := [], alts := [], laidByText := true, laidKinds := [.data], laidTests := true, laidLooks := .later }
def SeekPathUptoCardSaid : Prop := Claim7.holds Tryd.pinned (.plain (OpenSpec.upto seekPathSpec)) seekPathUptoCard
end Rows
end Go.Proofs.YtfoemogojbnfhaaDoor
