/-
  NARROWER THAN 'FOR EVERY INPUT', by the rows' own cells (each row's printed sentence says how): OctetsOf: laid · OctetsBack: laid · OctetsKnown: laid · OctetsTells: laid · OctetsAlgebra: laid · ClassesTells: laid · ClassesFew: laid · ClassesParts: laid · ClassesKnown: laid · ClassesUnions: laid.
  DERIVED. THE GIVEN ROWS OF THIS SEAT. 10 by the template 'for every input the law returns true; each argument reads behind the call as it read before'; 0 by the template 'total and deterministic' (their statements: YtlcmimjdnhjeoaaDoorTotals.lean).
  GIVEN WITH THE SEED: the statements are not yours to turn. If you find one false, say at which input.
  Laid BY PROGRAM, IN A SANDBOX (cutbox-rows.mjs): the forced cells as the released guide's own fill.sh prints them over the translation 274a5b543f8f8caa… (all of the seat's roots in one cut). By AI agents, Wed Nov 11 2026. No macro, syntax, notation, axiom, sorry.
-/
import Derived.Test.YtlcmimjdnhjeoaaDoorChecked
import GoSem.Claim
import GoSem.ClaimJoined
import GoSem.ClaimMapViews
import Derived.JoinedTies
import Derived.KernelRfl
namespace Go.Proofs.YtlcmimjdnhjeoaaDoor
/- THE CELL 'sum', in the pinned program and in every row, IS THE sha256 OF THE DUMP (.gsa) THAT YtlcmimjdnhjeoaaDoorProg.lean LOADS. Nothing in Lean hashes anything: it is a label: what it is worth is what the hold of that sum in a sandbox is worth. -/
noncomputable def Tryd.pinned : Pinned := { name := "ytlcmimjdnhjeoaadoor", sum := "274a5b543f8f8caac4cccf26758daf9f59be61f42171f24d4af730a41892f374", checked := Tryd.checked }
namespace Rows
def none {H : Type} : Left H := { results := [], args := [] }

/- WHAT THE LISTED PACKAGE-LEVEL VARIABLES READ AS WHEN THE CALL BEGINS. Each datum BY PROGRAM (the guide's laid-datum.mjs) off the statement by which the dump's own 'gosem.cut.vars' lays the variable. In a bare row this is a premise. The card (YtlcmimjdnhjeoaaDoorCards.lean) ties it to the program's text. -/
def laid_math_bits_deBruijn64tab {H : Type} : DataW H := .agg [.lit (.int .u8 0), .lit (.int .u8 1), .lit (.int .u8 56), .lit (.int .u8 2), .lit (.int .u8 57), .lit (.int .u8 49), .lit (.int .u8 28), .lit (.int .u8 3), .lit (.int .u8 61), .lit (.int .u8 58), .lit (.int .u8 42), .lit (.int .u8 50), .lit (.int .u8 38), .lit (.int .u8 29), .lit (.int .u8 17), .lit (.int .u8 4), .lit (.int .u8 62), .lit (.int .u8 47), .lit (.int .u8 59), .lit (.int .u8 36), .lit (.int .u8 45), .lit (.int .u8 43), .lit (.int .u8 51), .lit (.int .u8 22), .lit (.int .u8 53), .lit (.int .u8 39), .lit (.int .u8 33), .lit (.int .u8 30), .lit (.int .u8 24), .lit (.int .u8 18), .lit (.int .u8 12), .lit (.int .u8 5), .lit (.int .u8 63), .lit (.int .u8 55), .lit (.int .u8 48), .lit (.int .u8 27), .lit (.int .u8 60), .lit (.int .u8 41), .lit (.int .u8 37), .lit (.int .u8 16), .lit (.int .u8 46), .lit (.int .u8 35), .lit (.int .u8 44), .lit (.int .u8 21), .lit (.int .u8 52), .lit (.int .u8 32), .lit (.int .u8 23), .lit (.int .u8 11), .lit (.int .u8 54), .lit (.int .u8 26), .lit (.int .u8 40), .lit (.int .u8 15), .lit (.int .u8 34), .lit (.int .u8 20), .lit (.int .u8 31), .lit (.int .u8 10), .lit (.int .u8 25), .lit (.int .u8 14), .lit (.int .u8 19), .lit (.int .u8 9), .lit (.int .u8 13), .lit (.int .u8 8), .lit (.int .u8 7), .lit (.int .u8 6)]

/-- 'shibbolethlaw01.OctetsOf': WHATEVER THE INPUT: true; the input reads as it did. -/
def octetsOfSpec : ChangeSpec := { name := "octetsOf", fn := fun _ => fun
  | [d] => { results := [.lit (.bool true)], args := [d] }
  | _ => none }
def octetsOfRow : OpenClaim := { program := "ytlcmimjdnhjeoaadoor", sum := "274a5b543f8f8caac4cccf26758daf9f59be61f42171f24d4af730a41892f374", func := "shibboleth/shibbolethlaw01.OctetsOf", spec := "octetsOf", named := ["math/bits.deBruijn64tab"], plainKeys := false, apart := false, laid := [("math/bits.deBruijn64tab", laid_math_bits_deBruijn64tab)] }
def OctetsOfSaid : Prop := octetsOfRow.holds Tryd.pinned (OpenSpec.ofChange octetsOfSpec)

/-- ITS FALSE NEIGHBOUR: 'it returns false'. Refute it at one input. -/
def octetsOfWrong : ChangeSpec := { name := "octetsOf", fn := fun _ => fun
  | [d] => { results := [.lit (.bool false)], args := [d] }
  | _ => none }
def OctetsOfWrongFalsely : Prop := octetsOfRow.holds Tryd.pinned (OpenSpec.ofChange octetsOfWrong)

/-- 'shibbolethlaw01.OctetsBack': WHATEVER THE INPUT: true; the input reads as it did. -/
def octetsBackSpec : ChangeSpec := { name := "octetsBack", fn := fun _ => fun
  | [d] => { results := [.lit (.bool true)], args := [d] }
  | _ => none }
def octetsBackRow : OpenClaim := { program := "ytlcmimjdnhjeoaadoor", sum := "274a5b543f8f8caac4cccf26758daf9f59be61f42171f24d4af730a41892f374", func := "shibboleth/shibbolethlaw01.OctetsBack", spec := "octetsBack", named := ["math/bits.deBruijn64tab"], plainKeys := false, apart := false, laid := [("math/bits.deBruijn64tab", laid_math_bits_deBruijn64tab)] }
def OctetsBackSaid : Prop := octetsBackRow.holds Tryd.pinned (OpenSpec.ofChange octetsBackSpec)

/-- ITS FALSE NEIGHBOUR: 'it returns false'. Refute it at one input. -/
def octetsBackWrong : ChangeSpec := { name := "octetsBack", fn := fun _ => fun
  | [d] => { results := [.lit (.bool false)], args := [d] }
  | _ => none }
def OctetsBackWrongFalsely : Prop := octetsBackRow.holds Tryd.pinned (OpenSpec.ofChange octetsBackWrong)

/-- 'shibbolethlaw01.OctetsKnown': WHATEVER THE INPUT: true; the input reads as it did. -/
def octetsKnownSpec : ChangeSpec := { name := "octetsKnown", fn := fun _ => fun
  | [] => { results := [.lit (.bool true)], args := [] }
  | _ => none }
def octetsKnownRow : OpenClaim := { program := "ytlcmimjdnhjeoaadoor", sum := "274a5b543f8f8caac4cccf26758daf9f59be61f42171f24d4af730a41892f374", func := "shibboleth/shibbolethlaw01.OctetsKnown", spec := "octetsKnown", named := ["math/bits.deBruijn64tab"], plainKeys := false, apart := false, laid := [("math/bits.deBruijn64tab", laid_math_bits_deBruijn64tab)] }
def OctetsKnownSaid : Prop := octetsKnownRow.holds Tryd.pinned (OpenSpec.ofChange octetsKnownSpec)

/-- ITS FALSE NEIGHBOUR: 'it returns false'. Refute it at one input. -/
def octetsKnownWrong : ChangeSpec := { name := "octetsKnown", fn := fun _ => fun
  | [] => { results := [.lit (.bool false)], args := [] }
  | _ => none }
def OctetsKnownWrongFalsely : Prop := octetsKnownRow.holds Tryd.pinned (OpenSpec.ofChange octetsKnownWrong)

/-- 'shibbolethlaw01.OctetsTells': WHATEVER THE INPUT: true; the input reads as it did. -/
def octetsTellsSpec : ChangeSpec := { name := "octetsTells", fn := fun _ => fun
  | [d1, d2, d3, d4] => { results := [.lit (.bool true)], args := [d1, d2, d3, d4] }
  | _ => none }
def octetsTellsRow : OpenClaim := { program := "ytlcmimjdnhjeoaadoor", sum := "274a5b543f8f8caac4cccf26758daf9f59be61f42171f24d4af730a41892f374", func := "shibboleth/shibbolethlaw01.OctetsTells", spec := "octetsTells", named := ["math/bits.deBruijn64tab"], plainKeys := false, apart := false, laid := [("math/bits.deBruijn64tab", laid_math_bits_deBruijn64tab)] }
def OctetsTellsSaid : Prop := octetsTellsRow.holds Tryd.pinned (OpenSpec.ofChange octetsTellsSpec)

/-- ITS FALSE NEIGHBOUR: 'it returns false'. Refute it at one input. -/
def octetsTellsWrong : ChangeSpec := { name := "octetsTells", fn := fun _ => fun
  | [d1, d2, d3, d4] => { results := [.lit (.bool false)], args := [d1, d2, d3, d4] }
  | _ => none }
def OctetsTellsWrongFalsely : Prop := octetsTellsRow.holds Tryd.pinned (OpenSpec.ofChange octetsTellsWrong)

/-- 'shibbolethlaw01.OctetsAlgebra': WHATEVER THE INPUT: true; the input reads as it did. -/
def octetsAlgebraSpec : ChangeSpec := { name := "octetsAlgebra", fn := fun _ => fun
  | [d1, d2, d3, d4] => { results := [.lit (.bool true)], args := [d1, d2, d3, d4] }
  | _ => none }
def octetsAlgebraRow : OpenClaim := { program := "ytlcmimjdnhjeoaadoor", sum := "274a5b543f8f8caac4cccf26758daf9f59be61f42171f24d4af730a41892f374", func := "shibboleth/shibbolethlaw01.OctetsAlgebra", spec := "octetsAlgebra", named := ["math/bits.deBruijn64tab"], plainKeys := false, apart := false, laid := [("math/bits.deBruijn64tab", laid_math_bits_deBruijn64tab)] }
def OctetsAlgebraSaid : Prop := octetsAlgebraRow.holds Tryd.pinned (OpenSpec.ofChange octetsAlgebraSpec)

/-- ITS FALSE NEIGHBOUR: 'it returns false'. Refute it at one input. -/
def octetsAlgebraWrong : ChangeSpec := { name := "octetsAlgebra", fn := fun _ => fun
  | [d1, d2, d3, d4] => { results := [.lit (.bool false)], args := [d1, d2, d3, d4] }
  | _ => none }
def OctetsAlgebraWrongFalsely : Prop := octetsAlgebraRow.holds Tryd.pinned (OpenSpec.ofChange octetsAlgebraWrong)

/-- 'shibbolethlaw02.ClassesTells': WHATEVER THE INPUT: true; the input reads as it did. -/
def classesTellsSpec : ChangeSpec := { name := "classesTells", fn := fun _ => fun
  | [d] => { results := [.lit (.bool true)], args := [d] }
  | _ => none }
def classesTellsRow : OpenClaim := { program := "ytlcmimjdnhjeoaadoor", sum := "274a5b543f8f8caac4cccf26758daf9f59be61f42171f24d4af730a41892f374", func := "shibboleth/shibbolethlaw02.ClassesTells", spec := "classesTells", named := ["math/bits.deBruijn64tab"], plainKeys := false, apart := false, laid := [("math/bits.deBruijn64tab", laid_math_bits_deBruijn64tab)] }
def ClassesTellsSaid : Prop := classesTellsRow.holds Tryd.pinned (OpenSpec.ofChange classesTellsSpec)

/-- ITS FALSE NEIGHBOUR: 'it returns false'. Refute it at one input. -/
def classesTellsWrong : ChangeSpec := { name := "classesTells", fn := fun _ => fun
  | [d] => { results := [.lit (.bool false)], args := [d] }
  | _ => none }
def ClassesTellsWrongFalsely : Prop := classesTellsRow.holds Tryd.pinned (OpenSpec.ofChange classesTellsWrong)

/-- 'shibbolethlaw02.ClassesFew': WHATEVER THE INPUT: true; the input reads as it did. -/
def classesFewSpec : ChangeSpec := { name := "classesFew", fn := fun _ => fun
  | [d] => { results := [.lit (.bool true)], args := [d] }
  | _ => none }
def classesFewRow : OpenClaim := { program := "ytlcmimjdnhjeoaadoor", sum := "274a5b543f8f8caac4cccf26758daf9f59be61f42171f24d4af730a41892f374", func := "shibboleth/shibbolethlaw02.ClassesFew", spec := "classesFew", named := ["math/bits.deBruijn64tab"], plainKeys := false, apart := false, laid := [("math/bits.deBruijn64tab", laid_math_bits_deBruijn64tab)] }
def ClassesFewSaid : Prop := classesFewRow.holds Tryd.pinned (OpenSpec.ofChange classesFewSpec)

/-- ITS FALSE NEIGHBOUR: 'it returns false'. Refute it at one input. -/
def classesFewWrong : ChangeSpec := { name := "classesFew", fn := fun _ => fun
  | [d] => { results := [.lit (.bool false)], args := [d] }
  | _ => none }
def ClassesFewWrongFalsely : Prop := classesFewRow.holds Tryd.pinned (OpenSpec.ofChange classesFewWrong)

/-- 'shibbolethlaw02.ClassesParts': WHATEVER THE INPUT: true; the input reads as it did. -/
def classesPartsSpec : ChangeSpec := { name := "classesParts", fn := fun _ => fun
  | [d1, d2, d3] => { results := [.lit (.bool true)], args := [d1, d2, d3] }
  | _ => none }
def classesPartsRow : OpenClaim := { program := "ytlcmimjdnhjeoaadoor", sum := "274a5b543f8f8caac4cccf26758daf9f59be61f42171f24d4af730a41892f374", func := "shibboleth/shibbolethlaw02.ClassesParts", spec := "classesParts", unfollowed := true, recurses := true, named := ["math/bits.deBruijn64tab"], plainKeys := false, apart := false, laid := [("math/bits.deBruijn64tab", laid_math_bits_deBruijn64tab)] }
def ClassesPartsSaid : Prop := classesPartsRow.holds Tryd.pinned (OpenSpec.ofChange classesPartsSpec)

/-- ITS FALSE NEIGHBOUR: 'it returns false'. Refute it at one input. -/
def classesPartsWrong : ChangeSpec := { name := "classesParts", fn := fun _ => fun
  | [d1, d2, d3] => { results := [.lit (.bool false)], args := [d1, d2, d3] }
  | _ => none }
def ClassesPartsWrongFalsely : Prop := classesPartsRow.holds Tryd.pinned (OpenSpec.ofChange classesPartsWrong)

/-- 'shibbolethlaw02.ClassesKnown': WHATEVER THE INPUT: true; the input reads as it did. -/
def classesKnownSpec : ChangeSpec := { name := "classesKnown", fn := fun _ => fun
  | [] => { results := [.lit (.bool true)], args := [] }
  | _ => none }
def classesKnownRow : OpenClaim := { program := "ytlcmimjdnhjeoaadoor", sum := "274a5b543f8f8caac4cccf26758daf9f59be61f42171f24d4af730a41892f374", func := "shibboleth/shibbolethlaw02.ClassesKnown", spec := "classesKnown", unfollowed := true, recurses := true, named := ["math/bits.deBruijn64tab"], plainKeys := false, apart := false, laid := [("math/bits.deBruijn64tab", laid_math_bits_deBruijn64tab)] }
def ClassesKnownSaid : Prop := classesKnownRow.holds Tryd.pinned (OpenSpec.ofChange classesKnownSpec)

/-- ITS FALSE NEIGHBOUR: 'it returns false'. Refute it at one input. -/
def classesKnownWrong : ChangeSpec := { name := "classesKnown", fn := fun _ => fun
  | [] => { results := [.lit (.bool false)], args := [] }
  | _ => none }
def ClassesKnownWrongFalsely : Prop := classesKnownRow.holds Tryd.pinned (OpenSpec.ofChange classesKnownWrong)

/-- 'shibbolethlaw02.ClassesUnions': WHATEVER THE INPUT: true; the input reads as it did. -/
def classesUnionsSpec : ChangeSpec := { name := "classesUnions", fn := fun _ => fun
  | [d1, d2] => { results := [.lit (.bool true)], args := [d1, d2] }
  | _ => none }
def classesUnionsRow : OpenClaim := { program := "ytlcmimjdnhjeoaadoor", sum := "274a5b543f8f8caac4cccf26758daf9f59be61f42171f24d4af730a41892f374", func := "shibboleth/shibbolethlaw02.ClassesUnions", spec := "classesUnions", unfollowed := true, recurses := true, named := ["math/bits.deBruijn64tab"], plainKeys := false, apart := false, laid := [("math/bits.deBruijn64tab", laid_math_bits_deBruijn64tab)] }
def ClassesUnionsSaid : Prop := classesUnionsRow.holds Tryd.pinned (OpenSpec.ofChange classesUnionsSpec)

/-- ITS FALSE NEIGHBOUR: 'it returns false'. Refute it at one input. -/
def classesUnionsWrong : ChangeSpec := { name := "classesUnions", fn := fun _ => fun
  | [d1, d2] => { results := [.lit (.bool false)], args := [d1, d2] }
  | _ => none }
def ClassesUnionsWrongFalsely : Prop := classesUnionsRow.holds Tryd.pinned (OpenSpec.ofChange classesUnionsWrong)

/- THE SECOND FORM. 'bulk': how many values and letters a reading holds, each counted each time it is reached (what is shared counts as often as it is met; a slice's spare places count too). A statement '..UptoSaid' is the law's where the arguments, and the package variables that the reading takes, are together of bulk at most 1048576: NARROWER than '..Said'. Prove '..Said' where nothing that the law and all that it calls make is longer than what came in: it says more and counts as full. Else prove '..UptoSaid'. A law counts once. -/
mutual
def uptoBulk {H : Type} : DataW H → Nat
  | .lit (.string bytes) => bytes.length + 1
  | .lit _ => 1
  | .nil => 1
  | .ptr d => uptoBulk d + 1
  | .slice elems spare => uptoBulkAll elems + uptoBulkAll spare + 1
  | .agg parts => uptoBulkAll parts + 1
  | .iface _ d => uptoBulk d + 1
  | .map entries => uptoBulkEntries entries + 1
  | .held _ => 1
def uptoBulkAll {H : Type} : List (DataW H) → Nat
  | [] => 0
  | d :: r => uptoBulk d + uptoBulkAll r
def uptoBulkEntries {H : Type} : List (Lit × DataW H) → Nat
  | [] => 0
  | x :: r => uptoBulkEntry x + uptoBulkEntries r
def uptoBulkEntry {H : Type} : Lit × DataW H → Nat
  | (.string bytes, d) => bytes.length + uptoBulk d + 1
  | (_, d) => uptoBulk d + 1
 end
def uptoSmall : (H : Type) → List (DataW H) → Bool := fun _ ds => decide (uptoBulkAll ds ≤ 1048576)
def OpenSpec.upto (s : _root_.Go.ChangeSpec) : _root_.Go.OpenSpec := { _root_.Go.OpenSpec.ofChange s with cond := some uptoSmall }

/-- 'shibbolethlaw01.OctetsOf', WHERE WHAT IT READS IS OF BULK AT MOST 1048576: true; the input reads as it did. -/
def octetsOfUptoRow : OpenClaim := { program := "ytlcmimjdnhjeoaadoor", sum := "274a5b543f8f8caac4cccf26758daf9f59be61f42171f24d4af730a41892f374", func := "shibboleth/shibbolethlaw01.OctetsOf", spec := "octetsOf", named := ["math/bits.deBruijn64tab"], plainKeys := false, apart := false, laid := [("math/bits.deBruijn64tab", laid_math_bits_deBruijn64tab)], narrowed := true }
def OctetsOfUptoSaid : Prop := octetsOfUptoRow.holds Tryd.pinned (OpenSpec.upto octetsOfSpec)

/-- 'shibbolethlaw01.OctetsBack', WHERE WHAT IT READS IS OF BULK AT MOST 1048576: true; the input reads as it did. -/
def octetsBackUptoRow : OpenClaim := { program := "ytlcmimjdnhjeoaadoor", sum := "274a5b543f8f8caac4cccf26758daf9f59be61f42171f24d4af730a41892f374", func := "shibboleth/shibbolethlaw01.OctetsBack", spec := "octetsBack", named := ["math/bits.deBruijn64tab"], plainKeys := false, apart := false, laid := [("math/bits.deBruijn64tab", laid_math_bits_deBruijn64tab)], narrowed := true }
def OctetsBackUptoSaid : Prop := octetsBackUptoRow.holds Tryd.pinned (OpenSpec.upto octetsBackSpec)

/-- 'shibbolethlaw01.OctetsKnown', WHERE WHAT IT READS IS OF BULK AT MOST 1048576: true; the input reads as it did. -/
def octetsKnownUptoRow : OpenClaim := { program := "ytlcmimjdnhjeoaadoor", sum := "274a5b543f8f8caac4cccf26758daf9f59be61f42171f24d4af730a41892f374", func := "shibboleth/shibbolethlaw01.OctetsKnown", spec := "octetsKnown", named := ["math/bits.deBruijn64tab"], plainKeys := false, apart := false, laid := [("math/bits.deBruijn64tab", laid_math_bits_deBruijn64tab)], narrowed := true }
def OctetsKnownUptoSaid : Prop := octetsKnownUptoRow.holds Tryd.pinned (OpenSpec.upto octetsKnownSpec)

/-- 'shibbolethlaw01.OctetsTells', WHERE WHAT IT READS IS OF BULK AT MOST 1048576: true; the input reads as it did. -/
def octetsTellsUptoRow : OpenClaim := { program := "ytlcmimjdnhjeoaadoor", sum := "274a5b543f8f8caac4cccf26758daf9f59be61f42171f24d4af730a41892f374", func := "shibboleth/shibbolethlaw01.OctetsTells", spec := "octetsTells", named := ["math/bits.deBruijn64tab"], plainKeys := false, apart := false, laid := [("math/bits.deBruijn64tab", laid_math_bits_deBruijn64tab)], narrowed := true }
def OctetsTellsUptoSaid : Prop := octetsTellsUptoRow.holds Tryd.pinned (OpenSpec.upto octetsTellsSpec)

/-- 'shibbolethlaw01.OctetsAlgebra', WHERE WHAT IT READS IS OF BULK AT MOST 1048576: true; the input reads as it did. -/
def octetsAlgebraUptoRow : OpenClaim := { program := "ytlcmimjdnhjeoaadoor", sum := "274a5b543f8f8caac4cccf26758daf9f59be61f42171f24d4af730a41892f374", func := "shibboleth/shibbolethlaw01.OctetsAlgebra", spec := "octetsAlgebra", named := ["math/bits.deBruijn64tab"], plainKeys := false, apart := false, laid := [("math/bits.deBruijn64tab", laid_math_bits_deBruijn64tab)], narrowed := true }
def OctetsAlgebraUptoSaid : Prop := octetsAlgebraUptoRow.holds Tryd.pinned (OpenSpec.upto octetsAlgebraSpec)

/-- 'shibbolethlaw02.ClassesTells', WHERE WHAT IT READS IS OF BULK AT MOST 1048576: true; the input reads as it did. -/
def classesTellsUptoRow : OpenClaim := { program := "ytlcmimjdnhjeoaadoor", sum := "274a5b543f8f8caac4cccf26758daf9f59be61f42171f24d4af730a41892f374", func := "shibboleth/shibbolethlaw02.ClassesTells", spec := "classesTells", named := ["math/bits.deBruijn64tab"], plainKeys := false, apart := false, laid := [("math/bits.deBruijn64tab", laid_math_bits_deBruijn64tab)], narrowed := true }
def ClassesTellsUptoSaid : Prop := classesTellsUptoRow.holds Tryd.pinned (OpenSpec.upto classesTellsSpec)

/-- 'shibbolethlaw02.ClassesFew', WHERE WHAT IT READS IS OF BULK AT MOST 1048576: true; the input reads as it did. -/
def classesFewUptoRow : OpenClaim := { program := "ytlcmimjdnhjeoaadoor", sum := "274a5b543f8f8caac4cccf26758daf9f59be61f42171f24d4af730a41892f374", func := "shibboleth/shibbolethlaw02.ClassesFew", spec := "classesFew", named := ["math/bits.deBruijn64tab"], plainKeys := false, apart := false, laid := [("math/bits.deBruijn64tab", laid_math_bits_deBruijn64tab)], narrowed := true }
def ClassesFewUptoSaid : Prop := classesFewUptoRow.holds Tryd.pinned (OpenSpec.upto classesFewSpec)

/-- 'shibbolethlaw02.ClassesParts', WHERE WHAT IT READS IS OF BULK AT MOST 1048576: true; the input reads as it did. -/
def classesPartsUptoRow : OpenClaim := { program := "ytlcmimjdnhjeoaadoor", sum := "274a5b543f8f8caac4cccf26758daf9f59be61f42171f24d4af730a41892f374", func := "shibboleth/shibbolethlaw02.ClassesParts", spec := "classesParts", unfollowed := true, recurses := true, named := ["math/bits.deBruijn64tab"], plainKeys := false, apart := false, laid := [("math/bits.deBruijn64tab", laid_math_bits_deBruijn64tab)], narrowed := true }
def ClassesPartsUptoSaid : Prop := classesPartsUptoRow.holds Tryd.pinned (OpenSpec.upto classesPartsSpec)

/-- 'shibbolethlaw02.ClassesKnown', WHERE WHAT IT READS IS OF BULK AT MOST 1048576: true; the input reads as it did. -/
def classesKnownUptoRow : OpenClaim := { program := "ytlcmimjdnhjeoaadoor", sum := "274a5b543f8f8caac4cccf26758daf9f59be61f42171f24d4af730a41892f374", func := "shibboleth/shibbolethlaw02.ClassesKnown", spec := "classesKnown", unfollowed := true, recurses := true, named := ["math/bits.deBruijn64tab"], plainKeys := false, apart := false, laid := [("math/bits.deBruijn64tab", laid_math_bits_deBruijn64tab)], narrowed := true }
def ClassesKnownUptoSaid : Prop := classesKnownUptoRow.holds Tryd.pinned (OpenSpec.upto classesKnownSpec)

/-- 'shibbolethlaw02.ClassesUnions', WHERE WHAT IT READS IS OF BULK AT MOST 1048576: true; the input reads as it did. -/
def classesUnionsUptoRow : OpenClaim := { program := "ytlcmimjdnhjeoaadoor", sum := "274a5b543f8f8caac4cccf26758daf9f59be61f42171f24d4af730a41892f374", func := "shibboleth/shibbolethlaw02.ClassesUnions", spec := "classesUnions", unfollowed := true, recurses := true, named := ["math/bits.deBruijn64tab"], plainKeys := false, apart := false, laid := [("math/bits.deBruijn64tab", laid_math_bits_deBruijn64tab)], narrowed := true }
def ClassesUnionsUptoSaid : Prop := classesUnionsUptoRow.holds Tryd.pinned (OpenSpec.upto classesUnionsSpec)

end Rows
end Go.Proofs.YtlcmimjdnhjeoaaDoor
