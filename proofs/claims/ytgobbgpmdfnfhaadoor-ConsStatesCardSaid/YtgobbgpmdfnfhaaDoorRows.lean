/-
  NARROWER THAN 'FOR EVERY INPUT', by the rows' own cells (each row's printed sentence says how): SpotsKnown: laid · SpotsTimes: laid · SpotsApart: laid · ConsKnown: laid · ConsStates: laid · ConsBool: laid · ConsSteps: laid · ConsClasses: laid.
  DERIVED. THE GIVEN ROWS OF THIS SEAT. 8 by the template 'for every input the law returns true; each argument reads behind the call as it read before'; 0 by the template 'total and deterministic' (their statements: YtgobbgpmdfnfhaaDoorTotals.lean).
  GIVEN WITH THE SEED: the statements are not yours to turn. If you find one false, say at which input.
  Laid BY PROGRAM, IN A SANDBOX (cutbox-rows.mjs): the forced cells as the released guide's own fill.sh prints them over the translation ae9c561c8614d47d… (all of the seat's roots in one cut). By AI agents, Wed Nov 11 2026. No macro, syntax, notation, axiom, sorry.
-/
import Derived.Test.YtgobbgpmdfnfhaaDoorChecked
import GoSem.Claim
import GoSem.ClaimJoined
import GoSem.ClaimMapViews
import Derived.JoinedTies
import Derived.KernelRfl
namespace Go.Proofs.YtgobbgpmdfnfhaaDoor
/- THE CELL 'sum', in the pinned program and in every row, IS THE sha256 OF THE DUMP (.gsa) THAT YtgobbgpmdfnfhaaDoorProg.lean LOADS. Nothing in Lean hashes anything: it is a label: what it is worth is what the hold of that sum in a sandbox is worth. -/
noncomputable def Tryd.pinned : Pinned := { name := "ytgobbgpmdfnfhaadoor", sum := "ae9c561c8614d47dc15e6b000f2fbd68d2cf24417f961b13c9a8aa5725fe1ffa", checked := Tryd.checked }
namespace Rows
def none {H : Type} : Left H := { results := [], args := [] }

/- WHAT THE LISTED PACKAGE-LEVEL VARIABLES READ AS WHEN THE CALL BEGINS. Each datum BY PROGRAM (the guide's laid-datum.mjs) off the statement by which the dump's own 'gosem.cut.vars' lays the variable. In a bare row this is a premise. The card (YtgobbgpmdfnfhaaDoorCards.lean) ties it to the program's text. -/
def laid_math_bits_deBruijn64tab {H : Type} : DataW H := .agg [.lit (.int .u8 0), .lit (.int .u8 1), .lit (.int .u8 56), .lit (.int .u8 2), .lit (.int .u8 57), .lit (.int .u8 49), .lit (.int .u8 28), .lit (.int .u8 3), .lit (.int .u8 61), .lit (.int .u8 58), .lit (.int .u8 42), .lit (.int .u8 50), .lit (.int .u8 38), .lit (.int .u8 29), .lit (.int .u8 17), .lit (.int .u8 4), .lit (.int .u8 62), .lit (.int .u8 47), .lit (.int .u8 59), .lit (.int .u8 36), .lit (.int .u8 45), .lit (.int .u8 43), .lit (.int .u8 51), .lit (.int .u8 22), .lit (.int .u8 53), .lit (.int .u8 39), .lit (.int .u8 33), .lit (.int .u8 30), .lit (.int .u8 24), .lit (.int .u8 18), .lit (.int .u8 12), .lit (.int .u8 5), .lit (.int .u8 63), .lit (.int .u8 55), .lit (.int .u8 48), .lit (.int .u8 27), .lit (.int .u8 60), .lit (.int .u8 41), .lit (.int .u8 37), .lit (.int .u8 16), .lit (.int .u8 46), .lit (.int .u8 35), .lit (.int .u8 44), .lit (.int .u8 21), .lit (.int .u8 52), .lit (.int .u8 32), .lit (.int .u8 23), .lit (.int .u8 11), .lit (.int .u8 54), .lit (.int .u8 26), .lit (.int .u8 40), .lit (.int .u8 15), .lit (.int .u8 34), .lit (.int .u8 20), .lit (.int .u8 31), .lit (.int .u8 10), .lit (.int .u8 25), .lit (.int .u8 14), .lit (.int .u8 19), .lit (.int .u8 9), .lit (.int .u8 13), .lit (.int .u8 8), .lit (.int .u8 7), .lit (.int .u8 6)]

/-- 'shibbolethlaw08.SpotsKnown': WHATEVER THE INPUT: true; the input reads as it did. -/
def spotsKnownSpec : ChangeSpec := { name := "spotsKnown", fn := fun _ => fun
  | [] => { results := [.lit (.bool true)], args := [] }
  | _ => none }
def spotsKnownRow : OpenClaim := { program := "ytgobbgpmdfnfhaadoor", sum := "ae9c561c8614d47dc15e6b000f2fbd68d2cf24417f961b13c9a8aa5725fe1ffa", func := "shibboleth/shibbolethlaw08.SpotsKnown", spec := "spotsKnown", inPlace := ["internal/bytealg.IndexByteString"], unfollowed := true, recurses := true, named := ["math/bits.deBruijn64tab"], plainKeys := false, apart := false, laid := [("math/bits.deBruijn64tab", laid_math_bits_deBruijn64tab)] }
def SpotsKnownSaid : Prop := spotsKnownRow.holds Tryd.pinned (OpenSpec.ofChange spotsKnownSpec)

/-- ITS FALSE NEIGHBOUR: 'it returns false'. Refute it at one input. -/
def spotsKnownWrong : ChangeSpec := { name := "spotsKnown", fn := fun _ => fun
  | [] => { results := [.lit (.bool false)], args := [] }
  | _ => none }
def SpotsKnownWrongFalsely : Prop := spotsKnownRow.holds Tryd.pinned (OpenSpec.ofChange spotsKnownWrong)

/-- 'shibbolethlaw08.SpotsTimes': WHATEVER THE INPUT: true; the input reads as it did. -/
def spotsTimesSpec : ChangeSpec := { name := "spotsTimes", fn := fun _ => fun
  | [d] => { results := [.lit (.bool true)], args := [d] }
  | _ => none }
def spotsTimesRow : OpenClaim := { program := "ytgobbgpmdfnfhaadoor", sum := "ae9c561c8614d47dc15e6b000f2fbd68d2cf24417f961b13c9a8aa5725fe1ffa", func := "shibboleth/shibbolethlaw08.SpotsTimes", spec := "spotsTimes", inPlace := ["internal/bytealg.IndexByteString"], unfollowed := true, recurses := true, named := ["math/bits.deBruijn64tab"], plainKeys := false, apart := false, laid := [("math/bits.deBruijn64tab", laid_math_bits_deBruijn64tab)] }
def SpotsTimesSaid : Prop := spotsTimesRow.holds Tryd.pinned (OpenSpec.ofChange spotsTimesSpec)

/-- ITS FALSE NEIGHBOUR: 'it returns false'. Refute it at one input. -/
def spotsTimesWrong : ChangeSpec := { name := "spotsTimes", fn := fun _ => fun
  | [d] => { results := [.lit (.bool false)], args := [d] }
  | _ => none }
def SpotsTimesWrongFalsely : Prop := spotsTimesRow.holds Tryd.pinned (OpenSpec.ofChange spotsTimesWrong)

/-- 'shibbolethlaw08.SpotsApart': WHATEVER THE INPUT: true; the input reads as it did. -/
def spotsApartSpec : ChangeSpec := { name := "spotsApart", fn := fun _ => fun
  | [d] => { results := [.lit (.bool true)], args := [d] }
  | _ => none }
def spotsApartRow : OpenClaim := { program := "ytgobbgpmdfnfhaadoor", sum := "ae9c561c8614d47dc15e6b000f2fbd68d2cf24417f961b13c9a8aa5725fe1ffa", func := "shibboleth/shibbolethlaw08.SpotsApart", spec := "spotsApart", inPlace := ["internal/bytealg.IndexByteString"], unfollowed := true, recurses := true, named := ["math/bits.deBruijn64tab"], plainKeys := false, apart := false, laid := [("math/bits.deBruijn64tab", laid_math_bits_deBruijn64tab)] }
def SpotsApartSaid : Prop := spotsApartRow.holds Tryd.pinned (OpenSpec.ofChange spotsApartSpec)

/-- ITS FALSE NEIGHBOUR: 'it returns false'. Refute it at one input. -/
def spotsApartWrong : ChangeSpec := { name := "spotsApart", fn := fun _ => fun
  | [d] => { results := [.lit (.bool false)], args := [d] }
  | _ => none }
def SpotsApartWrongFalsely : Prop := spotsApartRow.holds Tryd.pinned (OpenSpec.ofChange spotsApartWrong)

/-- 'shibbolethlaw09.ConsKnown': WHATEVER THE INPUT: true; the input reads as it did. -/
def consKnownSpec : ChangeSpec := { name := "consKnown", fn := fun _ => fun
  | [] => { results := [.lit (.bool true)], args := [] }
  | _ => none }
def consKnownRow : OpenClaim := { program := "ytgobbgpmdfnfhaadoor", sum := "ae9c561c8614d47dc15e6b000f2fbd68d2cf24417f961b13c9a8aa5725fe1ffa", func := "shibboleth/shibbolethlaw09.ConsKnown", spec := "consKnown", inPlace := ["internal/bytealg.IndexByteString"], unfollowed := true, recurses := true, named := ["math/bits.deBruijn64tab"], plainKeys := false, apart := false, laid := [("math/bits.deBruijn64tab", laid_math_bits_deBruijn64tab)] }
def ConsKnownSaid : Prop := consKnownRow.holds Tryd.pinned (OpenSpec.ofChange consKnownSpec)

/-- ITS FALSE NEIGHBOUR: 'it returns false'. Refute it at one input. -/
def consKnownWrong : ChangeSpec := { name := "consKnown", fn := fun _ => fun
  | [] => { results := [.lit (.bool false)], args := [] }
  | _ => none }
def ConsKnownWrongFalsely : Prop := consKnownRow.holds Tryd.pinned (OpenSpec.ofChange consKnownWrong)

/-- 'shibbolethlaw09.ConsStates': WHATEVER THE INPUT: true; the input reads as it did. -/
def consStatesSpec : ChangeSpec := { name := "consStates", fn := fun _ => fun
  | [d1, d2, d3] => { results := [.lit (.bool true)], args := [d1, d2, d3] }
  | _ => none }
def consStatesRow : OpenClaim := { program := "ytgobbgpmdfnfhaadoor", sum := "ae9c561c8614d47dc15e6b000f2fbd68d2cf24417f961b13c9a8aa5725fe1ffa", func := "shibboleth/shibbolethlaw09.ConsStates", spec := "consStates", inPlace := ["internal/bytealg.IndexByteString"], unfollowed := true, recurses := true, named := ["math/bits.deBruijn64tab"], plainKeys := false, apart := false, laid := [("math/bits.deBruijn64tab", laid_math_bits_deBruijn64tab)] }
def ConsStatesSaid : Prop := consStatesRow.holds Tryd.pinned (OpenSpec.ofChange consStatesSpec)

/-- ITS FALSE NEIGHBOUR: 'it returns false'. Refute it at one input. -/
def consStatesWrong : ChangeSpec := { name := "consStates", fn := fun _ => fun
  | [d1, d2, d3] => { results := [.lit (.bool false)], args := [d1, d2, d3] }
  | _ => none }
def ConsStatesWrongFalsely : Prop := consStatesRow.holds Tryd.pinned (OpenSpec.ofChange consStatesWrong)

/-- 'shibbolethlaw09.ConsBool': WHATEVER THE INPUT: true; the input reads as it did. -/
def consBoolSpec : ChangeSpec := { name := "consBool", fn := fun _ => fun
  | [d1, d2, d3] => { results := [.lit (.bool true)], args := [d1, d2, d3] }
  | _ => none }
def consBoolRow : OpenClaim := { program := "ytgobbgpmdfnfhaadoor", sum := "ae9c561c8614d47dc15e6b000f2fbd68d2cf24417f961b13c9a8aa5725fe1ffa", func := "shibboleth/shibbolethlaw09.ConsBool", spec := "consBool", inPlace := ["internal/bytealg.IndexByteString"], unfollowed := true, recurses := true, named := ["math/bits.deBruijn64tab"], plainKeys := false, apart := false, laid := [("math/bits.deBruijn64tab", laid_math_bits_deBruijn64tab)] }
def ConsBoolSaid : Prop := consBoolRow.holds Tryd.pinned (OpenSpec.ofChange consBoolSpec)

/-- ITS FALSE NEIGHBOUR: 'it returns false'. Refute it at one input. -/
def consBoolWrong : ChangeSpec := { name := "consBool", fn := fun _ => fun
  | [d1, d2, d3] => { results := [.lit (.bool false)], args := [d1, d2, d3] }
  | _ => none }
def ConsBoolWrongFalsely : Prop := consBoolRow.holds Tryd.pinned (OpenSpec.ofChange consBoolWrong)

/-- 'shibbolethlaw09.ConsSteps': WHATEVER THE INPUT: true; the input reads as it did. -/
def consStepsSpec : ChangeSpec := { name := "consSteps", fn := fun _ => fun
  | [d1, d2, d3] => { results := [.lit (.bool true)], args := [d1, d2, d3] }
  | _ => none }
def consStepsRow : OpenClaim := { program := "ytgobbgpmdfnfhaadoor", sum := "ae9c561c8614d47dc15e6b000f2fbd68d2cf24417f961b13c9a8aa5725fe1ffa", func := "shibboleth/shibbolethlaw09.ConsSteps", spec := "consSteps", inPlace := ["internal/bytealg.IndexByteString"], unfollowed := true, recurses := true, named := ["math/bits.deBruijn64tab"], plainKeys := false, apart := false, laid := [("math/bits.deBruijn64tab", laid_math_bits_deBruijn64tab)] }
def ConsStepsSaid : Prop := consStepsRow.holds Tryd.pinned (OpenSpec.ofChange consStepsSpec)

/-- ITS FALSE NEIGHBOUR: 'it returns false'. Refute it at one input. -/
def consStepsWrong : ChangeSpec := { name := "consSteps", fn := fun _ => fun
  | [d1, d2, d3] => { results := [.lit (.bool false)], args := [d1, d2, d3] }
  | _ => none }
def ConsStepsWrongFalsely : Prop := consStepsRow.holds Tryd.pinned (OpenSpec.ofChange consStepsWrong)

/-- 'shibbolethlaw09.ConsClasses': WHATEVER THE INPUT: true; the input reads as it did. -/
def consClassesSpec : ChangeSpec := { name := "consClasses", fn := fun _ => fun
  | [d1, d2, d3, d4] => { results := [.lit (.bool true)], args := [d1, d2, d3, d4] }
  | _ => none }
def consClassesRow : OpenClaim := { program := "ytgobbgpmdfnfhaadoor", sum := "ae9c561c8614d47dc15e6b000f2fbd68d2cf24417f961b13c9a8aa5725fe1ffa", func := "shibboleth/shibbolethlaw09.ConsClasses", spec := "consClasses", inPlace := ["internal/bytealg.IndexByteString"], unfollowed := true, recurses := true, named := ["math/bits.deBruijn64tab"], plainKeys := false, apart := false, laid := [("math/bits.deBruijn64tab", laid_math_bits_deBruijn64tab)] }
def ConsClassesSaid : Prop := consClassesRow.holds Tryd.pinned (OpenSpec.ofChange consClassesSpec)

/-- ITS FALSE NEIGHBOUR: 'it returns false'. Refute it at one input. -/
def consClassesWrong : ChangeSpec := { name := "consClasses", fn := fun _ => fun
  | [d1, d2, d3, d4] => { results := [.lit (.bool false)], args := [d1, d2, d3, d4] }
  | _ => none }
def ConsClassesWrongFalsely : Prop := consClassesRow.holds Tryd.pinned (OpenSpec.ofChange consClassesWrong)

/- THE SECOND FORM. 'bulk': how many values and letters a reading holds, each counted each time it is reached (what is shared counts as often as it is met; a slice's spare places count too). A statement '..UptoSaid' is the law's where the arguments, and the package variables that the reading takes, are together of bulk at most 1048576: NARROWER than '..Said'. Prove '..Said' where nothing that the law and all that it calls make is longer than what came in: it says more and counts as full. Else prove '..UptoSaid'. A law counts once. -/
mutual
def uptoBulk {H : Type} : DataW H → Nat
  | .lit (.string bytes) => bytes.length + 1
  | .lit _ => 1
  | .nil => 1
  | .ptr d => uptoBulk d + 1
  | .slice elems spare => uptoBulkAll elems + uptoBulkAll spare + 1
  | .agg parts => uptoBulkAll parts + 1
  | .iface _ d => uptoBulk d + 1
  | .map entries => uptoBulkEntries entries + 1
  | .held _ => 1
def uptoBulkAll {H : Type} : List (DataW H) → Nat
  | [] => 0
  | d :: r => uptoBulk d + uptoBulkAll r
def uptoBulkEntries {H : Type} : List (Lit × DataW H) → Nat
  | [] => 0
  | x :: r => uptoBulkEntry x + uptoBulkEntries r
def uptoBulkEntry {H : Type} : Lit × DataW H → Nat
  | (.string bytes, d) => bytes.length + uptoBulk d + 1
  | (_, d) => uptoBulk d + 1
 end
def uptoSmall : (H : Type) → List (DataW H) → Bool := fun _ ds => decide (uptoBulkAll ds ≤ 1048576)
def OpenSpec.upto (s : _root_.Go.ChangeSpec) : _root_.Go.OpenSpec := { _root_.Go.OpenSpec.ofChange s with cond := some uptoSmall }

/-- 'shibbolethlaw08.SpotsKnown', WHERE WHAT IT READS IS OF BULK AT MOST 1048576: true; the input reads as it did. -/
def spotsKnownUptoRow : OpenClaim := { program := "ytgobbgpmdfnfhaadoor", sum := "ae9c561c8614d47dc15e6b000f2fbd68d2cf24417f961b13c9a8aa5725fe1ffa", func := "shibboleth/shibbolethlaw08.SpotsKnown", spec := "spotsKnown", inPlace := ["internal/bytealg.IndexByteString"], unfollowed := true, recurses := true, named := ["math/bits.deBruijn64tab"], plainKeys := false, apart := false, laid := [("math/bits.deBruijn64tab", laid_math_bits_deBruijn64tab)], narrowed := true }
def SpotsKnownUptoSaid : Prop := spotsKnownUptoRow.holds Tryd.pinned (OpenSpec.upto spotsKnownSpec)

/-- 'shibbolethlaw08.SpotsTimes', WHERE WHAT IT READS IS OF BULK AT MOST 1048576: true; the input reads as it did. -/
def spotsTimesUptoRow : OpenClaim := { program := "ytgobbgpmdfnfhaadoor", sum := "ae9c561c8614d47dc15e6b000f2fbd68d2cf24417f961b13c9a8aa5725fe1ffa", func := "shibboleth/shibbolethlaw08.SpotsTimes", spec := "spotsTimes", inPlace := ["internal/bytealg.IndexByteString"], unfollowed := true, recurses := true, named := ["math/bits.deBruijn64tab"], plainKeys := false, apart := false, laid := [("math/bits.deBruijn64tab", laid_math_bits_deBruijn64tab)], narrowed := true }
def SpotsTimesUptoSaid : Prop := spotsTimesUptoRow.holds Tryd.pinned (OpenSpec.upto spotsTimesSpec)

/-- 'shibbolethlaw08.SpotsApart', WHERE WHAT IT READS IS OF BULK AT MOST 1048576: true; the input reads as it did. -/
def spotsApartUptoRow : OpenClaim := { program := "ytgobbgpmdfnfhaadoor", sum := "ae9c561c8614d47dc15e6b000f2fbd68d2cf24417f961b13c9a8aa5725fe1ffa", func := "shibboleth/shibbolethlaw08.SpotsApart", spec := "spotsApart", inPlace := ["internal/bytealg.IndexByteString"], unfollowed := true, recurses := true, named := ["math/bits.deBruijn64tab"], plainKeys := false, apart := false, laid := [("math/bits.deBruijn64tab", laid_math_bits_deBruijn64tab)], narrowed := true }
def SpotsApartUptoSaid : Prop := spotsApartUptoRow.holds Tryd.pinned (OpenSpec.upto spotsApartSpec)

/-- 'shibbolethlaw09.ConsKnown', WHERE WHAT IT READS IS OF BULK AT MOST 1048576: true; the input reads as it did. -/
def consKnownUptoRow : OpenClaim := { program := "ytgobbgpmdfnfhaadoor", sum := "ae9c561c8614d47dc15e6b000f2fbd68d2cf24417f961b13c9a8aa5725fe1ffa", func := "shibboleth/shibbolethlaw09.ConsKnown", spec := "consKnown", inPlace := ["internal/bytealg.IndexByteString"], unfollowed := true, recurses := true, named := ["math/bits.deBruijn64tab"], plainKeys := false, apart := false, laid := [("math/bits.deBruijn64tab", laid_math_bits_deBruijn64tab)], narrowed := true }
def ConsKnownUptoSaid : Prop := consKnownUptoRow.holds Tryd.pinned (OpenSpec.upto consKnownSpec)

/-- 'shibbolethlaw09.ConsStates', WHERE WHAT IT READS IS OF BULK AT MOST 1048576: true; the input reads as it did. -/
def consStatesUptoRow : OpenClaim := { program := "ytgobbgpmdfnfhaadoor", sum := "ae9c561c8614d47dc15e6b000f2fbd68d2cf24417f961b13c9a8aa5725fe1ffa", func := "shibboleth/shibbolethlaw09.ConsStates", spec := "consStates", inPlace := ["internal/bytealg.IndexByteString"], unfollowed := true, recurses := true, named := ["math/bits.deBruijn64tab"], plainKeys := false, apart := false, laid := [("math/bits.deBruijn64tab", laid_math_bits_deBruijn64tab)], narrowed := true }
def ConsStatesUptoSaid : Prop := consStatesUptoRow.holds Tryd.pinned (OpenSpec.upto consStatesSpec)

/-- 'shibbolethlaw09.ConsBool', WHERE WHAT IT READS IS OF BULK AT MOST 1048576: true; the input reads as it did. -/
def consBoolUptoRow : OpenClaim := { program := "ytgobbgpmdfnfhaadoor", sum := "ae9c561c8614d47dc15e6b000f2fbd68d2cf24417f961b13c9a8aa5725fe1ffa", func := "shibboleth/shibbolethlaw09.ConsBool", spec := "consBool", inPlace := ["internal/bytealg.IndexByteString"], unfollowed := true, recurses := true, named := ["math/bits.deBruijn64tab"], plainKeys := false, apart := false, laid := [("math/bits.deBruijn64tab", laid_math_bits_deBruijn64tab)], narrowed := true }
def ConsBoolUptoSaid : Prop := consBoolUptoRow.holds Tryd.pinned (OpenSpec.upto consBoolSpec)

/-- 'shibbolethlaw09.ConsSteps', WHERE WHAT IT READS IS OF BULK AT MOST 1048576: true; the input reads as it did. -/
def consStepsUptoRow : OpenClaim := { program := "ytgobbgpmdfnfhaadoor", sum := "ae9c561c8614d47dc15e6b000f2fbd68d2cf24417f961b13c9a8aa5725fe1ffa", func := "shibboleth/shibbolethlaw09.ConsSteps", spec := "consSteps", inPlace := ["internal/bytealg.IndexByteString"], unfollowed := true, recurses := true, named := ["math/bits.deBruijn64tab"], plainKeys := false, apart := false, laid := [("math/bits.deBruijn64tab", laid_math_bits_deBruijn64tab)], narrowed := true }
def ConsStepsUptoSaid : Prop := consStepsUptoRow.holds Tryd.pinned (OpenSpec.upto consStepsSpec)

/-- 'shibbolethlaw09.ConsClasses', WHERE WHAT IT READS IS OF BULK AT MOST 1048576: true; the input reads as it did. -/
def consClassesUptoRow : OpenClaim := { program := "ytgobbgpmdfnfhaadoor", sum := "ae9c561c8614d47dc15e6b000f2fbd68d2cf24417f961b13c9a8aa5725fe1ffa", func := "shibboleth/shibbolethlaw09.ConsClasses", spec := "consClasses", inPlace := ["internal/bytealg.IndexByteString"], unfollowed := true, recurses := true, named := ["math/bits.deBruijn64tab"], plainKeys := false, apart := false, laid := [("math/bits.deBruijn64tab", laid_math_bits_deBruijn64tab)], narrowed := true }
def ConsClassesUptoSaid : Prop := consClassesUptoRow.holds Tryd.pinned (OpenSpec.upto consClassesSpec)

end Rows
end Go.Proofs.YtgobbgpmdfnfhaaDoor
