/-
  NARROWER THAN 'FOR EVERY INPUT', by the rows' own cells (each row's printed sentence says how): DfaClasses: laid · DfaBuilds: laid · DfaReached: laid · DfaTakes: laid · SpotsKnown: laid · SpotsTimes: laid · DfaKnown: laid · SpotsApart: laid · SeekWords: laid · SeekPaths: laid · SeekOrder: laid · SeekKnown: laid · SeekLeast: laid · ConsKnown: laid · SeekPath: laid.
  DERIVED. THE GIVEN ROWS OF THIS SEAT. 15 by the template 'for every input the law returns true; each argument reads behind the call as it read before'; 0 by the template 'total and deterministic' (their statements: YtfoemogojbnfhaaDoorTotals.lean).
  GIVEN WITH THE SEED: the statements are not yours to turn. If you find one false, say at which input.
  Laid BY PROGRAM, IN A SANDBOX (cutbox-rows.mjs): the forced cells as the released guide's own fill.sh prints them over the translation 7ad7cc0974c6128f… (all of the seat's roots in one cut). By AI agents, Wed Nov 11 2026. No macro, syntax, notation, axiom, sorry.
-/
import Derived.Test.YtfoemogojbnfhaaDoorChecked
import GoSem.Claim
import GoSem.ClaimJoined
import GoSem.ClaimMapViews
import Derived.JoinedTies
import Derived.KernelRfl
namespace Go.Proofs.YtfoemogojbnfhaaDoor
/- THE CELL 'sum', in the pinned program and in every row, IS THE sha256 OF THE DUMP (.gsa) THAT YtfoemogojbnfhaaDoorProg.lean LOADS. Nothing in Lean hashes anything: it is a label: what it is worth is what the hold of that sum in a sandbox is worth. -/
noncomputable def Tryd.pinned : Pinned := { name := "ytfoemogojbnfhaadoor", sum := "7ad7cc0974c6128f7aa6ce915bfb2eb63ae2c96c8d304a5b83760dc2e9192168", checked := Tryd.checked }
namespace Rows
def none {H : Type} : Left H := { results := [], args := [] }

/- WHAT THE LISTED PACKAGE-LEVEL VARIABLES READ AS WHEN THE CALL BEGINS. Each datum BY PROGRAM (the guide's laid-datum.mjs) off the statement by which the dump's own 'gosem.cut.vars' lays the variable. In a bare row this is a premise. The card (YtfoemogojbnfhaaDoorCards.lean) ties it to the program's text. -/
def laid_math_bits_deBruijn64tab {H : Type} : DataW H := .agg [.lit (.int .u8 0), .lit (.int .u8 1), .lit (.int .u8 56), .lit (.int .u8 2), .lit (.int .u8 57), .lit (.int .u8 49), .lit (.int .u8 28), .lit (.int .u8 3), .lit (.int .u8 61), .lit (.int .u8 58), .lit (.int .u8 42), .lit (.int .u8 50), .lit (.int .u8 38), .lit (.int .u8 29), .lit (.int .u8 17), .lit (.int .u8 4), .lit (.int .u8 62), .lit (.int .u8 47), .lit (.int .u8 59), .lit (.int .u8 36), .lit (.int .u8 45), .lit (.int .u8 43), .lit (.int .u8 51), .lit (.int .u8 22), .lit (.int .u8 53), .lit (.int .u8 39), .lit (.int .u8 33), .lit (.int .u8 30), .lit (.int .u8 24), .lit (.int .u8 18), .lit (.int .u8 12), .lit (.int .u8 5), .lit (.int .u8 63), .lit (.int .u8 55), .lit (.int .u8 48), .lit (.int .u8 27), .lit (.int .u8 60), .lit (.int .u8 41), .lit (.int .u8 37), .lit (.int .u8 16), .lit (.int .u8 46), .lit (.int .u8 35), .lit (.int .u8 44), .lit (.int .u8 21), .lit (.int .u8 52), .lit (.int .u8 32), .lit (.int .u8 23), .lit (.int .u8 11), .lit (.int .u8 54), .lit (.int .u8 26), .lit (.int .u8 40), .lit (.int .u8 15), .lit (.int .u8 34), .lit (.int .u8 20), .lit (.int .u8 31), .lit (.int .u8 10), .lit (.int .u8 25), .lit (.int .u8 14), .lit (.int .u8 19), .lit (.int .u8 9), .lit (.int .u8 13), .lit (.int .u8 8), .lit (.int .u8 7), .lit (.int .u8 6)]

/-- 'shibbolethlaw11.DfaClasses': WHATEVER THE INPUT: true; the input reads as it did. -/
def dfaClassesSpec : ChangeSpec := { name := "dfaClasses", fn := fun _ => fun
  | [d1, d2] => { results := [.lit (.bool true)], args := [d1, d2] }
  | _ => none }
def dfaClassesRow : OpenClaim := { program := "ytfoemogojbnfhaadoor", sum := "7ad7cc0974c6128f7aa6ce915bfb2eb63ae2c96c8d304a5b83760dc2e9192168", func := "shibboleth/shibbolethlaw11.DfaClasses", spec := "dfaClasses", inPlace := ["math.archFloor", "math.Float64bits", "math.Float64frombits", "math.archTrunc"], unfollowed := true, recurses := true, named := ["math/bits.deBruijn64tab"], plainKeys := false, apart := false, laid := [("math/bits.deBruijn64tab", laid_math_bits_deBruijn64tab)] }
def DfaClassesSaid : Prop := dfaClassesRow.holds Tryd.pinned (OpenSpec.ofChange dfaClassesSpec)

/-- ITS FALSE NEIGHBOUR: 'it returns false'. Refute it at one input. -/
def dfaClassesWrong : ChangeSpec := { name := "dfaClasses", fn := fun _ => fun
  | [d1, d2] => { results := [.lit (.bool false)], args := [d1, d2] }
  | _ => none }
def DfaClassesWrongFalsely : Prop := dfaClassesRow.holds Tryd.pinned (OpenSpec.ofChange dfaClassesWrong)

/-- 'shibbolethlaw11.DfaBuilds': WHATEVER THE INPUT: true; the input reads as it did. -/
def dfaBuildsSpec : ChangeSpec := { name := "dfaBuilds", fn := fun _ => fun
  | [d1, d2, d3, d4] => { results := [.lit (.bool true)], args := [d1, d2, d3, d4] }
  | _ => none }
def dfaBuildsRow : OpenClaim := { program := "ytfoemogojbnfhaadoor", sum := "7ad7cc0974c6128f7aa6ce915bfb2eb63ae2c96c8d304a5b83760dc2e9192168", func := "shibboleth/shibbolethlaw11.DfaBuilds", spec := "dfaBuilds", inPlace := ["math.archFloor", "math.Float64bits", "math.Float64frombits", "math.archTrunc"], unfollowed := true, recurses := true, named := ["math/bits.deBruijn64tab"], plainKeys := false, apart := false, laid := [("math/bits.deBruijn64tab", laid_math_bits_deBruijn64tab)] }
def DfaBuildsSaid : Prop := dfaBuildsRow.holds Tryd.pinned (OpenSpec.ofChange dfaBuildsSpec)

/-- ITS FALSE NEIGHBOUR: 'it returns false'. Refute it at one input. -/
def dfaBuildsWrong : ChangeSpec := { name := "dfaBuilds", fn := fun _ => fun
  | [d1, d2, d3, d4] => { results := [.lit (.bool false)], args := [d1, d2, d3, d4] }
  | _ => none }
def DfaBuildsWrongFalsely : Prop := dfaBuildsRow.holds Tryd.pinned (OpenSpec.ofChange dfaBuildsWrong)

/-- 'shibbolethlaw11.DfaReached': WHATEVER THE INPUT: true; the input reads as it did. -/
def dfaReachedSpec : ChangeSpec := { name := "dfaReached", fn := fun _ => fun
  | [d1, d2] => { results := [.lit (.bool true)], args := [d1, d2] }
  | _ => none }
def dfaReachedRow : OpenClaim := { program := "ytfoemogojbnfhaadoor", sum := "7ad7cc0974c6128f7aa6ce915bfb2eb63ae2c96c8d304a5b83760dc2e9192168", func := "shibboleth/shibbolethlaw11.DfaReached", spec := "dfaReached", inPlace := ["math.archFloor", "math.Float64bits", "math.Float64frombits", "math.archTrunc"], unfollowed := true, recurses := true, named := ["math/bits.deBruijn64tab"], plainKeys := false, apart := false, laid := [("math/bits.deBruijn64tab", laid_math_bits_deBruijn64tab)] }
def DfaReachedSaid : Prop := dfaReachedRow.holds Tryd.pinned (OpenSpec.ofChange dfaReachedSpec)

/-- ITS FALSE NEIGHBOUR: 'it returns false'. Refute it at one input. -/
def dfaReachedWrong : ChangeSpec := { name := "dfaReached", fn := fun _ => fun
  | [d1, d2] => { results := [.lit (.bool false)], args := [d1, d2] }
  | _ => none }
def DfaReachedWrongFalsely : Prop := dfaReachedRow.holds Tryd.pinned (OpenSpec.ofChange dfaReachedWrong)

/-- 'shibbolethlaw11.DfaTakes': WHATEVER THE INPUT: true; the input reads as it did. -/
def dfaTakesSpec : ChangeSpec := { name := "dfaTakes", fn := fun _ => fun
  | [d1, d2, d3] => { results := [.lit (.bool true)], args := [d1, d2, d3] }
  | _ => none }
def dfaTakesRow : OpenClaim := { program := "ytfoemogojbnfhaadoor", sum := "7ad7cc0974c6128f7aa6ce915bfb2eb63ae2c96c8d304a5b83760dc2e9192168", func := "shibboleth/shibbolethlaw11.DfaTakes", spec := "dfaTakes", inPlace := ["math.archFloor", "math.Float64bits", "math.Float64frombits", "math.archTrunc"], unfollowed := true, recurses := true, named := ["math/bits.deBruijn64tab"], plainKeys := false, apart := false, laid := [("math/bits.deBruijn64tab", laid_math_bits_deBruijn64tab)] }
def DfaTakesSaid : Prop := dfaTakesRow.holds Tryd.pinned (OpenSpec.ofChange dfaTakesSpec)

/-- ITS FALSE NEIGHBOUR: 'it returns false'. Refute it at one input. -/
def dfaTakesWrong : ChangeSpec := { name := "dfaTakes", fn := fun _ => fun
  | [d1, d2, d3] => { results := [.lit (.bool false)], args := [d1, d2, d3] }
  | _ => none }
def DfaTakesWrongFalsely : Prop := dfaTakesRow.holds Tryd.pinned (OpenSpec.ofChange dfaTakesWrong)

/-- 'shibbolethlaw08.SpotsKnown': WHATEVER THE INPUT: true; the input reads as it did. -/
def spotsKnownSpec : ChangeSpec := { name := "spotsKnown", fn := fun _ => fun
  | [] => { results := [.lit (.bool true)], args := [] }
  | _ => none }
def spotsKnownRow : OpenClaim := { program := "ytfoemogojbnfhaadoor", sum := "7ad7cc0974c6128f7aa6ce915bfb2eb63ae2c96c8d304a5b83760dc2e9192168", func := "shibboleth/shibbolethlaw08.SpotsKnown", spec := "spotsKnown", inPlace := ["internal/bytealg.IndexByteString"], unfollowed := true, recurses := true, named := ["math/bits.deBruijn64tab"], plainKeys := false, apart := false, laid := [("math/bits.deBruijn64tab", laid_math_bits_deBruijn64tab)] }
def SpotsKnownSaid : Prop := spotsKnownRow.holds Tryd.pinned (OpenSpec.ofChange spotsKnownSpec)

/-- ITS FALSE NEIGHBOUR: 'it returns false'. Refute it at one input. -/
def spotsKnownWrong : ChangeSpec := { name := "spotsKnown", fn := fun _ => fun
  | [] => { results := [.lit (.bool false)], args := [] }
  | _ => none }
def SpotsKnownWrongFalsely : Prop := spotsKnownRow.holds Tryd.pinned (OpenSpec.ofChange spotsKnownWrong)

/-- 'shibbolethlaw08.SpotsTimes': WHATEVER THE INPUT: true; the input reads as it did. -/
def spotsTimesSpec : ChangeSpec := { name := "spotsTimes", fn := fun _ => fun
  | [d] => { results := [.lit (.bool true)], args := [d] }
  | _ => none }
def spotsTimesRow : OpenClaim := { program := "ytfoemogojbnfhaadoor", sum := "7ad7cc0974c6128f7aa6ce915bfb2eb63ae2c96c8d304a5b83760dc2e9192168", func := "shibboleth/shibbolethlaw08.SpotsTimes", spec := "spotsTimes", inPlace := ["internal/bytealg.IndexByteString"], unfollowed := true, recurses := true, named := ["math/bits.deBruijn64tab"], plainKeys := false, apart := false, laid := [("math/bits.deBruijn64tab", laid_math_bits_deBruijn64tab)] }
def SpotsTimesSaid : Prop := spotsTimesRow.holds Tryd.pinned (OpenSpec.ofChange spotsTimesSpec)

/-- ITS FALSE NEIGHBOUR: 'it returns false'. Refute it at one input. -/
def spotsTimesWrong : ChangeSpec := { name := "spotsTimes", fn := fun _ => fun
  | [d] => { results := [.lit (.bool false)], args := [d] }
  | _ => none }
def SpotsTimesWrongFalsely : Prop := spotsTimesRow.holds Tryd.pinned (OpenSpec.ofChange spotsTimesWrong)

/-- 'shibbolethlaw11.DfaKnown': WHATEVER THE INPUT: true; the input reads as it did. -/
def dfaKnownSpec : ChangeSpec := { name := "dfaKnown", fn := fun _ => fun
  | [] => { results := [.lit (.bool true)], args := [] }
  | _ => none }
def dfaKnownRow : OpenClaim := { program := "ytfoemogojbnfhaadoor", sum := "7ad7cc0974c6128f7aa6ce915bfb2eb63ae2c96c8d304a5b83760dc2e9192168", func := "shibboleth/shibbolethlaw11.DfaKnown", spec := "dfaKnown", inPlace := ["math.archFloor", "math.Float64bits", "math.Float64frombits", "math.archTrunc"], unfollowed := true, recurses := true, named := ["math/bits.deBruijn64tab"], plainKeys := false, apart := false, laid := [("math/bits.deBruijn64tab", laid_math_bits_deBruijn64tab)] }
def DfaKnownSaid : Prop := dfaKnownRow.holds Tryd.pinned (OpenSpec.ofChange dfaKnownSpec)

/-- ITS FALSE NEIGHBOUR: 'it returns false'. Refute it at one input. -/
def dfaKnownWrong : ChangeSpec := { name := "dfaKnown", fn := fun _ => fun
  | [] => { results := [.lit (.bool false)], args := [] }
  | _ => none }
def DfaKnownWrongFalsely : Prop := dfaKnownRow.holds Tryd.pinned (OpenSpec.ofChange dfaKnownWrong)

/-- 'shibbolethlaw08.SpotsApart': WHATEVER THE INPUT: true; the input reads as it did. -/
def spotsApartSpec : ChangeSpec := { name := "spotsApart", fn := fun _ => fun
  | [d] => { results := [.lit (.bool true)], args := [d] }
  | _ => none }
def spotsApartRow : OpenClaim := { program := "ytfoemogojbnfhaadoor", sum := "7ad7cc0974c6128f7aa6ce915bfb2eb63ae2c96c8d304a5b83760dc2e9192168", func := "shibboleth/shibbolethlaw08.SpotsApart", spec := "spotsApart", inPlace := ["internal/bytealg.IndexByteString"], unfollowed := true, recurses := true, named := ["math/bits.deBruijn64tab"], plainKeys := false, apart := false, laid := [("math/bits.deBruijn64tab", laid_math_bits_deBruijn64tab)] }
def SpotsApartSaid : Prop := spotsApartRow.holds Tryd.pinned (OpenSpec.ofChange spotsApartSpec)

/-- ITS FALSE NEIGHBOUR: 'it returns false'. Refute it at one input. -/
def spotsApartWrong : ChangeSpec := { name := "spotsApart", fn := fun _ => fun
  | [d] => { results := [.lit (.bool false)], args := [d] }
  | _ => none }
def SpotsApartWrongFalsely : Prop := spotsApartRow.holds Tryd.pinned (OpenSpec.ofChange spotsApartWrong)

/-- 'shibbolethlaw13.SeekWords': WHATEVER THE INPUT: true; the input reads as it did. -/
def seekWordsSpec : ChangeSpec := { name := "seekWords", fn := fun _ => fun
  | [d1, d2, d3] => { results := [.lit (.bool true)], args := [d1, d2, d3] }
  | _ => none }
def seekWordsRow : OpenClaim := { program := "ytfoemogojbnfhaadoor", sum := "7ad7cc0974c6128f7aa6ce915bfb2eb63ae2c96c8d304a5b83760dc2e9192168", func := "shibboleth/shibbolethlaw13.SeekWords", spec := "seekWords", inPlace := ["math.archFloor", "math.Float64bits", "math.Float64frombits", "math.archTrunc", "internal/bytealg.abigen_runtime_cmpstring"], unfollowed := true, recurses := true, named := ["math/bits.deBruijn64tab"], plainKeys := false, apart := false, laid := [("math/bits.deBruijn64tab", laid_math_bits_deBruijn64tab)] }
def SeekWordsSaid : Prop := seekWordsRow.holds Tryd.pinned (OpenSpec.ofChange seekWordsSpec)

/-- ITS FALSE NEIGHBOUR: 'it returns false'. Refute it at one input. -/
def seekWordsWrong : ChangeSpec := { name := "seekWords", fn := fun _ => fun
  | [d1, d2, d3] => { results := [.lit (.bool false)], args := [d1, d2, d3] }
  | _ => none }
def SeekWordsWrongFalsely : Prop := seekWordsRow.holds Tryd.pinned (OpenSpec.ofChange seekWordsWrong)

/-- 'shibbolethlaw13.SeekPaths': WHATEVER THE INPUT: true; the input reads as it did. -/
def seekPathsSpec : ChangeSpec := { name := "seekPaths", fn := fun _ => fun
  | [d] => { results := [.lit (.bool true)], args := [d] }
  | _ => none }
def seekPathsRow : OpenClaim := { program := "ytfoemogojbnfhaadoor", sum := "7ad7cc0974c6128f7aa6ce915bfb2eb63ae2c96c8d304a5b83760dc2e9192168", func := "shibboleth/shibbolethlaw13.SeekPaths", spec := "seekPaths", inPlace := ["math.archFloor", "math.Float64bits", "math.Float64frombits", "math.archTrunc", "internal/bytealg.abigen_runtime_cmpstring"], unfollowed := true, recurses := true, named := ["math/bits.deBruijn64tab"], plainKeys := false, apart := false, laid := [("math/bits.deBruijn64tab", laid_math_bits_deBruijn64tab)] }
def SeekPathsSaid : Prop := seekPathsRow.holds Tryd.pinned (OpenSpec.ofChange seekPathsSpec)

/-- ITS FALSE NEIGHBOUR: 'it returns false'. Refute it at one input. -/
def seekPathsWrong : ChangeSpec := { name := "seekPaths", fn := fun _ => fun
  | [d] => { results := [.lit (.bool false)], args := [d] }
  | _ => none }
def SeekPathsWrongFalsely : Prop := seekPathsRow.holds Tryd.pinned (OpenSpec.ofChange seekPathsWrong)

/-- 'shibbolethlaw13.SeekOrder': WHATEVER THE INPUT: true; the input reads as it did. -/
def seekOrderSpec : ChangeSpec := { name := "seekOrder", fn := fun _ => fun
  | [d1, d2, d3] => { results := [.lit (.bool true)], args := [d1, d2, d3] }
  | _ => none }
def seekOrderRow : OpenClaim := { program := "ytfoemogojbnfhaadoor", sum := "7ad7cc0974c6128f7aa6ce915bfb2eb63ae2c96c8d304a5b83760dc2e9192168", func := "shibboleth/shibbolethlaw13.SeekOrder", spec := "seekOrder", inPlace := ["math.archFloor", "math.Float64bits", "math.Float64frombits", "math.archTrunc", "internal/bytealg.abigen_runtime_cmpstring"], unfollowed := true, recurses := true, named := ["math/bits.deBruijn64tab"], plainKeys := false, apart := false, laid := [("math/bits.deBruijn64tab", laid_math_bits_deBruijn64tab)] }
def SeekOrderSaid : Prop := seekOrderRow.holds Tryd.pinned (OpenSpec.ofChange seekOrderSpec)

/-- ITS FALSE NEIGHBOUR: 'it returns false'. Refute it at one input. -/
def seekOrderWrong : ChangeSpec := { name := "seekOrder", fn := fun _ => fun
  | [d1, d2, d3] => { results := [.lit (.bool false)], args := [d1, d2, d3] }
  | _ => none }
def SeekOrderWrongFalsely : Prop := seekOrderRow.holds Tryd.pinned (OpenSpec.ofChange seekOrderWrong)

/-- 'shibbolethlaw13.SeekKnown': WHATEVER THE INPUT: true; the input reads as it did. -/
def seekKnownSpec : ChangeSpec := { name := "seekKnown", fn := fun _ => fun
  | [] => { results := [.lit (.bool true)], args := [] }
  | _ => none }
def seekKnownRow : OpenClaim := { program := "ytfoemogojbnfhaadoor", sum := "7ad7cc0974c6128f7aa6ce915bfb2eb63ae2c96c8d304a5b83760dc2e9192168", func := "shibboleth/shibbolethlaw13.SeekKnown", spec := "seekKnown", inPlace := ["math.archFloor", "math.Float64bits", "math.Float64frombits", "math.archTrunc", "internal/bytealg.abigen_runtime_cmpstring"], unfollowed := true, recurses := true, named := ["math/bits.deBruijn64tab"], plainKeys := false, apart := false, laid := [("math/bits.deBruijn64tab", laid_math_bits_deBruijn64tab)] }
def SeekKnownSaid : Prop := seekKnownRow.holds Tryd.pinned (OpenSpec.ofChange seekKnownSpec)

/-- ITS FALSE NEIGHBOUR: 'it returns false'. Refute it at one input. -/
def seekKnownWrong : ChangeSpec := { name := "seekKnown", fn := fun _ => fun
  | [] => { results := [.lit (.bool false)], args := [] }
  | _ => none }
def SeekKnownWrongFalsely : Prop := seekKnownRow.holds Tryd.pinned (OpenSpec.ofChange seekKnownWrong)

/-- 'shibbolethlaw13.SeekLeast': WHATEVER THE INPUT: true; the input reads as it did. -/
def seekLeastSpec : ChangeSpec := { name := "seekLeast", fn := fun _ => fun
  | [d1, d2] => { results := [.lit (.bool true)], args := [d1, d2] }
  | _ => none }
def seekLeastRow : OpenClaim := { program := "ytfoemogojbnfhaadoor", sum := "7ad7cc0974c6128f7aa6ce915bfb2eb63ae2c96c8d304a5b83760dc2e9192168", func := "shibboleth/shibbolethlaw13.SeekLeast", spec := "seekLeast", inPlace := ["math.archFloor", "math.Float64bits", "math.Float64frombits", "math.archTrunc", "internal/bytealg.abigen_runtime_cmpstring"], unfollowed := true, recurses := true, named := ["math/bits.deBruijn64tab"], plainKeys := false, apart := false, laid := [("math/bits.deBruijn64tab", laid_math_bits_deBruijn64tab)] }
def SeekLeastSaid : Prop := seekLeastRow.holds Tryd.pinned (OpenSpec.ofChange seekLeastSpec)

/-- ITS FALSE NEIGHBOUR: 'it returns false'. Refute it at one input. -/
def seekLeastWrong : ChangeSpec := { name := "seekLeast", fn := fun _ => fun
  | [d1, d2] => { results := [.lit (.bool false)], args := [d1, d2] }
  | _ => none }
def SeekLeastWrongFalsely : Prop := seekLeastRow.holds Tryd.pinned (OpenSpec.ofChange seekLeastWrong)

/-- 'shibbolethlaw09.ConsKnown': WHATEVER THE INPUT: true; the input reads as it did. -/
def consKnownSpec : ChangeSpec := { name := "consKnown", fn := fun _ => fun
  | [] => { results := [.lit (.bool true)], args := [] }
  | _ => none }
def consKnownRow : OpenClaim := { program := "ytfoemogojbnfhaadoor", sum := "7ad7cc0974c6128f7aa6ce915bfb2eb63ae2c96c8d304a5b83760dc2e9192168", func := "shibboleth/shibbolethlaw09.ConsKnown", spec := "consKnown", inPlace := ["internal/bytealg.IndexByteString"], unfollowed := true, recurses := true, named := ["math/bits.deBruijn64tab"], plainKeys := false, apart := false, laid := [("math/bits.deBruijn64tab", laid_math_bits_deBruijn64tab)] }
def ConsKnownSaid : Prop := consKnownRow.holds Tryd.pinned (OpenSpec.ofChange consKnownSpec)

/-- ITS FALSE NEIGHBOUR: 'it returns false'. Refute it at one input. -/
def consKnownWrong : ChangeSpec := { name := "consKnown", fn := fun _ => fun
  | [] => { results := [.lit (.bool false)], args := [] }
  | _ => none }
def ConsKnownWrongFalsely : Prop := consKnownRow.holds Tryd.pinned (OpenSpec.ofChange consKnownWrong)

/-- 'shibbolethlaw13.SeekPath': WHATEVER THE INPUT: true; the input reads as it did. -/
def seekPathSpec : ChangeSpec := { name := "seekPath", fn := fun _ => fun
  | [d1, d2] => { results := [.lit (.bool true)], args := [d1, d2] }
  | _ => none }
def seekPathRow : OpenClaim := { program := "ytfoemogojbnfhaadoor", sum := "7ad7cc0974c6128f7aa6ce915bfb2eb63ae2c96c8d304a5b83760dc2e9192168", func := "shibboleth/shibbolethlaw13.SeekPath", spec := "seekPath", inPlace := ["math.archFloor", "math.Float64bits", "math.Float64frombits", "math.archTrunc", "internal/bytealg.abigen_runtime_cmpstring"], unfollowed := true, recurses := true, named := ["math/bits.deBruijn64tab"], plainKeys := false, apart := false, laid := [("math/bits.deBruijn64tab", laid_math_bits_deBruijn64tab)] }
def SeekPathSaid : Prop := seekPathRow.holds Tryd.pinned (OpenSpec.ofChange seekPathSpec)

/-- ITS FALSE NEIGHBOUR: 'it returns false'. Refute it at one input. -/
def seekPathWrong : ChangeSpec := { name := "seekPath", fn := fun _ => fun
  | [d1, d2] => { results := [.lit (.bool false)], args := [d1, d2] }
  | _ => none }
def SeekPathWrongFalsely : Prop := seekPathRow.holds Tryd.pinned (OpenSpec.ofChange seekPathWrong)

/- THE SECOND FORM. 'bulk': how many values and letters a reading holds, each counted each time it is reached (what is shared counts as often as it is met; a slice's spare places count too). A statement '..UptoSaid' is the law's where the arguments, and the package variables that the reading takes, are together of bulk at most 1048576: NARROWER than '..Said'. Prove '..Said' where nothing that the law and all that it calls make is longer than what came in: it says more and counts as full. Else prove '..UptoSaid'. A law counts once. -/
mutual
def uptoBulk {H : Type} : DataW H → Nat
  | .lit (.string bytes) => bytes.length + 1
  | .lit _ => 1
  | .nil => 1
  | .ptr d => uptoBulk d + 1
  | .slice elems spare => uptoBulkAll elems + uptoBulkAll spare + 1
  | .agg parts => uptoBulkAll parts + 1
  | .iface _ d => uptoBulk d + 1
  | .map entries => uptoBulkEntries entries + 1
  | .held _ => 1
def uptoBulkAll {H : Type} : List (DataW H) → Nat
  | [] => 0
  | d :: r => uptoBulk d + uptoBulkAll r
def uptoBulkEntries {H : Type} : List (Lit × DataW H) → Nat
  | [] => 0
  | x :: r => uptoBulkEntry x + uptoBulkEntries r
def uptoBulkEntry {H : Type} : Lit × DataW H → Nat
  | (.string bytes, d) => bytes.length + uptoBulk d + 1
  | (_, d) => uptoBulk d + 1
 end
def uptoSmall : (H : Type) → List (DataW H) → Bool := fun _ ds => decide (uptoBulkAll ds ≤ 1048576)
def OpenSpec.upto (s : _root_.Go.ChangeSpec) : _root_.Go.OpenSpec := { _root_.Go.OpenSpec.ofChange s with cond := some uptoSmall }

/-- 'shibbolethlaw11.DfaClasses', WHERE WHAT IT READS IS OF BULK AT MOST 1048576: true; the input reads as it did. -/
def dfaClassesUptoRow : OpenClaim := { program := "ytfoemogojbnfhaadoor", sum := "7ad7cc0974c6128f7aa6ce915bfb2eb63ae2c96c8d304a5b83760dc2e9192168", func := "shibboleth/shibbolethlaw11.DfaClasses", spec := "dfaClasses", inPlace := ["math.archFloor", "math.Float64bits", "math.Float64frombits", "math.archTrunc"], unfollowed := true, recurses := true, named := ["math/bits.deBruijn64tab"], plainKeys := false, apart := false, laid := [("math/bits.deBruijn64tab", laid_math_bits_deBruijn64tab)], narrowed := true }
def DfaClassesUptoSaid : Prop := dfaClassesUptoRow.holds Tryd.pinned (OpenSpec.upto dfaClassesSpec)

/-- 'shibbolethlaw11.DfaBuilds', WHERE WHAT IT READS IS OF BULK AT MOST 1048576: true; the input reads as it did. -/
def dfaBuildsUptoRow : OpenClaim := { program := "ytfoemogojbnfhaadoor", sum := "7ad7cc0974c6128f7aa6ce915bfb2eb63ae2c96c8d304a5b83760dc2e9192168", func := "shibboleth/shibbolethlaw11.DfaBuilds", spec := "dfaBuilds", inPlace := ["math.archFloor", "math.Float64bits", "math.Float64frombits", "math.archTrunc"], unfollowed := true, recurses := true, named := ["math/bits.deBruijn64tab"], plainKeys := false, apart := false, laid := [("math/bits.deBruijn64tab", laid_math_bits_deBruijn64tab)], narrowed := true }
def DfaBuildsUptoSaid : Prop := dfaBuildsUptoRow.holds Tryd.pinned (OpenSpec.upto dfaBuildsSpec)

/-- 'shibbolethlaw11.DfaReached', WHERE WHAT IT READS IS OF BULK AT MOST 1048576: true; the input reads as it did. -/
def dfaReachedUptoRow : OpenClaim := { program := "ytfoemogojbnfhaadoor", sum := "7ad7cc0974c6128f7aa6ce915bfb2eb63ae2c96c8d304a5b83760dc2e9192168", func := "shibboleth/shibbolethlaw11.DfaReached", spec := "dfaReached", inPlace := ["math.archFloor", "math.Float64bits", "math.Float64frombits", "math.archTrunc"], unfollowed := true, recurses := true, named := ["math/bits.deBruijn64tab"], plainKeys := false, apart := false, laid := [("math/bits.deBruijn64tab", laid_math_bits_deBruijn64tab)], narrowed := true }
def DfaReachedUptoSaid : Prop := dfaReachedUptoRow.holds Tryd.pinned (OpenSpec.upto dfaReachedSpec)

/-- 'shibbolethlaw11.DfaTakes', WHERE WHAT IT READS IS OF BULK AT MOST 1048576: true; the input reads as it did. -/
def dfaTakesUptoRow : OpenClaim := { program := "ytfoemogojbnfhaadoor", sum := "7ad7cc0974c6128f7aa6ce915bfb2eb63ae2c96c8d304a5b83760dc2e9192168", func := "shibboleth/shibbolethlaw11.DfaTakes", spec := "dfaTakes", inPlace := ["math.archFloor", "math.Float64bits", "math.Float64frombits", "math.archTrunc"], unfollowed := true, recurses := true, named := ["math/bits.deBruijn64tab"], plainKeys := false, apart := false, laid := [("math/bits.deBruijn64tab", laid_math_bits_deBruijn64tab)], narrowed := true }
def DfaTakesUptoSaid : Prop := dfaTakesUptoRow.holds Tryd.pinned (OpenSpec.upto dfaTakesSpec)

/-- 'shibbolethlaw08.SpotsKnown', WHERE WHAT IT READS IS OF BULK AT MOST 1048576: true; the input reads as it did. -/
def spotsKnownUptoRow : OpenClaim := { program := "ytfoemogojbnfhaadoor", sum := "7ad7cc0974c6128f7aa6ce915bfb2eb63ae2c96c8d304a5b83760dc2e9192168", func := "shibboleth/shibbolethlaw08.SpotsKnown", spec := "spotsKnown", inPlace := ["internal/bytealg.IndexByteString"], unfollowed := true, recurses := true, named := ["math/bits.deBruijn64tab"], plainKeys := false, apart := false, laid := [("math/bits.deBruijn64tab", laid_math_bits_deBruijn64tab)], narrowed := true }
def SpotsKnownUptoSaid : Prop := spotsKnownUptoRow.holds Tryd.pinned (OpenSpec.upto spotsKnownSpec)

/-- 'shibbolethlaw08.SpotsTimes', WHERE WHAT IT READS IS OF BULK AT MOST 1048576: true; the input reads as it did. -/
def spotsTimesUptoRow : OpenClaim := { program := "ytfoemogojbnfhaadoor", sum := "7ad7cc0974c6128f7aa6ce915bfb2eb63ae2c96c8d304a5b83760dc2e9192168", func := "shibboleth/shibbolethlaw08.SpotsTimes", spec := "spotsTimes", inPlace := ["internal/bytealg.IndexByteString"], unfollowed := true, recurses := true, named := ["math/bits.deBruijn64tab"], plainKeys := false, apart := false, laid := [("math/bits.deBruijn64tab", laid_math_bits_deBruijn64tab)], narrowed := true }
def SpotsTimesUptoSaid : Prop := spotsTimesUptoRow.holds Tryd.pinned (OpenSpec.upto spotsTimesSpec)

/-- 'shibbolethlaw11.DfaKnown', WHERE WHAT IT READS IS OF BULK AT MOST 1048576: true; the input reads as it did. -/
def dfaKnownUptoRow : OpenClaim := { program := "ytfoemogojbnfhaadoor", sum := "7ad7cc0974c6128f7aa6ce915bfb2eb63ae2c96c8d304a5b83760dc2e9192168", func := "shibboleth/shibbolethlaw11.DfaKnown", spec := "dfaKnown", inPlace := ["math.archFloor", "math.Float64bits", "math.Float64frombits", "math.archTrunc"], unfollowed := true, recurses := true, named := ["math/bits.deBruijn64tab"], plainKeys := false, apart := false, laid := [("math/bits.deBruijn64tab", laid_math_bits_deBruijn64tab)], narrowed := true }
def DfaKnownUptoSaid : Prop := dfaKnownUptoRow.holds Tryd.pinned (OpenSpec.upto dfaKnownSpec)

/-- 'shibbolethlaw08.SpotsApart', WHERE WHAT IT READS IS OF BULK AT MOST 1048576: true; the input reads as it did. -/
def spotsApartUptoRow : OpenClaim := { program := "ytfoemogojbnfhaadoor", sum := "7ad7cc0974c6128f7aa6ce915bfb2eb63ae2c96c8d304a5b83760dc2e9192168", func := "shibboleth/shibbolethlaw08.SpotsApart", spec := "spotsApart", inPlace := ["internal/bytealg.IndexByteString"], unfollowed := true, recurses := true, named := ["math/bits.deBruijn64tab"], plainKeys := false, apart := false, laid := [("math/bits.deBruijn64tab", laid_math_bits_deBruijn64tab)], narrowed := true }
def SpotsApartUptoSaid : Prop := spotsApartUptoRow.holds Tryd.pinned (OpenSpec.upto spotsApartSpec)

/-- 'shibbolethlaw13.SeekWords', WHERE WHAT IT READS IS OF BULK AT MOST 1048576: true; the input reads as it did. -/
def seekWordsUptoRow : OpenClaim := { program := "ytfoemogojbnfhaadoor", sum := "7ad7cc0974c6128f7aa6ce915bfb2eb63ae2c96c8d304a5b83760dc2e9192168", func := "shibboleth/shibbolethlaw13.SeekWords", spec := "seekWords", inPlace := ["math.archFloor", "math.Float64bits", "math.Float64frombits", "math.archTrunc", "internal/bytealg.abigen_runtime_cmpstring"], unfollowed := true, recurses := true, named := ["math/bits.deBruijn64tab"], plainKeys := false, apart := false, laid := [("math/bits.deBruijn64tab", laid_math_bits_deBruijn64tab)], narrowed := true }
def SeekWordsUptoSaid : Prop := seekWordsUptoRow.holds Tryd.pinned (OpenSpec.upto seekWordsSpec)

/-- 'shibbolethlaw13.SeekPaths', WHERE WHAT IT READS IS OF BULK AT MOST 1048576: true; the input reads as it did. -/
def seekPathsUptoRow : OpenClaim := { program := "ytfoemogojbnfhaadoor", sum := "7ad7cc0974c6128f7aa6ce915bfb2eb63ae2c96c8d304a5b83760dc2e9192168", func := "shibboleth/shibbolethlaw13.SeekPaths", spec := "seekPaths", inPlace := ["math.archFloor", "math.Float64bits", "math.Float64frombits", "math.archTrunc", "internal/bytealg.abigen_runtime_cmpstring"], unfollowed := true, recurses := true, named := ["math/bits.deBruijn64tab"], plainKeys := false, apart := false, laid := [("math/bits.deBruijn64tab", laid_math_bits_deBruijn64tab)], narrowed := true }
def SeekPathsUptoSaid : Prop := seekPathsUptoRow.holds Tryd.pinned (OpenSpec.upto seekPathsSpec)

/-- 'shibbolethlaw13.SeekOrder', WHERE WHAT IT READS IS OF BULK AT MOST 1048576: true; the input reads as it did. -/
def seekOrderUptoRow : OpenClaim := { program := "ytfoemogojbnfhaadoor", sum := "7ad7cc0974c6128f7aa6ce915bfb2eb63ae2c96c8d304a5b83760dc2e9192168", func := "shibboleth/shibbolethlaw13.SeekOrder", spec := "seekOrder", inPlace := ["math.archFloor", "math.Float64bits", "math.Float64frombits", "math.archTrunc", "internal/bytealg.abigen_runtime_cmpstring"], unfollowed := true, recurses := true, named := ["math/bits.deBruijn64tab"], plainKeys := false, apart := false, laid := [("math/bits.deBruijn64tab", laid_math_bits_deBruijn64tab)], narrowed := true }
def SeekOrderUptoSaid : Prop := seekOrderUptoRow.holds Tryd.pinned (OpenSpec.upto seekOrderSpec)

/-- 'shibbolethlaw13.SeekKnown', WHERE WHAT IT READS IS OF BULK AT MOST 1048576: true; the input reads as it did. -/
def seekKnownUptoRow : OpenClaim := { program := "ytfoemogojbnfhaadoor", sum := "7ad7cc0974c6128f7aa6ce915bfb2eb63ae2c96c8d304a5b83760dc2e9192168", func := "shibboleth/shibbolethlaw13.SeekKnown", spec := "seekKnown", inPlace := ["math.archFloor", "math.Float64bits", "math.Float64frombits", "math.archTrunc", "internal/bytealg.abigen_runtime_cmpstring"], unfollowed := true, recurses := true, named := ["math/bits.deBruijn64tab"], plainKeys := false, apart := false, laid := [("math/bits.deBruijn64tab", laid_math_bits_deBruijn64tab)], narrowed := true }
def SeekKnownUptoSaid : Prop := seekKnownUptoRow.holds Tryd.pinned (OpenSpec.upto seekKnownSpec)

/-- 'shibbolethlaw13.SeekLeast', WHERE WHAT IT READS IS OF BULK AT MOST 1048576: true; the input reads as it did. -/
def seekLeastUptoRow : OpenClaim := { program := "ytfoemogojbnfhaadoor", sum := "7ad7cc0974c6128f7aa6ce915bfb2eb63ae2c96c8d304a5b83760dc2e9192168", func := "shibboleth/shibbolethlaw13.SeekLeast", spec := "seekLeast", inPlace := ["math.archFloor", "math.Float64bits", "math.Float64frombits", "math.archTrunc", "internal/bytealg.abigen_runtime_cmpstring"], unfollowed := true, recurses := true, named := ["math/bits.deBruijn64tab"], plainKeys := false, apart := false, laid := [("math/bits.deBruijn64tab", laid_math_bits_deBruijn64tab)], narrowed := true }
def SeekLeastUptoSaid : Prop := seekLeastUptoRow.holds Tryd.pinned (OpenSpec.upto seekLeastSpec)

/-- 'shibbolethlaw09.ConsKnown', WHERE WHAT IT READS IS OF BULK AT MOST 1048576: true; the input reads as it did. -/
def consKnownUptoRow : OpenClaim := { program := "ytfoemogojbnfhaadoor", sum := "7ad7cc0974c6128f7aa6ce915bfb2eb63ae2c96c8d304a5b83760dc2e9192168", func := "shibboleth/shibbolethlaw09.ConsKnown", spec := "consKnown", inPlace := ["internal/bytealg.IndexByteString"], unfollowed := true, recurses := true, named := ["math/bits.deBruijn64tab"], plainKeys := false, apart := false, laid := [("math/bits.deBruijn64tab", laid_math_bits_deBruijn64tab)], narrowed := true }
def ConsKnownUptoSaid : Prop := consKnownUptoRow.holds Tryd.pinned (OpenSpec.upto consKnownSpec)

/-- 'shibbolethlaw13.SeekPath', WHERE WHAT IT READS IS OF BULK AT MOST 1048576: true; the input reads as it did. -/
def seekPathUptoRow : OpenClaim := { program := "ytfoemogojbnfhaadoor", sum := "7ad7cc0974c6128f7aa6ce915bfb2eb63ae2c96c8d304a5b83760dc2e9192168", func := "shibboleth/shibbolethlaw13.SeekPath", spec := "seekPath", inPlace := ["math.archFloor", "math.Float64bits", "math.Float64frombits", "math.archTrunc", "internal/bytealg.abigen_runtime_cmpstring"], unfollowed := true, recurses := true, named := ["math/bits.deBruijn64tab"], plainKeys := false, apart := false, laid := [("math/bits.deBruijn64tab", laid_math_bits_deBruijn64tab)], narrowed := true }
def SeekPathUptoSaid : Prop := seekPathUptoRow.holds Tryd.pinned (OpenSpec.upto seekPathSpec)

end Rows
end Go.Proofs.YtfoemogojbnfhaaDoor
