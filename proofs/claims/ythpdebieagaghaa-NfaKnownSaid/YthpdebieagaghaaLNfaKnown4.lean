/- My own library for walks through the translated code, and the walks of the functions that the law NfaKnown comes to, part 5; no conditions but those that each contract tells. -/
import Derived.Test.YthpdebieagaghaaRows
import Derived.Stop.Joined
import Derived.MakeChecks
import Derived.Test.YthpdebieagaghaaLNfaKnown3
namespace Go.Proofs.Ythpdebieagaghaa
open Go Go.ChangeShapes Go.WideShapes Go.ChangeAt Go.RowKit Gx
set_option linter.unusedVariables false
theorem own : ownKnob Try.prog.godebug = none := by kernel_rfl
end Go.Proofs.Ythpdebieagaghaa
