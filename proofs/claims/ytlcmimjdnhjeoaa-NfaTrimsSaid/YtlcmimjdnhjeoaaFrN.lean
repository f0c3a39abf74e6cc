/- What the rows of this seat have in common; the listed table, if there is one, read off the condition that it is laid. -/
import Derived.Test.YtlcmimjdnhjeoaaRows
import Derived.Test.YtlcmimjdnhjeoaaF2
import Derived.Stop.Joined
import Derived.MakeChecks
namespace Go.Proofs.Ytlcmimjdnhjeoaa
open Go Go.ChangeShapes Go.WideShapes Go.ChangeAt Go.RowKit Gx
set_option linter.unusedVariables false

theorem own : ownKnob Try.prog.godebug = none := by kernel_rfl
theorem laidOut : laidOutB Try.prog = true := by kernel_rfl
end Go.Proofs.Ytlcmimjdnhjeoaa
