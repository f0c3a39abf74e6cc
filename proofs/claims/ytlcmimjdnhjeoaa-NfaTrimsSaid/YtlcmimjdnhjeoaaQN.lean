/- Structs of this translation held against each other; no conditions. -/
import Derived.Test.YtlcmimjdnhjeoaaTN
import Derived.Test.YtlcmimjdnhjeoaaM11
namespace Go.Proofs.Ytlcmimjdnhjeoaa
open Go Go.RowKit Gx
theorem eqk39 : EqK Try.prog 39 encSpot okSpot := eq_spot (A := 37) (B := 35) (N := 5) (by kernel_rfl) (by kernel_rfl) (by kernel_rfl) (by kernel_rfl) u37 u35 u5 ty37 ty35 ty5
end Go.Proofs.Ytlcmimjdnhjeoaa
