/- Structs of this translation held against each other; no conditions. -/
import Derived.Test.YtlcmimjdnhjeoaaDoorTD
import Derived.Test.YtlcmimjdnhjeoaaDoorM10
namespace Go.Proofs.YtlcmimjdnhjeoaaDoor
open Go Go.RowKit Gx
theorem eqk48 : EqK Tryd.prog 48 encPart okPart := eq_part (A := 46) (B := 5) (N := 3) (by kernel_rfl) (by kernel_rfl) (by kernel_rfl) (by kernel_rfl) u46 u5 u3 t46 t5 t3
end Go.Proofs.YtlcmimjdnhjeoaaDoor
