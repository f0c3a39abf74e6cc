/- Structs of this translation held against each other; no conditions. -/
import Derived.Test.YtdfkpjchnndniaaDoorTB
import Derived.Test.YtdfkpjchnndniaaDoorM11
namespace Go.Proofs.YtdfkpjchnndniaaDoor
open Go Go.RowKit Gx
theorem eqk55 : EqK Tryd.prog 55 encSpot okSpot := eq_spot (A := 49) (B := 47) (N := 5) (by kernel_rfl) (by kernel_rfl) (by kernel_rfl) (by kernel_rfl) u49 u47 u5 ty49 ty47 ty5
theorem eqk41 : EqK Tryd.prog 41 encPart okPart := eq_part (A := 39) (B := 5) (N := 3) (by kernel_rfl) (by kernel_rfl) (by kernel_rfl) (by kernel_rfl) u39 u5 u3 ty39 ty5 ty3
end Go.Proofs.YtdfkpjchnndniaaDoor
