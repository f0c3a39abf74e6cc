/- Closed facts on the types and the functions of this translation. -/
/- Closed facts on the types and the functions of this translation; no conditions. -/
import Derived.Test.YtlcmimjdnhjeoaaDoorM3
import Derived.Test.YtlcmimjdnhjeoaaDoorProg
import Derived.KernelRfl
namespace Go.Proofs.YtlcmimjdnhjeoaaDoor
open Go Gx

theorem mixed : Tryd.prog.follows .mixedOrders = true := by kernel_rfl
theorem t1 : tyInfo Tryd.prog 1 = some (1, 8, false, some (.nilFunc)) := by kernel_rfl
theorem t2 : tyInfo Tryd.prog 2 = some (1, 8, false, some (.int .i64 0)) := by kernel_rfl
theorem t3 : tyInfo Tryd.prog 3 = some (1, 8, false, some (.int .i64 0)) := by kernel_rfl
theorem t4 : tyInfo Tryd.prog 4 = some (1, 1, false, some (.bool false)) := by kernel_rfl
theorem t5 : tyInfo Tryd.prog 5 = some (1, 1, false, some (.int .u8 0)) := by kernel_rfl
theorem t9 : tyInfo Tryd.prog 9 = some (1, 16, false, some (.string ⟨#[]⟩)) := by kernel_rfl
theorem t12 : tyInfo Tryd.prog 12 = some (1, 8, false, some (.int .u64 0)) := by kernel_rfl
theorem t13 : tyInfo Tryd.prog 13 = some (2, 24, true, some (.agg #[.string ⟨#[]⟩, .int .u64 0])) := by kernel_rfl
theorem t20 : tyInfo Tryd.prog 20 = some (1, 16, false, some (.nilIface)) := by kernel_rfl
theorem t21 : tyInfo Tryd.prog 21 = some (1, 4, false, some (.int .i32 0)) := by kernel_rfl
theorem t22 : tyInfo Tryd.prog 22 = some (1, 24, false, some (.slice none 0 0)) := by kernel_rfl
theorem t23 : tyInfo Tryd.prog 23 = some (1, 8, false, some (.nilFunc)) := by kernel_rfl
theorem t24 : tyInfo Tryd.prog 24 = some (256, 256, true, some (.agg #[.bool false, .bool false, .bool false, .bool false, .bool false, .bool false, .bool false, .bool false, .bool false, .bool false, .bool false, .bool false, .bool false, .bool false, .bool false, .bool false, .bool false, .bool false, .bool false, .bool false, .bool false, .bool false, .bool false, .bool false, .bool false, .bool false, .bool false, .bool false, .bool false, .bool false, .bool false, .bool false, .bool false, .bool false, .bool false, .bool false, .bool false, .bool false, .bool false, .bool false, .bool false, .bool false, .bool false, .bool false, .bool false, .bool false, .bool false, .bool false, .bool false, .bool false, .bool false, .bool false, .bool false, .bool false, .bool false, .bool false, .bool false, .bool false, .bool false, .bool false, .bool false, .bool false, .bool false, .bool false, .bool false, .bool false, .bool false, .bool false, .bool false, .bool false, .bool false, .bool false, .bool false, .bool false, .bool false, .bool false, .bool false, .bool false, .bool false, .bool false, .bool false, .bool false, .bool false, .bool false, .bool false, .bool false, .bool false, .bool false, .bool false, .bool false, .bool false, .bool false, .bool false, .bool false, .bool false, .bool false, .bool false, .bool false, .bool false, .bool false, .bool false, .bool false, .bool false, .bool false, .bool false, .bool false, .bool false, .bool false, .bool false, .bool false, .bool false, .bool false, .bool false, .bool false, .bool false, .bool false, .bool false, .bool false, .bool false, .bool false, .bool false, .bool false, .bool false, .bool false, .bool false, .bool false, .bool false, .bool false, .bool false, .bool false, .bool false, .bool false, .bool false, .bool false, .bool false, .bool false, .bool false, .bool false, .bool false, .bool false, .bool false, .bool false, .bool false, .bool false, .bool false, .bool false, .bool false, .bool false, .bool false, .bool false, .bool false, .bool false, .bool false, .bool false, .bool false, .bool false, .bool false, .bool false, .bool false, .bool false, .bool false, .bool false, .bool false, .bool false, .bool false, .bool false, .bool false, .bool false, .bool false, .bool false, .bool false, .bool false, .bool false, .bool false, .bool false, .bool false, .bool false, .bool false, .bool false, .bool false, .bool false, .bool false, .bool false, .bool false, .bool false, .bool false, .bool false, .bool false, .bool false, .bool false, .bool false, .bool false, .bool false, .bool false, .bool false, .bool false, .bool false, .bool false, .bool false, .bool false, .bool false, .bool false, .bool false, .bool false, .bool false, .bool false, .bool false, .bool false, .bool false, .bool false, .bool false, .bool false, .bool false, .bool false, .bool false, .bool false, .bool false, .bool false, .bool false, .bool false, .bool false, .bool false, .bool false, .bool false, .bool false, .bool false, .bool false, .bool false, .bool false, .bool false, .bool false, .bool false, .bool false, .bool false, .bool false, .bool false, .bool false, .bool false, .bool false, .bool false, .bool false, .bool false, .bool false, .bool false, .bool false, .bool false, .bool false, .bool false, .bool false, .bool false, .bool false, .bool false, .bool false, .bool false, .bool false, .bool false])) := by kernel_rfl
theorem t25 : tyInfo Tryd.prog 25 = some (1, 8, false, some (.int .u64 0)) := by kernel_rfl
theorem t26 : tyInfo Tryd.prog 26 = some (4, 32, true, some (.agg #[.int .u64 0, .int .u64 0, .int .u64 0, .int .u64 0])) := by kernel_rfl
theorem t27 : tyInfo Tryd.prog 27 = some (4, 32, true, some (.agg #[.int .u64 0, .int .u64 0, .int .u64 0, .int .u64 0])) := by kernel_rfl
theorem t28 : tyInfo Tryd.prog 28 = some (1, 8, false, some (.nilFunc)) := by kernel_rfl
theorem t29 : tyInfo Tryd.prog 29 = some (1, 8, false, some (.nilFunc)) := by kernel_rfl
theorem t30 : tyInfo Tryd.prog 30 = some (1, 8, false, some (.nilFunc)) := by kernel_rfl
theorem t31 : tyInfo Tryd.prog 31 = some (1, 8, false, some (.nilFunc)) := by kernel_rfl
theorem t32 : tyInfo Tryd.prog 32 = some (1, 8, false, some (.nilFunc)) := by kernel_rfl
theorem t33 : tyInfo Tryd.prog 33 = some (1, 8, false, some (.nilFunc)) := by kernel_rfl
theorem t35 : tyInfo Tryd.prog 35 = some (1, 8, false, some (.nilFunc)) := by kernel_rfl
theorem t36 : tyInfo Tryd.prog 36 = some (1, 8, false, some (.nilFunc)) := by kernel_rfl
theorem t37 : tyInfo Tryd.prog 37 = some (1, 8, false, some (.nilFunc)) := by kernel_rfl
theorem t38 : tyInfo Tryd.prog 38 = some (1, 8, false, some (.nilFunc)) := by kernel_rfl
theorem t39 : tyInfo Tryd.prog 39 = some (1, 8, false, some (.nilFunc)) := by kernel_rfl
theorem t40 : tyInfo Tryd.prog 40 = some (1, 8, false, some (.nilFunc)) := by kernel_rfl
theorem t41 : tyInfo Tryd.prog 41 = some (1, 8, false, some (.nilFunc)) := by kernel_rfl
theorem t42 : tyInfo Tryd.prog 42 = some (1, 8, false, some (.nilFunc)) := by kernel_rfl
theorem t43 : tyInfo Tryd.prog 43 = some (1, 8, false, some (.nilFunc)) := by kernel_rfl
theorem t44 : tyInfo Tryd.prog 44 = some (1, 24, false, some (.slice none 0 0)) := by kernel_rfl
theorem t45 : tyInfo Tryd.prog 45 = some (1, 24, false, some (.slice none 0 0)) := by kernel_rfl
theorem t46 : tyInfo Tryd.prog 46 = some (256, 256, true, some (.agg #[.int .u8 0, .int .u8 0, .int .u8 0, .int .u8 0, .int .u8 0, .int .u8 0, .int .u8 0, .int .u8 0, .int .u8 0, .int .u8 0, .int .u8 0, .int .u8 0, .int .u8 0, .int .u8 0, .int .u8 0, .int .u8 0, .int .u8 0, .int .u8 0, .int .u8 0, .int .u8 0, .int .u8 0, .int .u8 0, .int .u8 0, .int .u8 0, .int .u8 0, .int .u8 0, .int .u8 0, .int .u8 0, .int .u8 0, .int .u8 0, .int .u8 0, .int .u8 0, .int .u8 0, .int .u8 0, .int .u8 0, .int .u8 0, .int .u8 0, .int .u8 0, .int .u8 0, .int .u8 0, .int .u8 0, .int .u8 0, .int .u8 0, .int .u8 0, .int .u8 0, .int .u8 0, .int .u8 0, .int .u8 0, .int .u8 0, .int .u8 0, .int .u8 0, .int .u8 0, .int .u8 0, .int .u8 0, .int .u8 0, .int .u8 0, .int .u8 0, .int .u8 0, .int .u8 0, .int .u8 0, .int .u8 0, .int .u8 0, .int .u8 0, .int .u8 0, .int .u8 0, .int .u8 0, .int .u8 0, .int .u8 0, .int .u8 0, .int .u8 0, .int .u8 0, .int .u8 0, .int .u8 0, .int .u8 0, .int .u8 0, .int .u8 0, .int .u8 0, .int .u8 0, .int .u8 0, .int .u8 0, .int .u8 0, .int .u8 0, .int .u8 0, .int .u8 0, .int .u8 0, .int .u8 0, .int .u8 0, .int .u8 0, .int .u8 0, .int .u8 0, .int .u8 0, .int .u8 0, .int .u8 0, .int .u8 0, .int .u8 0, .int .u8 0, .int .u8 0, .int .u8 0, .int .u8 0, .int .u8 0, .int .u8 0, .int .u8 0, .int .u8 0, .int .u8 0, .int .u8 0, .int .u8 0, .int .u8 0, .int .u8 0, .int .u8 0, .int .u8 0, .int .u8 0, .int .u8 0, .int .u8 0, .int .u8 0, .int .u8 0, .int .u8 0, .int .u8 0, .int .u8 0, .int .u8 0, .int .u8 0, .int .u8 0, .int .u8 0, .int .u8 0, .int .u8 0, .int .u8 0, .int .u8 0, .int .u8 0, .int .u8 0, .int .u8 0, .int .u8 0, .int .u8 0, .int .u8 0, .int .u8 0, .int .u8 0, .int .u8 0, .int .u8 0, .int .u8 0, .int .u8 0, .int .u8 0, .int .u8 0, .int .u8 0, .int .u8 0, .int .u8 0, .int .u8 0, .int .u8 0, .int .u8 0, .int .u8 0, .int .u8 0, .int .u8 0, .int .u8 0, .int .u8 0, .int .u8 0, .int .u8 0, .int .u8 0, .int .u8 0, .int .u8 0, .int .u8 0, .int .u8 0, .int .u8 0, .int .u8 0, .int .u8 0, .int .u8 0, .int .u8 0, .int .u8 0, .int .u8 0, .int .u8 0, .int .u8 0, .int .u8 0, .int .u8 0, .int .u8 0, .int .u8 0, .int .u8 0, .int .u8 0, .int .u8 0, .int .u8 0, .int .u8 0, .int .u8 0, .int .u8 0, .int .u8 0, .int .u8 0, .int .u8 0, .int .u8 0, .int .u8 0, .int .u8 0, .int .u8 0, .int .u8 0, .int .u8 0, .int .u8 0, .int .u8 0, .int .u8 0, .int .u8 0, .int .u8 0, .int .u8 0, .int .u8 0, .int .u8 0, .int .u8 0, .int .u8 0, .int .u8 0, .int .u8 0, .int .u8 0, .int .u8 0, .int .u8 0, .int .u8 0, .int .u8 0, .int .u8 0, .int .u8 0, .int .u8 0, .int .u8 0, .int .u8 0, .int .u8 0, .int .u8 0, .int .u8 0, .int .u8 0, .int .u8 0, .int .u8 0, .int .u8 0, .int .u8 0, .int .u8 0, .int .u8 0, .int .u8 0, .int .u8 0, .int .u8 0, .int .u8 0, .int .u8 0, .int .u8 0, .int .u8 0, .int .u8 0, .int .u8 0, .int .u8 0, .int .u8 0, .int .u8 0, .int .u8 0, .int .u8 0, .int .u8 0, .int .u8 0, .int .u8 0, .int .u8 0, .int .u8 0, .int .u8 0, .int .u8 0, .int .u8 0, .int .u8 0, .int .u8 0, .int .u8 0, .int .u8 0, .int .u8 0, .int .u8 0, .int .u8 0, .int .u8 0, .int .u8 0, .int .u8 0, .int .u8 0, .int .u8 0, .int .u8 0, .int .u8 0, .int .u8 0])) := by kernel_rfl
theorem t47 : tyInfo Tryd.prog 47 = some (257, 264, true, some (.agg #[.int .u8 0, .int .u8 0, .int .u8 0, .int .u8 0, .int .u8 0, .int .u8 0, .int .u8 0, .int .u8 0, .int .u8 0, .int .u8 0, .int .u8 0, .int .u8 0, .int .u8 0, .int .u8 0, .int .u8 0, .int .u8 0, .int .u8 0, .int .u8 0, .int .u8 0, .int .u8 0, .int .u8 0, .int .u8 0, .int .u8 0, .int .u8 0, .int .u8 0, .int .u8 0, .int .u8 0, .int .u8 0, .int .u8 0, .int .u8 0, .int .u8 0, .int .u8 0, .int .u8 0, .int .u8 0, .int .u8 0, .int .u8 0, .int .u8 0, .int .u8 0, .int .u8 0, .int .u8 0, .int .u8 0, .int .u8 0, .int .u8 0, .int .u8 0, .int .u8 0, .int .u8 0, .int .u8 0, .int .u8 0, .int .u8 0, .int .u8 0, .int .u8 0, .int .u8 0, .int .u8 0, .int .u8 0, .int .u8 0, .int .u8 0, .int .u8 0, .int .u8 0, .int .u8 0, .int .u8 0, .int .u8 0, .int .u8 0, .int .u8 0, .int .u8 0, .int .u8 0, .int .u8 0, .int .u8 0, .int .u8 0, .int .u8 0, .int .u8 0, .int .u8 0, .int .u8 0, .int .u8 0, .int .u8 0, .int .u8 0, .int .u8 0, .int .u8 0, .int .u8 0, .int .u8 0, .int .u8 0, .int .u8 0, .int .u8 0, .int .u8 0, .int .u8 0, .int .u8 0, .int .u8 0, .int .u8 0, .int .u8 0, .int .u8 0, .int .u8 0, .int .u8 0, .int .u8 0, .int .u8 0, .int .u8 0, .int .u8 0, .int .u8 0, .int .u8 0, .int .u8 0, .int .u8 0, .int .u8 0, .int .u8 0, .int .u8 0, .int .u8 0, .int .u8 0, .int .u8 0, .int .u8 0, .int .u8 0, .int .u8 0, .int .u8 0, .int .u8 0, .int .u8 0, .int .u8 0, .int .u8 0, .int .u8 0, .int .u8 0, .int .u8 0, .int .u8 0, .int .u8 0, .int .u8 0, .int .u8 0, .int .u8 0, .int .u8 0, .int .u8 0, .int .u8 0, .int .u8 0, .int .u8 0, .int .u8 0, .int .u8 0, .int .u8 0, .int .u8 0, .int .u8 0, .int .u8 0, .int .u8 0, .int .u8 0, .int .u8 0, .int .u8 0, .int .u8 0, .int .u8 0, .int .u8 0, .int .u8 0, .int .u8 0, .int .u8 0, .int .u8 0, .int .u8 0, .int .u8 0, .int .u8 0, .int .u8 0, .int .u8 0, .int .u8 0, .int .u8 0, .int .u8 0, .int .u8 0, .int .u8 0, .int .u8 0, .int .u8 0, .int .u8 0, .int .u8 0, .int .u8 0, .int .u8 0, .int .u8 0, .int .u8 0, .int .u8 0, .int .u8 0, .int .u8 0, .int .u8 0, .int .u8 0, .int .u8 0, .int .u8 0, .int .u8 0, .int .u8 0, .int .u8 0, .int .u8 0, .int .u8 0, .int .u8 0, .int .u8 0, .int .u8 0, .int .u8 0, .int .u8 0, .int .u8 0, .int .u8 0, .int .u8 0, .int .u8 0, .int .u8 0, .int .u8 0, .int .u8 0, .int .u8 0, .int .u8 0, .int .u8 0, .int .u8 0, .int .u8 0, .int .u8 0, .int .u8 0, .int .u8 0, .int .u8 0, .int .u8 0, .int .u8 0, .int .u8 0, .int .u8 0, .int .u8 0, .int .u8 0, .int .u8 0, .int .u8 0, .int .u8 0, .int .u8 0, .int .u8 0, .int .u8 0, .int .u8 0, .int .u8 0, .int .u8 0, .int .u8 0, .int .u8 0, .int .u8 0, .int .u8 0, .int .u8 0, .int .u8 0, .int .u8 0, .int .u8 0, .int .u8 0, .int .u8 0, .int .u8 0, .int .u8 0, .int .u8 0, .int .u8 0, .int .u8 0, .int .u8 0, .int .u8 0, .int .u8 0, .int .u8 0, .int .u8 0, .int .u8 0, .int .u8 0, .int .u8 0, .int .u8 0, .int .u8 0, .int .u8 0, .int .u8 0, .int .u8 0, .int .u8 0, .int .u8 0, .int .u8 0, .int .u8 0, .int .u8 0, .int .u8 0, .int .u8 0, .int .u8 0, .int .u8 0, .int .u8 0, .int .u8 0, .int .u8 0, .int .u8 0, .int .u8 0, .int .u8 0, .int .u8 0, .int .u8 0, .int .u8 0, .int .u8 0, .int .i64 0])) := by kernel_rfl
theorem t48 : tyInfo Tryd.prog 48 = some (257, 264, true, some (.agg #[.int .u8 0, .int .u8 0, .int .u8 0, .int .u8 0, .int .u8 0, .int .u8 0, .int .u8 0, .int .u8 0, .int .u8 0, .int .u8 0, .int .u8 0, .int .u8 0, .int .u8 0, .int .u8 0, .int .u8 0, .int .u8 0, .int .u8 0, .int .u8 0, .int .u8 0, .int .u8 0, .int .u8 0, .int .u8 0, .int .u8 0, .int .u8 0, .int .u8 0, .int .u8 0, .int .u8 0, .int .u8 0, .int .u8 0, .int .u8 0, .int .u8 0, .int .u8 0, .int .u8 0, .int .u8 0, .int .u8 0, .int .u8 0, .int .u8 0, .int .u8 0, .int .u8 0, .int .u8 0, .int .u8 0, .int .u8 0, .int .u8 0, .int .u8 0, .int .u8 0, .int .u8 0, .int .u8 0, .int .u8 0, .int .u8 0, .int .u8 0, .int .u8 0, .int .u8 0, .int .u8 0, .int .u8 0, .int .u8 0, .int .u8 0, .int .u8 0, .int .u8 0, .int .u8 0, .int .u8 0, .int .u8 0, .int .u8 0, .int .u8 0, .int .u8 0, .int .u8 0, .int .u8 0, .int .u8 0, .int .u8 0, .int .u8 0, .int .u8 0, .int .u8 0, .int .u8 0, .int .u8 0, .int .u8 0, .int .u8 0, .int .u8 0, .int .u8 0, .int .u8 0, .int .u8 0, .int .u8 0, .int .u8 0, .int .u8 0, .int .u8 0, .int .u8 0, .int .u8 0, .int .u8 0, .int .u8 0, .int .u8 0, .int .u8 0, .int .u8 0, .int .u8 0, .int .u8 0, .int .u8 0, .int .u8 0, .int .u8 0, .int .u8 0, .int .u8 0, .int .u8 0, .int .u8 0, .int .u8 0, .int .u8 0, .int .u8 0, .int .u8 0, .int .u8 0, .int .u8 0, .int .u8 0, .int .u8 0, .int .u8 0, .int .u8 0, .int .u8 0, .int .u8 0, .int .u8 0, .int .u8 0, .int .u8 0, .int .u8 0, .int .u8 0, .int .u8 0, .int .u8 0, .int .u8 0, .int .u8 0, .int .u8 0, .int .u8 0, .int .u8 0, .int .u8 0, .int .u8 0, .int .u8 0, .int .u8 0, .int .u8 0, .int .u8 0, .int .u8 0, .int .u8 0, .int .u8 0, .int .u8 0, .int .u8 0, .int .u8 0, .int .u8 0, .int .u8 0, .int .u8 0, .int .u8 0, .int .u8 0, .int .u8 0, .int .u8 0, .int .u8 0, .int .u8 0, .int .u8 0, .int .u8 0, .int .u8 0, .int .u8 0, .int .u8 0, .int .u8 0, .int .u8 0, .int .u8 0, .int .u8 0, .int .u8 0, .int .u8 0, .int .u8 0, .int .u8 0, .int .u8 0, .int .u8 0, .int .u8 0, .int .u8 0, .int .u8 0, .int .u8 0, .int .u8 0, .int .u8 0, .int .u8 0, .int .u8 0, .int .u8 0, .int .u8 0, .int .u8 0, .int .u8 0, .int .u8 0, .int .u8 0, .int .u8 0, .int .u8 0, .int .u8 0, .int .u8 0, .int .u8 0, .int .u8 0, .int .u8 0, .int .u8 0, .int .u8 0, .int .u8 0, .int .u8 0, .int .u8 0, .int .u8 0, .int .u8 0, .int .u8 0, .int .u8 0, .int .u8 0, .int .u8 0, .int .u8 0, .int .u8 0, .int .u8 0, .int .u8 0, .int .u8 0, .int .u8 0, .int .u8 0, .int .u8 0, .int .u8 0, .int .u8 0, .int .u8 0, .int .u8 0, .int .u8 0, .int .u8 0, .int .u8 0, .int .u8 0, .int .u8 0, .int .u8 0, .int .u8 0, .int .u8 0, .int .u8 0, .int .u8 0, .int .u8 0, .int .u8 0, .int .u8 0, .int .u8 0, .int .u8 0, .int .u8 0, .int .u8 0, .int .u8 0, .int .u8 0, .int .u8 0, .int .u8 0, .int .u8 0, .int .u8 0, .int .u8 0, .int .u8 0, .int .u8 0, .int .u8 0, .int .u8 0, .int .u8 0, .int .u8 0, .int .u8 0, .int .u8 0, .int .u8 0, .int .u8 0, .int .u8 0, .int .u8 0, .int .u8 0, .int .u8 0, .int .u8 0, .int .u8 0, .int .u8 0, .int .u8 0, .int .u8 0, .int .u8 0, .int .u8 0, .int .u8 0, .int .u8 0, .int .u8 0, .int .u8 0, .int .u8 0, .int .u8 0, .int .u8 0, .int .u8 0, .int .i64 0])) := by kernel_rfl
theorem t49 : tyInfo Tryd.prog 49 = some (1, 8, false, some (.nilFunc)) := by kernel_rfl
theorem t50 : tyInfo Tryd.prog 50 = some (256, 2048, true, some (.agg #[.int .i64 0, .int .i64 0, .int .i64 0, .int .i64 0, .int .i64 0, .int .i64 0, .int .i64 0, .int .i64 0, .int .i64 0, .int .i64 0, .int .i64 0, .int .i64 0, .int .i64 0, .int .i64 0, .int .i64 0, .int .i64 0, .int .i64 0, .int .i64 0, .int .i64 0, .int .i64 0, .int .i64 0, .int .i64 0, .int .i64 0, .int .i64 0, .int .i64 0, .int .i64 0, .int .i64 0, .int .i64 0, .int .i64 0, .int .i64 0, .int .i64 0, .int .i64 0, .int .i64 0, .int .i64 0, .int .i64 0, .int .i64 0, .int .i64 0, .int .i64 0, .int .i64 0, .int .i64 0, .int .i64 0, .int .i64 0, .int .i64 0, .int .i64 0, .int .i64 0, .int .i64 0, .int .i64 0, .int .i64 0, .int .i64 0, .int .i64 0, .int .i64 0, .int .i64 0, .int .i64 0, .int .i64 0, .int .i64 0, .int .i64 0, .int .i64 0, .int .i64 0, .int .i64 0, .int .i64 0, .int .i64 0, .int .i64 0, .int .i64 0, .int .i64 0, .int .i64 0, .int .i64 0, .int .i64 0, .int .i64 0, .int .i64 0, .int .i64 0, .int .i64 0, .int .i64 0, .int .i64 0, .int .i64 0, .int .i64 0, .int .i64 0, .int .i64 0, .int .i64 0, .int .i64 0, .int .i64 0, .int .i64 0, .int .i64 0, .int .i64 0, .int .i64 0, .int .i64 0, .int .i64 0, .int .i64 0, .int .i64 0, .int .i64 0, .int .i64 0, .int .i64 0, .int .i64 0, .int .i64 0, .int .i64 0, .int .i64 0, .int .i64 0, .int .i64 0, .int .i64 0, .int .i64 0, .int .i64 0, .int .i64 0, .int .i64 0, .int .i64 0, .int .i64 0, .int .i64 0, .int .i64 0, .int .i64 0, .int .i64 0, .int .i64 0, .int .i64 0, .int .i64 0, .int .i64 0, .int .i64 0, .int .i64 0, .int .i64 0, .int .i64 0, .int .i64 0, .int .i64 0, .int .i64 0, .int .i64 0, .int .i64 0, .int .i64 0, .int .i64 0, .int .i64 0, .int .i64 0, .int .i64 0, .int .i64 0, .int .i64 0, .int .i64 0, .int .i64 0, .int .i64 0, .int .i64 0, .int .i64 0, .int .i64 0, .int .i64 0, .int .i64 0, .int .i64 0, .int .i64 0, .int .i64 0, .int .i64 0, .int .i64 0, .int .i64 0, .int .i64 0, .int .i64 0, .int .i64 0, .int .i64 0, .int .i64 0, .int .i64 0, .int .i64 0, .int .i64 0, .int .i64 0, .int .i64 0, .int .i64 0, .int .i64 0, .int .i64 0, .int .i64 0, .int .i64 0, .int .i64 0, .int .i64 0, .int .i64 0, .int .i64 0, .int .i64 0, .int .i64 0, .int .i64 0, .int .i64 0, .int .i64 0, .int .i64 0, .int .i64 0, .int .i64 0, .int .i64 0, .int .i64 0, .int .i64 0, .int .i64 0, .int .i64 0, .int .i64 0, .int .i64 0, .int .i64 0, .int .i64 0, .int .i64 0, .int .i64 0, .int .i64 0, .int .i64 0, .int .i64 0, .int .i64 0, .int .i64 0, .int .i64 0, .int .i64 0, .int .i64 0, .int .i64 0, .int .i64 0, .int .i64 0, .int .i64 0, .int .i64 0, .int .i64 0, .int .i64 0, .int .i64 0, .int .i64 0, .int .i64 0, .int .i64 0, .int .i64 0, .int .i64 0, .int .i64 0, .int .i64 0, .int .i64 0, .int .i64 0, .int .i64 0, .int .i64 0, .int .i64 0, .int .i64 0, .int .i64 0, .int .i64 0, .int .i64 0, .int .i64 0, .int .i64 0, .int .i64 0, .int .i64 0, .int .i64 0, .int .i64 0, .int .i64 0, .int .i64 0, .int .i64 0, .int .i64 0, .int .i64 0, .int .i64 0, .int .i64 0, .int .i64 0, .int .i64 0, .int .i64 0, .int .i64 0, .int .i64 0, .int .i64 0, .int .i64 0, .int .i64 0, .int .i64 0, .int .i64 0, .int .i64 0, .int .i64 0, .int .i64 0, .int .i64 0, .int .i64 0, .int .i64 0, .int .i64 0, .int .i64 0, .int .i64 0, .int .i64 0, .int .i64 0, .int .i64 0, .int .i64 0, .int .i64 0, .int .i64 0, .int .i64 0, .int .i64 0, .int .i64 0, .int .i64 0, .int .i64 0, .int .i64 0])) := by kernel_rfl
theorem t52 : tyInfo Tryd.prog 52 = some (1, 8, false, some (.nilFunc)) := by kernel_rfl
theorem t53 : tyInfo Tryd.prog 53 = some (1, 8, false, some (.nilFunc)) := by kernel_rfl
theorem t54 : tyInfo Tryd.prog 54 = some (1, 24, false, some (.slice none 0 0)) := by kernel_rfl
theorem t55 : tyInfo Tryd.prog 55 = some (1, 8, false, some (.nilFunc)) := by kernel_rfl
theorem t56 : tyInfo Tryd.prog 56 = some (1, 8, false, some (.nilFunc)) := by kernel_rfl
theorem t57 : tyInfo Tryd.prog 57 = some (1, 8, false, some (.nilFunc)) := by kernel_rfl
theorem t58 : tyInfo Tryd.prog 58 = some (1, 8, false, some (.nilFunc)) := by kernel_rfl
theorem t59 : tyInfo Tryd.prog 59 = some (1, 8, false, some (.nilFunc)) := by kernel_rfl
theorem t61 : tyInfo Tryd.prog 61 = some (1, 8, false, some (.nilFunc)) := by kernel_rfl
theorem t62 : tyInfo Tryd.prog 62 = some (1, 8, false, some (.nilFunc)) := by kernel_rfl
theorem t63 : tyInfo Tryd.prog 63 = some (1, 8, false, some (.nilFunc)) := by kernel_rfl
theorem t64 : tyInfo Tryd.prog 64 = some (1, 24, false, some (.slice none 0 0)) := by kernel_rfl
theorem t65 : tyInfo Tryd.prog 65 = some (1, 24, false, some (.slice none 0 0)) := by kernel_rfl
theorem t66 : tyInfo Tryd.prog 66 = some (1, 8, false, some (.nilFunc)) := by kernel_rfl
theorem t67 : tyInfo Tryd.prog 67 = some (1, 8, false, some (.nilFunc)) := by kernel_rfl
theorem t68 : tyInfo Tryd.prog 68 = some (1, 8, false, some (.nilFunc)) := by kernel_rfl
theorem t69 : tyInfo Tryd.prog 69 = some (64, 64, true, some (.agg #[.int .u8 0, .int .u8 0, .int .u8 0, .int .u8 0, .int .u8 0, .int .u8 0, .int .u8 0, .int .u8 0, .int .u8 0, .int .u8 0, .int .u8 0, .int .u8 0, .int .u8 0, .int .u8 0, .int .u8 0, .int .u8 0, .int .u8 0, .int .u8 0, .int .u8 0, .int .u8 0, .int .u8 0, .int .u8 0, .int .u8 0, .int .u8 0, .int .u8 0, .int .u8 0, .int .u8 0, .int .u8 0, .int .u8 0, .int .u8 0, .int .u8 0, .int .u8 0, .int .u8 0, .int .u8 0, .int .u8 0, .int .u8 0, .int .u8 0, .int .u8 0, .int .u8 0, .int .u8 0, .int .u8 0, .int .u8 0, .int .u8 0, .int .u8 0, .int .u8 0, .int .u8 0, .int .u8 0, .int .u8 0, .int .u8 0, .int .u8 0, .int .u8 0, .int .u8 0, .int .u8 0, .int .u8 0, .int .u8 0, .int .u8 0, .int .u8 0, .int .u8 0, .int .u8 0, .int .u8 0, .int .u8 0, .int .u8 0, .int .u8 0, .int .u8 0])) := by kernel_rfl
theorem t70 : tyInfo Tryd.prog 70 = some (1, 8, false, some (.int .u64 0)) := by kernel_rfl
theorem t71 : tyInfo Tryd.prog 71 = some (1, 8, false, some (.map none)) := by kernel_rfl
theorem t72 : tyInfo Tryd.prog 72 = some (2, 2, true, some (.agg #[.int .u8 0, .bool false])) := by kernel_rfl
theorem t73 : tyInfo Tryd.prog 73 = some (2, 2, true, some (.agg #[.int .u8 0, .bool false])) := by kernel_rfl
theorem t74 : tyInfo Tryd.prog 74 = some (1, 8, false, some (.nilFunc)) := by kernel_rfl
theorem t75 : tyInfo Tryd.prog 75 = some (1, 8, false, some (.nilFunc)) := by kernel_rfl
theorem t81 : tyInfo Tryd.prog 81 = some (1, 8, false, some (.nilFunc)) := by kernel_rfl
theorem t82 : tyInfo Tryd.prog 82 = some (1, 4, false, some (.int .u32 0)) := by kernel_rfl
theorem t86 : tyInfo Tryd.prog 86 = some (1, 8, false, some (.pointer none)) := by kernel_rfl
theorem u2 : Tryd.prog.underlying 2 = some (.int .i64) := by kernel_rfl
theorem u3 : Tryd.prog.underlying 3 = some (.int .i64) := by kernel_rfl
theorem u4 : Tryd.prog.underlying 4 = some (.bool) := by kernel_rfl
theorem u5 : Tryd.prog.underlying 5 = some (.int .u8) := by kernel_rfl
theorem u9 : Tryd.prog.underlying 9 = some (.string) := by kernel_rfl
theorem u12 : Tryd.prog.underlying 12 = some (.int .u64) := by kernel_rfl
theorem u21 : Tryd.prog.underlying 21 = some (.int .i32) := by kernel_rfl
theorem u22 : Tryd.prog.underlying 22 = some (.slice 5) := by kernel_rfl
theorem u24 : Tryd.prog.underlying 24 = some (.array 256 4) := by kernel_rfl
theorem u25 : Tryd.prog.underlying 25 = some (.int .u64) := by kernel_rfl
theorem u26 : Tryd.prog.underlying 26 = some (.array 4 25) := by kernel_rfl
theorem u27 : Tryd.prog.underlying 27 = some (.array 4 25) := by kernel_rfl
theorem u44 : Tryd.prog.underlying 44 = some (.slice 27) := by kernel_rfl
theorem u45 : Tryd.prog.underlying 45 = some (.slice 26) := by kernel_rfl
theorem u46 : Tryd.prog.underlying 46 = some (.array 256 5) := by kernel_rfl
theorem u50 : Tryd.prog.underlying 50 = some (.array 256 3) := by kernel_rfl
theorem u54 : Tryd.prog.underlying 54 = some (.slice 22) := by kernel_rfl
theorem u64 : Tryd.prog.underlying 64 = some (.slice 24) := by kernel_rfl
theorem u65 : Tryd.prog.underlying 65 = some (.slice 3) := by kernel_rfl
theorem u69 : Tryd.prog.underlying 69 = some (.array 64 5) := by kernel_rfl
theorem u70 : Tryd.prog.underlying 70 = some (.int .u64) := by kernel_rfl
theorem u71 : Tryd.prog.underlying 71 = some (.map 73 5) := by kernel_rfl
theorem u82 : Tryd.prog.underlying 82 = some (.int .u32) := by kernel_rfl
theorem u86 : Tryd.prog.underlying 86 = some (.pointer 5) := by kernel_rfl
theorem f13_0 : fieldInfo Tryd.prog 13 0 = some (0, 9) := by kernel_rfl
theorem f13_1 : fieldInfo Tryd.prog 13 1 = some (1, 12) := by kernel_rfl
theorem f47_0 : fieldInfo Tryd.prog 47 0 = some (0, 46) := by kernel_rfl
theorem f47_1 : fieldInfo Tryd.prog 47 1 = some (256, 3) := by kernel_rfl
theorem f48_0 : fieldInfo Tryd.prog 48 0 = some (0, 46) := by kernel_rfl
theorem f48_1 : fieldInfo Tryd.prog 48 1 = some (256, 3) := by kernel_rfl
theorem f72_0 : fieldInfo Tryd.prog 72 0 = some (0, 5) := by kernel_rfl
theorem f72_1 : fieldInfo Tryd.prog 72 1 = some (1, 4) := by kernel_rfl
theorem f73_0 : fieldInfo Tryd.prog 73 0 = some (0, 5) := by kernel_rfl
theorem f73_1 : fieldInfo Tryd.prog 73 1 = some (1, 4) := by kernel_rfl
theorem pl13 : placesInfo Tryd.prog 13 = some [(0, 1), (1, 1)] := by kernel_rfl
theorem pl47 : placesInfo Tryd.prog 47 = some [(0, 256), (256, 1)] := by kernel_rfl
theorem pl48 : placesInfo Tryd.prog 48 = some [(0, 256), (256, 1)] := by kernel_rfl
theorem pl72 : placesInfo Tryd.prog 72 = some [(0, 1), (1, 1)] := by kernel_rfl
theorem pl73 : placesInfo Tryd.prog 73 = some [(0, 1), (1, 1)] := by kernel_rfl
theorem q24 : Tryd.prog.eqGuardType Tryd.prog.depth 24 = false := by kernel_rfl
theorem q26 : Tryd.prog.eqGuardType Tryd.prog.depth 26 = false := by kernel_rfl
theorem q27 : Tryd.prog.eqGuardType Tryd.prog.depth 27 = false := by kernel_rfl
theorem q46 : Tryd.prog.eqGuardType Tryd.prog.depth 46 = false := by kernel_rfl
theorem q48 : Tryd.prog.eqGuardType Tryd.prog.depth 48 = false := by kernel_rfl
theorem q50 : Tryd.prog.eqGuardType Tryd.prog.depth 50 = false := by kernel_rfl
theorem q69 : Tryd.prog.eqGuardType Tryd.prog.depth 69 = false := by kernel_rfl
theorem c3 : Callable Tryd.prog 3 := ⟨Tryd.f3, Tryd.func3, rfl, by decide⟩
theorem c4 : Callable Tryd.prog 4 := ⟨Tryd.f4, Tryd.func4, rfl, by decide⟩
theorem c5 : Callable Tryd.prog 5 := ⟨Tryd.f5, Tryd.func5, rfl, by decide⟩
theorem c6 : Callable Tryd.prog 6 := ⟨Tryd.f6, Tryd.func6, rfl, by decide⟩
theorem c7 : Callable Tryd.prog 7 := ⟨Tryd.f7, Tryd.func7, rfl, by decide⟩
theorem c8 : Callable Tryd.prog 8 := ⟨Tryd.f8, Tryd.func8, rfl, by decide⟩
theorem c9 : Callable Tryd.prog 9 := ⟨Tryd.f9, Tryd.func9, rfl, by decide⟩
theorem c10 : Callable Tryd.prog 10 := ⟨Tryd.f10, Tryd.func10, rfl, by decide⟩
theorem c11 : Callable Tryd.prog 11 := ⟨Tryd.f11, Tryd.func11, rfl, by decide⟩
theorem c12 : Callable Tryd.prog 12 := ⟨Tryd.f12, Tryd.func12, rfl, by decide⟩
theorem c13 : Callable Tryd.prog 13 := ⟨Tryd.f13, Tryd.func13, rfl, by decide⟩
theorem c14 : Callable Tryd.prog 14 := ⟨Tryd.f14, Tryd.func14, rfl, by decide⟩
theorem c15 : Callable Tryd.prog 15 := ⟨Tryd.f15, Tryd.func15, rfl, by decide⟩
theorem c16 : Callable Tryd.prog 16 := ⟨Tryd.f16, Tryd.func16, rfl, by decide⟩
theorem c17 : Callable Tryd.prog 17 := ⟨Tryd.f17, Tryd.func17, rfl, by decide⟩
theorem c18 : Callable Tryd.prog 18 := ⟨Tryd.f18, Tryd.func18, rfl, by decide⟩
theorem c19 : Callable Tryd.prog 19 := ⟨Tryd.f19, Tryd.func19, rfl, by decide⟩
theorem c20 : Callable Tryd.prog 20 := ⟨Tryd.f20, Tryd.func20, rfl, by decide⟩
theorem c21 : Callable Tryd.prog 21 := ⟨Tryd.f21, Tryd.func21, rfl, by decide⟩
theorem c22 : Callable Tryd.prog 22 := ⟨Tryd.f22, Tryd.func22, rfl, by decide⟩
theorem c23 : Callable Tryd.prog 23 := ⟨Tryd.f23, Tryd.func23, rfl, by decide⟩
theorem c24 : Callable Tryd.prog 24 := ⟨Tryd.f24, Tryd.func24, rfl, by decide⟩
theorem c25 : Callable Tryd.prog 25 := ⟨Tryd.f25, Tryd.func25, rfl, by decide⟩
theorem c26 : Callable Tryd.prog 26 := ⟨Tryd.f26, Tryd.func26, rfl, by decide⟩
theorem c27 : Callable Tryd.prog 27 := ⟨Tryd.f27, Tryd.func27, rfl, by decide⟩
theorem c28 : Callable Tryd.prog 28 := ⟨Tryd.f28, Tryd.func28, rfl, by decide⟩
theorem c29 : Callable Tryd.prog 29 := ⟨Tryd.f29, Tryd.func29, rfl, by decide⟩
theorem c30 : Callable Tryd.prog 30 := ⟨Tryd.f30, Tryd.func30, rfl, by decide⟩
theorem c31 : Callable Tryd.prog 31 := ⟨Tryd.f31, Tryd.func31, rfl, by decide⟩
theorem c32 : Callable Tryd.prog 32 := ⟨Tryd.f32, Tryd.func32, rfl, by decide⟩
theorem c33 : Callable Tryd.prog 33 := ⟨Tryd.f33, Tryd.func33, rfl, by decide⟩
theorem c34 : Callable Tryd.prog 34 := ⟨Tryd.f34, Tryd.func34, rfl, by decide⟩
theorem c35 : Callable Tryd.prog 35 := ⟨Tryd.f35, Tryd.func35, rfl, by decide⟩
theorem c36 : Callable Tryd.prog 36 := ⟨Tryd.f36, Tryd.func36, rfl, by decide⟩
theorem c37 : Callable Tryd.prog 37 := ⟨Tryd.f37, Tryd.func37, rfl, by decide⟩
theorem c38 : Callable Tryd.prog 38 := ⟨Tryd.f38, Tryd.func38, rfl, by decide⟩
theorem c39 : Callable Tryd.prog 39 := ⟨Tryd.f39, Tryd.func39, rfl, by decide⟩
theorem c40 : Callable Tryd.prog 40 := ⟨Tryd.f40, Tryd.func40, rfl, by decide⟩
theorem c41 : Callable Tryd.prog 41 := ⟨Tryd.f41, Tryd.func41, rfl, by decide⟩
theorem c42 : Callable Tryd.prog 42 := ⟨Tryd.f42, Tryd.func42, rfl, by decide⟩
end Go.Proofs.YtlcmimjdnhjeoaaDoor
