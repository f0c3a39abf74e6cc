/- Closed facts on the types and the functions of this translation. -/
/- Closed facts on the types and the functions of this translation; no conditions. -/
import Derived.Test.YtdfkpjchnndniaaDoorM3
import Derived.Test.YtdfkpjchnndniaaDoorProg
import Derived.KernelRfl
namespace Go.Proofs.YtdfkpjchnndniaaDoor
open Go Gx

theorem mixed : Tryd.prog.follows .mixedOrders = true := by kernel_rfl
theorem ty1 : tyInfo Tryd.prog 1 = some (1, 8, false, some (.nilFunc)) := by kernel_rfl
theorem ty2 : tyInfo Tryd.prog 2 = some (1, 8, false, some (.int .i64 0)) := by kernel_rfl
theorem ty3 : tyInfo Tryd.prog 3 = some (1, 8, false, some (.int .i64 0)) := by kernel_rfl
theorem ty4 : tyInfo Tryd.prog 4 = some (1, 1, false, some (.bool false)) := by kernel_rfl
theorem ty5 : tyInfo Tryd.prog 5 = some (1, 1, false, some (.int .u8 0)) := by kernel_rfl
theorem ty9 : tyInfo Tryd.prog 9 = some (1, 16, false, some (.string ⟨#[]⟩)) := by kernel_rfl
theorem ty12 : tyInfo Tryd.prog 12 = some (1, 8, false, some (.int .u64 0)) := by kernel_rfl
theorem ty13 : tyInfo Tryd.prog 13 = some (2, 24, true, some (.agg #[.string ⟨#[]⟩, .int .u64 0])) := by kernel_rfl
theorem ty20 : tyInfo Tryd.prog 20 = some (1, 16, false, some (.nilIface)) := by kernel_rfl
theorem ty21 : tyInfo Tryd.prog 21 = some (1, 4, false, some (.int .i32 0)) := by kernel_rfl
theorem ty22 : tyInfo Tryd.prog 22 = some (1, 24, false, some (.slice none 0 0)) := by kernel_rfl
theorem ty23 : tyInfo Tryd.prog 23 = some (1, 24, false, some (.slice none 0 0)) := by kernel_rfl
theorem ty24 : tyInfo Tryd.prog 24 = some (1, 24, false, some (.slice none 0 0)) := by kernel_rfl
theorem ty25 : tyInfo Tryd.prog 25 = some (1, 24, false, some (.slice none 0 0)) := by kernel_rfl
theorem ty26 : tyInfo Tryd.prog 26 = some (5, 104, true, some (.agg #[.slice none 0 0, .slice none 0 0, .slice none 0 0, .slice none 0 0, .bool false])) := by kernel_rfl
theorem ty27 : tyInfo Tryd.prog 27 = some (5, 104, true, some (.agg #[.slice none 0 0, .slice none 0 0, .slice none 0 0, .slice none 0 0, .bool false])) := by kernel_rfl
theorem ty28 : tyInfo Tryd.prog 28 = some (1, 8, false, some (.nilFunc)) := by kernel_rfl
theorem ty29 : tyInfo Tryd.prog 29 = some (1, 8, false, some (.nilFunc)) := by kernel_rfl
theorem ty30 : tyInfo Tryd.prog 30 = some (1, 8, false, some (.int .i64 0)) := by kernel_rfl
theorem ty32 : tyInfo Tryd.prog 32 = some (1, 8, false, some (.nilFunc)) := by kernel_rfl
theorem ty33 : tyInfo Tryd.prog 33 = some (1, 8, false, some (.nilFunc)) := by kernel_rfl
theorem ty34 : tyInfo Tryd.prog 34 = some (1, 8, false, some (.nilFunc)) := by kernel_rfl
theorem ty36 : tyInfo Tryd.prog 36 = some (1, 8, false, some (.nilFunc)) := by kernel_rfl
theorem ty37 : tyInfo Tryd.prog 37 = some (1, 8, false, some (.nilFunc)) := by kernel_rfl
theorem ty38 : tyInfo Tryd.prog 38 = some (1, 24, false, some (.slice none 0 0)) := by kernel_rfl
theorem ty39 : tyInfo Tryd.prog 39 = some (256, 256, true, some (.agg #[.int .u8 0, .int .u8 0, .int .u8 0, .int .u8 0, .int .u8 0, .int .u8 0, .int .u8 0, .int .u8 0, .int .u8 0, .int .u8 0, .int .u8 0, .int .u8 0, .int .u8 0, .int .u8 0, .int .u8 0, .int .u8 0, .int .u8 0, .int .u8 0, .int .u8 0, .int .u8 0, .int .u8 0, .int .u8 0, .int .u8 0, .int .u8 0, .int .u8 0, .int .u8 0, .int .u8 0, .int .u8 0, .int .u8 0, .int .u8 0, .int .u8 0, .int .u8 0, .int .u8 0, .int .u8 0, .int .u8 0, .int .u8 0, .int .u8 0, .int .u8 0, .int .u8 0, .int .u8 0, .int .u8 0, .int .u8 0, .int .u8 0, .int .u8 0, .int .u8 0, .int .u8 0, .int .u8 0, .int .u8 0, .int .u8 0, .int .u8 0, .int .u8 0, .int .u8 0, .int .u8 0, .int .u8 0, .int .u8 0, .int .u8 0, .int .u8 0, .int .u8 0, .int .u8 0, .int .u8 0, .int .u8 0, .int .u8 0, .int .u8 0, .int .u8 0, .int .u8 0, .int .u8 0, .int .u8 0, .int .u8 0, .int .u8 0, .int .u8 0, .int .u8 0, .int .u8 0, .int .u8 0, .int .u8 0, .int .u8 0, .int .u8 0, .int .u8 0, .int .u8 0, .int .u8 0, .int .u8 0, .int .u8 0, .int .u8 0, .int .u8 0, .int .u8 0, .int .u8 0, .int .u8 0, .int .u8 0, .int .u8 0, .int .u8 0, .int .u8 0, .int .u8 0, .int .u8 0, .int .u8 0, .int .u8 0, .int .u8 0, .int .u8 0, .int .u8 0, .int .u8 0, .int .u8 0, .int .u8 0, .int .u8 0, .int .u8 0, .int .u8 0, .int .u8 0, .int .u8 0, .int .u8 0, .int .u8 0, .int .u8 0, .int .u8 0, .int .u8 0, .int .u8 0, .int .u8 0, .int .u8 0, .int .u8 0, .int .u8 0, .int .u8 0, .int .u8 0, .int .u8 0, .int .u8 0, .int .u8 0, .int .u8 0, .int .u8 0, .int .u8 0, .int .u8 0, .int .u8 0, .int .u8 0, .int .u8 0, .int .u8 0, .int .u8 0, .int .u8 0, .int .u8 0, .int .u8 0, .int .u8 0, .int .u8 0, .int .u8 0, .int .u8 0, .int .u8 0, .int .u8 0, .int .u8 0, .int .u8 0, .int .u8 0, .int .u8 0, .int .u8 0, .int .u8 0, .int .u8 0, .int .u8 0, .int .u8 0, .int .u8 0, .int .u8 0, .int .u8 0, .int .u8 0, .int .u8 0, .int .u8 0, .int .u8 0, .int .u8 0, .int .u8 0, .int .u8 0, .int .u8 0, .int .u8 0, .int .u8 0, .int .u8 0, .int .u8 0, .int .u8 0, .int .u8 0, .int .u8 0, .int .u8 0, .int .u8 0, .int .u8 0, .int .u8 0, .int .u8 0, .int .u8 0, .int .u8 0, .int .u8 0, .int .u8 0, .int .u8 0, .int .u8 0, .int .u8 0, .int .u8 0, .int .u8 0, .int .u8 0, .int .u8 0, .int .u8 0, .int .u8 0, .int .u8 0, .int .u8 0, .int .u8 0, .int .u8 0, .int .u8 0, .int .u8 0, .int .u8 0, .int .u8 0, .int .u8 0, .int .u8 0, .int .u8 0, .int .u8 0, .int .u8 0, .int .u8 0, .int .u8 0, .int .u8 0, .int .u8 0, .int .u8 0, .int .u8 0, .int .u8 0, .int .u8 0, .int .u8 0, .int .u8 0, .int .u8 0, .int .u8 0, .int .u8 0, .int .u8 0, .int .u8 0, .int .u8 0, .int .u8 0, .int .u8 0, .int .u8 0, .int .u8 0, .int .u8 0, .int .u8 0, .int .u8 0, .int .u8 0, .int .u8 0, .int .u8 0, .int .u8 0, .int .u8 0, .int .u8 0, .int .u8 0, .int .u8 0, .int .u8 0, .int .u8 0, .int .u8 0, .int .u8 0, .int .u8 0, .int .u8 0, .int .u8 0, .int .u8 0, .int .u8 0, .int .u8 0, .int .u8 0, .int .u8 0, .int .u8 0, .int .u8 0, .int .u8 0, .int .u8 0, .int .u8 0, .int .u8 0, .int .u8 0, .int .u8 0, .int .u8 0, .int .u8 0, .int .u8 0, .int .u8 0, .int .u8 0, .int .u8 0, .int .u8 0, .int .u8 0, .int .u8 0])) := by kernel_rfl
theorem ty40 : tyInfo Tryd.prog 40 = some (257, 264, true, some (.agg #[.int .u8 0, .int .u8 0, .int .u8 0, .int .u8 0, .int .u8 0, .int .u8 0, .int .u8 0, .int .u8 0, .int .u8 0, .int .u8 0, .int .u8 0, .int .u8 0, .int .u8 0, .int .u8 0, .int .u8 0, .int .u8 0, .int .u8 0, .int .u8 0, .int .u8 0, .int .u8 0, .int .u8 0, .int .u8 0, .int .u8 0, .int .u8 0, .int .u8 0, .int .u8 0, .int .u8 0, .int .u8 0, .int .u8 0, .int .u8 0, .int .u8 0, .int .u8 0, .int .u8 0, .int .u8 0, .int .u8 0, .int .u8 0, .int .u8 0, .int .u8 0, .int .u8 0, .int .u8 0, .int .u8 0, .int .u8 0, .int .u8 0, .int .u8 0, .int .u8 0, .int .u8 0, .int .u8 0, .int .u8 0, .int .u8 0, .int .u8 0, .int .u8 0, .int .u8 0, .int .u8 0, .int .u8 0, .int .u8 0, .int .u8 0, .int .u8 0, .int .u8 0, .int .u8 0, .int .u8 0, .int .u8 0, .int .u8 0, .int .u8 0, .int .u8 0, .int .u8 0, .int .u8 0, .int .u8 0, .int .u8 0, .int .u8 0, .int .u8 0, .int .u8 0, .int .u8 0, .int .u8 0, .int .u8 0, .int .u8 0, .int .u8 0, .int .u8 0, .int .u8 0, .int .u8 0, .int .u8 0, .int .u8 0, .int .u8 0, .int .u8 0, .int .u8 0, .int .u8 0, .int .u8 0, .int .u8 0, .int .u8 0, .int .u8 0, .int .u8 0, .int .u8 0, .int .u8 0, .int .u8 0, .int .u8 0, .int .u8 0, .int .u8 0, .int .u8 0, .int .u8 0, .int .u8 0, .int .u8 0, .int .u8 0, .int .u8 0, .int .u8 0, .int .u8 0, .int .u8 0, .int .u8 0, .int .u8 0, .int .u8 0, .int .u8 0, .int .u8 0, .int .u8 0, .int .u8 0, .int .u8 0, .int .u8 0, .int .u8 0, .int .u8 0, .int .u8 0, .int .u8 0, .int .u8 0, .int .u8 0, .int .u8 0, .int .u8 0, .int .u8 0, .int .u8 0, .int .u8 0, .int .u8 0, .int .u8 0, .int .u8 0, .int .u8 0, .int .u8 0, .int .u8 0, .int .u8 0, .int .u8 0, .int .u8 0, .int .u8 0, .int .u8 0, .int .u8 0, .int .u8 0, .int .u8 0, .int .u8 0, .int .u8 0, .int .u8 0, .int .u8 0, .int .u8 0, .int .u8 0, .int .u8 0, .int .u8 0, .int .u8 0, .int .u8 0, .int .u8 0, .int .u8 0, .int .u8 0, .int .u8 0, .int .u8 0, .int .u8 0, .int .u8 0, .int .u8 0, .int .u8 0, .int .u8 0, .int .u8 0, .int .u8 0, .int .u8 0, .int .u8 0, .int .u8 0, .int .u8 0, .int .u8 0, .int .u8 0, .int .u8 0, .int .u8 0, .int .u8 0, .int .u8 0, .int .u8 0, .int .u8 0, .int .u8 0, .int .u8 0, .int .u8 0, .int .u8 0, .int .u8 0, .int .u8 0, .int .u8 0, .int .u8 0, .int .u8 0, .int .u8 0, .int .u8 0, .int .u8 0, .int .u8 0, .int .u8 0, .int .u8 0, .int .u8 0, .int .u8 0, .int .u8 0, .int .u8 0, .int .u8 0, .int .u8 0, .int .u8 0, .int .u8 0, .int .u8 0, .int .u8 0, .int .u8 0, .int .u8 0, .int .u8 0, .int .u8 0, .int .u8 0, .int .u8 0, .int .u8 0, .int .u8 0, .int .u8 0, .int .u8 0, .int .u8 0, .int .u8 0, .int .u8 0, .int .u8 0, .int .u8 0, .int .u8 0, .int .u8 0, .int .u8 0, .int .u8 0, .int .u8 0, .int .u8 0, .int .u8 0, .int .u8 0, .int .u8 0, .int .u8 0, .int .u8 0, .int .u8 0, .int .u8 0, .int .u8 0, .int .u8 0, .int .u8 0, .int .u8 0, .int .u8 0, .int .u8 0, .int .u8 0, .int .u8 0, .int .u8 0, .int .u8 0, .int .u8 0, .int .u8 0, .int .u8 0, .int .u8 0, .int .u8 0, .int .u8 0, .int .u8 0, .int .u8 0, .int .u8 0, .int .u8 0, .int .u8 0, .int .u8 0, .int .u8 0, .int .u8 0, .int .u8 0, .int .u8 0, .int .u8 0, .int .u8 0, .int .u8 0, .int .u8 0, .int .i64 0])) := by kernel_rfl
theorem ty41 : tyInfo Tryd.prog 41 = some (257, 264, true, some (.agg #[.int .u8 0, .int .u8 0, .int .u8 0, .int .u8 0, .int .u8 0, .int .u8 0, .int .u8 0, .int .u8 0, .int .u8 0, .int .u8 0, .int .u8 0, .int .u8 0, .int .u8 0, .int .u8 0, .int .u8 0, .int .u8 0, .int .u8 0, .int .u8 0, .int .u8 0, .int .u8 0, .int .u8 0, .int .u8 0, .int .u8 0, .int .u8 0, .int .u8 0, .int .u8 0, .int .u8 0, .int .u8 0, .int .u8 0, .int .u8 0, .int .u8 0, .int .u8 0, .int .u8 0, .int .u8 0, .int .u8 0, .int .u8 0, .int .u8 0, .int .u8 0, .int .u8 0, .int .u8 0, .int .u8 0, .int .u8 0, .int .u8 0, .int .u8 0, .int .u8 0, .int .u8 0, .int .u8 0, .int .u8 0, .int .u8 0, .int .u8 0, .int .u8 0, .int .u8 0, .int .u8 0, .int .u8 0, .int .u8 0, .int .u8 0, .int .u8 0, .int .u8 0, .int .u8 0, .int .u8 0, .int .u8 0, .int .u8 0, .int .u8 0, .int .u8 0, .int .u8 0, .int .u8 0, .int .u8 0, .int .u8 0, .int .u8 0, .int .u8 0, .int .u8 0, .int .u8 0, .int .u8 0, .int .u8 0, .int .u8 0, .int .u8 0, .int .u8 0, .int .u8 0, .int .u8 0, .int .u8 0, .int .u8 0, .int .u8 0, .int .u8 0, .int .u8 0, .int .u8 0, .int .u8 0, .int .u8 0, .int .u8 0, .int .u8 0, .int .u8 0, .int .u8 0, .int .u8 0, .int .u8 0, .int .u8 0, .int .u8 0, .int .u8 0, .int .u8 0, .int .u8 0, .int .u8 0, .int .u8 0, .int .u8 0, .int .u8 0, .int .u8 0, .int .u8 0, .int .u8 0, .int .u8 0, .int .u8 0, .int .u8 0, .int .u8 0, .int .u8 0, .int .u8 0, .int .u8 0, .int .u8 0, .int .u8 0, .int .u8 0, .int .u8 0, .int .u8 0, .int .u8 0, .int .u8 0, .int .u8 0, .int .u8 0, .int .u8 0, .int .u8 0, .int .u8 0, .int .u8 0, .int .u8 0, .int .u8 0, .int .u8 0, .int .u8 0, .int .u8 0, .int .u8 0, .int .u8 0, .int .u8 0, .int .u8 0, .int .u8 0, .int .u8 0, .int .u8 0, .int .u8 0, .int .u8 0, .int .u8 0, .int .u8 0, .int .u8 0, .int .u8 0, .int .u8 0, .int .u8 0, .int .u8 0, .int .u8 0, .int .u8 0, .int .u8 0, .int .u8 0, .int .u8 0, .int .u8 0, .int .u8 0, .int .u8 0, .int .u8 0, .int .u8 0, .int .u8 0, .int .u8 0, .int .u8 0, .int .u8 0, .int .u8 0, .int .u8 0, .int .u8 0, .int .u8 0, .int .u8 0, .int .u8 0, .int .u8 0, .int .u8 0, .int .u8 0, .int .u8 0, .int .u8 0, .int .u8 0, .int .u8 0, .int .u8 0, .int .u8 0, .int .u8 0, .int .u8 0, .int .u8 0, .int .u8 0, .int .u8 0, .int .u8 0, .int .u8 0, .int .u8 0, .int .u8 0, .int .u8 0, .int .u8 0, .int .u8 0, .int .u8 0, .int .u8 0, .int .u8 0, .int .u8 0, .int .u8 0, .int .u8 0, .int .u8 0, .int .u8 0, .int .u8 0, .int .u8 0, .int .u8 0, .int .u8 0, .int .u8 0, .int .u8 0, .int .u8 0, .int .u8 0, .int .u8 0, .int .u8 0, .int .u8 0, .int .u8 0, .int .u8 0, .int .u8 0, .int .u8 0, .int .u8 0, .int .u8 0, .int .u8 0, .int .u8 0, .int .u8 0, .int .u8 0, .int .u8 0, .int .u8 0, .int .u8 0, .int .u8 0, .int .u8 0, .int .u8 0, .int .u8 0, .int .u8 0, .int .u8 0, .int .u8 0, .int .u8 0, .int .u8 0, .int .u8 0, .int .u8 0, .int .u8 0, .int .u8 0, .int .u8 0, .int .u8 0, .int .u8 0, .int .u8 0, .int .u8 0, .int .u8 0, .int .u8 0, .int .u8 0, .int .u8 0, .int .u8 0, .int .u8 0, .int .u8 0, .int .u8 0, .int .u8 0, .int .u8 0, .int .u8 0, .int .u8 0, .int .u8 0, .int .u8 0, .int .u8 0, .int .u8 0, .int .u8 0, .int .u8 0, .int .u8 0, .int .i64 0])) := by kernel_rfl
theorem ty42 : tyInfo Tryd.prog 42 = some (1, 8, false, some (.nilFunc)) := by kernel_rfl
theorem ty43 : tyInfo Tryd.prog 43 = some (1, 24, false, some (.slice none 0 0)) := by kernel_rfl
theorem ty44 : tyInfo Tryd.prog 44 = some (1, 8, false, some (.nilFunc)) := by kernel_rfl
theorem ty45 : tyInfo Tryd.prog 45 = some (1, 8, false, some (.nilFunc)) := by kernel_rfl
theorem ty46 : tyInfo Tryd.prog 46 = some (1, 8, false, some (.nilFunc)) := by kernel_rfl
theorem ty47 : tyInfo Tryd.prog 47 = some (1, 8, false, some (.int .u64 0)) := by kernel_rfl
theorem ty48 : tyInfo Tryd.prog 48 = some (4, 32, true, some (.agg #[.int .u64 0, .int .u64 0, .int .u64 0, .int .u64 0])) := by kernel_rfl
theorem ty49 : tyInfo Tryd.prog 49 = some (4, 32, true, some (.agg #[.int .u64 0, .int .u64 0, .int .u64 0, .int .u64 0])) := by kernel_rfl
theorem ty50 : tyInfo Tryd.prog 50 = some (1, 8, false, some (.nilFunc)) := by kernel_rfl
theorem ty51 : tyInfo Tryd.prog 51 = some (1, 8, false, some (.nilFunc)) := by kernel_rfl
theorem ty52 : tyInfo Tryd.prog 52 = some (1, 8, false, some (.nilFunc)) := by kernel_rfl
theorem ty53 : tyInfo Tryd.prog 53 = some (1, 8, false, some (.nilFunc)) := by kernel_rfl
theorem ty54 : tyInfo Tryd.prog 54 = some (5, 40, true, some (.agg #[.int .u64 0, .int .u64 0, .int .u64 0, .int .u64 0, .int .u8 0])) := by kernel_rfl
theorem ty55 : tyInfo Tryd.prog 55 = some (5, 40, true, some (.agg #[.int .u64 0, .int .u64 0, .int .u64 0, .int .u64 0, .int .u8 0])) := by kernel_rfl
theorem ty56 : tyInfo Tryd.prog 56 = some (1, 8, false, some (.nilFunc)) := by kernel_rfl
theorem ty57 : tyInfo Tryd.prog 57 = some (1, 8, false, some (.nilFunc)) := by kernel_rfl
theorem ty58 : tyInfo Tryd.prog 58 = some (1, 8, false, some (.nilFunc)) := by kernel_rfl
theorem ty59 : tyInfo Tryd.prog 59 = some (1, 8, false, some (.nilFunc)) := by kernel_rfl
theorem ty60 : tyInfo Tryd.prog 60 = some (1, 8, false, some (.nilFunc)) := by kernel_rfl
theorem ty61 : tyInfo Tryd.prog 61 = some (1, 8, false, some (.nilFunc)) := by kernel_rfl
theorem ty62 : tyInfo Tryd.prog 62 = some (1, 8, false, some (.nilFunc)) := by kernel_rfl
theorem ty63 : tyInfo Tryd.prog 63 = some (1, 8, false, some (.nilFunc)) := by kernel_rfl
theorem ty64 : tyInfo Tryd.prog 64 = some (1, 24, false, some (.slice none 0 0)) := by kernel_rfl
theorem ty66 : tyInfo Tryd.prog 66 = some (1, 8, false, some (.nilFunc)) := by kernel_rfl
theorem ty67 : tyInfo Tryd.prog 67 = some (1, 8, false, some (.nilFunc)) := by kernel_rfl
theorem ty68 : tyInfo Tryd.prog 68 = some (1, 8, false, some (.nilFunc)) := by kernel_rfl
theorem ty69 : tyInfo Tryd.prog 69 = some (1, 8, false, some (.nilFunc)) := by kernel_rfl
theorem ty70 : tyInfo Tryd.prog 70 = some (1, 8, false, some (.nilFunc)) := by kernel_rfl
theorem ty71 : tyInfo Tryd.prog 71 = some (1, 8, false, some (.nilFunc)) := by kernel_rfl
theorem ty72 : tyInfo Tryd.prog 72 = some (1, 8, false, some (.nilFunc)) := by kernel_rfl
theorem ty73 : tyInfo Tryd.prog 73 = some (1, 8, false, some (.nilFunc)) := by kernel_rfl
theorem ty74 : tyInfo Tryd.prog 74 = some (1, 8, false, some (.nilFunc)) := by kernel_rfl
theorem ty75 : tyInfo Tryd.prog 75 = some (1, 8, false, some (.map none)) := by kernel_rfl
theorem ty76 : tyInfo Tryd.prog 76 = some (2, 2, true, some (.agg #[.int .u8 0, .bool false])) := by kernel_rfl
theorem ty77 : tyInfo Tryd.prog 77 = some (2, 2, true, some (.agg #[.int .u8 0, .bool false])) := by kernel_rfl
theorem ty78 : tyInfo Tryd.prog 78 = some (1, 8, false, some (.nilFunc)) := by kernel_rfl
theorem ty80 : tyInfo Tryd.prog 80 = some (1, 8, false, some (.nilFunc)) := by kernel_rfl
theorem ty81 : tyInfo Tryd.prog 81 = some (64, 64, true, some (.agg #[.int .u8 0, .int .u8 0, .int .u8 0, .int .u8 0, .int .u8 0, .int .u8 0, .int .u8 0, .int .u8 0, .int .u8 0, .int .u8 0, .int .u8 0, .int .u8 0, .int .u8 0, .int .u8 0, .int .u8 0, .int .u8 0, .int .u8 0, .int .u8 0, .int .u8 0, .int .u8 0, .int .u8 0, .int .u8 0, .int .u8 0, .int .u8 0, .int .u8 0, .int .u8 0, .int .u8 0, .int .u8 0, .int .u8 0, .int .u8 0, .int .u8 0, .int .u8 0, .int .u8 0, .int .u8 0, .int .u8 0, .int .u8 0, .int .u8 0, .int .u8 0, .int .u8 0, .int .u8 0, .int .u8 0, .int .u8 0, .int .u8 0, .int .u8 0, .int .u8 0, .int .u8 0, .int .u8 0, .int .u8 0, .int .u8 0, .int .u8 0, .int .u8 0, .int .u8 0, .int .u8 0, .int .u8 0, .int .u8 0, .int .u8 0, .int .u8 0, .int .u8 0, .int .u8 0, .int .u8 0, .int .u8 0, .int .u8 0, .int .u8 0, .int .u8 0])) := by kernel_rfl
theorem ty82 : tyInfo Tryd.prog 82 = some (1, 8, false, some (.int .u64 0)) := by kernel_rfl
theorem ty83 : tyInfo Tryd.prog 83 = some (1, 8, false, some (.nilFunc)) := by kernel_rfl
theorem ty84 : tyInfo Tryd.prog 84 = some (1, 8, false, some (.nilFunc)) := by kernel_rfl
theorem ty85 : tyInfo Tryd.prog 85 = some (1, 8, false, some (.nilFunc)) := by kernel_rfl
theorem ty86 : tyInfo Tryd.prog 86 = some (1, 8, false, some (.nilFunc)) := by kernel_rfl
theorem ty92 : tyInfo Tryd.prog 92 = some (1, 8, false, some (.nilFunc)) := by kernel_rfl
theorem ty93 : tyInfo Tryd.prog 93 = some (1, 4, false, some (.int .u32 0)) := by kernel_rfl
theorem ty97 : tyInfo Tryd.prog 97 = some (1, 8, false, some (.pointer none)) := by kernel_rfl
theorem u2 : Tryd.prog.underlying 2 = some (.int .i64) := by kernel_rfl
theorem u3 : Tryd.prog.underlying 3 = some (.int .i64) := by kernel_rfl
theorem u4 : Tryd.prog.underlying 4 = some (.bool) := by kernel_rfl
theorem u5 : Tryd.prog.underlying 5 = some (.int .u8) := by kernel_rfl
theorem u9 : Tryd.prog.underlying 9 = some (.string) := by kernel_rfl
theorem u12 : Tryd.prog.underlying 12 = some (.int .u64) := by kernel_rfl
theorem u21 : Tryd.prog.underlying 21 = some (.int .i32) := by kernel_rfl
theorem u22 : Tryd.prog.underlying 22 = some (.slice 55) := by kernel_rfl
theorem u23 : Tryd.prog.underlying 23 = some (.slice 3) := by kernel_rfl
theorem u24 : Tryd.prog.underlying 24 = some (.slice 23) := by kernel_rfl
theorem u25 : Tryd.prog.underlying 25 = some (.slice 4) := by kernel_rfl
theorem u30 : Tryd.prog.underlying 30 = some (.int .i64) := by kernel_rfl
theorem u38 : Tryd.prog.underlying 38 = some (.slice 5) := by kernel_rfl
theorem u39 : Tryd.prog.underlying 39 = some (.array 256 5) := by kernel_rfl
theorem u43 : Tryd.prog.underlying 43 = some (.slice 49) := by kernel_rfl
theorem u47 : Tryd.prog.underlying 47 = some (.int .u64) := by kernel_rfl
theorem u48 : Tryd.prog.underlying 48 = some (.array 4 47) := by kernel_rfl
theorem u49 : Tryd.prog.underlying 49 = some (.array 4 47) := by kernel_rfl
theorem u64 : Tryd.prog.underlying 64 = some (.slice 9) := by kernel_rfl
theorem u75 : Tryd.prog.underlying 75 = some (.map 77 5) := by kernel_rfl
theorem u81 : Tryd.prog.underlying 81 = some (.array 64 5) := by kernel_rfl
theorem u82 : Tryd.prog.underlying 82 = some (.int .u64) := by kernel_rfl
theorem u93 : Tryd.prog.underlying 93 = some (.int .u32) := by kernel_rfl
theorem u97 : Tryd.prog.underlying 97 = some (.pointer 5) := by kernel_rfl
theorem fd13_0 : fieldInfo Tryd.prog 13 0 = some (0, 9) := by kernel_rfl
theorem fd13_1 : fieldInfo Tryd.prog 13 1 = some (1, 12) := by kernel_rfl
theorem fd26_0 : fieldInfo Tryd.prog 26 0 = some (0, 22) := by kernel_rfl
theorem fd26_1 : fieldInfo Tryd.prog 26 1 = some (1, 23) := by kernel_rfl
theorem fd26_2 : fieldInfo Tryd.prog 26 2 = some (2, 24) := by kernel_rfl
theorem fd26_3 : fieldInfo Tryd.prog 26 3 = some (3, 25) := by kernel_rfl
theorem fd26_4 : fieldInfo Tryd.prog 26 4 = some (4, 4) := by kernel_rfl
theorem fd27_0 : fieldInfo Tryd.prog 27 0 = some (0, 22) := by kernel_rfl
theorem fd27_1 : fieldInfo Tryd.prog 27 1 = some (1, 23) := by kernel_rfl
theorem fd27_2 : fieldInfo Tryd.prog 27 2 = some (2, 24) := by kernel_rfl
theorem fd27_3 : fieldInfo Tryd.prog 27 3 = some (3, 25) := by kernel_rfl
theorem fd27_4 : fieldInfo Tryd.prog 27 4 = some (4, 4) := by kernel_rfl
theorem fd40_0 : fieldInfo Tryd.prog 40 0 = some (0, 39) := by kernel_rfl
theorem fd40_1 : fieldInfo Tryd.prog 40 1 = some (256, 3) := by kernel_rfl
theorem fd41_0 : fieldInfo Tryd.prog 41 0 = some (0, 39) := by kernel_rfl
theorem fd41_1 : fieldInfo Tryd.prog 41 1 = some (256, 3) := by kernel_rfl
theorem fd54_0 : fieldInfo Tryd.prog 54 0 = some (0, 49) := by kernel_rfl
theorem fd54_1 : fieldInfo Tryd.prog 54 1 = some (4, 5) := by kernel_rfl
theorem fd55_0 : fieldInfo Tryd.prog 55 0 = some (0, 49) := by kernel_rfl
theorem fd55_1 : fieldInfo Tryd.prog 55 1 = some (4, 5) := by kernel_rfl
theorem fd76_0 : fieldInfo Tryd.prog 76 0 = some (0, 5) := by kernel_rfl
theorem fd76_1 : fieldInfo Tryd.prog 76 1 = some (1, 4) := by kernel_rfl
theorem fd77_0 : fieldInfo Tryd.prog 77 0 = some (0, 5) := by kernel_rfl
theorem fd77_1 : fieldInfo Tryd.prog 77 1 = some (1, 4) := by kernel_rfl
theorem pl13 : placesInfo Tryd.prog 13 = some [(0, 1), (1, 1)] := by kernel_rfl
theorem pl26 : placesInfo Tryd.prog 26 = some [(0, 1), (1, 1), (2, 1), (3, 1), (4, 1)] := by kernel_rfl
theorem pl27 : placesInfo Tryd.prog 27 = some [(0, 1), (1, 1), (2, 1), (3, 1), (4, 1)] := by kernel_rfl
theorem pl40 : placesInfo Tryd.prog 40 = some [(0, 256), (256, 1)] := by kernel_rfl
theorem pl41 : placesInfo Tryd.prog 41 = some [(0, 256), (256, 1)] := by kernel_rfl
theorem pl54 : placesInfo Tryd.prog 54 = some [(0, 4), (4, 1)] := by kernel_rfl
theorem pl55 : placesInfo Tryd.prog 55 = some [(0, 4), (4, 1)] := by kernel_rfl
theorem pl76 : placesInfo Tryd.prog 76 = some [(0, 1), (1, 1)] := by kernel_rfl
theorem pl77 : placesInfo Tryd.prog 77 = some [(0, 1), (1, 1)] := by kernel_rfl
theorem q39 : Tryd.prog.eqGuardType Tryd.prog.depth 39 = false := by kernel_rfl
theorem q41 : Tryd.prog.eqGuardType Tryd.prog.depth 41 = false := by kernel_rfl
theorem q48 : Tryd.prog.eqGuardType Tryd.prog.depth 48 = false := by kernel_rfl
theorem q49 : Tryd.prog.eqGuardType Tryd.prog.depth 49 = false := by kernel_rfl
theorem q55 : Tryd.prog.eqGuardType Tryd.prog.depth 55 = false := by kernel_rfl
theorem q81 : Tryd.prog.eqGuardType Tryd.prog.depth 81 = false := by kernel_rfl
theorem ca3 : Callable Tryd.prog 3 := ⟨Tryd.f3, Tryd.func3, rfl, by decide⟩
theorem ca4 : Callable Tryd.prog 4 := ⟨Tryd.f4, Tryd.func4, rfl, by decide⟩
theorem ca5 : Callable Tryd.prog 5 := ⟨Tryd.f5, Tryd.func5, rfl, by decide⟩
theorem ca6 : Callable Tryd.prog 6 := ⟨Tryd.f6, Tryd.func6, rfl, by decide⟩
theorem ca7 : Callable Tryd.prog 7 := ⟨Tryd.f7, Tryd.func7, rfl, by decide⟩
theorem ca8 : Callable Tryd.prog 8 := ⟨Tryd.f8, Tryd.func8, rfl, by decide⟩
theorem ca9 : Callable Tryd.prog 9 := ⟨Tryd.f9, Tryd.func9, rfl, by decide⟩
theorem ca10 : Callable Tryd.prog 10 := ⟨Tryd.f10, Tryd.func10, rfl, by decide⟩
theorem ca11 : Callable Tryd.prog 11 := ⟨Tryd.f11, Tryd.func11, rfl, by decide⟩
theorem ca12 : Callable Tryd.prog 12 := ⟨Tryd.f12, Tryd.func12, rfl, by decide⟩
theorem ca13 : Callable Tryd.prog 13 := ⟨Tryd.f13, Tryd.func13, rfl, by decide⟩
theorem ca14 : Callable Tryd.prog 14 := ⟨Tryd.f14, Tryd.func14, rfl, by decide⟩
theorem ca15 : Callable Tryd.prog 15 := ⟨Tryd.f15, Tryd.func15, rfl, by decide⟩
theorem ca16 : Callable Tryd.prog 16 := ⟨Tryd.f16, Tryd.func16, rfl, by decide⟩
theorem ca17 : Callable Tryd.prog 17 := ⟨Tryd.f17, Tryd.func17, rfl, by decide⟩
theorem ca18 : Callable Tryd.prog 18 := ⟨Tryd.f18, Tryd.func18, rfl, by decide⟩
theorem ca19 : Callable Tryd.prog 19 := ⟨Tryd.f19, Tryd.func19, rfl, by decide⟩
theorem ca20 : Callable Tryd.prog 20 := ⟨Tryd.f20, Tryd.func20, rfl, by decide⟩
theorem ca21 : Callable Tryd.prog 21 := ⟨Tryd.f21, Tryd.func21, rfl, by decide⟩
theorem ca22 : Callable Tryd.prog 22 := ⟨Tryd.f22, Tryd.func22, rfl, by decide⟩
theorem ca23 : Callable Tryd.prog 23 := ⟨Tryd.f23, Tryd.func23, rfl, by decide⟩
theorem ca24 : Callable Tryd.prog 24 := ⟨Tryd.f24, Tryd.func24, rfl, by decide⟩
theorem ca25 : Callable Tryd.prog 25 := ⟨Tryd.f25, Tryd.func25, rfl, by decide⟩
theorem ca26 : Callable Tryd.prog 26 := ⟨Tryd.f26, Tryd.func26, rfl, by decide⟩
theorem ca27 : Callable Tryd.prog 27 := ⟨Tryd.f27, Tryd.func27, rfl, by decide⟩
theorem ca28 : Callable Tryd.prog 28 := ⟨Tryd.f28, Tryd.func28, rfl, by decide⟩
theorem ca29 : Callable Tryd.prog 29 := ⟨Tryd.f29, Tryd.func29, rfl, by decide⟩
theorem ca30 : Callable Tryd.prog 30 := ⟨Tryd.f30, Tryd.func30, rfl, by decide⟩
theorem ca31 : Callable Tryd.prog 31 := ⟨Tryd.f31, Tryd.func31, rfl, by decide⟩
theorem ca32 : Callable Tryd.prog 32 := ⟨Tryd.f32, Tryd.func32, rfl, by decide⟩
theorem ca33 : Callable Tryd.prog 33 := ⟨Tryd.f33, Tryd.func33, rfl, by decide⟩
theorem ca34 : Callable Tryd.prog 34 := ⟨Tryd.f34, Tryd.func34, rfl, by decide⟩
theorem ca35 : Callable Tryd.prog 35 := ⟨Tryd.f35, Tryd.func35, rfl, by decide⟩
theorem ca36 : Callable Tryd.prog 36 := ⟨Tryd.f36, Tryd.func36, rfl, by decide⟩
theorem ca37 : Callable Tryd.prog 37 := ⟨Tryd.f37, Tryd.func37, rfl, by decide⟩
theorem ca38 : Callable Tryd.prog 38 := ⟨Tryd.f38, Tryd.func38, rfl, by decide⟩
theorem ca39 : Callable Tryd.prog 39 := ⟨Tryd.f39, Tryd.func39, rfl, by decide⟩
theorem ca40 : Callable Tryd.prog 40 := ⟨Tryd.f40, Tryd.func40, rfl, by decide⟩
theorem ca41 : Callable Tryd.prog 41 := ⟨Tryd.f41, Tryd.func41, rfl, by decide⟩
theorem ca42 : Callable Tryd.prog 42 := ⟨Tryd.f42, Tryd.func42, rfl, by decide⟩
theorem ca43 : Callable Tryd.prog 43 := ⟨Tryd.f43, Tryd.func43, rfl, by decide⟩
theorem ca44 : Callable Tryd.prog 44 := ⟨Tryd.f44, Tryd.func44, rfl, by decide⟩
end Go.Proofs.YtdfkpjchnndniaaDoor
