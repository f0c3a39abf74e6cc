/- Closed facts on the types and the functions of this translation. -/
/- Closed facts on the types and the functions of this translation; no conditions. -/
import Derived.Test.YtlcmimjdnhjeoaaDoorM3
import Derived.Test.YtlcmimjdnhjeoaaDoorProg
import Derived.KernelRfl
namespace Go.Proofs.YtlcmimjdnhjeoaaDoor
open Go Gx

theorem mixed : Tryd.prog.follows .mixedOrders = true := by kernel_rfl
theorem t4 : tyInfo Tryd.prog 4 = some (1, 1, false, some (.bool false)) := by kernel_rfl
theorem t5 : tyInfo Tryd.prog 5 = some (1, 1, false, some (.int .u8 0)) := by kernel_rfl
theorem t24 : tyInfo Tryd.prog 24 = some (256, 256, true, some (.agg #[.bool false, .bool false, .bool false, .bool false, .bool false, .bool false, .bool false, .bool false, .bool false, .bool false, .bool false, .bool false, .bool false, .bool false, .bool false, .bool false, .bool false, .bool false, .bool false, .bool false, .bool false, .bool false, .bool false, .bool false, .bool false, .bool false, .bool false, .bool false, .bool false, .bool false, .bool false, .bool false, .bool false, .bool false, .bool false, .bool false, .bool false, .bool false, .bool false, .bool false, .bool false, .bool false, .bool false, .bool false, .bool false, .bool false, .bool false, .bool false, .bool false, .bool false, .bool false, .bool false, .bool false, .bool false, .bool false, .bool false, .bool false, .bool false, .bool false, .bool false, .bool false, .bool false, .bool false, .bool false, .bool false, .bool false, .bool false, .bool false, .bool false, .bool false, .bool false, .bool false, .bool false, .bool false, .bool false, .bool false, .bool false, .bool false, .bool false, .bool false, .bool false, .bool false, .bool false, .bool false, .bool false, .bool false, .bool false, .bool false, .bool false, .bool false, .bool false, .bool false, .bool false, .bool false, .bool false, .bool false, .bool false, .bool false, .bool false, .bool false, .bool false, .bool false, .bool false, .bool false, .bool false, .bool false, .bool false, .bool false, .bool false, .bool false, .bool false, .bool false, .bool false, .bool false, .bool false, .bool false, .bool false, .bool false, .bool false, .bool false, .bool false, .bool false, .bool false, .bool false, .bool false, .bool false, .bool false, .bool false, .bool false, .bool false, .bool false, .bool false, .bool false, .bool false, .bool false, .bool false, .bool false, .bool false, .bool false, .bool false, .bool false, .bool false, .bool false, .bool false, .bool false, .bool false, .bool false, .bool false, .bool false, .bool false, .bool false, .bool false, .bool false, .bool false, .bool false, .bool false, .bool false, .bool false, .bool false, .bool false, .bool false, .bool false, .bool false, .bool false, .bool false, .bool false, .bool false, .bool false, .bool false, .bool false, .bool false, .bool false, .bool false, .bool false, .bool false, .bool false, .bool false, .bool false, .bool false, .bool false, .bool false, .bool false, .bool false, .bool false, .bool false, .bool false, .bool false, .bool false, .bool false, .bool false, .bool false, .bool false, .bool false, .bool false, .bool false, .bool false, .bool false, .bool false, .bool false, .bool false, .bool false, .bool false, .bool false, .bool false, .bool false, .bool false, .bool false, .bool false, .bool false, .bool false, .bool false, .bool false, .bool false, .bool false, .bool false, .bool false, .bool false, .bool false, .bool false, .bool false, .bool false, .bool false, .bool false, .bool false, .bool false, .bool false, .bool false, .bool false, .bool false, .bool false, .bool false, .bool false, .bool false, .bool false, .bool false, .bool false, .bool false, .bool false, .bool false, .bool false, .bool false, .bool false, .bool false, .bool false, .bool false, .bool false, .bool false, .bool false, .bool false, .bool false, .bool false, .bool false, .bool false, .bool false, .bool false, .bool false])) := by kernel_rfl
theorem t25 : tyInfo Tryd.prog 25 = some (1, 8, false, some (.int .u64 0)) := by kernel_rfl
theorem t26 : tyInfo Tryd.prog 26 = some (4, 32, true, some (.agg #[.int .u64 0, .int .u64 0, .int .u64 0, .int .u64 0])) := by kernel_rfl
theorem t27 : tyInfo Tryd.prog 27 = some (4, 32, true, some (.agg #[.int .u64 0, .int .u64 0, .int .u64 0, .int .u64 0])) := by kernel_rfl
theorem u3 : Tryd.prog.underlying 3 = some (.int .i64) := by kernel_rfl
theorem u4 : Tryd.prog.underlying 4 = some (.bool) := by kernel_rfl
theorem u5 : Tryd.prog.underlying 5 = some (.int .u8) := by kernel_rfl
theorem u22 : Tryd.prog.underlying 22 = some (.slice 5) := by kernel_rfl
theorem u24 : Tryd.prog.underlying 24 = some (.array 256 4) := by kernel_rfl
theorem u25 : Tryd.prog.underlying 25 = some (.int .u64) := by kernel_rfl
theorem u26 : Tryd.prog.underlying 26 = some (.array 4 25) := by kernel_rfl
theorem u27 : Tryd.prog.underlying 27 = some (.array 4 25) := by kernel_rfl
theorem q27 : Tryd.prog.eqGuardType Tryd.prog.depth 27 = false := by kernel_rfl
theorem c13 : Callable Tryd.prog 13 := ⟨Tryd.f13, Tryd.func13, rfl, by decide⟩
theorem c14 : Callable Tryd.prog 14 := ⟨Tryd.f14, Tryd.func14, rfl, by decide⟩
theorem c15 : Callable Tryd.prog 15 := ⟨Tryd.f15, Tryd.func15, rfl, by decide⟩
theorem c16 : Callable Tryd.prog 16 := ⟨Tryd.f16, Tryd.func16, rfl, by decide⟩
theorem c17 : Callable Tryd.prog 17 := ⟨Tryd.f17, Tryd.func17, rfl, by decide⟩
theorem c18 : Callable Tryd.prog 18 := ⟨Tryd.f18, Tryd.func18, rfl, by decide⟩
theorem c19 : Callable Tryd.prog 19 := ⟨Tryd.f19, Tryd.func19, rfl, by decide⟩
theorem c20 : Callable Tryd.prog 20 := ⟨Tryd.f20, Tryd.func20, rfl, by decide⟩
theorem c21 : Callable Tryd.prog 21 := ⟨Tryd.f21, Tryd.func21, rfl, by decide⟩
theorem c22 : Callable Tryd.prog 22 := ⟨Tryd.f22, Tryd.func22, rfl, by decide⟩
theorem c23 : Callable Tryd.prog 23 := ⟨Tryd.f23, Tryd.func23, rfl, by decide⟩
theorem c24 : Callable Tryd.prog 24 := ⟨Tryd.f24, Tryd.func24, rfl, by decide⟩
theorem c25 : Callable Tryd.prog 25 := ⟨Tryd.f25, Tryd.func25, rfl, by decide⟩
theorem c34 : Callable Tryd.prog 34 := ⟨Tryd.f34, Tryd.func34, rfl, by decide⟩
theorem c35 : Callable Tryd.prog 35 := ⟨Tryd.f35, Tryd.func35, rfl, by decide⟩
theorem c36 : Callable Tryd.prog 36 := ⟨Tryd.f36, Tryd.func36, rfl, by decide⟩
end Go.Proofs.YtlcmimjdnhjeoaaDoor
