/- Closed facts on the types and the functions of this translation. -/
/- Closed facts on the types and the functions of this translation; no conditions. -/
import Derived.Test.YtlcmimjdnhjeoaaM3
import Derived.Test.YtlcmimjdnhjeoaaProg
import Derived.KernelRfl
namespace Go.Proofs.Ytlcmimjdnhjeoaa
open Go Gx

theorem mixed : Try.prog.follows .mixedOrders = true := by kernel_rfl
theorem ty1 : tyInfo Try.prog 1 = some (1, 8, false, some (.nilFunc)) := by kernel_rfl
theorem ty2 : tyInfo Try.prog 2 = some (1, 8, false, some (.int .i64 0)) := by kernel_rfl
theorem ty3 : tyInfo Try.prog 3 = some (1, 8, false, some (.int .i64 0)) := by kernel_rfl
theorem ty4 : tyInfo Try.prog 4 = some (1, 1, false, some (.bool false)) := by kernel_rfl
theorem ty5 : tyInfo Try.prog 5 = some (1, 1, false, some (.int .u8 0)) := by kernel_rfl
theorem ty9 : tyInfo Try.prog 9 = some (1, 16, false, some (.string ⟨#[]⟩)) := by kernel_rfl
theorem ty12 : tyInfo Try.prog 12 = some (1, 8, false, some (.int .u64 0)) := by kernel_rfl
theorem ty13 : tyInfo Try.prog 13 = some (2, 24, true, some (.agg #[.string ⟨#[]⟩, .int .u64 0])) := by kernel_rfl
theorem ty20 : tyInfo Try.prog 20 = some (1, 16, false, some (.nilIface)) := by kernel_rfl
theorem ty21 : tyInfo Try.prog 21 = some (1, 4, false, some (.int .i32 0)) := by kernel_rfl
theorem ty22 : tyInfo Try.prog 22 = some (1, 24, false, some (.slice none 0 0)) := by kernel_rfl
theorem ty23 : tyInfo Try.prog 23 = some (1, 24, false, some (.slice none 0 0)) := by kernel_rfl
theorem ty24 : tyInfo Try.prog 24 = some (1, 24, false, some (.slice none 0 0)) := by kernel_rfl
theorem ty25 : tyInfo Try.prog 25 = some (1, 24, false, some (.slice none 0 0)) := by kernel_rfl
theorem ty26 : tyInfo Try.prog 26 = some (5, 104, true, some (.agg #[.slice none 0 0, .slice none 0 0, .slice none 0 0, .slice none 0 0, .bool false])) := by kernel_rfl
theorem ty27 : tyInfo Try.prog 27 = some (5, 104, true, some (.agg #[.slice none 0 0, .slice none 0 0, .slice none 0 0, .slice none 0 0, .bool false])) := by kernel_rfl
theorem ty28 : tyInfo Try.prog 28 = some (1, 8, false, some (.nilFunc)) := by kernel_rfl
theorem ty29 : tyInfo Try.prog 29 = some (1, 8, false, some (.nilFunc)) := by kernel_rfl
theorem ty30 : tyInfo Try.prog 30 = some (1, 8, false, some (.nilFunc)) := by kernel_rfl
theorem ty31 : tyInfo Try.prog 31 = some (1, 8, false, some (.nilFunc)) := by kernel_rfl
theorem ty32 : tyInfo Try.prog 32 = some (1, 8, false, some (.int .i64 0)) := by kernel_rfl
theorem ty34 : tyInfo Try.prog 34 = some (1, 8, false, some (.nilFunc)) := by kernel_rfl
theorem ty35 : tyInfo Try.prog 35 = some (1, 8, false, some (.int .u64 0)) := by kernel_rfl
theorem ty36 : tyInfo Try.prog 36 = some (4, 32, true, some (.agg #[.int .u64 0, .int .u64 0, .int .u64 0, .int .u64 0])) := by kernel_rfl
theorem ty37 : tyInfo Try.prog 37 = some (4, 32, true, some (.agg #[.int .u64 0, .int .u64 0, .int .u64 0, .int .u64 0])) := by kernel_rfl
theorem ty38 : tyInfo Try.prog 38 = some (5, 40, true, some (.agg #[.int .u64 0, .int .u64 0, .int .u64 0, .int .u64 0, .int .u8 0])) := by kernel_rfl
theorem ty39 : tyInfo Try.prog 39 = some (5, 40, true, some (.agg #[.int .u64 0, .int .u64 0, .int .u64 0, .int .u64 0, .int .u8 0])) := by kernel_rfl
theorem ty40 : tyInfo Try.prog 40 = some (1, 8, false, some (.nilFunc)) := by kernel_rfl
theorem ty41 : tyInfo Try.prog 41 = some (1, 8, false, some (.nilFunc)) := by kernel_rfl
theorem ty42 : tyInfo Try.prog 42 = some (1, 24, false, some (.slice none 0 0)) := by kernel_rfl
theorem ty43 : tyInfo Try.prog 43 = some (1, 24, false, some (.slice none 0 0)) := by kernel_rfl
theorem ty44 : tyInfo Try.prog 44 = some (1, 8, false, some (.nilFunc)) := by kernel_rfl
theorem ty45 : tyInfo Try.prog 45 = some (1, 8, false, some (.nilFunc)) := by kernel_rfl
theorem ty46 : tyInfo Try.prog 46 = some (1, 8, false, some (.nilFunc)) := by kernel_rfl
theorem ty47 : tyInfo Try.prog 47 = some (1, 8, false, some (.nilFunc)) := by kernel_rfl
theorem ty48 : tyInfo Try.prog 48 = some (1, 8, false, some (.nilFunc)) := by kernel_rfl
theorem ty49 : tyInfo Try.prog 49 = some (1, 8, false, some (.nilFunc)) := by kernel_rfl
theorem ty50 : tyInfo Try.prog 50 = some (1, 8, false, some (.nilFunc)) := by kernel_rfl
theorem ty51 : tyInfo Try.prog 51 = some (1, 8, false, some (.nilFunc)) := by kernel_rfl
theorem ty52 : tyInfo Try.prog 52 = some (1, 8, false, some (.nilFunc)) := by kernel_rfl
theorem ty53 : tyInfo Try.prog 53 = some (1, 8, false, some (.nilFunc)) := by kernel_rfl
theorem ty54 : tyInfo Try.prog 54 = some (1, 8, false, some (.nilFunc)) := by kernel_rfl
theorem ty55 : tyInfo Try.prog 55 = some (1, 8, false, some (.nilFunc)) := by kernel_rfl
theorem ty56 : tyInfo Try.prog 56 = some (1, 8, false, some (.nilFunc)) := by kernel_rfl
theorem ty57 : tyInfo Try.prog 57 = some (1, 24, false, some (.slice none 0 0)) := by kernel_rfl
theorem ty59 : tyInfo Try.prog 59 = some (1, 8, false, some (.nilFunc)) := by kernel_rfl
theorem ty60 : tyInfo Try.prog 60 = some (1, 8, false, some (.nilFunc)) := by kernel_rfl
theorem ty61 : tyInfo Try.prog 61 = some (1, 8, false, some (.nilFunc)) := by kernel_rfl
theorem ty62 : tyInfo Try.prog 62 = some (1, 8, false, some (.nilFunc)) := by kernel_rfl
theorem ty63 : tyInfo Try.prog 63 = some (1, 8, false, some (.nilFunc)) := by kernel_rfl
theorem ty64 : tyInfo Try.prog 64 = some (1, 8, false, some (.nilFunc)) := by kernel_rfl
theorem ty65 : tyInfo Try.prog 65 = some (1, 8, false, some (.nilFunc)) := by kernel_rfl
theorem ty66 : tyInfo Try.prog 66 = some (1, 8, false, some (.nilFunc)) := by kernel_rfl
theorem ty67 : tyInfo Try.prog 67 = some (1, 8, false, some (.nilFunc)) := by kernel_rfl
theorem ty68 : tyInfo Try.prog 68 = some (1, 8, false, some (.nilFunc)) := by kernel_rfl
theorem ty69 : tyInfo Try.prog 69 = some (1, 8, false, some (.nilFunc)) := by kernel_rfl
theorem ty70 : tyInfo Try.prog 70 = some (1, 8, false, some (.nilFunc)) := by kernel_rfl
theorem ty71 : tyInfo Try.prog 71 = some (1, 8, false, some (.nilFunc)) := by kernel_rfl
theorem ty72 : tyInfo Try.prog 72 = some (1, 8, false, some (.int .u64 0)) := by kernel_rfl
theorem ty73 : tyInfo Try.prog 73 = some (1, 8, false, some (.nilFunc)) := by kernel_rfl
theorem ty79 : tyInfo Try.prog 79 = some (1, 8, false, some (.nilFunc)) := by kernel_rfl
theorem ty80 : tyInfo Try.prog 80 = some (1, 4, false, some (.int .u32 0)) := by kernel_rfl
theorem ty84 : tyInfo Try.prog 84 = some (1, 8, false, some (.pointer none)) := by kernel_rfl
theorem u2 : Try.prog.underlying 2 = some (.int .i64) := by kernel_rfl
theorem u3 : Try.prog.underlying 3 = some (.int .i64) := by kernel_rfl
theorem u4 : Try.prog.underlying 4 = some (.bool) := by kernel_rfl
theorem u5 : Try.prog.underlying 5 = some (.int .u8) := by kernel_rfl
theorem u9 : Try.prog.underlying 9 = some (.string) := by kernel_rfl
theorem u12 : Try.prog.underlying 12 = some (.int .u64) := by kernel_rfl
theorem u21 : Try.prog.underlying 21 = some (.int .i32) := by kernel_rfl
theorem u22 : Try.prog.underlying 22 = some (.slice 39) := by kernel_rfl
theorem u23 : Try.prog.underlying 23 = some (.slice 3) := by kernel_rfl
theorem u24 : Try.prog.underlying 24 = some (.slice 23) := by kernel_rfl
theorem u25 : Try.prog.underlying 25 = some (.slice 4) := by kernel_rfl
theorem u32 : Try.prog.underlying 32 = some (.int .i64) := by kernel_rfl
theorem u35 : Try.prog.underlying 35 = some (.int .u64) := by kernel_rfl
theorem u36 : Try.prog.underlying 36 = some (.array 4 35) := by kernel_rfl
theorem u37 : Try.prog.underlying 37 = some (.array 4 35) := by kernel_rfl
theorem u42 : Try.prog.underlying 42 = some (.slice 27) := by kernel_rfl
theorem u43 : Try.prog.underlying 43 = some (.slice 37) := by kernel_rfl
theorem u57 : Try.prog.underlying 57 = some (.slice 5) := by kernel_rfl
theorem u72 : Try.prog.underlying 72 = some (.int .u64) := by kernel_rfl
theorem u80 : Try.prog.underlying 80 = some (.int .u32) := by kernel_rfl
theorem u84 : Try.prog.underlying 84 = some (.pointer 5) := by kernel_rfl
theorem fd13_0 : fieldInfo Try.prog 13 0 = some (0, 9) := by kernel_rfl
theorem fd13_1 : fieldInfo Try.prog 13 1 = some (1, 12) := by kernel_rfl
theorem fd26_0 : fieldInfo Try.prog 26 0 = some (0, 22) := by kernel_rfl
theorem fd26_1 : fieldInfo Try.prog 26 1 = some (1, 23) := by kernel_rfl
theorem fd26_2 : fieldInfo Try.prog 26 2 = some (2, 24) := by kernel_rfl
theorem fd26_3 : fieldInfo Try.prog 26 3 = some (3, 25) := by kernel_rfl
theorem fd26_4 : fieldInfo Try.prog 26 4 = some (4, 4) := by kernel_rfl
theorem fd27_0 : fieldInfo Try.prog 27 0 = some (0, 22) := by kernel_rfl
theorem fd27_1 : fieldInfo Try.prog 27 1 = some (1, 23) := by kernel_rfl
theorem fd27_2 : fieldInfo Try.prog 27 2 = some (2, 24) := by kernel_rfl
theorem fd27_3 : fieldInfo Try.prog 27 3 = some (3, 25) := by kernel_rfl
theorem fd27_4 : fieldInfo Try.prog 27 4 = some (4, 4) := by kernel_rfl
theorem fd38_0 : fieldInfo Try.prog 38 0 = some (0, 37) := by kernel_rfl
theorem fd38_1 : fieldInfo Try.prog 38 1 = some (4, 5) := by kernel_rfl
theorem fd39_0 : fieldInfo Try.prog 39 0 = some (0, 37) := by kernel_rfl
theorem fd39_1 : fieldInfo Try.prog 39 1 = some (4, 5) := by kernel_rfl
theorem pl13 : placesInfo Try.prog 13 = some [(0, 1), (1, 1)] := by kernel_rfl
theorem pl26 : placesInfo Try.prog 26 = some [(0, 1), (1, 1), (2, 1), (3, 1), (4, 1)] := by kernel_rfl
theorem pl27 : placesInfo Try.prog 27 = some [(0, 1), (1, 1), (2, 1), (3, 1), (4, 1)] := by kernel_rfl
theorem pl38 : placesInfo Try.prog 38 = some [(0, 4), (4, 1)] := by kernel_rfl
theorem pl39 : placesInfo Try.prog 39 = some [(0, 4), (4, 1)] := by kernel_rfl
theorem q36 : Try.prog.eqGuardType Try.prog.depth 36 = false := by kernel_rfl
theorem q37 : Try.prog.eqGuardType Try.prog.depth 37 = false := by kernel_rfl
theorem q39 : Try.prog.eqGuardType Try.prog.depth 39 = false := by kernel_rfl
theorem ca3 : Callable Try.prog 3 := ⟨Try.f3, Try.func3, rfl, by decide⟩
theorem ca4 : Callable Try.prog 4 := ⟨Try.f4, Try.func4, rfl, by decide⟩
theorem ca5 : Callable Try.prog 5 := ⟨Try.f5, Try.func5, rfl, by decide⟩
theorem ca6 : Callable Try.prog 6 := ⟨Try.f6, Try.func6, rfl, by decide⟩
theorem ca7 : Callable Try.prog 7 := ⟨Try.f7, Try.func7, rfl, by decide⟩
theorem ca8 : Callable Try.prog 8 := ⟨Try.f8, Try.func8, rfl, by decide⟩
theorem ca9 : Callable Try.prog 9 := ⟨Try.f9, Try.func9, rfl, by decide⟩
theorem ca10 : Callable Try.prog 10 := ⟨Try.f10, Try.func10, rfl, by decide⟩
theorem ca11 : Callable Try.prog 11 := ⟨Try.f11, Try.func11, rfl, by decide⟩
theorem ca12 : Callable Try.prog 12 := ⟨Try.f12, Try.func12, rfl, by decide⟩
theorem ca13 : Callable Try.prog 13 := ⟨Try.f13, Try.func13, rfl, by decide⟩
theorem ca14 : Callable Try.prog 14 := ⟨Try.f14, Try.func14, rfl, by decide⟩
theorem ca15 : Callable Try.prog 15 := ⟨Try.f15, Try.func15, rfl, by decide⟩
theorem ca16 : Callable Try.prog 16 := ⟨Try.f16, Try.func16, rfl, by decide⟩
theorem ca17 : Callable Try.prog 17 := ⟨Try.f17, Try.func17, rfl, by decide⟩
theorem ca18 : Callable Try.prog 18 := ⟨Try.f18, Try.func18, rfl, by decide⟩
theorem ca19 : Callable Try.prog 19 := ⟨Try.f19, Try.func19, rfl, by decide⟩
theorem ca20 : Callable Try.prog 20 := ⟨Try.f20, Try.func20, rfl, by decide⟩
theorem ca21 : Callable Try.prog 21 := ⟨Try.f21, Try.func21, rfl, by decide⟩
theorem ca22 : Callable Try.prog 22 := ⟨Try.f22, Try.func22, rfl, by decide⟩
theorem ca23 : Callable Try.prog 23 := ⟨Try.f23, Try.func23, rfl, by decide⟩
theorem ca24 : Callable Try.prog 24 := ⟨Try.f24, Try.func24, rfl, by decide⟩
theorem ca25 : Callable Try.prog 25 := ⟨Try.f25, Try.func25, rfl, by decide⟩
theorem ca26 : Callable Try.prog 26 := ⟨Try.f26, Try.func26, rfl, by decide⟩
theorem ca27 : Callable Try.prog 27 := ⟨Try.f27, Try.func27, rfl, by decide⟩
theorem ca28 : Callable Try.prog 28 := ⟨Try.f28, Try.func28, rfl, by decide⟩
theorem ca29 : Callable Try.prog 29 := ⟨Try.f29, Try.func29, rfl, by decide⟩
theorem ca30 : Callable Try.prog 30 := ⟨Try.f30, Try.func30, rfl, by decide⟩
theorem ca31 : Callable Try.prog 31 := ⟨Try.f31, Try.func31, rfl, by decide⟩
theorem ca32 : Callable Try.prog 32 := ⟨Try.f32, Try.func32, rfl, by decide⟩
theorem ca33 : Callable Try.prog 33 := ⟨Try.f33, Try.func33, rfl, by decide⟩
theorem ca34 : Callable Try.prog 34 := ⟨Try.f34, Try.func34, rfl, by decide⟩
theorem ca35 : Callable Try.prog 35 := ⟨Try.f35, Try.func35, rfl, by decide⟩
theorem ca36 : Callable Try.prog 36 := ⟨Try.f36, Try.func36, rfl, by decide⟩
theorem ca37 : Callable Try.prog 37 := ⟨Try.f37, Try.func37, rfl, by decide⟩
theorem ca38 : Callable Try.prog 38 := ⟨Try.f38, Try.func38, rfl, by decide⟩
theorem ca39 : Callable Try.prog 39 := ⟨Try.f39, Try.func39, rfl, by decide⟩
theorem ca40 : Callable Try.prog 40 := ⟨Try.f40, Try.func40, rfl, by decide⟩
theorem ca41 : Callable Try.prog 41 := ⟨Try.f41, Try.func41, rfl, by decide⟩
theorem ca42 : Callable Try.prog 42 := ⟨Try.f42, Try.func42, rfl, by decide⟩
theorem ca43 : Callable Try.prog 43 := ⟨Try.f43, Try.func43, rfl, by decide⟩
theorem ca44 : Callable Try.prog 44 := ⟨Try.f44, Try.func44, rfl, by decide⟩
theorem ca45 : Callable Try.prog 45 := ⟨Try.f45, Try.func45, rfl, by decide⟩
theorem ca46 : Callable Try.prog 46 := ⟨Try.f46, Try.func46, rfl, by decide⟩
theorem ca47 : Callable Try.prog 47 := ⟨Try.f47, Try.func47, rfl, by decide⟩
theorem ca48 : Callable Try.prog 48 := ⟨Try.f48, Try.func48, rfl, by decide⟩
theorem ca49 : Callable Try.prog 49 := ⟨Try.f49, Try.func49, rfl, by decide⟩
theorem ca50 : Callable Try.prog 50 := ⟨Try.f50, Try.func50, rfl, by decide⟩
theorem ca51 : Callable Try.prog 51 := ⟨Try.f51, Try.func51, rfl, by decide⟩
end Go.Proofs.Ytlcmimjdnhjeoaa
