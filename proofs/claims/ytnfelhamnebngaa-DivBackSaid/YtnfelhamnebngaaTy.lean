/- Closed facts about the types of the translation. -/
import Derived.Test.YtnfelhamnebngaaLaw
import Derived.Test.YtnfelhamnebngaaOw
import Derived.Test.YtnfelhamnebngaaProg
import Derived.KernelRfl
namespace Go.Proofs.Ytnfelhamnebngaa
open Go.En
theorem arr81 : arrB Try.prog 81 = some (12, 27) := by kernel_rfl
theorem by27 : byLe Try.prog 27 1024 = true := by kernel_rfl
theorem by3 : byLe Try.prog 3 1024 = true := by kernel_rfl
theorem ext_add64 : IsExt Try.prog 104 add64Entry := ⟨⟨Try.f104, Try.func104, by kernel_rfl, by kernel_rfl, by kernel_rfl, by kernel_rfl⟩⟩
theorem ext_sub64 : IsExt Try.prog 122 subE := ⟨⟨Try.f122, Try.func122, by kernel_rfl, by kernel_rfl, by kernel_rfl, by kernel_rfl⟩⟩
theorem fld29_0 : fldB Try.prog 29 0 = some (0, 27) := by kernel_rfl
theorem mixed : Try.prog.follows .mixedOrders = true := by kernel_rfl
theorem pl29 : plB Try.prog 29 = some [(0, 1)] := by kernel_rfl
theorem sl22 : slB Try.prog 22 = some 27 := by kernel_rfl
theorem sl32 : slB Try.prog 32 = some 3 := by kernel_rfl
theorem sl53 : slB Try.prog 53 = some 27 := by kernel_rfl
theorem ty27 : tyB Try.prog 27 = some (1, false) := by kernel_rfl
theorem ty29 : tyB Try.prog 29 = some (1, true) := by kernel_rfl
theorem ty3 : tyB Try.prog 3 = some (1, false) := by kernel_rfl
theorem un113 : Try.prog.underlying 113 = some (.int .u64) := by kernel_rfl
theorem un27 : Try.prog.underlying 27 = some (.int .u64) := by kernel_rfl
theorem un3 : Try.prog.underlying 3 = some (.int .i64) := by kernel_rfl
theorem un4 : Try.prog.underlying 4 = some .bool := by kernel_rfl
theorem un5 : Try.prog.underlying 5 = some (.int .u8) := by kernel_rfl
theorem un53 : Try.prog.underlying 53 = some (.slice 27) := by kernel_rfl
theorem un9 : Try.prog.underlying 9 = some .string := by kernel_rfl
theorem zero27 : zeroB Try.prog 27 = some (.int .u64 0) := by kernel_rfl
theorem zero29 : zeroB Try.prog 29 = some (.agg #[.int .u64 0]) := by kernel_rfl
theorem zero3 : zeroB Try.prog 3 = some (.int .i64 0) := by kernel_rfl
theorem zero81 : zeroB Try.prog 81 = some (.agg #[.int .u64 0, .int .u64 0, .int .u64 0, .int .u64 0, .int .u64 0, .int .u64 0, .int .u64 0, .int .u64 0, .int .u64 0, .int .u64 0, .int .u64 0, .int .u64 0]) := by kernel_rfl
end Go.Proofs.Ytnfelhamnebngaa
