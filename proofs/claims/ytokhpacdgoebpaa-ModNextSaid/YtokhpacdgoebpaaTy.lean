/- Closed facts about the types of the translation. -/
import Derived.Test.YtokhpacdgoebpaaLawS
import Derived.Test.YtokhpacdgoebpaaOw
import Derived.Test.YtokhpacdgoebpaaProg
import Derived.KernelRfl
namespace Go.Proofs.Ytokhpacdgoebpaa
open Go.En
theorem arr81 : arrB Try.prog 81 = some (2, 27) := by kernel_rfl
theorem arr93 : arrB Try.prog 93 = some (12, 27) := by kernel_rfl
theorem by27 : byLe Try.prog 27 1024 = true := by kernel_rfl
theorem by3 : byLe Try.prog 3 1024 = true := by kernel_rfl
theorem ext_add64 : IsExt Try.prog 145 add64Entry := ⟨⟨Try.f145, Try.func145, by kernel_rfl, by kernel_rfl, by kernel_rfl, by kernel_rfl⟩⟩
theorem ext_sub64 : IsExt Try.prog 148 subE := ⟨⟨Try.f148, Try.func148, by kernel_rfl, by kernel_rfl, by kernel_rfl, by kernel_rfl⟩⟩
theorem fld112_0 : fldB Try.prog 112 0 = some (0, 4) := by kernel_rfl
theorem fld112_1 : fldB Try.prog 112 1 = some (1, 32) := by kernel_rfl
theorem fld29_0 : fldB Try.prog 29 0 = some (0, 27) := by kernel_rfl
theorem fld55_0 : fldB Try.prog 55 0 = some (0, 4) := by kernel_rfl
theorem fld55_1 : fldB Try.prog 55 1 = some (1, 53) := by kernel_rfl
theorem fs55 : fsB Try.prog 55 = some [(4, 0), (53, 1)] := by kernel_rfl
theorem mixed : Try.prog.follows .mixedOrders = true := by kernel_rfl
theorem pl112 : plB Try.prog 112 = some [(0, 1), (1, 1)] := by kernel_rfl
theorem pl29 : plB Try.prog 29 = some [(0, 1)] := by kernel_rfl
theorem pl55 : plB Try.prog 55 = some [(0, 1), (1, 1)] := by kernel_rfl
theorem sl22 : slB Try.prog 22 = some 27 := by kernel_rfl
theorem sl32 : slB Try.prog 32 = some 3 := by kernel_rfl
theorem sl53 : slB Try.prog 53 = some 27 := by kernel_rfl
theorem ty112 : tyB Try.prog 112 = some (2, true) := by kernel_rfl
theorem ty27 : tyB Try.prog 27 = some (1, false) := by kernel_rfl
theorem ty29 : tyB Try.prog 29 = some (1, true) := by kernel_rfl
theorem ty3 : tyB Try.prog 3 = some (1, false) := by kernel_rfl
theorem ty32 : tyB Try.prog 32 = some (1, false) := by kernel_rfl
theorem ty4 : tyB Try.prog 4 = some (1, false) := by kernel_rfl
theorem ty53 : tyB Try.prog 53 = some (1, false) := by kernel_rfl
theorem ty55 : tyB Try.prog 55 = some (2, true) := by kernel_rfl
theorem un164 : Try.prog.underlying 164 = some (.int .u64) := by kernel_rfl
theorem un2 : Try.prog.underlying 2 = some (.int .i64) := by kernel_rfl
theorem un27 : Try.prog.underlying 27 = some (.int .u64) := by kernel_rfl
theorem un3 : Try.prog.underlying 3 = some (.int .i64) := by kernel_rfl
theorem un4 : Try.prog.underlying 4 = some .bool := by kernel_rfl
theorem un5 : Try.prog.underlying 5 = some (.int .u8) := by kernel_rfl
theorem un53 : Try.prog.underlying 53 = some (.slice 27) := by kernel_rfl
theorem un71 : Try.prog.underlying 71 = some (.int .u32) := by kernel_rfl
theorem un78 : Try.prog.underlying 78 = some (.int .i8) := by kernel_rfl
theorem un9 : Try.prog.underlying 9 = some .string := by kernel_rfl
theorem zero112 : zeroB Try.prog 112 = some (.agg #[.bool false, .slice none 0 0]) := by kernel_rfl
theorem zero27 : zeroB Try.prog 27 = some (.int .u64 0) := by kernel_rfl
theorem zero29 : zeroB Try.prog 29 = some (.agg #[.int .u64 0]) := by kernel_rfl
theorem zero3 : zeroB Try.prog 3 = some (.int .i64 0) := by kernel_rfl
theorem zero55 : zeroB Try.prog 55 = some (.agg #[.bool false, .slice none 0 0]) := by kernel_rfl
theorem zero93 : zeroB Try.prog 93 = some (.agg #[.int .u64 0, .int .u64 0, .int .u64 0, .int .u64 0, .int .u64 0, .int .u64 0, .int .u64 0, .int .u64 0, .int .u64 0, .int .u64 0, .int .u64 0, .int .u64 0]) := by kernel_rfl
end Go.Proofs.Ytokhpacdgoebpaa
