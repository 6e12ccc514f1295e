/- Closed facts about the types of the translation. -/
import Derived.Test.YtoegabldmcbgpaaLaw
import Derived.Test.YtoegabldmcbgpaaProg
import Derived.KernelRfl
namespace Go.Proofs.Ytoegabldmcbgpaa
open Go.En
theorem arr36 : arrB Try.prog 36 = some (3, 22) := by kernel_rfl
theorem arr43 : arrB Try.prog 43 = some (12, 22) := by kernel_rfl
theorem fld25_0 : fldB Try.prog 25 0 = some (0, 22) := by kernel_rfl
theorem mixed : Try.prog.follows .mixedOrders = true := by kernel_rfl
theorem pl25 : plB Try.prog 25 = some [(0, 1)] := by kernel_rfl
theorem ty22 : tyB Try.prog 22 = some (1, false) := by kernel_rfl
theorem ty25 : tyB Try.prog 25 = some (1, true) := by kernel_rfl
theorem un22 : Try.prog.underlying 22 = some (.int .u64) := by kernel_rfl
theorem un3 : Try.prog.underlying 3 = some (.int .i64) := by kernel_rfl
theorem un32 : Try.prog.underlying 32 = some (.int .u32) := by kernel_rfl
theorem un4 : Try.prog.underlying 4 = some .bool := by kernel_rfl
theorem un40 : Try.prog.underlying 40 = some (.int .i8) := by kernel_rfl
theorem un5 : Try.prog.underlying 5 = some (.int .u8) := by kernel_rfl
theorem zero25 : zeroB Try.prog 25 = some (.agg #[.int .u64 0]) := by kernel_rfl
theorem zero43 : zeroB Try.prog 43 = some (.agg #[.int .u64 0, .int .u64 0, .int .u64 0, .int .u64 0, .int .u64 0, .int .u64 0, .int .u64 0, .int .u64 0, .int .u64 0, .int .u64 0, .int .u64 0, .int .u64 0]) := by kernel_rfl
end Go.Proofs.Ytoegabldmcbgpaa
