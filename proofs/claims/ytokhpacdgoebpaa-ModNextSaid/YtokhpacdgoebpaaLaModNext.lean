/- The law ModNext. -/
import Derived.Test.YtokhpacdgoebpaaL6e
import Derived.Test.YtokhpacdgoebpaaRows
import Derived.Test.YtokhpacdgoebpaaLawS
namespace Go.Proofs.Ytokhpacdgoebpaa
open Go.En Go.RowKit
set_option linter.unusedVariables false
set_option maxRecDepth 10000
open Go.Nt
open Go.ChangeShapes Go.WideShapes Go.ChangeAt
theorem opens_ModNext : Opens Try.prog Try.f11 11 := by
  intro H enc W base args ds ps hval hA hlt
  rw [Try.params11] at hA hval
  obtain ⟨v0, vs0, d0, ds0, p0, q0, hargs, rfl, rfl, h0, r0⟩ := trodAll_cons hA
  obtain ⟨rfl, rfl, rfl⟩ := trodAll_nil r0
  obtain rfl : args = #[v0] := by cases args; simp_all
  obtain ⟨x0, o0⟩ := open_N un71 rfl (hval 0 71 v0 rfl rfl) h0
  refine ⟨_, ?_, c_ModNext x0⟩
  exact ⟨o0 _, trivial⟩
theorem modNext_said : Rows.ModNextSaid :=
  OpenClaim.holds_of_wide 11 Try.f11 rfl rfl rfl rfl rfl rfl rfl ⟨rfl, rfl, rfl, rfl, rfl⟩ rfl rfl rfl rfl rfl (by kernel_rfl) Try.func11 (by kernel_rfl)
    (of_decide_eq_true (by kernel_rfl)) (by unfold Func.isWrapper; first | (rw [if_pos (by decide +kernel)]; kernel_rfl) | (rw [if_neg (by decide +kernel)]; exact ⟨rfl, rfl⟩))
    (fun os started H enc _ => lift_law (C := Try.checked) (s := Rows.modNextSpec) (by kernel_rfl) started (by kernel_rfl) Try.func11
      (ChangeSpec.witness6 (enc := enc) (C := Try.checked) false ⟨#[], #[.int .u32 0], []⟩ 8 (by kernel_rfl) (by kernel_rfl) (by kernel_rfl) (by kernel_rfl))
      (by kernel_rfl) (by kernel_rfl) rfl rfl un4 (fun ds h => by match ds, h with | [d0], _ => rfl) opens_ModNext)
#print axioms modNext_said
end Go.Proofs.Ytokhpacdgoebpaa
