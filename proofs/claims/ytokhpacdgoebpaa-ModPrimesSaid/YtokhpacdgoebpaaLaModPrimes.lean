/- The law ModPrimes. -/
import Derived.Test.YtokhpacdgoebpaaL6b
import Derived.Test.YtokhpacdgoebpaaRows
import Derived.Test.YtokhpacdgoebpaaLawS
namespace Go.Proofs.Ytokhpacdgoebpaa
open Go.En Go.RowKit
set_option linter.unusedVariables false
set_option maxRecDepth 10000
open Go.Nt
open Go.ChangeShapes Go.WideShapes Go.ChangeAt
theorem opens_ModPrimes : Opens Try.prog Try.f10 10 := by
  intro H enc W base args ds ps hval hA hlt
  rw [Try.params10] at hA hval
  obtain ⟨v0, vs0, d0, ds0, p0, q0, hargs, rfl, rfl, h0, r0⟩ := trodAll_cons hA
  obtain ⟨v1, vs1, d1, ds1, p1, q1, rfl, rfl, rfl, h1, r1⟩ := trodAll_cons r0
  obtain ⟨rfl, rfl, rfl⟩ := trodAll_nil r1
  obtain rfl : args = #[v0, v1] := by cases args; simp_all
  obtain ⟨x0, o0⟩ := open_N un71 rfl (hval 0 71 v0 rfl rfl) h0
  obtain ⟨x1, o1⟩ := open_U un27 (hval 1 27 v1 rfl rfl) h1
  refine ⟨_, ?_, c_ModPrimes x0 x1⟩
  exact ⟨o0 _, o1 _, trivial⟩
theorem modPrimes_said : Rows.ModPrimesSaid :=
  OpenClaim.holds_of_wide 10 Try.f10 rfl rfl rfl rfl rfl rfl rfl ⟨rfl, rfl, rfl, rfl, rfl⟩ rfl rfl rfl rfl rfl (by kernel_rfl) Try.func10 (by kernel_rfl)
    (of_decide_eq_true (by kernel_rfl)) (by unfold Func.isWrapper; first | (rw [if_pos (by decide +kernel)]; kernel_rfl) | (rw [if_neg (by decide +kernel)]; exact ⟨rfl, rfl⟩))
    (fun os started H enc _ => lift_law (C := Try.checked) (s := Rows.modPrimesSpec) (by kernel_rfl) started (by kernel_rfl) Try.func10
      (ChangeSpec.witness6 (enc := enc) (C := Try.checked) false ⟨#[], #[.int .u32 0, .int .u64 0], []⟩ 8 (by kernel_rfl) (by kernel_rfl) (by kernel_rfl) (by kernel_rfl))
      (by kernel_rfl) (by kernel_rfl) rfl rfl un4 (fun ds h => by match ds, h with | [d0, d1], _ => rfl) opens_ModPrimes)
#print axioms modPrimes_said
end Go.Proofs.Ytokhpacdgoebpaa
