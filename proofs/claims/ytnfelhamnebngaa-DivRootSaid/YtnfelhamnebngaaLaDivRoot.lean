/- The law DivRoot. -/
import Derived.Test.YtnfelhamnebngaaL3a
import Derived.Test.YtnfelhamnebngaaRows
import Derived.Test.YtnfelhamnebngaaLawS
namespace Go.Proofs.Ytnfelhamnebngaa
open Go.En Go.RowKit
set_option linter.unusedVariables false
set_option maxRecDepth 10000
open Go.Nt
open Go.ChangeShapes Go.WideShapes Go.ChangeAt
theorem opens_DivRoot : Opens Try.prog Try.f13 13 := by
  intro H enc W base args ds ps hval hA hlt
  rw [Try.params13] at hA hval
  obtain ⟨v0, vs0, d0, ds0, p0, q0, hargs, rfl, rfl, h0, r0⟩ := trodAll_cons hA
  obtain ⟨rfl, rfl, rfl⟩ := trodAll_nil r0
  obtain rfl : args = #[v0] := by cases args; simp_all
  obtain ⟨x0, o0⟩ := open_words un53 un27 (by kernel_rfl) (hval 0 53 v0 rfl rfl) h0 (fun x hx => hlt x (by simp [hx]))
  refine ⟨_, ?_, c_DivRoot x0⟩
  exact ⟨o0, trivial⟩
theorem divRoot_said : Rows.DivRootSaid :=
  OpenClaim.holds_of_wide 13 Try.f13 rfl rfl rfl rfl rfl rfl rfl ⟨rfl, rfl, rfl, rfl, rfl⟩ rfl rfl rfl rfl rfl (by kernel_rfl) Try.func13 (by kernel_rfl)
    (of_decide_eq_true (by kernel_rfl)) (by unfold Func.isWrapper; first | (rw [if_pos (by decide +kernel)]; kernel_rfl) | (rw [if_neg (by decide +kernel)]; exact ⟨rfl, rfl⟩))
    (fun os started H enc _ => lift_law (C := Try.checked) (s := Rows.divRootSpec) (by kernel_rfl) started (by kernel_rfl) Try.func13
      (ChangeSpec.witness6 (enc := enc) (C := Try.checked) false ⟨#[], #[.slice none 0 0], []⟩ 8 (by kernel_rfl) (by kernel_rfl) (by kernel_rfl) (by kernel_rfl))
      (by kernel_rfl) (by kernel_rfl) rfl rfl un4 (fun ds h => by match ds, h with | [d0], _ => rfl) opens_DivRoot)
#print axioms divRoot_said
end Go.Proofs.Ytnfelhamnebngaa
