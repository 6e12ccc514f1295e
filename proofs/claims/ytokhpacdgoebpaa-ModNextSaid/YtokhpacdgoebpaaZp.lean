/- Whole numbers in the program: a sign and words. -/
import Derived.Test.YtokhpacdgoebpaaRd
import Derived.Test.YtokhpacdgoebpaaZM
namespace Go.En
open Go.RowKit Go.Nt
set_option linter.unusedVariables false
abbrev isZ (z : Int) : VP := Flat [isB (decide (z < 0)), SlM isU (words z.natAbs)]
abbrev zM (k : Nat) (z : Int) : Option Nat × MP := (some k, cellM [isB (decide (z < 0)), SlM isU (words z.natAbs)])
theorem isZ_eq {z z' : Int} (h : z = z') : isZ z = isZ z' := h ▸ rfl
theorem isZ_of {n : Bool} {xs : List Nat} {z : Int} (h : n = decide (z < 0)) (h2 : xs = words z.natAbs) : Flat [isB n, SlM isU xs] = isZ z := by subst h; subst h2; rfl
theorem isZ0 : Flat [isB false, SlM isU []] = isZ 0 := isZ_of (by decide) (by rw [Int.natAbs_zero, words_zero])
abbrev isR (z : Int) : VP := Flat [isB (decide (z < 0)), SlM isN (digs z.natAbs)]
abbrev rM (k : Nat) (z : Int) : Option Nat × MP := (some k, cellM [isB (decide (z < 0)), SlM isN (digs z.natAbs)])
theorem isR_eq {z z' : Int} (h : z = z') : isR z = isR z' := h ▸ rfl
theorem isR_of {n : Bool} {xs : List Nat} {z : Int} (h : n = decide (z < 0)) (h2 : xs = digs z.natAbs) : Flat [isB n, SlM isN xs] = isR z := by subst h; subst h2; rfl
section
variable {E : Env} {P : Program} {Γ : Ctx} {M : Mem} {x : Operand}
theorem Has.okZ {n : Bool} {xs : List Nat} (h : Has E Γ M x (Flat [isB n, SlM isU xs])) : ∀ a w F, Sat E Γ M a w F → (∀ y ∈ xs, y < 18446744073709551616) ∧ xs.length ≤ 9223372036854775807 := by
  intro a w F s
  obtain ⟨vs, e, hv⟩ := h a w F s
  obtain ⟨v, hv1, hv2⟩ := hv.get 1 (SlM isU xs) rfl
  obtain ⟨ad, cap, e, g1, g2, g3, g4⟩ := hv2
  refine ⟨fun y hy => ?_, by rw [maxLen_eq] at g2; omega⟩
  obtain ⟨i, hi, rfl⟩ := List.mem_iff_getElem.1 hy
  rcases g4 with g4 | ⟨b, off, _, _, vs, hv, _⟩
  · omega
  · obtain ⟨v, _, h2⟩ := hv.get i (isU xs[i]) (by simp [hi])
    exact h2.2
theorem Has.lt2 {a b : Nat} (h : Has E Γ M x (Flat [isU a, isU b])) : ∀ ac w F, Sat E Γ M ac w F → a < 18446744073709551616 ∧ b < 18446744073709551616 := by
  intro ac w F s
  obtain ⟨vs, e, hv⟩ := h ac w F s
  obtain ⟨v, hv1, hv2⟩ := hv.get 0 (isU a) rfl
  obtain ⟨v', hv3, hv4⟩ := hv.get 1 (isU b) rfl
  exact ⟨hv2.2, hv4.2⟩
theorem zM_eq {k : Nat} {z z' : Int} {r r' : Mem} (h : z = z') (h2 : r = r') : (zM k z :: r : Mem) = zM k z' :: r' := by subst h; subst h2; rfl
end
end Go.En
