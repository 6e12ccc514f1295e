/- The least and the greatest of two. -/
import Derived.Test.YtokhpacdgoebpaaGr
import Derived.Laws.Small
namespace Go.En
open Go.RowKit
set_option linter.unusedVariables false
section
variable {E : Env} {P : Program} {Γ : Ctx} {M : Mem} {ty : TypeId} {pos : String} {after : Array Edge} {gd : Option (Nat × Bool)} {d : Option Tmp} {x y : Operand} {ts : Array TypeId} {m n : Int}
theorem OK1.minI (hx : Has E Γ M x (isI m)) (hy : Has E Γ M y (isI n)) : OK1 E P Γ M ⟨d, .call ⟨.builtin .min, #[x, y], ts⟩, ty, pos, after, gd⟩ (isI (if n < m then n else m)) :=
  .run fun a w F s => by
    have e1 := evI hx a w F s
    have e2 := evI hy a w F s
    refine ⟨_, by simp only [execOp, resolve, invoke, builtin, Sem.run_bind]; simp [e1, e2, Sem.run_bind, run_min_int2]; rfl, ?_⟩
    have h1 := (hx a w F s).2
    have h2 := (hy a w F s).2
    split
    · exact ⟨rfl, h2⟩
    · exact ⟨rfl, h1⟩
theorem OK1.maxI (hx : Has E Γ M x (isI m)) (hy : Has E Γ M y (isI n)) : OK1 E P Γ M ⟨d, .call ⟨.builtin .max, #[x, y], ts⟩, ty, pos, after, gd⟩ (isI (if m < n then n else m)) :=
  .run fun a w F s => by
    have e1 := evI hx a w F s
    have e2 := evI hy a w F s
    refine ⟨_, by simp only [execOp, resolve, invoke, builtin, Sem.run_bind]; simp [e1, e2, Sem.run_bind, run_max_int2]; rfl, ?_⟩
    have h1 := (hx a w F s).2
    have h2 := (hy a w F s).2
    split
    · exact ⟨rfl, h2⟩
    · exact ⟨rfl, h1⟩
end
end Go.En
