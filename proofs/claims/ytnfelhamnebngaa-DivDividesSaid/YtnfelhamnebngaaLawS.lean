/- Slices that a law is handed. -/
import Derived.Test.YtnfelhamnebngaaLaw
import Derived.Test.YtnfelhamnebngaaOw
import Derived.ChangeSlices
namespace Go.En
open Go.RowKit Go.ChangeShapes Go.WideShapes Go.ChangeAt
set_option linter.unusedVariables false
section
variable {H : Type} {enc : TypeId × Value → H} {P : Program}
theorem All2_mapG {α : Type} {f : α → VP} {w : World} {F : Blk} : ∀ {xs : List α} {g : α → Value}, (∀ x ∈ xs, (f x).h w F (g x)) → All2 (xs.map f) w F (xs.map g)
  | [], _, _ => trivial
  | x :: xs, g, h => ⟨h x (by simp), All2_mapG fun y hy => h y (by simp [hy])⟩
/-- a slice of whole numbers of one kind -/
theorem open_row {α : Type} {f : α → VP} {num : α → Int} {W : World} {base : Nat} {T T' : TypeId} {k : IntKind} {v : Value} {d : DataW H} {ps : List MemPlace} (hu : P.underlying T = some (.slice T')) (hu' : P.underlying T' = some (.int k)) (hc : P.cellsOf T' = 1)
    (hf : ∀ z, rng k z → ∃ a, num a = z ∧ ∀ w F, (f a).h w F (.int k z))
    (hv : Value.okWide P W .any base T v) (h : DataW.Trod enc P W 0 (fun _ => true) true T v d ps) (hps : ∀ x ∈ ps, x.block < W.heap.size) : ∃ xs : List α, (SlM f xs).h W (fun b => b < W.heap.size) v := by
  obtain ⟨a0, n0, c0, rfl⟩ := okWide_slice hu hv
  obtain ⟨fuel, hf'⟩ := h
  rcases open_ints hu hu' hc hf' with ⟨h1, _⟩ | ⟨a, len, cap, zs, h1, h2, h3, h4, h5, h6, h7, h8⟩
  · obtain ⟨rfl, rfl, rfl⟩ : a0 = none ∧ n0 = 0 ∧ c0 = 0 := by simpa [Value.cells] using h1
    exact ⟨[], nilM _ _⟩
  · obtain ⟨rfl, rfl, rfl⟩ : a0 = some a ∧ n0 = len ∧ c0 = cap := by simpa [Value.cells] using h1
    simp only [if_true] at h5
    have hex : ∀ z ∈ zs, ∃ x, num x = z ∧ ∀ w F, (f x).h w F (.int k z) := fun z hz => hf z (by simpa [Lit.wf, rng] using h8 z hz)
    obtain ⟨l, hl, hget⟩ := list_of_get (p := fun i (x : α) => ∀ w F, (f x).h w F (.int k (zs.getD i 0))) n0 (fun i hi => by
      have hz : zs.getD i 0 ∈ zs := by
        have : i < zs.length := by omega
        simp [List.getD, this]
      obtain ⟨x, _, hx⟩ := hex _ hz
      exact ⟨x, hx⟩)
    refine ⟨l, some a, c0, by rw [hl], by rw [hl]; exact h3, h4, by simp, ?_⟩
    rcases Nat.eq_zero_or_pos n0 with h0 | h0
    · exact .inl (by omega)
    · have hc0 := h7 0 (by omega)
      have hs : a.spot = none := by
        cases hsp : a.spot with
        | none => rfl
        | some s =>
          simp only [Addr.add, if_true] at hc0
          unfold World.cell? at hc0
          rw [hsp] at hc0
          split at hc0 <;> simp at hc0
      obtain ⟨b, off, sp⟩ := a
      simp only at hs
      subst hs
      right
      refine ⟨b, off, rfl, ?_, (List.range n0).map (fun i => .int k (zs.getD i 0)), ?_, fun j u hj => ?_⟩
      · have : MemPlace.cell b (off + 0) ∈ ps := by
          rw [(Prod.mk.inj h6).2, MemPlace.row]
          exact List.mem_map.2 ⟨0, by simp; omega, rfl⟩
        exact hps _ this
      · refine all2_of_get (by simp [hl]) (fun i S v hS hv => ?_)
        have hi : i < l.length := by
          rcases Nat.lt_or_ge i l.length with h | h
          · exact h
          · rw [List.getElem?_eq_none (by simpa using h)] at hS; cases hS
        rw [List.getElem?_map, List.getElem?_eq_getElem hi] at hS
        rw [List.getElem?_map, List.getElem?_range (by omega)] at hv
        simp at hS hv
        subst hS; subst hv
        simpa [List.getD] using hget i hi W (fun b => b < W.heap.size)
      · have hjl : j < n0 := by
          rcases Nat.lt_or_ge j n0 with h | h
          · exact h
          · rw [List.getElem?_eq_none (by simpa using h)] at hj; cases hj
        rw [List.getElem?_map, List.getElem?_range hjl] at hj
        simp at hj
        subst hj
        have := h7 j (by omega)
        rw [add_mk] at this
        simpa [List.getD] using this
theorem open_words {W : World} {base : Nat} {T T' : TypeId} {v : Value} {d : DataW H} {ps : List MemPlace} (hu : P.underlying T = some (.slice T')) (hu' : P.underlying T' = some (.int .u64)) (hc : P.cellsOf T' = 1)
    (hv : Value.okWide P W .any base T v) (h : DataW.Trod enc P W 0 (fun _ => true) true T v d ps) (hps : ∀ x ∈ ps, x.block < W.heap.size) : ∃ xs : List Nat, (isWords xs).h W (fun b => b < W.heap.size) v :=
  open_row (num := fun n : Nat => (n : Int)) hu hu' hc (fun z hz => by
    obtain ⟨h1, h2⟩ := hz
    simp [IntKind.min, IntKind.max, IntKind.signed, IntKind.bits] at h1 h2
    refine ⟨z.toNat, by omega, fun w F => ⟨?_, by omega⟩⟩
    rw [Int.toNat_of_nonneg h1]) hv h hps
end
end Go.En
