/- Slices: read; made by the call and written; frozen when they are handed on. -/
import Derived.Test.YtokhpacdgoebpaaRul
namespace Go.En
open Go.RowKit
set_option linter.unusedVariables false

def nilS : VP := .pure fun v => v = .slice none 0 0
instance : One nilS := ⟨fun w F v h => by rw [show v = _ from h]; rfl⟩
instance : Shape nilS [nilS] := .of_one inferInstance

/-- a slice whose elements, k cells each, hold Ss one after another -/
def SlL (k n : Nat) (Ss : List VP) : VP := ⟨fun w F v => ∃ a cap, v = .slice a n cap ∧ n ≤ cap ∧ cap ≤ maxLen ∧ Ss.length = n * k ∧
    (n = 0 ∨ ∃ b off, a = some ⟨b, off, none⟩ ∧ F b ∧ ∃ vs, All2 Ss w F vs ∧ ∀ (j : Nat) u, vs[j]? = some u → w.cell? ⟨b, off + j, none⟩ = some u),
  fun w w' F F' v h h1 h2 => by
    obtain ⟨a, cap, e, g1, g2, g3, g4⟩ := h
    refine ⟨a, cap, e, g1, g2, g3, g4.imp id ?_⟩
    rintro ⟨b, off, rfl, hF, vs, hv, hc⟩
    refine ⟨b, off, rfl, h2 b hF, vs, All2.mono h1 h2 _ _ hv, fun j u hj => ?_⟩
    rw [← hc j u hj]
    simp only [World.cell?, h1 b hF]⟩
def SlM {α : Type} (f : α → VP) (xs : List α) : VP := SlL 1 xs.length (xs.map f)
def SlK {α : Type} (k : Nat) (f : α → List VP) (xs : List α) : VP := SlL k xs.length (xs.flatMap f)
abbrev isWords (xs : List Nat) : VP := SlM isU xs
abbrev isInts (xs : List Int) : VP := SlM isI xs

/-- a slice over a block that the call may write: from the cell o on -/
def isWin (b o n c : Nat) : VP := .pure fun v => v = .slice (some ⟨b, o, none⟩) n c ∧ n ≤ c ∧ c ≤ maxLen
class IsSl (S : VP) (n : outParam Nat) : Prop where
  sl : ∀ w F v, S.h w F v → ∃ a c, v = .slice a n c ∧ n ≤ c ∧ c ≤ maxLen
instance {k n : Nat} {Ss : List VP} : IsSl (SlL k n Ss) n := ⟨fun w F v ⟨a, c, e, h1, h2, _⟩ => ⟨a, c, e, h1, h2⟩⟩
instance {α : Type} {f : α → VP} {xs : List α} : IsSl (SlM f xs) xs.length := ⟨fun w F v ⟨a, c, e, h1, h2, _⟩ => ⟨a, c, e, h1, h2⟩⟩
instance {α : Type} {k : Nat} {f : α → List VP} {xs : List α} : IsSl (SlK k f xs) xs.length := ⟨fun w F v ⟨a, c, e, h1, h2, _⟩ => ⟨a, c, e, h1, h2⟩⟩
instance {b o n c : Nat} : IsSl (isWin b o n c) n := ⟨fun w F v h => ⟨_, _, h.1, h.2.1, h.2.2⟩⟩
instance : IsSl nilS 0 := ⟨fun w F v h => ⟨_, _, h, Nat.le_refl _, by unfold maxLen; omega⟩⟩
instance (priority := 50) {S : VP} {n : Nat} [h : IsSl S n] : One S := ⟨fun w F v hv => by obtain ⟨a, c, rfl, _⟩ := h.sl w F v hv; rfl⟩
instance {k n : Nat} {Ss : List VP} : Shape (SlL k n Ss) [SlL k n Ss] := .of_one inferInstance
instance {α : Type} {f : α → VP} {xs : List α} : Shape (SlM f xs) [SlM f xs] := .of_one inferInstance
instance {α : Type} {k : Nat} {f : α → List VP} {xs : List α} : Shape (SlK k f xs) [SlK k f xs] := .of_one inferInstance
instance {b o n c : Nat} : Shape (isWin b o n c) [isWin b o n c] := .of_one inferInstance

/-- an address whose cells hold Ss -/
def PtrL (Ss : List VP) : VP := ⟨fun w F v => ∃ b off, v = .pointer (some ⟨b, off, none⟩) ∧ F b ∧ ∃ vs, All2 Ss w F vs ∧ ∀ (j : Nat) u, vs[j]? = some u → w.cell? ⟨b, off + j, none⟩ = some u,
  fun w w' F F' v h h1 h2 => by
    obtain ⟨b, off, e, hF, vs, hv, hc⟩ := h
    refine ⟨b, off, e, h2 b hF, vs, All2.mono h1 h2 _ _ hv, fun j u hj => ?_⟩
    rw [← hc j u hj]
    simp only [World.cell?, h1 b hF]⟩

section
variable {E : Env} {P : Program} {Γ : Ctx} {M : Mem} {ty : TypeId} {pos : String} {after : Array Edge} {gd : Option (Nat × Bool)} {d : Option Tmp}
  {ops : Array Oper} {Q : Exit → Act → World → Prop} {rest : List Oper} {T T' : TypeId} {x y : Operand} {α : Type} {f : α → VP} {fk : α → List VP} {xs : List α}

theorem Has.cS : Has E Γ M (.const (.slice none 0 0)) nilS := fun _ _ _ _ => rfl
theorem maxLen_eq : maxLen = 9223372036854775807 := rfl
theorem slB_under {e : TypeId} (h : slB P T = some e) : P.underlying T = some (.slice e) := by
  unfold slB at h
  cases hu : P.underlying T with
  | none => simp [hu] at h
  | some dd => rw [hu] at h; cases dd <;> simp at h; subst h; rfl
theorem OK1.len {e : TypeId} {S : VP} {n : Nat} [i : IsSl S n] (hT : slB P T = some e) (hx : Has E Γ M x S) : OK1 E P Γ M ⟨d, .call ⟨.builtin .len, #[x], #[T]⟩, ty, pos, after, gd⟩ (isI (n : Int)) :=
  .run fun a w F s => by
    obtain ⟨b, c, he, h1, h2⟩ := i.sl w F _ (hx a w F s)
    have hu := slB_under hT
    refine ⟨.int .i64 n, ?_, isI_of (by omega) (by rw [maxLen_eq] at h2; omega) w F⟩
    simp only [execOp, resolve, invoke, builtin, Sem.run_bind]
    simp [he, Builtin.len_, run_under hu, goInt, Sem.run_bind]
theorem Has.lenLt {S : VP} {n : Nat} [i : IsSl S n] (hx : Has E Γ M x S) : ∀ a w F, Sat E Γ M a w F → n ≤ 9223372036854775807 := fun a w F s => by
  obtain ⟨b, c, he, h1, h2⟩ := i.sl w F _ (hx a w F s)
  rw [maxLen_eq] at h2; omega

theorem flat_drop {k : Nat} : ∀ (xs : List α) (i : Nat) (x : α), (∀ y ∈ xs, (fk y).length = k) → xs[i]? = some x → ((xs.flatMap fk).drop (i * k)).take k = fk x
  | [], i, x, _, h => by simp at h
  | y :: xs, 0, x, hl, h => by
    simp at h; subst h
    have := hl y (by simp)
    simp [this]
  | y :: xs, i + 1, x, hl, h => by
    have h1 := hl y (by simp)
    have := flat_drop xs i x (fun z hz => hl z (by simp [hz])) (by simpa using h)
    rw [List.flatMap_cons, show (i + 1) * k = (fk y).length + i * k by rw [Nat.succ_mul, h1]; omega, List.drop_length_add_append]
    exact this

theorem flat1 : ∀ (xs : List α), xs.flatMap (fun a => [f a]) = xs.map f
  | [] => rfl
  | a :: l => by simp [flat1 l]
theorem run_ix {e : TypeId} {m len cap : Nat} {b off : Nat} {k : IntKind} {z : Int} {g : Bool} (hT : slB P T = some e) (ht : tyB P e = some (m, g)) (h0 : 0 ≤ z) (h1 : z < len) (w : World) :
    (Instr.indexAt T (.slice (some ⟨b, off, none⟩) len cap) (.int k z)).run P w = .ok (.pointer (some ⟨b, off + z.toNat * m, none⟩)) w := by
  have hu := slB_under hT
  simp only [Instr.indexAt, asIntOf, Sem.run_bind, Sem.run_pure, run_under hu, Result.andThen_ok]
  rw [if_pos ⟨h0, h1⟩]
  simp only [Sem.run_bind, run_size ht, Result.andThen_ok, Sem.run_pure, add_mk]

theorem OK1.ixL {e : TypeId} {m n : Nat} {g : Bool} {k : IntKind} {z : Int} {Ss Ts : List VP} (hT : slB P T = some e) (ht : tyB P e = some (m, g)) (hx : Has E Γ M x (SlL m n Ss)) (hy : ∀ a w F, Sat E Γ M a w F → a.eval y = .int k z)
    (h0 : 0 ≤ z) (h1 : z < n) (hS : (Ss.drop (z.toNat * m)).take m = Ts) : OK1 E P Γ M ⟨d, .indexAddr T x y, ty, pos, after, gd⟩ (PtrL Ts) :=
  .run fun a w F s => by
    obtain ⟨ad, cap, he, g1, g2, g3, g4⟩ := hx a w F s
    have h2 := hy a w F s
    rcases g4 with g4 | ⟨b, off, rfl, hF, vs, hv, hc⟩
    · omega
    refine ⟨.pointer (some ⟨b, off + z.toNat * m, none⟩), ?_, b, _, rfl, hF, (vs.drop (z.toNat * m)).take m, hS ▸ (hv.drop _).take m, fun j u hj => ?_⟩
    · simp only [execOp, he, h2, Sem.run_bind, run_ix hT ht h0 h1, Result.andThen_ok, Sem.run_pure]
    · have hjm : j < m := by
        rcases Nat.lt_or_ge j m with h | h
        · exact h
        · rw [List.getElem?_take_eq_none h] at hj; cases hj
      rw [List.getElem?_take_of_lt hjm, List.getElem?_drop] at hj
      have := hc _ _ hj
      rwa [← Nat.add_assoc] at this
theorem OK1.ixP {e : TypeId} {g : Bool} {z : Int} {x' : α} (hT : slB P T = some e) (ht : tyB P e = some (1, g)) (hx : Has E Γ M x (SlM f xs)) (hy : Has E Γ M y (isI z))
    (h0 : 0 ≤ z ∧ z < xs.length) (hS : xs[z.toNat]? = some x') : OK1 E P Γ M ⟨d, .indexAddr T x y, ty, pos, after, gd⟩ (PtrL [f x']) :=
  OK1.ixL hT ht hx (evI hy) h0.1 h0.2 (by
    have := flat_drop (fk := fun a => [f a]) (k := 1) xs z.toNat x' (by simp) hS
    rwa [flat1] at this)
theorem OK1.ixK {e : TypeId} {g : Bool} {k : Nat} {z : Int} {x' : α} (hT : slB P T = some e) (ht : tyB P e = some (k, g)) (hx : Has E Γ M x (SlK k fk xs)) (hy : Has E Γ M y (isI z))
    (hk : ∀ y, (fk y).length = k) (h0 : 0 ≤ z ∧ z < xs.length) (hS : xs[z.toNat]? = some x') : OK1 E P Γ M ⟨d, .indexAddr T x y, ty, pos, after, gd⟩ (PtrL (fk x')) :=
  OK1.ixL hT ht hx (evI hy) h0.1 h0.2 (flat_drop xs z.toNat x' (fun y _ => hk y) hS)
theorem getD_some {d : α} {i : Nat} (h : i < xs.length) : xs[i]? = some (xs.getD i d) := by simp [List.getD, h]
theorem OK1.loadP1 {S : VP} {Ss : List VP} (hx : Has E Γ M x (PtrL (S :: Ss))) (hT : tyB P T = some (1, false)) : OK1 E P Γ M ⟨d, .load T x, ty, pos, after, gd⟩ S :=
  .run fun a w F s => by
    obtain ⟨b, off, he, hF, vs, hv, hc⟩ := hx a w F s
    obtain ⟨v, hv1, hv2⟩ := hv.get 0 S rfl
    have hc' := hc 0 v hv1
    refine ⟨v, ?_, hv2⟩
    simp only [execOp, he, Instr.loadAt, Instr.sureAddr, loadVar, Sem.run_bind, Sem.run_pure, Result.andThen_ok, run_isAgg hT]
    have hc2 : w.cell? ⟨b, off, none⟩ = some v := hc'
    simp [hc2]
theorem OK1.loadP {n : Nat} {Ss Ss' : List VP} (hx : Has E Γ M x (PtrL Ss)) (hT : tyB P T = some (n, true)) (hl : Nat.ble n Ss.length = true) (hS : Ss.take n = Ss') : OK1 E P Γ M ⟨d, .load T x, ty, pos, after, gd⟩ (Flat Ss') :=
  .run fun a w F s => by
    obtain ⟨b, off, he, hF, vs, hv, hc⟩ := hx a w F s
    have hlen := hv.len
    have hl' := Nat.le_of_ble_eq_true hl
    refine ⟨.agg (vs.take n).toArray, ?_, _, rfl, hS ▸ hv.take n⟩
    have h1 := run_loadCells_list (P := P) w ⟨b, off, none⟩ (vs.take n) (fun j v hj => by
      have hjn : j < n := by
        rcases Nat.lt_or_ge j n with h | h
        · exact h
        · rw [List.getElem?_take_eq_none h] at hj; cases hj
      rw [List.getElem?_take_of_lt hjn] at hj
      rw [add_mk]; exact hc j v hj)
    rw [show (vs.take n).length = n by simp; omega] at h1
    simp only [execOp, he, Instr.loadAt, Instr.sureAddr, loadVar, Sem.run_bind, Sem.run_pure, Result.andThen_ok, run_isAgg hT, run_size hT, if_true, h1]
theorem OK1.fieldAddrP {i o n : Nat} {g : Bool} {T' : TypeId} {Ss Ss' : List VP} (hx : Has E Γ M x (PtrL Ss)) (hf : fldB P T i = some (o, T')) (ht : tyB P T' = some (n + 1, g)) (hS : Ss.drop o = Ss') :
    OK1 E P Γ M ⟨d, .fieldAddr T x i, ty, pos, after, gd⟩ (PtrL Ss') :=
  .run fun a w F s => by
    obtain ⟨b, off, he, hF, vs, hv, hc⟩ := hx a w F s
    refine ⟨.pointer (some ⟨b, off + o, none⟩), ?_, b, _, rfl, hF, vs.drop o, hS ▸ hv.drop o, fun j u hj => by rw [List.getElem?_drop] at hj; have := hc _ _ hj; rwa [← Nat.add_assoc] at this⟩
    unfold fldB at hf
    cases hu : P.underlying T with
    | none => simp [hu] at hf
    | some dd =>
      rw [hu] at hf
      cases dd <;> simp at hf
      rename_i fs
      obtain ⟨fd, hf1, hf2, hf3⟩ := hf
      subst hf2 hf3
      simp only [execOp, he, Instr.fieldAt, Instr.sureAddr, fieldPlace, Sem.run_bind, Sem.run_pure, Result.andThen_ok, run_under hu, run_size ht, hf1]
      simp [add_mk]

/-! ### parts of slices -/
theorem run_bound {z : Int} {k : IntKind} {y' : Nat} {c : BoundsCode} (h0 : 0 ≤ z) (h1 : z ≤ y') (w : World) : (Instr.sliceBound (.int k z) y' c).run P w = .ok z.toNat w := by
  simp only [Instr.sliceBound, asIntOf, Sem.run_bind, Sem.run_pure, Result.andThen_ok]
  rw [if_pos ⟨h0, h1⟩]; rfl
theorem run_slice {e : TypeId} {m n cap : Nat} {a : Option Addr} {g : Bool} {lo hi : Option Value} {l h : Nat} (hT : slB P T = some e) (ht : tyB P e = some (m, g)) (w : World)
    (hb : (Instr.sliceBounds true n cap lo hi none).run P w = .ok (l, h, cap) w) :
    (Instr.sliceAt T (.slice a n cap) lo hi none).run P w = .ok (.slice (if cap = l then a else a.map (·.add (l * m))) (h - l) (cap - l)) w := by
  have hu := slB_under hT
  simp only [Instr.sliceAt, Sem.run_bind, run_under hu, Result.andThen_ok, Instr.slice, hb, run_size ht, Sem.run_pure]

theorem SlL_part {k n l h cap : Nat} {Ss : List VP} {w : World} {F : Blk} {a : Option Addr} (hs : (SlL k n Ss).h w F (.slice a n cap)) (h1 : l ≤ h) (h2 : h ≤ n) :
    (SlL k (h - l) ((Ss.take (h * k)).drop (l * k))).h w F (.slice (if cap = l then a else a.map (·.add (l * k))) (h - l) (cap - l)) := by
  obtain ⟨a', cap', e, g1, g2, g3, g4⟩ := hs
  obtain ⟨rfl, _, rfl⟩ : a = a' ∧ True ∧ cap = cap' := by simpa using e
  have hnk : h * k ≤ n * k := Nat.mul_le_mul_right _ h2
  have hlk : l * k ≤ h * k := Nat.mul_le_mul_right _ h1
  refine ⟨_, _, rfl, by omega, by omega, by rw [List.length_drop, List.length_take, g3, Nat.min_eq_left hnk, Nat.sub_mul], ?_⟩
  rcases g4 with g4 | ⟨b, off, rfl, hF, vs, hv, hc⟩
  · left; omega
  · by_cases hz : h - l = 0
    · exact .inl hz
    · right
      have hcl : ¬ cap = l := by omega
      rw [if_neg hcl]
      refine ⟨b, off + l * k, by simp [add_mk], hF, (vs.take (h * k)).drop (l * k), (hv.take _).drop _, fun j u hj => ?_⟩
      rw [List.getElem?_drop] at hj
      have hjl : l * k + j < h * k := by
        rcases Nat.lt_or_ge (l * k + j) (h * k) with hh | hh
        · exact hh
        · rw [List.getElem?_take_eq_none hh] at hj; cases hj
      rw [List.getElem?_take_of_lt hjl] at hj
      have := hc _ _ hj
      rwa [← Nat.add_assoc] at this
theorem OK1.slG {e : TypeId} {k n l h : Nat} {g : Bool} {Ss : List VP} {lo hi : Option Operand} {S : VP} (hT : slB P T = some e) (ht : tyB P e = some (k, g)) (hx : Has E Γ M x (SlL k n Ss))
    (hb : ∀ a w F, Sat E Γ M a w F → ∀ cap, n ≤ cap → (Instr.sliceBounds true n cap (lo.map a.eval) (hi.map a.eval) none).run P w = .ok (l, h, cap) w) (h1 : l ≤ h) (h2 : h ≤ n)
    (hS : SlL k (h - l) ((Ss.take (h * k)).drop (l * k)) = S) : OK1 E P Γ M ⟨d, .slice T x lo hi none, ty, pos, after, gd⟩ S :=
  .run fun a w F s => by
    have hs := hx a w F s
    obtain ⟨ad, cap, he, g1, g2, g3, g4⟩ := id hs
    rw [he] at hs
    refine ⟨_, ?_, hS ▸ SlL_part hs h1 h2⟩
    have := run_slice (P := P) (a := ad) hT ht w (hb a w F s cap g1)
    simp only [execOp, he, Sem.run_bind, this, Result.andThen_ok, Sem.run_pure, Option.map_none]

theorem OK1.slLM {e : TypeId} {g : Bool} {z : Int} (hT : slB P T = some e) (ht : tyB P e = some (1, g)) (hx : Has E Γ M x (SlM f xs)) (hy : Has E Γ M y (isI z)) (h : 0 ≤ z ∧ z ≤ xs.length) :
    OK1 E P Γ M ⟨d, .slice T x (some y) none none, ty, pos, after, gd⟩ (SlM f (xs.drop z.toNat)) :=
  OK1.slG (l := z.toNat) (h := xs.length) hT ht hx (fun a w F s cap hc => by
    simp only [Instr.sliceBounds, Option.map_some, Option.map_none, evI hy a w F s, Sem.run_bind, Sem.run_pure, Result.andThen_ok, run_bound h.1 h.2]) (by omega) (Nat.le_refl _)
    (by unfold SlM; rw [Nat.mul_one, Nat.mul_one, List.take_of_length_le (by simp), List.length_drop, List.map_drop])
theorem OK1.slHM {e : TypeId} {g : Bool} {z : Int} (hT : slB P T = some e) (ht : tyB P e = some (1, g)) (hx : Has E Γ M x (SlM f xs)) (hy : Has E Γ M y (isI z)) (h : 0 ≤ z ∧ z ≤ xs.length) :
    OK1 E P Γ M ⟨d, .slice T x none (some y) none, ty, pos, after, gd⟩ (SlM f (xs.take z.toNat)) :=
  OK1.slG (l := 0) (h := z.toNat) hT ht hx (fun a w F s cap hc => by
    simp only [Instr.sliceBounds, Option.map_some, Option.map_none, evI hy a w F s, Sem.run_bind, Sem.run_pure, Result.andThen_ok, run_bound h.1 (show z ≤ (cap : Int) by omega)]) (by omega) (by omega)
    (by unfold SlM; rw [List.length_take, Nat.min_eq_left (by omega)]; simp [List.map_take])
theorem OK1.slLHM {e : TypeId} {g : Bool} {y2 : Operand} {z z2 : Int} (hT : slB P T = some e) (ht : tyB P e = some (1, g)) (hx : Has E Γ M x (SlM f xs)) (hy : Has E Γ M y (isI z)) (hy2 : Has E Γ M y2 (isI z2)) (h : 0 ≤ z ∧ z ≤ z2 ∧ z2 ≤ xs.length) :
    OK1 E P Γ M ⟨d, .slice T x (some y) (some y2) none, ty, pos, after, gd⟩ (SlM f ((xs.take z2.toNat).drop z.toNat)) :=
  OK1.slG (l := z.toNat) (h := z2.toNat) hT ht hx (fun a w F s cap hc => by
    simp only [Instr.sliceBounds, Option.map_some, evI hy a w F s, evI hy2 a w F s, Sem.run_bind, Sem.run_pure, Result.andThen_ok, run_bound (show 0 ≤ z2 by omega) (show z2 ≤ (cap : Int) by omega),
      run_bound h.1 (show z ≤ (z2.toNat : Int) by omega)]) (by omega) (by omega)
    (by unfold SlM; rw [List.length_drop, List.length_take, Nat.min_eq_left (by omega)]; simp [List.map_take, List.map_drop])

/-! ### windows over a block of the call's own -/
theorem OK1.ixWin {e : TypeId} {m b o n c : Nat} {g : Bool} {z : Int} (hT : slB P T = some e) (ht : tyB P e = some (m, g)) (hx : Has E Γ M x (isWin b o n c)) (hy : Has E Γ M y (isI z)) (h : 0 ≤ z ∧ z < n) :
    OK1 E P Γ M ⟨d, .indexAddr T x y, ty, pos, after, gd⟩ (isPtr b (o + z.toNat * m)) :=
  .run fun a w F s => by
    obtain ⟨he, g1, g2⟩ := hx a w F s
    exact ⟨_, by simp only [execOp, he, evI hy a w F s, Sem.run_bind, run_ix hT ht h.1 h.2, Result.andThen_ok, Sem.run_pure], rfl⟩
theorem OK1.slLWin {e : TypeId} {m b o n c : Nat} {g : Bool} {z : Int} (hT : slB P T = some e) (ht : tyB P e = some (m, g)) (hx : Has E Γ M x (isWin b o n c)) (hy : Has E Γ M y (isI z)) (h : 0 ≤ z ∧ z ≤ n ∧ z < c) :
    OK1 E P Γ M ⟨d, .slice T x (some y) none none, ty, pos, after, gd⟩ (isWin b (o + z.toNat * m) (n - z.toNat) (c - z.toNat)) :=
  .run fun a w F s => by
    obtain ⟨he, g1, g2⟩ := hx a w F s
    refine ⟨_, ?_, rfl, by omega, by omega⟩
    have hb : (Instr.sliceBounds true n c (some (.int .i64 z)) none none).run P w = .ok (z.toNat, n, c) w := by
      simp only [Instr.sliceBounds, Sem.run_bind, Sem.run_pure, Result.andThen_ok, run_bound h.1 h.2.1]
    have := run_slice (P := P) (a := some ⟨b, o, none⟩) hT ht w hb
    rw [if_neg (show ¬ c = z.toNat by omega)] at this
    simp only [execOp, he, evI hy a w F s, Option.map_some, Option.map_none, Sem.run_bind, this, Result.andThen_ok, Sem.run_pure, add_mk]
theorem OK1.slHWin {e : TypeId} {m b o n c : Nat} {g : Bool} {z : Int} (hT : slB P T = some e) (ht : tyB P e = some (m, g)) (hx : Has E Γ M x (isWin b o n c)) (hy : Has E Γ M y (isI z)) (h : 0 ≤ z ∧ z ≤ n ∧ 0 < c) :
    OK1 E P Γ M ⟨d, .slice T x none (some y) none, ty, pos, after, gd⟩ (isWin b o z.toNat c) :=
  .run fun a w F s => by
    obtain ⟨he, g1, g2⟩ := hx a w F s
    refine ⟨_, ?_, rfl, by omega, by omega⟩
    have hb : (Instr.sliceBounds true n c none (some (.int .i64 z)) none).run P w = .ok (0, z.toNat, c) w := by
      simp only [Instr.sliceBounds, Sem.run_bind, Sem.run_pure, Result.andThen_ok, run_bound h.1 (show z ≤ (c : Int) by omega)]
    have := run_slice (P := P) (a := some ⟨b, o, none⟩) hT ht w hb
    rw [if_neg (show ¬ c = 0 by omega)] at this
    simp only [execOp, he, evI hy a w F s, Option.map_some, Option.map_none, Sem.run_bind, this, Result.andThen_ok, Sem.run_pure, add_mk, Nat.zero_mul, Nat.add_zero, Nat.sub_zero]
theorem OK1.slLHWin {e : TypeId} {m b o n c : Nat} {g : Bool} {y2 : Operand} {z z2 : Int} (hT : slB P T = some e) (ht : tyB P e = some (m, g)) (hx : Has E Γ M x (isWin b o n c)) (hy : Has E Γ M y (isI z)) (hy2 : Has E Γ M y2 (isI z2)) (h : 0 ≤ z ∧ z ≤ z2 ∧ z2 ≤ n ∧ z < c) :
    OK1 E P Γ M ⟨d, .slice T x (some y) (some y2) none, ty, pos, after, gd⟩ (isWin b (o + z.toNat * m) (z2.toNat - z.toNat) (c - z.toNat)) :=
  .run fun a w F s => by
    obtain ⟨he, g1, g2⟩ := hx a w F s
    refine ⟨_, ?_, rfl, by omega, by omega⟩
    have hb : (Instr.sliceBounds true n c (some (.int .i64 z)) (some (.int .i64 z2)) none).run P w = .ok (z.toNat, z2.toNat, c) w := by
      simp only [Instr.sliceBounds, Sem.run_bind, Sem.run_pure, Result.andThen_ok, run_bound (show 0 ≤ z2 by omega) (show z2 ≤ (c : Int) by omega), run_bound h.1 (show z ≤ (z2.toNat : Int) by omega)]
    have := run_slice (P := P) (a := some ⟨b, o, none⟩) hT ht w hb
    rw [if_neg (show ¬ c = z.toNat by omega)] at this
    simp only [execOp, he, evI hy a w F s, evI hy2 a w F s, Option.map_some, Option.map_none, Sem.run_bind, this, Result.andThen_ok, Sem.run_pure, add_mk]
theorem map_some {i : Nat} {x' : α} (h : xs[i]? = some x') : (xs.map f)[i]? = some (f x') := by rw [List.getElem?_map, h]; rfl

/-- a store of a word into a row of words -/
theorem Ops.storeM {b off i : Nat} {T : TypeId} {z : α} [sh : Shape (f z) [f z]] [o1 : One (f z)] (hx : Has E Γ M x (isPtr b off)) (hy : Has E Γ M y (f z))
    (hM : M[i]? = some (some b, cellM (xs.map f))) (hT : tyB P T = some (1, false)) (hl : off < xs.length) {M' : Mem}
    (hM' : M.set i (some b, cellM ((xs.set off z).map f)) = M') (k : Ops E P ops Q rest Γ M') : Ops E P ops Q (⟨none, .store T x y, ty, pos, after, none⟩ :: rest) Γ M :=
  Ops.store (Ss1 := [f z]) hx hy hM hT rfl (by rw [Nat.ble_eq]; simp; omega) (Ss' := (xs.set off z).map f) (by
    rw [List.set_eq_take_append_cons_drop, if_pos hl]
    simp [List.map_take, List.map_drop]) hM' k

theorem make_flat {z : Value} {c m : Nat} (hm : z.cells.size = m) : ((Array.range (c * m)).map fun j => z.cells[j % z.cells.size]!) = ((List.replicate c z.cells.toList).flatten).toArray := by
  apply Array.ext'
  rw [Array.toList_map, Array.toList_range]
  simp only []
  apply List.ext_getElem?
  intro j
  rw [List.getElem?_map]
  have hlen : ((List.replicate c z.cells.toList).flatten).length = c * m := by simp [hm]
  rcases Nat.lt_or_ge j (c * m) with hj | hj
  · rw [List.getElem?_range hj]
    have hm0 : 0 < m := by
      rcases Nat.eq_zero_or_pos m with h | h
      · subst h; simp at hj
      · exact h
    have hjm : j % m < z.cells.size := by rw [hm]; exact Nat.mod_lt _ hm0
    have : ∀ (c j : Nat), j < c * m → ((List.replicate c z.cells.toList).flatten)[j]? = z.cells.toList[j % m]? := by
      intro c
      induction c with
      | zero => intro j hj; simp at hj
      | succ c ih =>
        intro j hj
        rw [List.replicate_succ, List.flatten_cons]
        rcases Nat.lt_or_ge j m with h | h
        · rw [List.getElem?_append_left (by simp [hm]; exact h), Nat.mod_eq_of_lt h]
        · rw [List.getElem?_append_right (by simp [hm]; exact h)]
          simp only [Array.length_toList, hm]
          rw [ih (j - m) (by rw [Nat.succ_mul] at hj; omega), ← Nat.mod_eq_sub_mod h]
    rw [this c j hj]
    rw [hm, Array.getElem?_toList, Array.getElem?_eq_getElem hjm, Option.map_some, getElem!_pos z.cells (j % m) hjm]
  · rw [List.getElem?_eq_none (by simp; omega), List.getElem?_eq_none (by omega)]; rfl
/-- a new row -/
theorem run_make {e : TypeId} {m : Nat} {g : Bool} {z : Value} {n c : Nat} {i : TypeInfo} (hT : slB P T = some e) (ht : tyB P e = some (m, g)) (hz : zeroB P e = some z) (hi : P.info? e = some i) (hby : i.bytes ≤ 1024) (hn : n ≤ c) (hc : c ≤ 4294967296) (hm : z.cells.size = m) (w : World) :
    (Instr.makeSlice T (.int .i64 n) (.int .i64 c)).run P w = .ok (.slice (some ⟨w.heap.size, 0, none⟩) n c) { w with heap := w.heap.push (.cells ((List.replicate c z.cells.toList).flatten).toArray e) } := by
  have hu := slB_under hT
  have h1 : IntKind.i64.wrap (n : Int) = n := wrap_i64 (by omega) (by omega)
  have h2 : IntKind.i64.wrap (c : Int) = c := wrap_i64 (by omega) (by omega)
  have hb : ¬ ((i.bytes : Int) * (c : Int) > 2 ^ 48) := by
    have : i.bytes * c ≤ 1024 * 4294967296 := Nat.mul_le_mul hby hc
    have h3 : ((i.bytes : Int) * (c : Int)) = ((i.bytes * c : Nat) : Int) := by simp
    rw [h3]; omega
  have hfl : ((Array.range (c * m)).map fun j => z.cells[j % z.cells.size]!) = ((List.replicate c z.cells.toList).flatten).toArray := make_flat hm
  simp only [Instr.makeSlice, Sem.run_bind, run_under hu, Result.andThen_ok, asInt, asIntOf, Sem.run_pure, typeInfo, run_program, hi, h1, h2]
  rw [if_neg (by
    simp only [Bool.or_eq_true, decide_eq_true_eq, not_or]
    exact ⟨⟨⟨by omega, hb⟩, by omega⟩, by omega⟩)]
  simp only [Sem.run_bind, run_askRoom, Result.andThen_ok, run_size ht, Int.toNat_natCast]
  by_cases h0 : c * m = 0
  · rw [if_pos h0]
    simp only [Sem.run_bind, Sem.run_pure, Result.andThen_ok, h0]
    have : ((List.replicate c z.cells.toList).flatten) = [] := by
      apply List.eq_nil_of_length_eq_zero; simp [hm, h0]
    have e0 : Array.range 0 = #[] := by apply Array.ext'; simp
    simp [newRow, Sem.run_bind, run_newObj, this, e0]
  · rw [if_neg h0]
    simp only [Sem.run_bind, run_zero hz, Result.andThen_ok, Sem.run_pure, hfl, newRow, run_newObj]
def byLe (P : Program) (T : TypeId) (n : Nat) : Bool := match P.info? T with
  | some i => Nat.ble i.bytes n
  | none => false
theorem Ops.make {d : Nat} {e : TypeId} {g : Bool} {z : Value} {n c : Nat} {u : α} (hT : slB P T = some e) (ht : tyB P e = some (1, g)) (hz : zeroB P e = some z) (hZ : ∀ w F, All2 [f u] w F z.cells.toList) (hby : byLe P e 1024 = true)
    (hx : Has E Γ M x (isI (n : Int))) (hy : Has E Γ M y (isI (c : Int))) (hn : n ≤ c ∧ c ≤ 4294967296) (hd : Nat.blt d E.n = true)
    (k : ∀ b, Ops E P ops Q rest ((d, isWin b 0 n c) :: Γ) ((some b, cellM ((List.replicate c u).map f)) :: M)) : Ops E P ops Q (⟨some d, .makeSlice T x y, ty, pos, after, none⟩ :: rest) Γ M := by
  intro a w F s
  refine wpList_plain rfl fun K hK => ?_
  unfold Oper.wp
  have hm : z.cells.size = 1 := by have := (hZ w F).len; simpa using this.symm
  obtain ⟨i, hi, hb⟩ : ∃ i, P.info? e = some i ∧ i.bytes ≤ 1024 := by
    unfold byLe at hby
    cases hi : P.info? e with
    | none => simp [hi] at hby
    | some i => rw [hi] at hby; exact ⟨i, rfl, Nat.le_of_ble_eq_true hby⟩
  have hr : (execOp a.eval (⟨some d, .makeSlice T x y, ty, pos, after, none⟩ : Oper)).run P w = .ok (.value (.slice (some ⟨w.heap.size, 0, none⟩) n c)) { w with heap := w.heap.push (.cells ((List.replicate c z.cells.toList).flatten).toArray e) } := by
    simp only [execOp, evI hx a w F s, evI hy a w F s, Sem.run_bind, run_make hT ht hz hi hb hn.1 hn.2 hm, Result.andThen_ok, Sem.run_pure]
  rw [hr]
  have hall : All2 ((List.replicate c u).map f) w F ((List.replicate c z.cells.toList).flatten) := by
    induction c with
    | zero => trivial
    | succ c ih =>
      clear hr ih hn k hy
      have : ∀ c, All2 ((List.replicate c u).map f) w F ((List.replicate c z.cells.toList).flatten) := by
        intro c
        induction c with
        | zero => trivial
        | succ c ih =>
          rw [List.replicate_succ, List.replicate_succ, List.flatten_cons, List.map_cons]
          exact All2.append (hZ w F) ih
      exact this _
  have s1 := s.alloc (T := e) hall
  have hd' : d < E.n := by simpa [Nat.blt_eq] using hd
  exact hK _ _ (k w.heap.size _ _ F (s1.put hd' ⟨rfl, hn.1, by rw [maxLen_eq]; omega⟩))

/-- a block that is not written any more: what reads it is known for good -/
theorem Cv.freeze {t b o n c i : Nat} (hW : ∀ k, k ∈ E.W → ∃ j C, j ≠ i ∧ M[j]? = some (some k, C)) (ht : look Γ t = some (isWin b o n c)) (hM : M[i]? = some (some b, cellM (xs.map f))) (hl : o + n ≤ xs.length) : Cv E Γ M ((t, SlM f ((xs.drop o).take n)) :: Γ) (M.eraseIdx i) := by
  intro a w F s
  obtain ⟨h1, h2, h3, ob, h4, vs, T', rfl, hv⟩ := s.mem.each b _ (List.mem_of_getElem? hM)
  refine ⟨fun k => F k ∨ k = b, ?_⟩
  have hsub : ∀ k, F k → (F k ∨ k = b) := fun k hk => .inl hk
  have hi : i < M.length := by
    rcases Nat.lt_or_ge i M.length with h | h
    · exact h
    · rw [List.getElem?_eq_none h] at hM; cases hM
  have hMi : M[i] = (some b, cellM (xs.map f)) := by rw [List.getElem?_eq_getElem hi] at hM; exact Option.some.inj hM
  have hbW : E.w0.heap.size ≤ b := h1.resolve_right (fun hb => by
    obtain ⟨j, C, hji, hj⟩ := hW b hb
    have hjl : j < M.length := by
      rcases Nat.lt_or_ge j M.length with h | h
      · exact h
      · rw [List.getElem?_eq_none h] at hj; cases hj
    have hMj : M[j] = (some b, C) := by rw [List.getElem?_eq_getElem hjl] at hj; exact Option.some.inj hj
    rcases Nat.lt_or_gt_of_ne hji with hlt | hlt
    · have hp := List.pairwise_iff_getElem.1 s.mem.apart j i hjl hi hlt
      rw [hMi, hMj] at hp; simp at hp
    · have hp := List.pairwise_iff_getElem.1 s.mem.apart i j hi hjl hlt
      rw [hMi, hMj] at hp; simp at hp)
  obtain ⟨e1, e2, e3⟩ := s.slots t _ ht
  · refine { defers := s.defers, size := s.size, keep := s.keep, f0 := fun k hk => .inl (s.f0 k hk), fnew := ?_, flt := ?_, slots := ?_, mem := ⟨s.mem.apart.sublist (List.eraseIdx_sublist _ _), ?_⟩ }
    · rintro k (hk | rfl)
      · exact s.fnew k hk
      · exact .inr ⟨hbW, h2⟩
    · rintro k (hk | rfl)
      · exact s.flt k hk
      · exact h2
    · intro t' S' ht'
      simp only [look] at ht'
      cases hb : Nat.beq t t' with
      | false => rw [hb] at ht'; exact S'.mono _ _ _ _ _ (s.slots t' S' ht') (fun _ _ => rfl) hsub
      | true =>
        rw [hb] at ht'
        obtain rfl : SlM f ((xs.drop o).take n) = S' := by simpa using ht'
        obtain rfl := Nat.eq_of_beq_eq_true hb
        have hlen : ((xs.drop o).take n).length = n := by simp; omega
        refine ⟨some ⟨b, o, none⟩, c, ?_, by rw [hlen]; exact e2, e3, by simp, ?_⟩
        · rw [hlen]; exact e1
        · right
          refine ⟨b, o, rfl, .inr rfl, (vs.drop o).take n, ?_, fun j u hj => ?_⟩
          · rw [List.map_take, List.map_drop]
            exact All2.mono (fun _ _ => rfl) hsub _ _ ((hv.drop o).take n)
          · have hjn : j < n := by
              rcases Nat.lt_or_ge j n with h | h
              · exact h
              · rw [List.getElem?_take_eq_none h] at hj; cases hj
            rw [List.getElem?_take_of_lt hjn, List.getElem?_drop] at hj
            simp [World.cell?, h4, hj]
    · intro k C hk
      obtain ⟨j, hji, hj⟩ := List.mem_eraseIdx_iff_getElem?.1 hk
      obtain ⟨g1, g2, g3, o2, g4, g5⟩ := s.mem.each k C (List.mem_of_getElem? hj)
      have hkb : k ≠ b := by
        intro e; subst e
        have hjl : j < M.length := by
          rcases Nat.lt_or_ge j M.length with h | h
          · exact h
          · rw [List.getElem?_eq_none h] at hj; cases hj
        have hMj : M[j] = (some k, C) := by rw [List.getElem?_eq_getElem hjl] at hj; exact Option.some.inj hj
        rcases Nat.lt_or_gt_of_ne hji with hlt | hlt
        · have hp := List.pairwise_iff_getElem.1 s.mem.apart j i hjl hi hlt
          rw [hMi, hMj] at hp; simp at hp
        · have hp := List.pairwise_iff_getElem.1 s.mem.apart i j hi hjl hlt
          rw [hMi, hMj] at hp; simp at hp
      exact ⟨g1, g2, fun h => h.elim g3 hkb, o2, g4, C.mono _ _ _ _ _ g5 (fun _ _ => rfl) hsub⟩

/-! ### functions that write a row of their caller's -/
def RetM (w : World) (F : Blk) (b : Nat) (R : VP) (post : MP) : Ending → World → Prop := fun e w' => ∃ v, e = .returned v ∧ Keep [b] w w' ∧ R.h w' (fresh F w w') v ∧ ∃ o, w'.heap[b]? = some o ∧ post.h w' (fresh F w w') o
def CtrM (P : Program) (f : FuncId) (args : Nat → List VP) (pre post : MP) (R : Nat → VP) : Prop :=
  Enters P f ∧ ∀ (w : World) (F : Blk) (vs : List Value) (b : Nat), (∀ k, F k → k < w.heap.size) → b < w.heap.size → ¬ F b → (∃ o, w.heap[b]? = some o ∧ pre.h w F o) → All2 (args b) w F vs →
    Calls P f vs.toArray w (RetM w F b (R b) post)

theorem CtrM.intro {f : FuncId} {fn : Func} {c : Code} {args : Nat → List VP} {pre post : MP} {R : Nat → VP} (hf : P.funcs[f]? = some fn) (hb : fn.body = some c) (hn : (fn.name == "runtime.NumGoroutine") = false) {nt : Nat} (hnt : fn.ntmps = nt)
    (hsz : ∀ b, Nat.ble (args b).length nt = true)
    (h : ∀ w F b, Tri ⟨w, F, [b], nt⟩ P c (argsCtx 0 (args b)) [(some b, pre)] (bodyPost P fn (RetM w F b (R b) post))) : CtrM P f args pre post R := by
  subst hnt
  refine ⟨⟨fn, hf, by simp [hb], hn⟩, fun w F vs b hF hbw hbF hpre hargs => ?_⟩
  have hlen := hargs.len
  have hsz' : (args b).length ≤ fn.ntmps := by simpa using Nat.le_of_ble_eq_true (hsz b)
  refine calls_of_wp hf hb (h w F b _ w F ?_)
  refine { defers := rfl, size := ?_, keep := Keep.refl _ _, f0 := fun _ h => h, fnew := fun _ h => .inl h, flt := hF, slots := ?_, mem := ⟨by simp, fun k C hk => ?_⟩ }
  · simp; omega
  · intro t S ht
    obtain ⟨_, h2⟩ := look_args (args b) 0 t S ht
    obtain ⟨v, hv, hS⟩ := hargs.get t S (by simpa using h2)
    have : (vs.toArray ++ Array.replicate (fn.ntmps - vs.toArray.size) undef).getD t undef = v := by
      have hlt : t < vs.length := by
        rcases Nat.lt_or_ge t vs.length with h | h
        · exact h
        · simp [List.getElem?_eq_none h] at hv
      have e : vs[t] = v := by rw [List.getElem?_eq_getElem hlt] at hv; exact Option.some.inj hv
      simp [Array.getElem?_append, hlt, e]
    rw [this]; exact hS
  · obtain ⟨rfl, rfl⟩ : k = b ∧ C = pre := by simpa using hk
    exact ⟨.inr (by simp), hbw, hbF, hpre⟩

theorem Sat.change {a : Act} {w w' : World} {F : Blk} (s : Sat E Γ M a w F) {i b : Nat} {C C' : MP} (hM : M[i]? = some (some b, C)) (hk : Keep [b] w w')
    {o : Obj} (ho : w'.heap[b]? = some o) (hC : C'.h w' (fresh F w w') o) : Sat E Γ (M.set i (some b, C')) a w' (fresh F w w') := by
  obtain ⟨h1, h2, h3, o1, h4, h5⟩ := s.mem.each b C (List.mem_of_getElem? hM)
  have hF : ∀ k, F k → w'.heap[k]? = w.heap[k]? := fun k hk' => hk.block k (s.flt k hk') (by simp; intro e; exact h3 (e ▸ hk'))
  have hsub : ∀ k, F k → fresh F w w' k := fun k h => .inl h
  have hi : i < M.length := by
    rcases Nat.lt_or_ge i M.length with h | h
    · exact h
    · rw [List.getElem?_eq_none h] at hM; cases hM
  have hMi : M[i] = (some b, C) := by rw [List.getElem?_eq_getElem hi] at hM; exact Option.some.inj hM
  refine { defers := s.defers, size := s.size, keep := ?_, f0 := fun k h => .inl (s.f0 k h), fnew := ?_, flt := ?_, slots := ?_, mem := ⟨?_, ?_⟩ }
  · refine ⟨hk.os.trans s.keep.os, hk.tape.trans s.keep.tape, hk.output.trans s.keep.output, Nat.le_trans s.keep.size hk.size, fun k hk0 hW => ?_⟩
    rw [hk.block k (Nat.lt_of_lt_of_le hk0 s.keep.size) (by simp; intro e; subst e; rcases h1 with h | h; omega; exact hW h)]
    exact s.keep.block k hk0 hW
  · rintro k (h | h)
    · rcases s.fnew k h with g | g
      · exact .inl g
      · exact .inr ⟨g.1, Nat.lt_of_lt_of_le g.2 hk.size⟩
    · exact .inr ⟨Nat.le_trans s.keep.size h.1, h.2⟩
  · rintro k (h | h)
    · exact Nat.lt_of_lt_of_le (s.flt k h) hk.size
    · exact h.2
  · exact fun t S h => S.mono _ _ _ _ _ (s.slots t S h) hF hsub
  · rw [List.pairwise_iff_getElem]
    intro j k hj hkk hjk
    have hp := List.pairwise_iff_getElem.1 s.mem.apart j k (by simpa using hj) (by simpa using hkk) hjk
    simp only [List.getElem_set]
    by_cases e1 : i = j
    · subst e1
      have : ¬ i = k := by omega
      simp only [if_true, this, if_false]
      rw [hMi] at hp; exact hp
    · by_cases e2 : i = k
      · subst e2
        simp only [e1, if_true, if_false]
        rw [hMi] at hp; exact hp
      · simp only [e1, e2, if_false]; exact hp
  · intro k D hkD
    obtain ⟨j, hj, he⟩ := List.mem_iff_getElem.1 hkD
    simp only [List.getElem_set] at he
    by_cases e1 : i = j
    · subst e1
      simp only [if_true] at he
      obtain ⟨rfl, rfl⟩ : b = k ∧ C' = D := by simpa using he
      refine ⟨h1, Nat.lt_of_lt_of_le h2 hk.size, ?_, o, ho, hC⟩
      rintro (h | h)
      · exact h3 h
      · omega
    · simp only [e1, if_false] at he
      have hjl : j < M.length := by simpa using hj
      obtain ⟨g1, g2, g3, o2, g4, g5⟩ := s.mem.each k D (he ▸ List.getElem_mem hjl)
      have hkb : k ≠ b := by
        intro e; subst e
        rcases Nat.lt_or_gt_of_ne e1 with hlt | hlt
        · have hp := List.pairwise_iff_getElem.1 s.mem.apart i j hi hjl hlt
          rw [hMi, he] at hp; simp at hp
        · have hp := List.pairwise_iff_getElem.1 s.mem.apart j i hjl hi hlt
          rw [hMi, he] at hp; simp at hp
      refine ⟨g1, Nat.lt_of_lt_of_le g2 hk.size, ?_, o2, (hk.block k g2 (by simpa using hkb)).trans g4, D.mono _ _ _ _ _ g5 hF hsub⟩
      rintro (h | h)
      · exact g3 h
      · omega

theorem Ops.callM {f : FuncId} {xs : List Operand} {ts : Array TypeId} {args : Nat → List VP} {pre post : MP} {R : Nat → VP} {i b d : Nat} (hf : CtrM P f args pre post R) (hM : M[i]? = some (some b, pre)) (hx : HasL E Γ M xs (args b)) (hd : Nat.blt d E.n = true) {M' : Mem}
    (hM' : M.set i (some b, post) = M') (k : Ops E P ops Q rest ((d, R b) :: Γ) M') : Ops E P ops Q (⟨some d, .call ⟨.value (.func f), xs.toArray, ts⟩, ty, pos, after, none⟩ :: rest) Γ M := by
  intro a w F s
  refine wpList_plain rfl fun K hK => ?_
  unfold Oper.wp
  have hr : (execOp a.eval (⟨some d, .call ⟨.value (.func f), xs.toArray, ts⟩, ty, pos, after, none⟩ : Oper)).run P w = .ok (.enter f (xs.map a.eval).toArray) w := by
    have := run_enter hf.1 (xs.map a.eval).toArray w
    simpa [go_sem] using this
  rw [hr]
  obtain ⟨h1, h2, h3, h4⟩ := s.mem.each b _ (List.mem_of_getElem? hM)
  refine (hf.2 w F _ b s.flt h2 h3 h4 (hx.all s)).mono ?_
  rintro e w' ⟨v, rfl, hk, hv, o, ho, hp⟩
  have hd' : d < E.n := by simpa [Nat.blt_eq] using hd
  exact hK _ _ (k _ _ _ (hM' ▸ (s.change hM hk ho hp).put hd' hv))

theorem fin_retM {fn : Func} {R : VP} {post : MP} {b i : Nat} {e : Exit} {a : Act} {w : World} {F : Blk} (he : e = .ret ∨ e = .normal) (s : Sat E Γ M a w F) (hw : E.W = [b]) (hM : M[i]? = some (some b, post)) {v : Value} (hv : (results fn a.tmps).run P w = .ok v w) (hR : R.h w F v) :
    bodyPost P fn (RetM E.w0 E.F0 b R post) e a w := by
  have hk := s.keep
  rw [hw] at hk
  obtain ⟨_, _, _, o, ho, hp⟩ := s.mem.each b _ (List.mem_of_getElem? hM)
  have hsub : ∀ k, F k → fresh E.F0 E.w0 w k := fun k hk => (s.fnew k hk).imp id id
  have hb : a.defers = [] ∧ ∃ v, (results fn a.tmps).run P w = .ok v w ∧ RetM E.w0 E.F0 b R post (.returned v) w :=
    ⟨s.defers, _, hv, _, rfl, hk, R.mono _ _ _ _ _ hR (fun _ _ => rfl) hsub, o, ho, post.mono _ _ _ _ _ hp (fun _ _ => rfl) hsub⟩
  rcases he with rfl | rfl <;> exact hb
theorem rtM1 {fn : Func} {r : ResultVar} {R : VP} {post : MP} {b i : Nat} {e : Exit} (he : e = .ret ∨ e = .normal) (hr : fn.results = #[r]) (hw : E.W = [b]) (hM : M[i]? = some (some b, post)) (h : ResL E P Γ M [r] [R]) :
    At E Γ M (bodyPost P fn (RetM E.w0 E.F0 b R post)) e := by
  intro a w F s
  obtain ⟨vs, h1, h2⟩ := run_results hr h s
  match vs, h2 with
  | [v], h2 => exact fin_retM he s hw hM (by simpa using h1) h2.1
  | [], h2 => exact h2.elim
  | _ :: _ :: _, h2 => exact h2.2.elim
theorem rtM0 {fn : Func} {post : MP} {b i : Nat} {e : Exit} (he : e = .ret ∨ e = .normal) (hr : fn.results = #[]) (hw : E.W = [b]) (hM : M[i]? = some (some b, post)) :
    At E Γ M (bodyPost P fn (RetM E.w0 E.F0 b (isTup []) post)) e := by
  intro a w F s
  obtain ⟨vs, h1, h2⟩ := run_results (rs := []) hr .nil s
  cases vs with
  | nil => exact fin_retM he s hw hM (by simpa using h1) ⟨[], rfl, trivial⟩
  | cons => exact h2.elim

theorem memU_eq {α : Type} {f : α → VP} {b : Option Nat} {l l' : List α} (h : l = l') : (some (b, cellM (l.map f)) : Option (Option Nat × MP)) = some (b, cellM (l'.map f)) := h ▸ rfl
theorem memL_eq {α : Type} {f : α → VP} {b : Option Nat} {l l' : List α} {r : Mem} (h : l = l') : ((b, cellM (l.map f)) :: r : Mem) = (b, cellM (l'.map f)) :: r := h ▸ rfl
theorem SlM_eq {α : Type} {f : α → VP} {l l' : List α} (h : l = l') : SlM f l = SlM f l' := h ▸ rfl
theorem ixo0 {n : Nat} : 0 + n * 1 = n := by omega
theorem ixo1 {o n : Nat} : o + n * 1 = o + n := by omega
theorem isPtr_eq {b o o' : Nat} (h : o = o') : isPtr b o = isPtr b o' := h ▸ rfl
theorem isWin_eq {b o o' n n' c c' : Nat} (h : o = o') (h2 : n = n') (h3 : c = c') : isWin b o n c = isWin b o' n' c' := by rw [h, h2, h3]
theorem OK1.eq {o : Oper} {S S' : VP} (h : OK1 E P Γ M o S) (e : S = S') : OK1 E P Γ M o S' := e ▸ h
theorem Cv.freeze' {t b o n c i : Nat} {ys : List α} (hW : E.W = []) (ht : look Γ t = some (isWin b o n c)) (hM : M[i]? = some (some b, cellM (xs.map f))) (hl : o + n ≤ xs.length) (he : (xs.drop o).take n = ys) :
    Cv E Γ M ((t, SlM f ys) :: Γ) (M.eraseIdx i) := he ▸ Cv.freeze (by rw [hW]; intro k hk; cases hk) ht hM hl
theorem Cv.freezeM {t b b0 o n c i j : Nat} {C : MP} {ys : List α} (hW : E.W = [b0]) (hj : M[j]? = some (some b0, C)) (hne : Nat.beq j i = false) (ht : look Γ t = some (isWin b o n c)) (hM : M[i]? = some (some b, cellM (xs.map f))) (hl : o + n ≤ xs.length) (he : (xs.drop o).take n = ys) :
    Cv E Γ M ((t, SlM f ys) :: Γ) (M.eraseIdx i) := he ▸ Cv.freeze (by
      rw [hW]; intro k hk
      obtain rfl : k = b0 := by simpa using hk
      exact ⟨j, C, Nat.ne_of_beq_eq_false hne, hj⟩) ht hM hl
theorem freeze_all {n : Nat} {xs : List α} (h : n = xs.length) : (xs.drop 0).take n = xs := by subst h; simp
end
end Go.En
