/- Memory of the call's own: variables in cells; structs by value; fields. -/
import Derived.Test.YtokhpacdgoebpaaOps
namespace Go.En
open Go.RowKit
set_option linter.unusedVariables false

/-- values of one cell -/
class One (S : VP) : Prop where
  one : ∀ w F v, S.h w F v → v.oneCell' = true
class Ones (Ss : List VP) : Prop where
  ones : ∀ S ∈ Ss, One S
instance : Ones [] := ⟨by simp⟩
instance {S : VP} {Ss : List VP} [a : One S] [b : Ones Ss] : Ones (S :: Ss) := ⟨fun x hx => by
  rcases List.mem_cons.1 hx with rfl | h
  · exact a
  · exact b.ones x h⟩
instance {k : IntKind} {z : Int} : One (isK k z) := ⟨fun w F v h => by rw [h.1]; rfl⟩
instance {n : Nat} : One (isU n) := ⟨fun w F v h => by rw [h.1]; rfl⟩
instance {z : Int} : One (isI z) := ⟨fun w F v h => by rw [h.1]; rfl⟩
instance {b : Bool} : One (isB b) := ⟨fun w F v h => by rw [show v = .bool b from h]; rfl⟩
theorem All2.one : ∀ {Ss : List VP} {w : World} {F : Blk} {vs : List Value}, All2 Ss w F vs → (∀ S ∈ Ss, One S) → ∀ v ∈ vs, v.oneCell' = true
  | [], _, _, [], _, _, v, hv => by simp at hv
  | S :: Ss, _, _, u :: vs, h, ho, v, hv => by
    rcases List.mem_cons.1 hv with rfl | hv
    · exact (ho S (by simp)).one _ _ _ h.1
    · exact All2.one h.2 (fun x hx => ho x (by simp [hx])) v hv
  | [], _, _, _ :: _, h, _, _, _ => h.elim
  | _ :: _, _, _, [], h, _, _, _ => h.elim

/-- what a value's cells are -/
class Shape (S : VP) (Ss : outParam (List VP)) : Prop where
  cells : ∀ w F v, S.h w F v → All2 Ss w F v.cells.toList
instance {Ss : List VP} : Shape (Flat Ss) Ss := ⟨fun w F v ⟨vs, e, h⟩ => by subst e; simpa [Value.cells] using h⟩
theorem Shape.of_one {S : VP} (h : One S) : Shape S [S] := ⟨fun w F v hv => by
  have := h.one w F v hv
  cases v <;> simp [Value.oneCell'] at this <;> exact ⟨hv, trivial⟩⟩
instance {k : IntKind} {z : Int} : Shape (isK k z) [isK k z] := .of_one inferInstance
instance {n : Nat} : Shape (isU n) [isU n] := .of_one inferInstance
instance {z : Int} : Shape (isI z) [isI z] := .of_one inferInstance
instance {b : Bool} : Shape (isB b) [isB b] := .of_one inferInstance

def isPtr (b off : Nat) : VP := .pure fun v => v = .pointer (some ⟨b, off, none⟩)
instance {b o : Nat} : One (isPtr b o) := ⟨fun w F v h => by rw [show v = _ from h]; rfl⟩
instance {b o : Nat} : Shape (isPtr b o) [isPtr b o] := .of_one inferInstance
/-- a variable's cells -/
def cellM (Ss : List VP) : MP := ⟨fun w F o => ∃ vs ty, o = .cells (List.toArray vs) ty (0, 0) ∧ All2 Ss w F vs, fun w w' F F' o h h1 h2 => by
  obtain ⟨vs, ty, e, h⟩ := h; exact ⟨vs, ty, e, All2.mono h1 h2 _ _ h⟩⟩

def tyB (P : Program) (T : TypeId) : Option (Nat × Bool) :=
  (P.info? T).bind fun i => (P.underlying T).map fun d => (i.size, match d with | .struct _ | .array _ _ => true | _ => false)
def zeroB (P : Program) (T : TypeId) : Option Value := (P.info? T).bind (·.zero)
/-- a field's place: offset, type -/
def fldB (P : Program) (T : TypeId) (i : Nat) : Option (Nat × TypeId) := (P.underlying T).bind fun d => match d with
  | .struct fs => (fs[i]?).map fun f => (f.offset, f.type)
  | _ => none
def arrB (P : Program) (T : TypeId) : Option (Nat × TypeId) := (P.underlying T).bind fun d => match d with
  | .array n e => some (n, e)
  | _ => none
def slB (P : Program) (T : TypeId) : Option TypeId := (P.underlying T).bind fun d => match d with
  | .slice e => some e
  | _ => none

section
variable {P : Program} {T : TypeId} {n : Nat} {w : World}
theorem run_size {g : Bool} (h : tyB P T = some (n, g)) : (sizeOf T).run P w = .ok n w := by
  unfold tyB at h
  cases hi : P.info? T with
  | none => simp [hi] at h
  | some i =>
    cases hu : P.underlying T with
    | none => simp [hi, hu] at h
    | some dd => simp [hi, hu] at h; simp [sizeOf, typeInfo, go_sem, hi, h.1]
theorem run_isAgg {g : Bool} (h : tyB P T = some (n, g)) : (isAgg T).run P w = .ok g w := by
  unfold tyB at h
  cases hi : P.info? T with
  | none => simp [hi] at h
  | some i =>
    cases hu : P.underlying T with
    | none => simp [hi, hu] at h
    | some dd =>
      simp only [hi, hu, Option.bind_some, Option.map_some, Option.some.injEq, Prod.mk.injEq] at h
      obtain ⟨_, h2⟩ := h
      have hr : (underlying T).run P w = .ok dd w := by simp [underlying, go_sem, hu]
      simp only [isAgg, Sem.run_bind, hr, Result.andThen_ok]
      rw [← h2]
      cases dd <;> simp [go_sem]
theorem run_zero {z : Value} (h : zeroB P T = some z) : (zeroValue T).run P w = .ok z w := by
  unfold zeroB at h
  cases hi : P.info? T with
  | none => simp [hi] at h
  | some i => simp [hi] at h; simp [zeroValue, typeInfo, go_sem, hi, h]
theorem run_under {dd : TypeDesc} (h : P.underlying T = some dd) : (underlying T).run P w = .ok dd w := by simp [underlying, go_sem, h]
end

section
variable {E : Env} {P : Program} {Γ : Ctx} {M : Mem} {ty : TypeId} {pos : String} {after : Array Edge} {gd : Option (Nat × Bool)}
  {ops : Array Oper} {Q : Exit → Act → World → Prop} {rest : List Oper}

theorem Sat.alloc {a : Act} {w : World} {F : Blk} (s : Sat E Γ M a w F) {cells : List Value} {T : TypeId} {Ss : List VP} (h : All2 Ss w F cells) :
    Sat E Γ ((some w.heap.size, cellM Ss) :: M) a { w with heap := w.heap.push (.cells cells.toArray T) } F :=
  have ad : Adv w F { w with heap := w.heap.push (.cells cells.toArray T) } F := ⟨Keep.alloc _ _ _, fun _ h => h, fun _ h => .inl h⟩
  have s' := s.adv ad
  { s' with mem := ⟨by
      refine List.Pairwise.cons ?_ s'.mem.apart
      intro x hx
      obtain ⟨k, C⟩ := x
      cases k with
      | none => exact .inr (by simp)
      | some k => exact .inr (by have := (s.mem.each k C hx).2.1; simp; omega), by
      intro b C hb
      rcases List.mem_cons.1 hb with e | hb
      · obtain ⟨rfl, rfl⟩ : b = w.heap.size ∧ C = cellM Ss := by simpa using e
        refine ⟨.inl s.keep.size, by simp, fun hF => absurd (s.flt _ hF) (by omega), _, by simp, cells, T, rfl, All2.mono (fun b hb => ad.same s.flt b hb) (fun _ h => h) _ _ h⟩
      · exact s'.mem.each b C hb⟩ }

theorem Ops.box {d : Nat} {T : TypeId} {x : Operand} {S : VP} {Ss : List VP} [sh : Shape S Ss] (hx : Has E Γ M x S) (hd : Nat.blt d E.n = true)
    (k : ∀ b, Ops E P ops Q rest ((d, isPtr b 0) :: Γ) ((some b, cellM Ss) :: M)) : Ops E P ops Q (⟨some d, .box T x, ty, pos, after, none⟩ :: rest) Γ M := by
  intro a w F s
  refine wpList_plain rfl fun K hK => ?_
  unfold Oper.wp
  have hr : (execOp a.eval (⟨some d, .box T x, ty, pos, after, none⟩ : Oper)).run P w = .ok (.value (.pointer (some ⟨w.heap.size, 0, none⟩))) { w with heap := w.heap.push (.cells (a.eval x).cells T) } := by
    simp [execOp, Instr.box, newVar, newRow, newObj, go_sem]; rfl
  rw [hr]
  have s1 := s.alloc (T := T) (sh.cells _ _ _ (hx a w F s))
  have hd' : d < E.n := by simpa [Nat.blt_eq] using hd
  exact hK _ _ (k w.heap.size _ _ F (s1.put hd' rfl))

theorem Ops.alloc {d : Nat} {T : TypeId} {z : Value} (Ss : List VP) (hz : zeroB P T = some z) (hs : ∀ w F, All2 Ss w F z.cells.toList) (hd : Nat.blt d E.n = true)
    (k : ∀ b, Ops E P ops Q rest ((d, isPtr b 0) :: Γ) ((some b, cellM Ss) :: M)) : Ops E P ops Q (⟨some d, .alloc T, ty, pos, after, none⟩ :: rest) Γ M := by
  intro a w F s
  refine wpList_plain rfl fun K hK => ?_
  unfold Oper.wp
  have hr : (execOp a.eval (⟨some d, .alloc T, ty, pos, after, none⟩ : Oper)).run P w = .ok (.value (.pointer (some ⟨w.heap.size, 0, none⟩))) { w with heap := w.heap.push (.cells z.cells T) } := by
    have := run_zero (w := w) hz
    simp only [execOp, Instr.alloc, newVar, newRow, newObj, Sem.run_bind, this, Result.andThen_ok]
    simp [go_sem]; rfl
  rw [hr]
  have s1 := s.alloc (T := T) (hs w F)
  have hd' : d < E.n := by simpa [Nat.blt_eq] using hd
  exact hK _ _ (k w.heap.size _ _ F (s1.put hd' rfl))
end
end Go.En
namespace Go.En
open Go.RowKit
set_option linter.unusedVariables false
section
variable {E : Env} {P : Program} {Γ : Ctx} {M : Mem} {ty : TypeId} {pos : String} {after : Array Edge} {gd : Option (Nat × Bool)} {d : Option Tmp}
  {ops : Array Oper} {Q : Exit → Act → World → Prop} {rest : List Oper}

theorem add_zero (b off : Nat) : (⟨b, off, none⟩ : Addr).add 0 = ⟨b, off, none⟩ := rfl
theorem add_mk (b off j : Nat) : (⟨b, off, none⟩ : Addr).add j = ⟨b, off + j, none⟩ := by unfold Addr.add; split <;> simp_all

theorem All2.take : ∀ {Ss : List VP} {w : World} {F : Blk} {vs : List Value} (n : Nat), All2 Ss w F vs → All2 (Ss.take n) w F (vs.take n)
  | _, _, _, _, 0, _ => by simp [All2]
  | [], _, _, [], n + 1, _ => trivial
  | S :: Ss, _, _, v :: vs, n + 1, h => ⟨h.1, All2.take n h.2⟩
  | [], _, _, _ :: _, _ + 1, h => h.elim
  | _ :: _, _, _, [], _ + 1, h => h.elim
theorem All2.drop : ∀ {Ss : List VP} {w : World} {F : Blk} {vs : List Value} (n : Nat), All2 Ss w F vs → All2 (Ss.drop n) w F (vs.drop n)
  | _, _, _, _, 0, h => h
  | [], _, _, [], n + 1, _ => trivial
  | S :: Ss, _, _, v :: vs, n + 1, h => All2.drop n h.2
  | [], _, _, _ :: _, _ + 1, h => h.elim
  | _ :: _, _, _, [], _ + 1, h => h.elim
theorem All2.append : ∀ {Ss Ts : List VP} {w : World} {F : Blk} {vs us : List Value}, All2 Ss w F vs → All2 Ts w F us → All2 (Ss ++ Ts) w F (vs ++ us)
  | [], _, _, _, [], _, _, h => h
  | S :: Ss, _, _, _, v :: vs, _, h, k => ⟨h.1, All2.append h.2 k⟩
  | [], _, _, _, _ :: _, _, h, _ => h.elim
  | _ :: _, _, _, _, [], _, h, _ => h.elim

/-- the cells at a place of a known row of cells -/
theorem run_loadCells_at {w : World} {b off n : Nat} {vs : List Value} {T : TypeId} {fr : Nat × Nat} (hb : w.heap[b]? = some (.cells vs.toArray T fr)) (hn : off + n ≤ vs.length) :
    (loadCells ⟨b, off, none⟩ n).run P w = .ok ((vs.drop off).take n).toArray w := by
  have hl : ((vs.drop off).take n).length = n := by simp; omega
  have := run_loadCells_list (P := P) w ⟨b, off, none⟩ ((vs.drop off).take n) (fun j v hj => by
    rw [add_mk]
    have hj' : j < n := by
      rcases Nat.lt_or_ge j n with h | h
      · exact h
      · rw [List.getElem?_take_eq_none h] at hj; cases hj
    simp only [World.cell?, hb]
    rw [List.getElem?_take_of_lt hj', List.getElem?_drop] at hj
    simpa using hj)
  rw [hl] at this
  exact this

theorem mem_at {a : Act} {w : World} {F : Blk} (s : Sat E Γ M a w F) {i b : Nat} {C : MP} (hM : M[i]? = some (some b, C)) : ∃ o, w.heap[b]? = some o ∧ C.h w F o :=
  (s.mem.each b C (List.mem_of_getElem? hM)).2.2.2

theorem OK1.load {x : Operand} {b off n i : Nat} {T : TypeId} {Ss Ss' : List VP} (hx : Has E Γ M x (isPtr b off)) (hM : M[i]? = some (some b, cellM Ss)) (hT : tyB P T = some (n, true))
    (hn : Nat.ble (off + n) Ss.length = true) (hS : (Ss.drop off).take n = Ss') : OK1 E P Γ M ⟨d, .load T x, ty, pos, after, gd⟩ (Flat Ss') :=
  .run fun a w F s => by
    obtain ⟨o, hb, vs, T', rfl, hv⟩ := mem_at s hM
    have h1 : a.eval x = .pointer (some ⟨b, off, none⟩) := hx a w F s
    have hl := hv.len
    have hn' := Nat.le_of_ble_eq_true hn
    refine ⟨.agg ((vs.drop off).take n).toArray, ?_, _, rfl, hS ▸ (hv.drop off).take n⟩
    simp only [execOp, h1, Instr.loadAt, Instr.sureAddr, loadVar, Sem.run_bind, Sem.run_pure, Result.andThen_ok, run_isAgg hT, run_size hT, if_true]
    rw [run_loadCells_at (P := P) (n := n) hb (by omega)]
    rfl
theorem OK1.load1 {x : Operand} {b off i : Nat} {T : TypeId} {Ss : List VP} {S : VP} (hx : Has E Γ M x (isPtr b off)) (hM : M[i]? = some (some b, cellM Ss)) (hT : tyB P T = some (1, false))
    (hS : Ss[off]? = some S) : OK1 E P Γ M ⟨d, .load T x, ty, pos, after, gd⟩ S :=
  .run fun a w F s => by
    obtain ⟨o, hb, vs, T', rfl, hv⟩ := mem_at s hM
    have h1 : a.eval x = .pointer (some ⟨b, off, none⟩) := hx a w F s
    obtain ⟨v, hv1, hv2⟩ := hv.get off S hS
    have hc : w.cell? ⟨b, off, none⟩ = some v := by simp [World.cell?, hb, hv1]
    refine ⟨v, ?_, hv2⟩
    simp only [execOp, h1, Instr.loadAt, Instr.sureAddr, loadVar, Sem.run_bind, Sem.run_pure, Result.andThen_ok, run_isAgg hT]
    simp [hc]

theorem OK1.fieldAddr {x : Operand} {b off i o n : Nat} {g : Bool} {T T' : TypeId} (hx : Has E Γ M x (isPtr b off)) (hf : fldB P T i = some (o, T')) (ht : tyB P T' = some (n + 1, g)) :
    OK1 E P Γ M ⟨d, .fieldAddr T x i, ty, pos, after, gd⟩ (isPtr b (off + o)) :=
  .run fun a w F s => by
    have h1 : a.eval x = .pointer (some ⟨b, off, none⟩) := hx a w F s
    refine ⟨_, ?_, rfl⟩
    unfold fldB at hf
    cases hu : P.underlying T with
    | none => simp [hu] at hf
    | some dd =>
      rw [hu] at hf
      cases dd <;> simp at hf
      rename_i fs
      obtain ⟨f, hf1, hf2, hf3⟩ := hf
      subst hf2 hf3
      simp only [execOp, h1, Instr.fieldAt, Instr.sureAddr, fieldPlace, Sem.run_bind, Sem.run_pure, Result.andThen_ok, run_under hu, run_size ht, hf1]
      simp [add_mk]
theorem run_part {n o : Nat} {T : TypeId} {cs : Array Value} {w : World} (ht : tyB P T = some (n, true)) : (part T cs o).run P w = .ok (.agg (cs.extract o (o + n))) w := by
  simp only [part, Sem.run_bind, run_isAgg ht, run_size ht, Result.andThen_ok, if_true, Sem.run_pure]
theorem run_part1 {n o : Nat} {T : TypeId} {cs : Array Value} {w : World} {v : Value} (ht : tyB P T = some (n, false)) (h : cs[o]? = some v) : (part T cs o).run P w = .ok v w := by
  simp [part, Sem.run_bind, run_isAgg ht, h]
theorem run_field {T T' : TypeId} {i o : Nat} {cs : Array Value} {w : World} {r : Result Value} (hf : fldB P T i = some (o, T')) (h : (part T' cs o).run P w = r) : (Instr.field T (.agg cs) i).run P w = r := by
  unfold fldB at hf
  cases hu : P.underlying T with
  | none => simp [hu] at hf
  | some dd =>
    rw [hu] at hf
    cases dd <;> simp at hf
    rename_i fs
    obtain ⟨f, hf1, hf2, hf3⟩ := hf
    subst hf2 hf3
    simp only [Instr.field, asAgg, Sem.run_bind, Sem.run_pure, Result.andThen_ok, run_under hu, hf1, h]
theorem OK1.field {x : Operand} {i o n : Nat} {T T' : TypeId} {Ss Ss' : List VP} (hx : Has E Γ M x (Flat Ss)) (hf : fldB P T i = some (o, T')) (ht : tyB P T' = some (n, true)) (hS : (Ss.drop o).take n = Ss') :
    OK1 E P Γ M ⟨d, .field T x i, ty, pos, after, gd⟩ (Flat Ss') :=
  .run fun a w F s => by
    obtain ⟨vs, e, hv⟩ := hx a w F s
    refine ⟨.agg ((vs.drop o).take n).toArray, ?_, _, rfl, hS ▸ (hv.drop o).take n⟩
    simp only [execOp, e, Sem.run_bind, run_field hf (run_part ht), Result.andThen_ok, Sem.run_pure]
    congr 3
    apply Array.ext'
    simp
theorem OK1.field1 {x : Operand} {i o n : Nat} {T T' : TypeId} {Ss : List VP} {S : VP} (hx : Has E Γ M x (Flat Ss)) (hf : fldB P T i = some (o, T')) (ht : tyB P T' = some (n, false)) (hS : Ss[o]? = some S) :
    OK1 E P Γ M ⟨d, .field T x i, ty, pos, after, gd⟩ S :=
  .run fun a w F s => by
    obtain ⟨vs, e, hv⟩ := hx a w F s
    obtain ⟨v, hv1, hv2⟩ := hv.get o S hS
    refine ⟨v, ?_, hv2⟩
    have hr := run_field (P := P) hf (run_part1 (P := P) (w := w) (cs := vs.toArray) (v := v) ht (by simpa using hv1))
    simp only [execOp, e, Sem.run_bind, hr, Result.andThen_ok, Sem.run_pure]

/-- a store into a block of the call's own -/
theorem Sat.write {a : Act} {w w' : World} {F : Blk} (s : Sat E Γ M a w F) {i b : Nat} {C C' : MP} (hM : M[i]? = some (some b, C))
    (hos : w'.os = w.os) (htape : w'.tape = w.tape) (hout : w'.output = w.output) (hsize : w'.heap.size = w.heap.size)
    (hne : ∀ k, k ≠ b → w'.heap[k]? = w.heap[k]?) {o : Obj} (ho : w'.heap[b]? = some o) (hC : C'.h w' F o) : Sat E Γ (M.set i (some b, C')) a w' F := by
  obtain ⟨h1, h2, h3, o1, h4, h5⟩ := s.mem.each b C (List.mem_of_getElem? hM)
  have hF : ∀ k, F k → w'.heap[k]? = w.heap[k]? := fun k hk => hne k (fun e => h3 (e ▸ hk))
  have hi : i < M.length := by
    rcases Nat.lt_or_ge i M.length with h | h
    · exact h
    · rw [List.getElem?_eq_none h] at hM; cases hM
  have hMi : M[i] = (some b, C) := by rw [List.getElem?_eq_getElem hi] at hM; exact Option.some.inj hM
  refine { s with keep := ?_, fnew := ?_, flt := ?_, slots := ?_, mem := ⟨?_, ?_⟩ }
  · refine ⟨hos.trans s.keep.os, htape.trans s.keep.tape, hout.trans s.keep.output, by rw [hsize]; exact s.keep.size, fun k hk hW => ?_⟩
    rw [hne k (fun e => by subst e; rcases h1 with h | h; omega; exact hW h)]
    exact s.keep.block k hk hW
  · intro k hk; rw [hsize]; exact s.fnew k hk
  · intro k hk; rw [hsize]; exact s.flt k hk
  · exact fun t S h => S.mono _ _ _ _ _ (s.slots t S h) hF (fun _ h => h)
  · rw [List.pairwise_iff_getElem]
    intro j k hj hk hjk
    have hp := List.pairwise_iff_getElem.1 s.mem.apart j k (by simpa using hj) (by simpa using hk) hjk
    simp only [List.getElem_set]
    by_cases e1 : i = j
    · subst e1
      have : ¬ i = k := by omega
      simp only [if_true, this, if_false]
      rw [hMi] at hp; exact hp
    · by_cases e2 : i = k
      · subst e2
        simp only [e1, if_true, if_false]
        rw [hMi] at hp; exact hp
      · simp only [e1, e2, if_false]; exact hp
  · intro k D hk
    obtain ⟨j, hj, he⟩ := List.mem_iff_getElem.1 hk
    simp only [List.getElem_set] at he
    by_cases e1 : i = j
    · subst e1
      simp only [if_true] at he
      obtain ⟨rfl, rfl⟩ : b = k ∧ C' = D := by simpa using he
      exact ⟨h1, by rw [hsize]; exact h2, h3, o, ho, hC⟩
    · simp only [e1, if_false] at he
      have hjl : j < M.length := by simpa using hj
      obtain ⟨g1, g2, g3, o2, g4, g5⟩ := s.mem.each k D (he ▸ List.getElem_mem hjl)
      have hkb : k ≠ b := by
        intro e; subst e
        rcases Nat.lt_or_gt_of_ne e1 with hlt | hlt
        · have hp := List.pairwise_iff_getElem.1 s.mem.apart i j hi hjl hlt
          rw [hMi, he] at hp; simp at hp
        · have hp := List.pairwise_iff_getElem.1 s.mem.apart j i hjl hi hlt
          rw [hMi, he] at hp; simp at hp
      exact ⟨g1, by rw [hsize]; exact g2, g3, o2, (hne k hkb).trans g4, D.mono _ _ _ _ _ g5 hF (fun _ h => h)⟩

theorem setRow_ne (w : World) (g : Nat) (cs : Array Value) (k : Nat) (h : k ≠ g) : (w.setRow g cs).heap[k]? = w.heap[k]? := by
  simp only [World.setRow, Array.getElem?_modify]
  rw [if_neg (fun e => h e.symm)]
theorem setRow_size (w : World) (g : Nat) (cs : Array Value) : (w.setRow g cs).heap.size = w.heap.size := by simp [World.setRow]

theorem Ops.store {x y : Operand} {b off i n : Nat} {g : Bool} {T : TypeId} {Ss Ss1 : List VP} {S : VP} [sh : Shape S Ss1] [o1 : Ones Ss1] (hx : Has E Γ M x (isPtr b off)) (hy : Has E Γ M y S)
    (hM : M[i]? = some (some b, cellM Ss)) (hT : tyB P T = some (n, g)) (hn : Nat.beq Ss1.length n = true) (hl : Nat.ble (off + n) Ss.length = true) {Ss' : List VP} {M' : Mem} (hS : Ss.take off ++ Ss1 ++ Ss.drop (off + n) = Ss')
    (hM' : M.set i (some b, cellM Ss') = M') (k : Ops E P ops Q rest Γ M') : Ops E P ops Q (⟨none, .store T x y, ty, pos, after, none⟩ :: rest) Γ M := by
  intro a w F s
  refine wpList_plain rfl fun K hK => ?_
  obtain ⟨o, hb, vs, T', rfl, hv⟩ := mem_at s hM
  have h1 : a.eval x = .pointer (some ⟨b, off, none⟩) := hx a w F s
  have hy' := sh.cells _ _ _ (hy a w F s)
  have hn' : Ss1.length = n := Nat.eq_of_beq_eq_true hn
  have hl' := Nat.le_of_ble_eq_true hl
  have e1 := hv.len
  have e2 := hy'.len
  have hcs : (a.eval y).cells.size = n := by rw [← Array.length_toList, ← e2, hn']
  unfold Oper.wp
  have hr : (execOp a.eval (⟨none, .store T x y, ty, pos, after, none⟩ : Oper)).run P w = .ok .skip (w.setRow b (vs.take off ++ (a.eval y).cells.toList ++ vs.drop (off + n)).toArray) := by
    have h2 := run_storeCells_at P b off T' (a.eval y).cells.toList 0 vs.toArray w hb (by simp; omega) (hy'.one o1.ones)
    simp only [Nat.add_zero, Array.length_toList, hcs] at h2
    simp only [execOp, h1, Instr.storeAt, Instr.sureAddr, storeVar, Sem.run_bind, Sem.run_pure, Result.andThen_ok, run_size hT, hcs]
    simp only [ne_eq, not_true_eq_false, if_false, h2, Result.andThen_ok]
  rw [hr]
  refine hK _ _ (k _ _ F ?_)
  rw [← hM']
  refine s.write hM rfl rfl rfl (setRow_size _ _ _) (fun k hk => setRow_ne _ _ _ _ hk) (setRow_heap _ _ _ _ _ _ hb) ⟨_, T', rfl, ?_⟩
  have hF : ∀ k, F k → (w.setRow b (vs.take off ++ (a.eval y).cells.toList ++ vs.drop (off + n)).toArray).heap[k]? = w.heap[k]? := fun k hk => setRow_ne _ _ _ _ (fun e => by
    subst e; exact (s.mem.each k _ (List.mem_of_getElem? hM)).2.2.1 hk)
  refine All2.mono hF (fun _ h => h) _ _ ?_
  rw [← hS]
  exact ((hv.take off).append hy').append (hv.drop _)
end
end Go.En
