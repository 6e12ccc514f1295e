/- More rules: build, convert, arrays by value, results. -/
import Derived.Test.YtokhpacdgoebpaaReg
namespace Go.En
open Go.RowKit
set_option linter.unusedVariables false

theorem run_mapM_list {α β : Type} {P : Program} {w : World} (f : α → Sem β) (g : α → β) : ∀ (l : List α), (∀ x ∈ l, (f x).run P w = .ok (g x) w) → (l.mapM f).run P w = .ok (l.map g) w
  | [], _ => by simp
  | x :: l, h => by
    have h1 := h x (by simp)
    have h2 := run_mapM_list f g l (fun y hy => h y (by simp [hy]))
    simp [List.mapM_cons, h1, h2]
theorem run_mapM {α β : Type} {P : Program} {w : World} (f : α → Sem β) (g : α → β) (l : Array α) (h : ∀ x ∈ l, (f x).run P w = .ok (g x) w) : (l.mapM f).run P w = .ok (l.map g) w := by
  obtain ⟨l⟩ := l
  have := run_mapM_list (P := P) (w := w) f g l (by simpa using h)
  rw [List.mapM_toArray]
  simp [this]

section
variable {E : Env} {P : Program} {Γ : Ctx} {M : Mem} {ty : TypeId} {pos : String} {after : Array Edge} {gd : Option (Nat × Bool)} {d : Option Tmp}
  {ops : Array Oper} {Q : Exit → Act → World → Prop} {rest : List Oper}

/-! ### results -/
inductive ResL (E : Env) (P : Program) (Γ : Ctx) (M : Mem) : List ResultVar → List VP → Prop
  | nil : ResL E P Γ M [] []
  | tmp {t : Nat} {S : VP} {rs : List ResultVar} {Ss : List VP} : Has E Γ M (.tmp t) S → ResL E P Γ M rs Ss → ResL E P Γ M (.tmp t :: rs) (S :: Ss)
  | cell {t b i n : Nat} {T : TypeId} {Ss0 : List VP} {S : VP} {rs : List ResultVar} {Ss : List VP} : look Γ t = some (isPtr b 0) → M[i]? = some (some b, cellM Ss0) → tyB P T = some (n, true) → Nat.beq Ss0.length n = true →
      Flat Ss0 = S → ResL E P Γ M rs Ss → ResL E P Γ M (.cell t T :: rs) (S :: Ss)
  | cell1 {t b i : Nat} {T : TypeId} {S0 S : VP} {rs : List ResultVar} {Ss : List VP} : look Γ t = some (isPtr b 0) → M[i]? = some (some b, cellM [S0]) → tyB P T = some (1, false) →
      S0 = S → ResL E P Γ M rs Ss → ResL E P Γ M (.cell t T :: rs) (S :: Ss)

def resOf (a : Act) : ResultVar → Sem Value
  | .tmp t => pure (a.tmps.getD t undef)
  | .cell x t => do loadVar t (← asAddr (a.tmps.getD x undef))

theorem ResL.run {rs : List ResultVar} {Ss : List VP} (h : ResL E P Γ M rs Ss) {a : Act} {w : World} {F : Blk} (s : Sat E Γ M a w F) :
    ∃ g : ResultVar → Value, (∀ r ∈ rs, (resOf a r).run P w = .ok (g r) w) ∧ All2 Ss w F (rs.map g) := by
  have key : ∃ vs : List Value, vs.length = rs.length ∧ (∀ i (hi : i < rs.length), ∃ v, vs[i]? = some v ∧ (resOf a rs[i]).run P w = .ok v w) ∧ All2 Ss w F vs := by
    induction h with
    | nil => exact ⟨[], rfl, fun i hi => absurd hi (by simp), trivial⟩
    | @tmp t S rs Ss h1 _ ih =>
      obtain ⟨vs, e1, e2, e3⟩ := ih
      refine ⟨a.tmps.getD t undef :: vs, by simp [e1], fun i hi => ?_, h1 a w F s, e3⟩
      cases i with
      | zero => exact ⟨_, rfl, rfl⟩
      | succ i => simpa using e2 i (by simpa using hi)
    | @cell t b i0 n T Ss0 S rs Ss h1 h2 h3 h4 h5 _ ih =>
      obtain ⟨vs, e1, e2, e3⟩ := ih
      obtain ⟨o, hb, us, T', rfl, hv⟩ := mem_at s h2
      have hl := hv.len
      have h4' := Nat.eq_of_beq_eq_true h4
      refine ⟨.agg us.toArray :: vs, by simp [e1], fun i hi => ?_, h5 ▸ ⟨us, rfl, hv⟩, e3⟩
      cases i with
      | zero =>
        refine ⟨_, rfl, ?_⟩
        have hp : a.tmps.getD t undef = .pointer (some ⟨b, 0, none⟩) := s.slots t _ h1
        have hload := run_loadCells_at (P := P) (n := n) (off := 0) hb (by omega)
        simp only [List.drop_zero] at hload
        rw [List.take_of_length_le (by omega)] at hload
        simp only [List.getElem_cons_zero, resOf, hp, asAddr, loadVar, Sem.run_bind, Sem.run_pure, Result.andThen_ok, run_isAgg h3, run_size h3, if_true, hload]
      | succ i => simpa using e2 i (by simpa using hi)
    | @cell1 t b i0 T S0 S rs Ss h1 h2 h3 h5 _ ih =>
      obtain ⟨vs, e1, e2, e3⟩ := ih
      obtain ⟨o, hb, us, T', rfl, hv⟩ := mem_at s h2
      obtain ⟨v, hv1, hv2⟩ := hv.get 0 S0 rfl
      refine ⟨v :: vs, by simp [e1], fun i hi => ?_, h5 ▸ hv2, e3⟩
      cases i with
      | zero =>
        refine ⟨_, rfl, ?_⟩
        have hp : a.tmps.getD t undef = .pointer (some ⟨b, 0, none⟩) := s.slots t _ h1
        have hc : w.cell? ⟨b, 0, none⟩ = some v := by simp [World.cell?, hb, hv1]
        simp only [List.getElem_cons_zero, resOf, hp, asAddr, loadVar, Sem.run_bind, Sem.run_pure, Result.andThen_ok, run_isAgg h3]
        simp [hc]
      | succ i => simpa using e2 i (by simpa using hi)
  obtain ⟨vs, e1, e2, e3⟩ := key
  have hex : ∀ r ∈ rs, ∃ v, (resOf a r).run P w = .ok v w := fun r hr => by
    obtain ⟨i, hi, rfl⟩ := List.mem_iff_getElem.1 hr
    obtain ⟨v, _, hv⟩ := e2 i hi
    exact ⟨v, hv⟩
  refine ⟨fun r => match (resOf a r).run P w with | .ok v _ => v | _ => undef, fun r hr => ?_, ?_⟩
  · obtain ⟨v, hv⟩ := hex r hr; simp only [hv]
  · have : rs.map (fun r => match (resOf a r).run P w with | .ok v _ => v | _ => undef) = vs := by
      apply List.ext_getElem?
      intro i
      by_cases hi : i < rs.length
      · obtain ⟨v, h1, h2⟩ := e2 i hi
        rw [List.getElem?_map, List.getElem?_eq_getElem hi, h1]
        simp only [Option.map_some, h2]
      · rw [List.getElem?_eq_none (by simp; omega), List.getElem?_eq_none (by omega)]
    rw [this]; exact e3

theorem run_results {fn : Func} {rs : List ResultVar} {Ss : List VP} (hr : fn.results = rs.toArray) (h : ResL E P Γ M rs Ss) {a : Act} {w : World} {F : Blk} (s : Sat E Γ M a w F) :
    ∃ vs : List Value, (results fn a.tmps).run P w = .ok (if h : vs.length = 1 then vs[0] else .tuple vs.toArray) w ∧ All2 Ss w F vs := by
  obtain ⟨g, h1, h2⟩ := h.run s
  refine ⟨rs.map g, ?_, h2⟩
  have hm := run_mapM (P := P) (w := w) (resOf a) g rs.toArray (by simpa using h1)
  have hres : results fn a.tmps = (rs.toArray.mapM (resOf a) >>= fun vs => pure (if h : vs.size = 1 then vs[0] else .tuple vs)) := by
    unfold results
    rw [hr]
    congr 1
  rw [hres, Sem.run_bind, hm, Result.andThen_ok]
  simp

theorem fin_ret {fn : Func} {R : VP} {e : Exit} {a : Act} {w : World} {F : Blk} (he : e = .ret ∨ e = .normal) (s : Sat E Γ M a w F) (hw : E.W = []) {v : Value} (hv : (results fn a.tmps).run P w = .ok v w) (hR : R.h w F v) :
    bodyPost P fn (Ret E.w0 E.F0 R) e a w := by
  have hk := s.keep
  rw [hw] at hk
  have hb : a.defers = [] ∧ ∃ v, (results fn a.tmps).run P w = .ok v w ∧ Ret E.w0 E.F0 R (.returned v) w :=
    ⟨s.defers, _, hv, _, rfl, hk, R.mono _ _ _ _ _ hR (fun _ _ => rfl) (fun b hb => by
      rcases s.fnew b hb with h1 | h1
      · exact .inl h1
      · exact .inr h1)⟩
  rcases he with rfl | rfl <;> exact hb
/-- one result -/
theorem rt1 {fn : Func} {r : ResultVar} {R : VP} {e : Exit} (he : e = .ret ∨ e = .normal) (hr : fn.results = #[r]) (hw : E.W = []) (h : ResL E P Γ M [r] [R]) : At E Γ M (bodyPost P fn (Ret E.w0 E.F0 R)) e := by
  intro a w F s
  obtain ⟨vs, h1, h2⟩ := run_results hr h s
  match vs, h2 with
  | [v], h2 => exact fin_ret he s hw (by simpa using h1) h2.1
  | [], h2 => exact h2.elim
  | _ :: _ :: _, h2 => exact h2.2.elim
/-- several results -/
theorem rtN {fn : Func} {rs : List ResultVar} {Rs : List VP} {e : Exit} (he : e = .ret ∨ e = .normal) (hr : fn.results = rs.toArray) (hn : Nat.beq rs.length 1 = false) (hw : E.W = []) (h : ResL E P Γ M rs Rs) :
    At E Γ M (bodyPost P fn (Ret E.w0 E.F0 (isTup Rs))) e := by
  intro a w F s
  obtain ⟨vs, h1, h2⟩ := run_results hr h s
  have hl : Rs.length = rs.length := by
    clear h1 h2 s a w F vs
    clear hn hr
    induction h with
    | nil => rfl
    | tmp _ _ ih => simp [ih]
    | cell _ _ _ _ _ _ ih => simp [ih]
    | cell1 _ _ _ _ _ ih => simp [ih]
  have hne : vs.length ≠ 1 := by rw [← h2.len, hl]; exact Nat.ne_of_beq_eq_false hn
  rw [dif_neg hne] at h1
  exact fin_ret he s hw h1 ⟨vs, rfl, h2⟩

/-! ### build -/
def spliceV : List VP → Nat → List VP → List VP
  | Z, _, [] => Z
  | [], _, _ => []
  | _ :: Z, 0, S :: Ss => S :: spliceV Z 0 Ss
  | z :: Z, off + 1, S :: Ss => z :: spliceV Z off (S :: Ss)
theorem spliceV_eq : ∀ (Z : List VP) (off : Nat) (Ss : List VP), off + Ss.length ≤ Z.length → spliceV Z off Ss = Z.take off ++ Ss ++ Z.drop (off + Ss.length)
  | Z, off, [], _ => by cases Z <;> simp [spliceV]
  | [], off, S :: Ss, h => by simp at h
  | z :: Z, 0, S :: Ss, h => by
    have := spliceV_eq Z 0 Ss (by simp at h ⊢; omega)
    simp only [Nat.zero_add, List.take_zero, List.nil_append] at this
    simp only [spliceV, this]
    simp
  | z :: Z, off + 1, S :: Ss, h => by
    have := spliceV_eq Z off (S :: Ss) (by simp at h ⊢; omega)
    simp only [spliceV, this]
    have e : off + 1 + (S :: Ss).length = (off + (S :: Ss).length) + 1 := by omega
    rw [e]; simp
theorem set_zip : ∀ (us vs : List Value) (off : Nat) (cs : Array Value), off + us.length ≤ cs.size → cs.toList = vs →
    ((us.zipIdx.foldl (fun cs (p : Value × Nat) => cs.setIfInBounds (off + p.2) p.1) cs)).toList = vs.take off ++ us ++ vs.drop (off + us.length) := by
  have key : ∀ (us : List Value) (k off : Nat) (cs : Array Value), off + k + us.length ≤ cs.size →
      ((us.zipIdx k).foldl (fun cs (p : Value × Nat) => cs.setIfInBounds (off + p.2) p.1) cs).toList = cs.toList.take (off + k) ++ us ++ cs.toList.drop (off + k + us.length) := by
    intro us
    induction us with
    | nil => intro k off cs h; simp
    | cons u us ih =>
      intro k off cs h
      simp only [List.zipIdx_cons, List.foldl_cons]
      rw [ih (k + 1) off _ (by simp at h ⊢; omega)]
      have := list_seg_step cs.toList (off + k) u us (by simp at h ⊢; omega)
      simp only [Array.toList_setIfInBounds, ← Nat.add_assoc] at this ⊢
      rw [this]; congr 2
  intro us vs off cs h e
  subst e
  simpa using key us 0 off cs (by simpa using h)

/-- the parts of a composite literal: field, operand; what its cells are to hold -/
inductive Parts (E : Env) (Γ : Ctx) (M : Mem) (place : Nat → Option (Nat × Nat)) : List VP → List (Nat × Operand) → List VP → Prop
  | nil {Z : List VP} : Parts E Γ M place Z [] Z
  | cons {Z Z' : List VP} {i off n : Nat} {x : Operand} {S : VP} {Ss : List VP} {r : List (Nat × Operand)} [sh : Shape S Ss] : Has E Γ M x S → place i = some (off, n) → Nat.beq Ss.length n = true → Nat.ble (off + n) Z.length = true →
      Parts E Γ M place (spliceV Z off Ss) r Z' → Parts E Γ M place Z ((i, x) :: r) Z'

theorem Parts.fill {place : Nat → Option (Nat × Nat)} {Z Z' : List VP} {ps : List (Nat × Operand)} (h : Parts E Γ M place Z ps Z') {a : Act} {w : World} {F : Blk} (s : Sat E Γ M a w F) :
    ∀ cells : Array Value, All2 Z w F cells.toList → ∃ cells', Instr.fill place cells (ps.map fun p => (p.1, a.eval p.2)) = some cells' ∧ All2 Z' w F cells'.toList := by
  induction h with
  | nil => intro cells hc; exact ⟨cells, rfl, hc⟩
  | @cons Z Z' i off n x S Ss r sh h1 h2 h3 h4 _ ih =>
    intro cells hc
    have hv := sh.cells _ _ _ (h1 a w F s)
    have h3' := Nat.eq_of_beq_eq_true h3
    have h4' := Nat.le_of_ble_eq_true h4
    have e1 := hv.len
    have e2 := hc.len
    simp at e1 e2
    have hsz : (a.eval x).cells.size = n := by omega
    simp only [List.map_cons, Instr.fill, h2]
    rw [if_neg (by rw [hsz]; simp only [ne_eq, not_true_eq_false, decide_false, Bool.false_or, decide_eq_true_eq]; omega)]
    refine ih _ ?_
    have := set_zip (a.eval x).cells.toList cells.toList off cells (by simp; omega) rfl
    rw [← Array.foldl_toList, Array.toList_zipIdx, this]
    rw [spliceV_eq _ _ _ (by omega), show Ss.length = (a.eval x).cells.toList.length from hv.len]
    exact ((hc.take off).append hv).append (hc.drop _)

/-- the places of a struct's fields -/
def plB (P : Program) (T : TypeId) : Option (List (Nat × Nat)) := (P.underlying T).bind fun d => match d with
  | .struct fs => fs.toList.mapM fun f => (tyB P f.type).map fun p => (f.offset, p.1)
  | _ => none
theorem mapM_some {α β : Type} (f : α → Option β) : ∀ (l : List α) (r : List β), l.mapM f = some r → l.map f = r.map some
  | [], r, h => by simp at h; subst h; rfl
  | x :: l, r, h => by
    rw [List.mapM_cons] at h
    cases hx : f x with
    | none => rw [hx] at h; simp at h
    | some y =>
      rw [hx] at h
      cases hl : l.mapM f with
      | none => rw [hl] at h; simp at h
      | some ys => rw [hl] at h; simp at h; subst h; simp [hx, mapM_some f l ys hl]

theorem OK1.build {T : TypeId} {pl : List (Nat × Nat)} {z : Value} {ps : List (Nat × Operand)} (Z : List VP) {Z' Z'' : List VP} (hp : plB P T = some pl) (hz : zeroB P T = some z) (hZ : ∀ w F, All2 Z w F z.cells.toList)
    (h : Parts E Γ M (fun i => pl[i]?) Z ps Z') (hZ' : Z' = Z'') : OK1 E P Γ M ⟨d, .build T ps.toArray, ty, pos, after, gd⟩ (Flat Z'') :=
  .run fun a w F s => by
    obtain ⟨cells, h1, h2⟩ := h.fill s z.cells (hZ w F)
    refine ⟨.agg cells, ?_, cells.toList, by simp, hZ' ▸ h2⟩
    unfold plB at hp
    cases hu : P.underlying T with
    | none => simp [hu] at hp
    | some dd =>
      rw [hu] at hp
      cases dd <;> simp only [Option.bind_some] at hp <;> try cases hp
      rename_i fs
      have hm := mapM_some _ _ _ hp
      have hrun := run_mapM (P := P) (w := w) (fun f : Field => do pure (f.offset, ← sizeOf f.type)) (fun f : Field => (((tyB P f.type).map fun p => (f.offset, p.1)).getD (0, 0))) fs (fun f hf => by
        have : (tyB P f.type).map (fun p => (f.offset, p.1)) ∈ fs.toList.map (fun f => (tyB P f.type).map fun p => (f.offset, p.1)) := List.mem_map.2 ⟨f, by simpa using hf, rfl⟩
        rw [hm] at this
        obtain ⟨y, _, hy⟩ := List.mem_map.1 this
        cases ht : tyB P f.type with
        | none => rw [ht] at hy; simp at hy
        | some p => obtain ⟨n, g⟩ := p; simp [run_size ht])
      have hpl : (fs.map (fun f : Field => (((tyB P f.type).map fun p => (f.offset, p.1)).getD (0, 0)))) = pl.toArray := by
        apply Array.ext'
        simp only [Array.toList_map]
        have := congrArg (List.map (fun o : Option (Nat × Nat) => o.getD (0, 0))) hm
        simp only [List.map_map] at this
        have e2 : ((fun o : Option (Nat × Nat) => o.getD (0, 0)) ∘ some) = id := rfl
        rw [e2, List.map_id] at this
        exact this
      rw [hpl] at hrun
      have hmap : (ps.toArray.map fun (p : Nat × Operand) => (p.1, a.eval p.2)).toList = ps.map fun p => (p.1, a.eval p.2) := by simp
      have hfn : (fun i : Nat => pl.toArray[i]?) = fun i => pl[i]? := by funext i; simp
      simp only [execOp, Instr.build, Sem.run_bind, run_zero hz, run_under hu, Result.andThen_ok, hrun]
      rw [hmap]
      simp only [hfn, h1, Sem.run_pure, Result.andThen_ok]

/-! ### conversions between integers -/
theorem OK1.conv {S T : TypeId} {x : Operand} {k k' : IntKind} {z : Int} {R : VP} {ds : TypeDesc} (hs : P.underlying S = some ds) (ht : P.underlying T = some (.int k')) (hx : ∀ a w F, Sat E Γ M a w F → a.eval x = .int k z)
    (hR : ∀ w F, R.h w F (.int k' (k'.wrap z))) : OK1 E P Γ M ⟨d, .convert S T x, ty, pos, after, gd⟩ R :=
  .run fun a w F s => ⟨_, by
    have h1 := hx a w F s
    simp only [execOp, h1, convert, Sem.run_bind, run_under hs, run_under ht, Result.andThen_ok]
    cases ds <;> simp [Conv.intToInt], hR w F⟩
theorem OK1.convUI {S T : TypeId} {x : Operand} {n : Nat} {ds : TypeDesc} (hs : P.underlying S = some ds) (ht : P.underlying T = some (.int .i64)) (hx : Has E Γ M x (isU n)) (h : n < 9223372036854775808) :
    OK1 E P Γ M ⟨d, .convert S T x, ty, pos, after, gd⟩ (isI n) :=
  .conv hs ht (evU hx) (fun w F => by rw [wrap_i64 (by omega) (by omega)]; exact isI_of (by omega) (by omega) w F)
theorem OK1.convIU {S T : TypeId} {x : Operand} {z : Int} {ds : TypeDesc} (hs : P.underlying S = some ds) (ht : P.underlying T = some (.int .u64)) (hx : Has E Γ M x (isI z)) (h : 0 ≤ z) (h' : z < 18446744073709551616) :
    OK1 E P Γ M ⟨d, .convert S T x, ty, pos, after, gd⟩ (isU z.toNat) :=
  .conv hs ht (evI hx) (fun w F => isU_of (by rw [wrap_u64]; omega) (by omega) w F)
theorem OK1.convUU {S T : TypeId} {x : Operand} {n : Nat} {ds : TypeDesc} (hs : P.underlying S = some ds) (ht : P.underlying T = some (.int .u64)) (hx : Has E Γ M x (isU n)) (h : n < 18446744073709551616) :
    OK1 E P Γ M ⟨d, .convert S T x, ty, pos, after, gd⟩ (isU n) :=
  .conv hs ht (evU hx) (fun w F => isU_of (by rw [wrap_u64]; omega) h w F)
theorem OK1.convKU {S T : TypeId} {x : Operand} {k : IntKind} {z : Int} {ds : TypeDesc} (hs : P.underlying S = some ds) (ht : P.underlying T = some (.int .u64)) (hx : Has E Γ M x (isK k z)) (h : 0 ≤ z) (h' : z < 18446744073709551616) :
    OK1 E P Γ M ⟨d, .convert S T x, ty, pos, after, gd⟩ (isU z.toNat) :=
  .conv hs ht (evK hx) (fun w F => isU_of (by rw [wrap_u64]; omega) (by omega) w F)
theorem OK1.convKI {S T : TypeId} {x : Operand} {k : IntKind} {z : Int} {ds : TypeDesc} (hs : P.underlying S = some ds) (ht : P.underlying T = some (.int .i64)) (hx : Has E Γ M x (isK k z)) (h : -9223372036854775808 ≤ z) (h' : z < 9223372036854775808) :
    OK1 E P Γ M ⟨d, .convert S T x, ty, pos, after, gd⟩ (isI z) :=
  .conv hs ht (evK hx) (fun w F => by rw [wrap_i64 h h']; exact isI_of h h' w F)

/-! ### an array by value -/
theorem OK1.idx {T E' : TypeId} {x y : Operand} {n : Nat} {k : IntKind} {z : Int} {Ss : List VP} {S : VP} (ha : arrB P T = some (n, E')) (ht : tyB P E' = some (1, false)) (hx : Has E Γ M x (Flat Ss)) (hy : ∀ a w F, Sat E Γ M a w F → a.eval y = .int k z)
    (h0 : 0 ≤ z) (h1 : z < n) (hS : Ss[z.toNat]? = some S) : OK1 E P Γ M ⟨d, .index T x y, ty, pos, after, gd⟩ S :=
  .run fun a w F s => by
    obtain ⟨vs, e, hv⟩ := hx a w F s
    obtain ⟨v, hv1, hv2⟩ := hv.get _ S hS
    have h2 := hy a w F s
    refine ⟨v, ?_, hv2⟩
    unfold arrB at ha
    cases hu : P.underlying T with
    | none => simp [hu] at ha
    | some dd =>
      rw [hu] at ha
      cases dd <;> simp at ha
      obtain ⟨rfl, rfl⟩ := ha
      have hp := run_part1 (P := P) (w := w) (cs := vs.toArray) (o := z.toNat) ht (by simpa using hv1)
      simp only [execOp, e, h2, Instr.index, asIntOf, Sem.run_bind, Sem.run_pure, run_under hu, Result.andThen_ok]
      rw [if_pos ⟨h0, h1⟩]
      simp only [Sem.run_bind, run_size ht, Result.andThen_ok, Nat.mul_one, hp]

theorem Cv.mem {Γ' : Ctx} {M' : Mem} (h : Wk E Γ M Γ') (e : M = M') : Cv E Γ M Γ' M' := e ▸ Cv.wk h
theorem Ops.memEq {M' : Mem} (e : M = M') (h : Ops E P ops Q rest Γ M') : Ops E P ops Q rest Γ M := e ▸ h
theorem Tri.memEq {c : Code} {M' : Mem} (e : M = M') (h : Tri E P c Γ M' Q) : Tri E P c Γ M Q := e ▸ h
theorem isU_eq {m n : Nat} (h : m = n) : isU m = isU n := h ▸ rfl
theorem isI_eq {m n : Int} (h : m = n) : isI m = isI n := h ▸ rfl
theorem isB_eq {m n : Bool} (h : m = n) : isB m = isB n := h ▸ rfl

/-- a block allocated now: a value in memory of its own, never written again -/
theorem alloc_new {a : Act} {w : World} {F : Blk} (s : Sat E Γ M a w F) (o : Obj) :
    Adv w F { w with heap := w.heap.push o } (fun b => F b ∨ b = w.heap.size) :=
  ⟨Keep.alloc _ _ _, fun _ h => .inl h, fun b h => by
    rcases h with h | h
    · exact .inl h
    · exact .inr ⟨by omega, by simp; omega⟩⟩
end
end Go.En
