/- Rules and contracts, part 3 of 6. -/
import Derived.Test.YtkgipdidomikbaaGreatQZcharFields2
import Derived.ProofKit
import Derived.OpenShut
import Derived.ChangeOld
import Derived.Carry
import Derived.ChangeSlices
import Derived.Test.YtkgipdidomikbaaGreatProg
import Derived.KernelRfl
/- Functions that take memory of their caller's and hand memory back; rows that have grown, read and written. -/
namespace Go.En
open Go.RowKit
set_option linter.unusedVariables false
section
variable {E : Env} {P : Program} {Γ : Ctx} {M : Mem} {ty : TypeId} {pos : String} {after : Array Edge} {gd : Option (Nat × Bool)} {d : Option Tmp}
  {ops : Array Oper} {Q : Exit → Act → World → Prop} {rest : List Oper} {T T' : TypeId} {x y : Operand} {α : Type} {f : α → VP} {fk : α → List VP} {xs : List α} {k : Nat}
/-- a place of a row that has grown -/
def isPtrG (g : Gr α) (o : Nat) : VP := .pure fun v => ∃ b, g.ob = some b ∧ v = .pointer (some ⟨b, o, none⟩)
instance {g : Gr α} {o : Nat} : One (isPtrG g o) := ⟨fun w F v h => by obtain ⟨b, _, rfl⟩ := h; rfl⟩
instance {g : Gr α} {o : Nat} : Shape (isPtrG g o) [isPtrG g o] := .of_one inferInstance
theorem Has.ptrG {g : Gr α} {o b : Nat} (hob : g.ob = some b) (h : Has E Γ M x (isPtrG g o)) : Has E Γ M x (isPtr b o) := fun a w F s => by
  obtain ⟨b', hb, e⟩ := h a w F s
  obtain rfl : b = b' := by rw [hob] at hb; exact Option.some.inj hb
  exact e
theorem Has.winG {g : Gr α} {n b : Nat} (hob : g.ob = some b) (h : Has E Γ M x (isGr g n)) : Has E Γ M x (isWin b 0 n g.c) := fun a w F s => by
  rcases h a w F s with ⟨h0, _⟩ | ⟨b', hb, e, h1, h2⟩
  · rw [hob] at h0; cases h0
  · obtain rfl : b = b' := by rw [hob] at hb; exact Option.some.inj hb
    exact ⟨e, by omega, h2⟩
theorem noneG {g : Gr α} {n : Nat} (hob : g.ob = none) (h : Has E Γ M x (isGr g n)) : ∀ a w F, Sat E Γ M a w F → n = 0 := fun a w F s => by
  rcases h a w F s with ⟨_, h0, _⟩ | ⟨b', hb, _⟩
  · exact h0
  · rw [hob] at hb; cases hb
theorem OK1.ixGr {e : TypeId} {n m : Nat} {g : Gr α} {g0 : Bool} {z : Int} (hT : slB P T = some e) (ht : tyB P e = some (m, g0)) (hx : Has E Γ M x (isGr g n)) (hy : Has E Γ M y (isI z)) (h : 0 ≤ z ∧ z < n) :
    OK1 E P Γ M ⟨d, .indexAddr T x y, ty, pos, after, gd⟩ (isPtrG g (z.toNat * m)) := by
  cases hob : g.ob with
  | none =>
    intro a w F s
    have := noneG hob hx a w F s
    omega
  | some b =>
    intro a w F s K Q' hK
    refine OK1.ixWin hT ht (hx.winG hob) hy h a w F s K Q' fun v w' F' ad hv => hK v w' F' ad ?_
    refine ⟨b, hob, ?_⟩
    rw [show z.toNat * m = 0 + z.toNat * m by omega]
    exact hv
theorem OK1.absurdG {o : Oper} {S : VP} {g : Gr α} {j : Nat} (hob : g.ob = none) (hx : Has E Γ M x (isPtrG g j)) : OK1 E P Γ M o S := fun a w F s => by
  obtain ⟨b, hb, _⟩ := hx a w F s
  rw [hob] at hb; cases hb
theorem Ops.absurdG {g : Gr α} {j : Nat} (hob : g.ob = none) (hx : Has E Γ M x (isPtrG g j)) {l : List Oper} : Ops E P ops Q l Γ M := fun a w F s => by
  obtain ⟨b, hb, _⟩ := hx a w F s
  rw [hob] at hb; cases hb
theorem OK1.loadGM {i j : Nat} {g : Gr α} {ys : List α} {y' : α} (hx : Has E Γ M x (isPtrG g (j * 1))) (hM : M[i]? = some (grM f g ys)) (hT : tyB P T = some (1, false)) (hS : ys[j]? = some y') :
    OK1 E P Γ M ⟨d, .load T x, ty, pos, after, gd⟩ (f y') := by
  cases hob : g.ob with
  | none => exact OK1.absurdG hob hx
  | some b =>
    rw [Nat.mul_one] at hx
    refine OK1.load1 (i := i) (hx.ptrG hob) (Ss := (ys ++ g.sp).map f) (by rw [hM]; unfold grM; rw [hob]) hT ?_
    have hj : j < ys.length := by
      rcases Nat.lt_or_ge j ys.length with h | h
      · exact h
      · rw [List.getElem?_eq_none h] at hS; cases hS
    rw [List.getElem?_map, List.getElem?_append_left hj, hS]; rfl
theorem Ops.storeGM {i j : Nat} {T : TypeId} {g : Gr α} {ys : List α} {z : α} [sh : Shape (f z) [f z]] [o1 : One (f z)] (hx : Has E Γ M x (isPtrG g (j * 1))) (hy : Has E Γ M y (f z))
    (hM : M[i]? = some (grM f g ys)) (hT : tyB P T = some (1, false)) (hl : j < ys.length) {M' : Mem} (hM' : M.set i (grM f g (ys.set j z)) = M') (kk : Ops E P ops Q rest Γ M') : Ops E P ops Q (⟨none, .store T x y, ty, pos, after, none⟩ :: rest) Γ M := by
  cases hob : g.ob with
  | none => exact Ops.absurdG hob hx
  | some b =>
    rw [Nat.mul_one] at hx
    refine Ops.storeM (z := z) (xs := ys ++ g.sp) (i := i) (b := b) (off := j) (hx.ptrG hob) hy (by rw [hM]; unfold grM; rw [hob]) hT (by rw [List.length_append]; omega) (M' := M') ?_ kk
    rw [← hM']
    congr 1
    unfold grM
    rw [hob, List.set_append_left _ _ hl]
/-- a pointer to nothing -/
def nilP : VP := .pure fun v => v = .pointer none
instance : One nilP := ⟨fun w F v h => by rw [show v = .pointer none from h]; rfl⟩
instance : Shape nilP [nilP] := .of_one inferInstance
theorem Has.cP : Has E Γ M (.const (.pointer none)) nilP := fun _ _ _ _ => rfl
/-- memory in another order -/
theorem Cv.perm {M' : Mem} (h : M.Perm M') : Cv E Γ M Γ M' := fun a w F s =>
  ⟨F, { s with mem := ⟨(h.pairwise_iff (fun {x y} hxy => by
    rcases hxy with h1 | h1
    · by_cases h2 : y.1 = none
      · exact .inl h2
      · exact .inr (fun e => h2 (e.trans h1))
    · exact .inr (fun e => h1 e.symm))).1 s.mem.apart, fun b C hb => s.mem.each b C (h.mem_iff.2 hb)⟩ }⟩
/-! ### functions over memory of their caller's -/
structure MemIn (M : Mem) (w : World) (F : Blk) : Prop where
  apart : M.Pairwise (fun x y => x.1 = none ∨ x.1 ≠ y.1)
  each : ∀ (b : Nat) (C : MP), (some b, C) ∈ M → b < w.heap.size ∧ ¬ F b ∧ ∃ o, w.heap[b]? = some o ∧ C.h w F o
def blks (M : Mem) : List Nat := M.filterMap (·.1)
theorem mem_blks {M : Mem} {b : Nat} : b ∈ blks M ↔ ∃ C, (some b, C) ∈ M := by
  unfold blks
  rw [List.mem_filterMap]
  constructor
  · rintro ⟨⟨k, C⟩, h1, h2⟩
    obtain rfl : k = some b := h2
    exact ⟨C, h1⟩
  · rintro ⟨C, h⟩; exact ⟨_, h, rfl⟩
def RetX (w : World) (F : Blk) (W : List Nat) (R : VP → Mem → Prop) : Ending → World → Prop := fun e w' => ∃ v S M' F', e = .returned v ∧ R S M' ∧ Keep W w w' ∧ (∀ k, F k → F' k) ∧ (∀ k, F' k → fresh F w w' k) ∧ S.h w' F' v ∧
  M'.Pairwise (fun x y => x.1 = none ∨ x.1 ≠ y.1) ∧ ∀ (b : Nat) (C : MP), (some b, C) ∈ M' → (w.heap.size ≤ b ∨ b ∈ W) ∧ b < w'.heap.size ∧ ¬ F' b ∧ ∃ o, w'.heap[b]? = some o ∧ C.h w' F' o
/-- the arguments' predicates, the memory that is taken, and what may be handed back -/
def CtrX (P : Program) (f : FuncId) (args : List VP) (M : Mem) (R : VP → Mem → Prop) : Prop :=
  Enters P f ∧ ∀ (w : World) (F : Blk) (vs : List Value), (∀ k, F k → k < w.heap.size) → MemIn M w F → All2 args w F vs → Calls P f vs.toArray w (RetX w F (blks M) R)
theorem CtrX.intro {f : FuncId} {fn : Func} {c : Code} {args : List VP} {M : Mem} {R : VP → Mem → Prop} (hf : P.funcs[f]? = some fn) (hb : fn.body = some c) (hn : (fn.name == "runtime.NumGoroutine") = false) {nt : Nat} (hnt : fn.ntmps = nt)
    (hsz : Nat.ble args.length nt = true) (h : ∀ w F, Tri ⟨w, F, blks M, nt⟩ P c (argsCtx 0 args) M (bodyPost P fn (RetX w F (blks M) R))) : CtrX P f args M R := by
  subst hnt
  refine ⟨⟨fn, hf, by simp [hb], hn⟩, fun w F vs hF hm hargs => ?_⟩
  have hlen := hargs.len
  have hsz' : args.length ≤ fn.ntmps := by simpa using Nat.le_of_ble_eq_true hsz
  refine calls_of_wp hf hb (h w F _ w F ?_)
  refine { defers := rfl, size := ?_, keep := Keep.refl _ _, f0 := fun _ h => h, fnew := fun _ h => .inl h, flt := hF, slots := ?_, mem := ⟨hm.apart, fun k C hk => ?_⟩ }
  · simp; omega
  · intro t S ht
    obtain ⟨_, h2⟩ := look_args args 0 t S ht
    obtain ⟨v, hv, hS⟩ := hargs.get t S (by simpa using h2)
    have : (vs.toArray ++ Array.replicate (fn.ntmps - vs.toArray.size) undef).getD t undef = v := by
      have hlt : t < vs.length := by
        rcases Nat.lt_or_ge t vs.length with h | h
        · exact h
        · simp [List.getElem?_eq_none h] at hv
      have e : vs[t] = v := by rw [List.getElem?_eq_getElem hlt] at hv; exact Option.some.inj hv
      simp [Array.getElem?_append, hlt, e]
    rw [this]; exact hS
  · obtain ⟨h1, h2, h3⟩ := hm.each k C hk
    exact ⟨.inr (mem_blks.2 ⟨C, hk⟩), h1, h2, h3⟩
theorem Ops.callX {g : FuncId} {xs : List Operand} {ts : Array TypeId} {args : List VP} {Mp Mr : Mem} {R : VP → Mem → Prop} {d : Nat} (hf : CtrX P g args Mp R) (hp : M.Perm (Mp ++ Mr)) (hx : HasL E Γ M xs args) (hd : Nat.blt d E.n = true)
    (kk : ∀ S M', R S M' → Ops E P ops Q rest ((d, S) :: Γ) (M' ++ Mr)) : Ops E P ops Q (⟨some d, .call ⟨.value (.func g), xs.toArray, ts⟩, ty, pos, after, none⟩ :: rest) Γ M := by
  intro a w F s0
  refine wpList_plain rfl fun K hK => ?_
  unfold Oper.wp
  have hr : (execOp a.eval (⟨some d, .call ⟨.value (.func g), xs.toArray, ts⟩, ty, pos, after, none⟩ : Oper)).run P w = .ok (.enter g (xs.map a.eval).toArray) w := by
    have := run_enter hf.1 (xs.map a.eval).toArray w
    simpa [go_sem] using this
  rw [hr]
  have hargs := hx.all s0
  have s : Sat E Γ (Mp ++ Mr) a w F := by
    obtain ⟨F', h⟩ := (Cv.perm (E := E) (Γ := Γ) hp) a w F s0
    exact { s0 with mem := ⟨h.mem.apart, fun b C hb => s0.mem.each b C (hp.mem_iff.2 hb)⟩ }
  have hapart := List.pairwise_append.1 s.mem.apart
  have hmp : MemIn Mp w F := ⟨hapart.1, fun b C hb => by
    obtain ⟨_, h2, h3, h4⟩ := s.mem.each b C (List.mem_append_left _ hb)
    exact ⟨h2, h3, h4⟩⟩
  refine (hf.2 w F _ s.flt hmp hargs).mono ?_
  rintro e w' ⟨v, S, M', F', rfl, hR, hk, hsub, hnew, hv, hap, heach⟩
  have hd' : d < E.n := by simpa [Nat.blt_eq] using hd
  have hW : ∀ b, b ∈ blks Mp → ¬ F b := fun b hb hF => by
    obtain ⟨C, hC⟩ := mem_blks.1 hb
    exact (hmp.each b C hC).2.1 hF
  have hsame : ∀ b, F b → w'.heap[b]? = w.heap[b]? := fun b hb => hk.block b (s.flt b hb) (fun h => hW b h hb)
  have hown : ∀ b, b ∈ blks Mp → E.w0.heap.size ≤ b ∨ b ∈ E.W := fun b hb => by
    obtain ⟨C, hC⟩ := mem_blks.1 hb
    exact (s.mem.each b C (List.mem_append_left _ hC)).1
  have hrest : ∀ (b : Nat) (C : MP), (some b, C) ∈ Mr → b ∉ blks Mp ∧ b < w.heap.size := fun b C hb => by
    refine ⟨fun h => ?_, (s.mem.each b C (List.mem_append_right _ hb)).2.1⟩
    obtain ⟨C', hC'⟩ := mem_blks.1 h
    have := hapart.2.2 _ hC' _ hb
    rcases this with h | h
    · cases h
    · exact h rfl
  have s' : Sat E Γ (M' ++ Mr) a w' F' := {
    defers := s.defers, size := s.size
    keep := by
      refine ⟨hk.os.trans s.keep.os, hk.tape.trans s.keep.tape, hk.output.trans s.keep.output, Nat.le_trans s.keep.size hk.size, fun k hk0 hkW => ?_⟩
      rw [hk.block k (Nat.lt_of_lt_of_le hk0 s.keep.size) (fun h => by rcases hown k h with h' | h'; omega; exact hkW h')]
      exact s.keep.block k hk0 hkW
    f0 := fun b h => hsub b (s.f0 b h)
    fnew := fun b h => by
      rcases hnew b h with h1 | h1
      · rcases s.fnew b h1 with h2 | h2
        · exact .inl h2
        · exact .inr ⟨h2.1, Nat.lt_of_lt_of_le h2.2 hk.size⟩
      · exact .inr ⟨Nat.le_trans s.keep.size h1.1, h1.2⟩
    flt := fun b h => by
      rcases hnew b h with h1 | h1
      · exact Nat.lt_of_lt_of_le (s.flt b h1) hk.size
      · exact h1.2
    slots := fun t S h => S.mono _ _ _ _ _ (s.slots t S h) hsame hsub
    mem := by
      refine ⟨List.pairwise_append.2 ⟨hap, hapart.2.1, ?_⟩, ?_⟩
      · rintro ⟨k, C⟩ h1 ⟨k', C'⟩ h2
        cases k with
        | none => exact .inl rfl
        | some b =>
          refine .inr fun e => ?_
          subst e
          obtain ⟨g1, _⟩ := heach b C h1
          obtain ⟨g2, g3⟩ := hrest b C' h2
          rcases g1 with g1 | g1
          · omega
          · exact g2 g1
      · intro b C hb
        rcases List.mem_append.1 hb with h | h
        · obtain ⟨g1, g2, g3, g4⟩ := heach b C h
          refine ⟨?_, g2, g3, g4⟩
          rcases g1 with g1 | g1
          · exact .inl (Nat.le_trans s.keep.size g1)
          · exact hown b g1
        · obtain ⟨g1, g2, g3, o, g4, g5⟩ := s.mem.each b C (List.mem_append_right _ h)
          obtain ⟨r1, r2⟩ := hrest b C h
          refine ⟨g1, Nat.lt_of_lt_of_le g2 hk.size, fun hF => ?_, o, (hk.block b g2 r1).trans g4, C.mono _ _ _ _ _ g5 hsame hsub⟩
          rcases hnew b hF with h1 | h1
          · exact g3 h1
          · omega }
  exact hK _ _ (kk S M' hR _ _ _ (s'.put hd' hv))
theorem fin_retX {fn : Func} {R : VP → Mem → Prop} {S : VP} {W : List Nat} {e : Exit} {a : Act} {w : World} {F : Blk} (he : e = .ret ∨ e = .normal) (s : Sat E Γ M a w F) (hw : E.W = W) {v : Value} (hv : (results fn a.tmps).run P w = .ok v w) (hS : S.h w F v) (hR : R S M) :
    bodyPost P fn (RetX E.w0 E.F0 W R) e a w := by
  have hk := s.keep
  rw [hw] at hk
  have hb : a.defers = [] ∧ ∃ v, (results fn a.tmps).run P w = .ok v w ∧ RetX E.w0 E.F0 W R (.returned v) w :=
    ⟨s.defers, _, hv, v, S, M, F, rfl, hR, hk, s.f0, fun k h => (s.fnew k h).imp id id, hS, s.mem.apart, fun b C hb => by
      obtain ⟨g1, g2, g3, g4⟩ := s.mem.each b C hb
      rw [hw] at g1
      exact ⟨g1, g2, g3, g4⟩⟩
  rcases he with rfl | rfl <;> exact hb
theorem rtX1 {fn : Func} {r : ResultVar} {R : VP → Mem → Prop} {S : VP} {W : List Nat} {e : Exit} (he : e = .ret ∨ e = .normal) (hr : fn.results = #[r]) (hw : E.W = W) (h : ResL E P Γ M [r] [S]) (hR : R S M) : At E Γ M (bodyPost P fn (RetX E.w0 E.F0 W R)) e := by
  intro a w F s
  obtain ⟨vs, h1, h2⟩ := run_results hr h s
  match vs, h2 with
  | [v], h2 => exact fin_retX he s hw (by simpa using h1) h2.1 hR
  | [], h2 => exact h2.elim
  | _ :: _ :: _, h2 => exact h2.2.elim
theorem rtX0 {fn : Func} {R : VP → Mem → Prop} {W : List Nat} {e : Exit} (he : e = .ret ∨ e = .normal) (hr : fn.results = #[]) (hw : E.W = W) (hR : R (isTup []) M) : At E Γ M (bodyPost P fn (RetX E.w0 E.F0 W R)) e := by
  intro a w F s
  obtain ⟨vs, h1, h2⟩ := run_results (rs := []) hr .nil s
  cases vs with
  | nil => exact fin_retX he s hw (by simpa using h1) (S := isTup []) ⟨[], rfl, trivial⟩ hR
  | cons => exact h2.elim
/-- what is handed back is known -/
theorem CtrX.toCtr {f : FuncId} {args : List VP} {R : VP → Mem → Prop} {S : VP} (h : CtrX P f args [] R) (hR : ∀ S' M', R S' M' → S' = S) : Ctr P f args S :=
  ⟨h.1, fun w F vs hF hargs => (h.2 w F vs hF ⟨List.Pairwise.nil, by simp⟩ hargs).mono (by
    rintro e w' ⟨v, S', M', F', rfl, hr, hk, hsub, hnew, hv, _⟩
    obtain rfl := hR S' M' hr
    exact ⟨v, rfl, hk, S'.mono _ _ _ _ _ hv (fun _ _ => rfl) hnew⟩)⟩
end
end Go.En
/- What a call may read of memory that is still its caller's to write: lent for the call alone. -/
namespace Go.En
open Go.RowKit
set_option linter.unusedVariables false
section
variable {E : Env} {P : Program} {Γ : Ctx} {M : Mem} {ty : TypeId} {pos : String} {after : Array Edge} {gd : Option (Nat × Bool)} {d : Option Tmp}
  {ops : Array Oper} {Q : Exit → Act → World → Prop} {rest : List Oper} {T T' : TypeId} {x y : Operand} {α : Type} {f : α → VP} {xs : List α}
theorem OKY.eq {o : Oper} {S S' : VP} (h : OKY E P Γ M o S) (e : S = S') : OKY E P Γ M o S' := e ▸ h
theorem OKY.addI {d : Option Tmp} {i j : Int} (hx : Has E Γ M x (isI i)) (hy : Has E Γ M y (isI j)) (h1 : -9223372036854775808 ≤ i + j) (h2 : i + j < 9223372036854775808) : OKY E P Γ M ⟨d, .binOp .add T x y T', ty, pos, after, none⟩ (isI (i + j)) := fun a w F s => by
  refine ⟨.int .i64 (i + j), fun w' => ?_, isI_of h1 h2 w F⟩
  have g1 := evI hx a w F s
  have g2 := evI hy a w F s
  have g3 := run_add (P := P) (T := T) .i64 i j w'
  simp only [execOp, g1, g2]
  simp [go_sem, g3]
  exact wrap_i64 h1 h2
end
end Go.En
/- A matrix that is reckoned on, row by row. -/
namespace Go.En
open Go.Nt Go.Pz Go.Mz
/-- a row: where it lies, and its numbers -/
abbrev Row : Type := Gr (Bool × List Nat) × List Int
abbrev rowV (r : Row) : VP := isGr r.1 (r.2.map nz).length
/-- what an exact division yields -/
def exQ (x l : Int) : Int := if l ≠ 0 ∧ x.tmod l = 0 then x.tdiv l else 0
/-- a row out of which the pivot's row is taken -/
def clr (p row : List Int) (col : Nat) (last : Int) (k : Nat) : Int := exQ (cf row k * cf p col - cf row col * cf p k) last
def clrL (p row : List Int) (col : Nat) (last : Int) : List Int := (List.range row.length).map (clr p row col last)
def mixR (p row : List Int) (col : Nat) (last : Int) (k : Nat) : List Int := (clrL p row col last).take k ++ row.drop k
theorem mixR_zero (p row : List Int) (col : Nat) (last : Int) : mixR p row col last 0 = row := by unfold mixR; rw [List.take_zero, List.drop_zero]; rfl
theorem set_same {β : Type} {l : List β} {i : Nat} {x : β} (h : l[i]? = some x) : l.set i x = l := by
  have hi : i < l.length := by
    rcases Nat.lt_or_ge i l.length with h' | h'
    · exact h'
    · rw [List.getElem?_eq_none h'] at h; cases h
  have e : l[i] = x := by rw [List.getElem?_eq_getElem hi] at h; exact Option.some.inj h
  subst e
  exact List.set_getElem_self hi
theorem mix_start {rs : List Row} {i col : Nat} {r : Row} {p : List Int} {last : Int} (h : rs[i]? = some r) : rs = rs.set i (r.1, mixR p r.2 col last 0) := by rw [mixR_zero]; exact (set_same h).symm
end Go.En
/- A matrix that has been reckoned on, handed on. -/
namespace Go.En
open Go.RowKit Go.Nt Go.Pz
set_option linter.unusedVariables false
section
variable {E : Env} {P : Program} {Γ : Ctx} {M : Mem}
theorem All2.conv {α : Type} {f g : α → VP} {w : World} {F : Blk} : ∀ {xs : List α} {Us : List VP} {vs : List Value}, (∀ x ∈ xs, ∀ v, (f x).h w F v → (g x).h w F v) → All2 (xs.map f ++ Us) w F vs → All2 (xs.map g ++ Us) w F vs
  | [], Us, vs, _, h => h
  | x :: xs, Us, v :: vs, hc, h => ⟨hc x (by simp) v h.1, All2.conv (fun y hy => hc y (by simp [hy])) h.2⟩
  | _ :: _, _, [], _, h => h.elim
theorem Sat.memSetO {a : Act} {w : World} {F : Blk} {i : Nat} {ob : Option Nat} {C C' : MP} (s : Sat E Γ M a w F) (hM : M[i]? = some (ob, C)) (h : ∀ o, C.h w F o → C'.h w F o) : Sat E Γ (M.set i (ob, C')) a w F := by
  cases ob with
  | some b => exact s.memSet hM h
  | none =>
    refine { s with mem := ⟨?_, fun b D hb => ?_⟩ }
    · rw [List.pairwise_iff_getElem]
      intro j k hj hk hjk
      have hp := List.pairwise_iff_getElem.1 s.mem.apart j k (by simpa using hj) (by simpa using hk) hjk
      simp only [List.getElem_set]
      have hi : i < M.length := by
        rcases Nat.lt_or_ge i M.length with h' | h'
        · exact h'
        · rw [List.getElem?_eq_none h'] at hM; cases hM
      have hMi : M[i] = (none, C) := by rw [List.getElem?_eq_getElem hi] at hM; exact Option.some.inj hM
      by_cases e1 : i = j
      · simp [e1]
      · by_cases e2 : i = k
        · subst e2
          simp only [e1, if_true, if_false]
          rw [hMi] at hp
          exact hp
        · simp only [e1, e2, if_false]; exact hp
    · obtain ⟨j, hj, he⟩ := List.mem_iff_getElem.1 hb
      simp only [List.getElem_set] at he
      by_cases e1 : i = j
      · simp only [e1, if_true] at he; cases he
      · simp only [e1, if_false] at he
        exact s.mem.each b D (he ▸ List.getElem_mem _)
end
end Go.En
/- A matrix of words that is reckoned on, row by row. -/
namespace Go.En
open Go.Nt Go.Gf Go.Mz Go.Mu Go.RowKit
set_option linter.unusedVariables false
abbrev isWs (r : List Nat) : VP := isWords r
section
variable {E : Env} {P : Program} {Γ : Ctx} {M : Mem} {x : Operand}
end
/-! ### handed on -/
section
variable {E : Env} {P : Program} {Γ : Ctx} {M : Mem}
end
end Go.En
/- Drawn regions in which a chain of calls may work on the caller's memory, beside what only reads the rest. -/
namespace Go.En
open Go.RowKit
set_option linter.unusedVariables false
section
variable {E : Env} {P : Program} {Γ : Ctx} {M : Mem} {ty : TypeId} {pos : String} {after : Array Edge} {gd : Option (Nat × Bool)} {d : Option Tmp}
  {ops : Array Oper} {Q : Exit → Act → World → Prop} {rest : List Oper}
/-- where a slot's predicate comes from -/
def FromG (l : List Oper) (ms : List Nat) (Ss : Nat → VP) (i t : Nat) (S : VP) : Prop := ∃ (j : Nat) (oj : Oper), j < i ∧ j ∉ ms ∧ (((masks l [])[i]?).getD 0).testBit j = true ∧ l[j]? = some oj ∧ oj.dst = some t ∧ Ss j = S
theorem FromG.up {l : List Oper} {ms : List Nat} {Ss Ss' : Nat → VP} {i t : Nat} {S : VP} (h : FromG l ms Ss i t S) (e : ∀ j, j < i → Ss' j = Ss j) : FromG l ms Ss' i t S := by
  obtain ⟨j, oj, h0, h1, h2, h3, h4, h5⟩ := h
  exact ⟨j, oj, h0, h1, h2, h3, h4, by rw [e j h0]; exact h5⟩
def inMs (ms : List Nat) (i : Nat) : Bool := ms.any fun j => Nat.beq j i
theorem inMs_no {ms : List Nat} {i : Nat} (h : inMs ms i = false) : i ∉ ms := fun hm => by
  have := List.any_eq_false.1 h i hm
  simp [nbeq_self] at this
theorem fromG {l : List Oper} {ms : List Nat} {Ss : Nat → VP} {i t : Nat} {S : VP} {Θ : Ctx} {ts : List Nat} (hΘ : ∀ t S, look Θ t = some S → ∃ (j : Nat) (o : Oper), j < i ∧ j ∉ ms ∧ l[j]? = some o ∧ o.dst = some t ∧ Ss j = S) (h4 : behindB l i ts = true) (h : look (keepc ts Θ) t = some S) : FromG l ms Ss i t S := by
  obtain ⟨hm, hl2⟩ := look_keepc _ _ _ h
  obtain ⟨j, oj, b0, b1, b2, b3, b4⟩ := hΘ t S hl2
  refine ⟨j, oj, b0, b1, ?_, b2, b3, b4⟩
  have := List.all_eq_true.1 h4 j (by simpa using b0)
  rw [b2] at this
  simp only [Option.bind_some, b3, Bool.or_eq_true] at this
  rcases this with h | h
  · exact h
  · have := List.all_eq_true.1 h t hm
    simp [Nat.beq_refl] at this
end
end Go.En
/- Drawn regions in which a chain of calls hands memory back, beside what only reads the rest. -/
namespace Go.En
open Go.RowKit
set_option linter.unusedVariables false
section
variable {E : Env} {P : Program} {Γ : Ctx} {M : Mem} {ty : TypeId} {pos : String} {after : Array Edge} {gd : Option (Nat × Bool)} {d : Option Tmp}
  {ops : Array Oper} {Q : Exit → Act → World → Prop} {rest : List Oper}
/-- a step of the chain, whose result and memory are known by a relation -/
def StR (E : Env) (P : Program) (Δ : Ctx) (M : Mem) (o : Oper) (R : VP → Mem → Prop) : Prop := o.guard = none ∧ ∀ a w F, Sat E Δ M a w F → ∀ (K : Act → World → Prop) (Q : Exit → Act → World → Prop),
  (∀ v w' F' S M', R S M' → (∀ b, F b → w'.heap[b]? = w.heap[b]?) → (∀ b, F b → F' b) → (∀ Γ'', Sat E Γ'' M a w F → Sat E Γ'' M' a w' F') → S.h w' F' v → K (a.put o.dst v) w') → o.wp P a w K Q
theorem StR.of {Δ : Ctx} {o : Oper} {S : VP} (hg : o.guard = none) (h : OK1 E P Δ M o S) : StR E P Δ M o (fun S' M' => S' = S ∧ M' = M) :=
  ⟨hg, fun a w F s K Q hK => h a w F s K Q fun v w' F' ad hv => hK v w' F' S M ⟨rfl, rfl⟩ (ad.same s.flt) ad.sub (fun Γ'' s'' => s''.adv ad) hv⟩
theorem StR.callX {Δ : Ctx} {g : FuncId} {xs : List Operand} {ts : Array TypeId} {args : List VP} {Mp Mr : Mem} {R : VP → Mem → Prop} {d : Nat} (hf : CtrX P g args Mp R) (hp : M = Mp ++ Mr) (hx : HasL E Δ M xs args) :
    StR E P Δ M ⟨some d, .call ⟨.value (.func g), xs.toArray, ts⟩, ty, pos, after, none⟩ (fun S M1 => ∃ M', R S M' ∧ M1 = M' ++ Mr) := by
  subst hp
  refine ⟨rfl, fun a w F s K Q hK => ?_⟩
  unfold Oper.wp
  have hr : (execOp a.eval (⟨some d, .call ⟨.value (.func g), xs.toArray, ts⟩, ty, pos, after, none⟩ : Oper)).run P w = .ok (.enter g (xs.map a.eval).toArray) w := by
    have := run_enter hf.1 (xs.map a.eval).toArray w
    simpa [go_sem] using this
  rw [hr]
  have hargs := hx.all s
  have hapart := List.pairwise_append.1 s.mem.apart
  have hmp : MemIn Mp w F := ⟨hapart.1, fun b C hb => by
    obtain ⟨_, h2, h3, h4⟩ := s.mem.each b C (List.mem_append_left _ hb)
    exact ⟨h2, h3, h4⟩⟩
  refine (hf.2 w F _ s.flt hmp hargs).mono ?_
  rintro e w' ⟨v, S, M', F', rfl, hR', hk, hsub, hnew, hv, hap, heach⟩
  have hW : ∀ b, b ∈ blks Mp → ¬ F b := fun b hb hF => by
    obtain ⟨C, hC⟩ := mem_blks.1 hb
    exact (hmp.each b C hC).2.1 hF
  have hsame : ∀ b, F b → w'.heap[b]? = w.heap[b]? := fun b hb => hk.block b (s.flt b hb) (fun h => hW b h hb)
  refine hK v w' F' S (M' ++ Mr) ⟨M', hR', rfl⟩ hsame hsub (fun Γ'' s => ?_) hv
  have hown : ∀ b, b ∈ blks Mp → E.w0.heap.size ≤ b ∨ b ∈ E.W := fun b hb => by
    obtain ⟨C, hC⟩ := mem_blks.1 hb
    exact (s.mem.each b C (List.mem_append_left _ hC)).1
  have hrest : ∀ (b : Nat) (C : MP), (some b, C) ∈ Mr → b ∉ blks Mp ∧ b < w.heap.size := fun b C hb => by
    refine ⟨fun h => ?_, (s.mem.each b C (List.mem_append_right _ hb)).2.1⟩
    obtain ⟨C', hC'⟩ := mem_blks.1 h
    have := hapart.2.2 _ hC' _ hb
    rcases this with h | h
    · cases h
    · exact h rfl
  exact {
    defers := s.defers, size := s.size
    keep := by
      refine ⟨hk.os.trans s.keep.os, hk.tape.trans s.keep.tape, hk.output.trans s.keep.output, Nat.le_trans s.keep.size hk.size, fun k hk0 hkW => ?_⟩
      rw [hk.block k (Nat.lt_of_lt_of_le hk0 s.keep.size) (fun h => by rcases hown k h with h' | h'; omega; exact hkW h')]
      exact s.keep.block k hk0 hkW
    f0 := fun b h => hsub b (s.f0 b h)
    fnew := fun b h => by
      rcases hnew b h with h1 | h1
      · rcases s.fnew b h1 with h2 | h2
        · exact .inl h2
        · exact .inr ⟨h2.1, Nat.lt_of_lt_of_le h2.2 hk.size⟩
      · exact .inr ⟨Nat.le_trans s.keep.size h1.1, h1.2⟩
    flt := fun b h => by
      rcases hnew b h with h1 | h1
      · exact Nat.lt_of_lt_of_le (s.flt b h1) hk.size
      · exact h1.2
    slots := fun t S h => S.mono _ _ _ _ _ (s.slots t S h) hsame hsub
    mem := by
      refine ⟨List.pairwise_append.2 ⟨hap, hapart.2.1, ?_⟩, ?_⟩
      · rintro ⟨k, C⟩ h1 ⟨k', C'⟩ h2
        cases k with
        | none => exact .inl rfl
        | some b =>
          refine .inr fun e => ?_
          subst e
          obtain ⟨g1, _⟩ := heach b C h1
          obtain ⟨g2, g3⟩ := hrest b C' h2
          rcases g1 with g1 | g1
          · omega
          · exact g2 g1
      · intro b C hb
        rcases List.mem_append.1 hb with h | h
        · obtain ⟨g1, g2, g3, g4⟩ := heach b C h
          refine ⟨?_, g2, g3, g4⟩
          rcases g1 with g1 | g1
          · exact .inl (Nat.le_trans s.keep.size g1)
          · exact hown b g1
        · obtain ⟨g1, g2, g3, o, g4, g5⟩ := s.mem.each b C (List.mem_append_right _ h)
          obtain ⟨r1, r2⟩ := hrest b C h
          refine ⟨g1, Nat.lt_of_lt_of_le g2 hk.size, fun hF => ?_, o, (hk.block b g2 r1).trans g4, C.mono _ _ _ _ _ g5 hsame hsub⟩
          rcases hnew b hF with h1 | h1
          · exact g3 h1
          · omega }
def FromE (l : List Oper) (n : Nat) (ms : List Nat) (Ss : Nat → VP) (i t : Nat) (S : VP) : Prop := ∃ (j : Nat) (oj : Oper), j < n ∧ j ∉ ms ∧ (((masks l [])[i]?).getD 0).testBit j = true ∧ l[j]? = some oj ∧ oj.dst = some t ∧ Ss j = S
/-- what only reads -/
structure RdE (E : Env) (P : Program) (l : List Oper) (n : Nat) (Γ : Ctx) (Ms : Mem) (ms : List Nat) (Ss : Nat → VP) (i : Nat) : Prop where
  ex : ∃ (o : Oper) (d : Nat) (Δ : Ctx), l[i]? = some o ∧ o.dst = some d ∧ d < E.n ∧ (∀ t S, look Δ t = some S → FromE l n ms Ss i t S ∨ look Γ t = some S) ∧ OKG E P l.toArray Δ Ms o (Ss i)
/-- the chain, one call behind the other -/
inductive ChE (E : Env) (P : Program) (l : List Oper) (n : Nat) (Γ : Ctx) (Ms : Mem) (ms : List Nat) (Ss : Nat → VP) (Q : Exit → Act → World → Prop) : Nat → Ctx → Mem → Prop
  | fin {m : Nat} {Δm Θ : Ctx} {Mc : Mem} : m = ms.length → (∀ t S, look Θ t = some S → (∃ (j : Nat) (oj : Oper), j < n ∧ j ∉ ms ∧ l[j]? = some oj ∧ oj.dst = some t ∧ Ss j = S) ∨ look (Δm ++ Γ) t = some S) → Ops E P l.toArray Q (l.drop n) Θ Mc → ChE E P l n Γ Ms ms Ss Q m Δm Mc
  | step {m i d : Nat} {o : Oper} {Δ Δm : Ctx} {Mc : Mem} {R : VP → Mem → Prop} : ms[m]? = some i → l[i]? = some o → o.dst = some d → d < E.n → (∀ t S, look Δ t = some S → FromE l n ms Ss i t S ∨ look (Δm ++ Γ) t = some S) →
    (∀ q i', q < m → ms[q]? = some i' → (((masks l [])[i]?).getD 0).testBit i' = true) → StR E P Δ Mc o R → (∀ S M', R S M' → Ms.Sublist M') → (∀ S M', R S M' → ChE E P l n Γ Ms ms Ss Q (m + 1) ((d, S) :: Δm) M') → ChE E P l n Γ Ms ms Ss Q m Δm Mc
theorem phaseCh {l : List Oper} {n : Nat} {ms : List Nat} {Ss : Nat → VP} {Ms : Mem} (hms : ∀ i ∈ ms, i < n) (hmo : ∀ (q i : Nat), ms[q]? = some i → ∀ (q' i' : Nat), q' < q → ms[q']? = some i' → (((masks l [])[i]?).getD 0).testBit i' = true) (hrd : ∀ i, i < n → i ∉ ms → RdE E P l n Γ Ms ms Ss i)
    (hap : apartB l n Γ = true) (htl : tailB l n = true) (hnl : n ≤ l.length) :
    ∀ (fuel : Nat) (listed : Array Bool) (a : Act) (w : World) (F : Blk) (m : Nat) (Δm : Ctx) (Mc : Mem), m ≤ ms.length → ChE E P l n Γ Ms ms Ss Q m Δm Mc → Ms.Sublist Mc → (∀ t S, look Δm t = some S → ∃ q i o, q < m ∧ ms[q]? = some i ∧ l[i]? = some o ∧ o.dst = some t) → listed.toList.countP (· == false) ≤ fuel → listed.size = l.length →
    (∀ j, n ≤ j → j < l.length → listed.getD j true = false) → (∀ q i, ms[q]? = some i → (listed.getD i true = true ↔ q < m)) → Closed l (fun j => listed.getD j false = true) → Sat E (Δm ++ Γ) Mc a w F →
    (∀ j oj dj, j < n → j ∉ ms → listed.getD j false = true → l[j]? = some oj → oj.dst = some dj → (Ss j).h w F (a.tmps.getD dj undef)) → wpAny P .any l.toArray Q fuel listed a w := by
  have hsp := tailB_spec htl
  have gd : ∀ (listed : Array Bool) j, j < listed.size → listed.getD j true = listed.getD j false := fun listed j hj => by simp [hj]
  have hapart : ∀ i d, i < n → (l[i]?).bind (·.dst) = some d → (∀ t S, look Γ t = some S → t ≠ d) ∧ ∀ j e, j < n → j ≠ i → (l[j]?).bind (·.dst) = some e → e ≠ d := by
    intro i d hi hd
    unfold apartB at hap
    rw [List.all_eq_true] at hap
    have h1 := hap i (by simpa using hi)
    rw [hd] at h1
    simp only [Bool.and_eq_true] at h1
    refine ⟨look_none h1.1, fun j e hj hne he => ?_⟩
    have h2 := List.all_eq_true.1 h1.2 j (by simpa using hj)
    rw [he] at h2
    simp only [Bool.or_eq_true, Bool.not_eq_true'] at h2
    rcases h2 with h2 | h2
    · exact absurd (Nat.eq_of_beq_eq_true h2).symm hne
    · exact fun e' => Nat.ne_of_beq_eq_false h2 e'.symm
  have hΓ : ∀ (m : Nat) (Δm : Ctx), (∀ t S, look Δm t = some S → ∃ q i o, q < m ∧ ms[q]? = some i ∧ l[i]? = some o ∧ o.dst = some t) → ∀ t S, look Γ t = some S → look (Δm ++ Γ) t = some S := by
    intro m Δm hG t S ht
    rw [look_append]
    cases hl : look Δm t with
    | none => simpa using ht
    | some S' =>
      obtain ⟨q, i, o, h0, h1, h2, h3⟩ := hG t S' hl
      exact absurd rfl ((hapart i t (hms i (List.mem_of_getElem? h1)) (by rw [h2]; exact h3)).1 t S ht)
  have hend : ∀ (fuel : Nat) (listed : Array Bool) (a : Act) (w : World) (F : Blk) (m : Nat) (Δm : Ctx) (Mc : Mem), m ≤ ms.length → ChE E P l n Γ Ms ms Ss Q m Δm Mc → listed.toList.countP (· == false) ≤ fuel → listed.size = l.length →
      (∀ j, n ≤ j → j < l.length → listed.getD j true = false) → (∀ q i, ms[q]? = some i → (listed.getD i true = true ↔ q < m)) → Closed l (fun j => listed.getD j false = true) → Sat E (Δm ++ Γ) Mc a w F →
      (∀ j oj dj, j < n → j ∉ ms → listed.getD j false = true → l[j]? = some oj → oj.dst = some dj → (Ss j).h w F (a.tmps.getD dj undef)) →
      (∀ j, j < n → j < l.length → listed.getD j true = true) → wpAny P .any l.toArray Q fuel listed a w := by
    intro fuel listed a w F m Δm Mc hm hch hcnt hsz htail hmids hc s hdone hall
    obtain rfl : m = ms.length := by
      rcases Nat.lt_or_ge m ms.length with h | h
      · have h1 := hms ms[m] (List.getElem_mem h)
        have h2 := (hmids m ms[m] (List.getElem?_eq_getElem h)).1 (hall ms[m] h1 (by omega))
        omega
      · omega
    have hge := count_ge hsz htail
    cases hch with
    | step c1 => rw [List.getElem?_eq_none (Nat.le_refl _)] at c1; cases c1
    | fin _ hΘ kk =>
    refine phaseB htl fuel n listed a w (Nat.le_refl _) (by omega) hsz hall htail hc (kk a w F (s.wider ?_))
    intro t S ht
    rcases hΘ t S ht with ⟨j, oj, g1, g2, g3, g4, rfl⟩ | h
    · exact hdone j oj t g1 g2 (by have h4 := hall j g1 (by omega); rw [gd listed j (by omega)] at h4; exact h4) g3 g4
    · exact s.slots t S h
  intro fuel
  induction fuel with
  | zero =>
    intro listed a w F m Δm Mc hm hch hsub hG hcnt hsz htail hmids hc s hdone
    refine hend 0 listed a w F m Δm Mc hm hch hcnt hsz htail hmids hc s hdone fun j hj hjl => ?_
    have hlt : j < listed.size := by omega
    have h0 : listed.toList.countP (· == false) = 0 := by omega
    rw [List.countP_eq_zero] at h0
    have := h0 listed[j] (by simp)
    simp [hlt]
    simpa using this
  | succ fuel ih =>
    intro listed a w F m Δm Mc hm hch hsub hG hcnt hsz htail hmids hc s hdone
    by_cases hall : ∀ j, j < n → j < l.length → listed.getD j true = true
    · exact hend _ listed a w F m Δm Mc hm hch hcnt hsz htail hmids hc s hdone hall
    · have hex : ∃ j, j < n ∧ listed.getD j true = false := by
        refine Classical.byContradiction fun hno => hall fun j hj _ => ?_
        cases hb : listed.getD j true with
        | true => rfl
        | false => exact absurd ⟨j, hj, hb⟩ hno
      refine ⟨fun hr => ?_, fun i hi => ?_⟩
      · obtain ⟨j, ⟨hj1, hj2⟩, hmin⟩ := exists_least hex
        have : j ∈ Region.ready .any l.toArray listed := by
          rw [mem_ready]
          have hjl : j < l.length := by omega
          refine ⟨hj2, l[j], by simp [hjl], fun e he hb => ?_⟩
          have hlt := hsp.1 j _ (List.getElem?_eq_getElem hjl) e he hb
          cases hbb : listed.getD e.on true with
          | true => rw [gd listed e.on (by omega)] at hbb; exact hbb
          | false => have := hmin e.on ⟨by omega, hbb⟩; omega
        rw [hr] at this; simp at this
      · have hi' := hi
        rw [mem_ready] at hi
        obtain ⟨g1, o, g2, g3⟩ := hi
        have g2' : l[i]? = some o := by simpa using g2
        have hil : i < l.length := by
          rcases Nat.lt_or_ge i l.length with h' | h'
          · exact h'
          · rw [List.getElem?_eq_none h'] at g2'; cases g2'
        have hin : i < n := by
          rcases Nat.lt_or_ge i n with h' | h'
          · exact h'
          · obtain ⟨j, hj1, hj2⟩ := hex
            obtain ⟨q, hq, hb⟩ := hsp.2 i hil h' j (by omega)
            have := reach hc i o g2' g3 j q hq hb
            have e : listed.getD j false = true := this
            rw [← gd listed j (by omega), hj2] at e; cases e
        have hmask : i < (masks l []).length := by rw [masks_len]; simpa using hil
        have hcount : (listed.setIfInBounds i true).toList.countP (· == false) ≤ fuel := by
          have hlt : i < listed.toList.length := by simp; omega
          have hli : listed.toList[i] = false := by
            have : i < listed.size := by omega
            simp [this] at g1; simpa using g1
          rw [Array.toList_setIfInBounds, List.countP_set hlt]
          rw [hli]
          have hpos : 0 < listed.toList.countP (· == false) := List.countP_pos_iff.2 ⟨false, by rw [← hli]; exact List.getElem_mem _, rfl⟩
          simp only [beq_self_eq_true, if_true]
          show _ - 1 + 0 ≤ fuel
          omega
        have hclosed : Closed l (fun j => (listed.setIfInBounds i true).getD j false = true) := by
          intro j oj hj hL e he hb
          by_cases ek : j = i
          · subst ek
            rw [g2'] at hj; obtain rfl := Option.some.inj hj
            exact getD_set_true (g3 e he hb)
          · exact getD_set_true (hc j oj hj (by
              have hL' : (listed.setIfInBounds i true).getD j false = true := hL
              rwa [getD_set_ne false (fun h => ek h.symm)] at hL') e he hb)
        have hbit : ∀ j, (((masks l [])[i]?).getD 0).testBit j = true → listed.getD j false = true := fun j hb => by
          rw [List.getElem?_eq_getElem hmask] at hb
          exact reach hc i o g2' g3 j _ (List.getElem?_eq_getElem hmask) (by simpa using hb)
        have hfrom : ∀ t S, FromE l n ms Ss i t S → S.h w F (a.tmps.getD t undef) := by
          rintro t S ⟨j, oj, b0, b1, b2, b3, b4, rfl⟩
          exact hdone j oj t b0 b1 (hbit j b2) b3 b4
        have ho : l.toArray[i]? = some o := by simpa using g2'
        have hdn : ∀ (v : Value) (w' : World) (F' : Blk) (d : Nat), o.dst = some d → a.tmps.size = E.n → d < E.n → (∀ b, F b → w'.heap[b]? = w.heap[b]?) → (∀ b, F b → F' b) → ∀ j oj dj, j ≠ i → j < n → j ∉ ms → (listed.setIfInBounds i true).getD j false = true → l[j]? = some oj → oj.dst = some dj → (Ss j).h w' F' ((a.put o.dst v).tmps.getD dj undef) := by
          intro v w' F' d a2 hsize a3 hsame hsub' j oj dj ek hjn hjm hL hj hdj
          have hbind : (l[i]?).bind (·.dst) = some d := by rw [g2']; exact a2
          have hne := (hapart i d hin hbind).2 j dj hjn ek (by rw [hj]; exact hdj)
          rw [a2, getD_put (by rw [hsize]; exact a3), if_neg (fun e => hne e.symm)]
          refine (Ss j).mono _ _ _ _ _ (hdone j oj dj hjn hjm ?_ hj hdj) hsame hsub'
          rwa [getD_set_ne false (fun h => ek h.symm)] at hL
        by_cases him : i ∈ ms
        · -- the next of the chain
          obtain ⟨q, hql, hq⟩ := List.getElem_of_mem him
          have hq' : ms[q]? = some i := by rw [List.getElem?_eq_getElem hql, hq]
          have hqm : m ≤ q := by
            rcases Nat.lt_or_ge q m with h | h
            · have := (hmids q i hq').2 h
              rw [g1] at this; cases this
            · exact h
          have hqe : q = m := by
            rcases Nat.lt_or_ge m q with h | h
            · have hb := hmo q i hq' m ms[m] h (List.getElem?_eq_getElem (by omega))
              have h1 := hbit _ hb
              have h2 := hms ms[m] (List.getElem_mem (by omega))
              rw [← gd listed _ (by omega)] at h1
              have := (hmids m ms[m] (List.getElem?_eq_getElem (by omega))).1 h1
              omega
            · omega
          subst hqe
          cases hch with
          | fin hm0 _ _ => omega
          | @step _ i' d o' Δ _ _ R c1 c2 c3 c4 c5 c6 c7 c8 c9 =>
          rw [hq'] at c1; obtain rfl := Option.some.inj c1
          rw [g2'] at c2; obtain rfl := Option.some.inj c2
          have hsat : Sat E Δ Mc a w F := s.wider fun t S ht => (c5 t S ht).elim (hfrom t S) (fun h => s.slots t S h)
          have hgo : ∀ v w' F' S M', R S M' → (∀ b, F b → w'.heap[b]? = w.heap[b]?) → (∀ b, F b → F' b) → (∀ Γ'', Sat E Γ'' Mc a w F → Sat E Γ'' M' a w' F') → S.h w' F' v → wpAny P .any l.toArray Q fuel (listed.setIfInBounds i true) (a.put o.dst v) w' := by
            intro v w' F' S M' hR hsame hsub' hS hv
            have s1 := (hS _ s).put (d := d) c4 hv
            have hsb := c8 S M' hR
            have hch' := c9 S M' hR
            refine ih _ _ w' F' (q + 1) _ M' hql hch' hsb (fun t S' ht => ?_) hcount (by simp [hsz]) (fun j hj hjl => ?_) (fun q' i' hq'' => ?_) hclosed (by rw [c3]; exact s1) fun j oj dj hjn hjm hL hj hdj => hdn v w' F' d c3 s.size c4 hsame hsub' j oj dj (fun e => hjm (e ▸ him)) hjn hjm hL hj hdj
            · simp only [look] at ht
              cases hb : Nat.beq d t with
              | true =>
                obtain rfl := Nat.eq_of_beq_eq_true hb
                exact ⟨q, i, o, by omega, hq', g2', c3⟩
              | false =>
                rw [hb] at ht
                obtain ⟨q', i', o', r1, r2⟩ := hG t S' ht
                exact ⟨q', i', o', by omega, r2⟩
            · rw [getD_set_ne true (by omega)]; exact htail j hj hjl
            · by_cases e : i' = i
              · subst e
                have : i' < listed.size := by omega
                simp [this]
                have h0 := hmids q' i' hq''
                rw [g1] at h0
                have h1 : q ≤ q' := by
                  rcases Nat.lt_or_ge q' q with h | h
                  · have := h0.2 h; cases this
                  · exact h
                rcases Nat.lt_or_ge q q' with h | h
                · have := hbit _ (hmo q' i' hq'' q i' h hq')
                  rw [← gd listed _ (by omega), g1] at this; cases this
                · omega
              · rw [getD_set_ne true (fun h => e h.symm), hmids q' i' hq'']
                constructor
                · intro h; omega
                · intro h
                  rcases Nat.lt_or_ge q' q with h1 | h1
                  · exact h1
                  · obtain rfl : q' = q := by omega
                    rw [hq'] at hq''; obtain rfl := Option.some.inj hq''; exact absurd rfl e
          unfold wpOp
          rw [ho]
          show if Region.wanted o (yielded l.toArray a.tmps) then _ else _
          rw [if_pos (by simp [Region.wanted, c7.1])]
          exact .inl (c7.2 a w F hsat _ Q hgo)
        · obtain ⟨o', d, Δ, a1, a2, a3, a6, a7⟩ := (hrd i hin him).ex
          rw [g2'] at a1; obtain rfl := Option.some.inj a1
          have hbind : (l[i]?).bind (·.dst) = some d := by rw [g2']; exact a2
          obtain ⟨ap1, ap2⟩ := hapart i d hin hbind
          have ap3 : ∀ t S, look (Δm ++ Γ) t = some S → t ≠ d := fun t S ht => by
            rw [look_append] at ht
            cases hl : look Δm t with
            | none => rw [hl] at ht; exact ap1 t S (by simpa using ht)
            | some S' =>
              obtain ⟨q, i', o2, h0, h1, h2, h3⟩ := hG t S' hl
              have h4 := List.mem_of_getElem? h1
              exact ap2 i' t (hms i' h4) (fun e => him (e ▸ h4)) (by rw [h2]; exact h3)
          have hsat : Sat E Δ Ms a w F := (s.wider fun t S ht => (a6 t S ht).elim (hfrom t S) (fun h => s.slots t S (hΓ m Δm hG t S h))).sub hsub
          have hgo : ∀ v w' F', Adv w F w' F' → (Ss i).h w' F' v → wpAny P .any l.toArray Q fuel (listed.setIfInBounds i true) (a.put o.dst v) w' := by
            intro v w' F' ad hv
            have s1 := s.adv ad
            refine ih _ _ w' F' m Δm Mc hm hch hsub hG hcount (by simp [hsz]) (fun j hj hjl => ?_) (fun q i' hq => ?_) hclosed (by rw [a2]; exact s1.putOut a3 v ap3) fun j oj dj hjn hjm hL hj hdj => ?_
            · rw [getD_set_ne true (by omega)]; exact htail j hj hjl
            · rw [getD_set_ne true (fun e : i = i' => him (by rw [e]; exact List.mem_of_getElem? hq))]; exact hmids q i' hq
            · by_cases ek : j = i
              · subst ek
                rw [g2'] at hj; obtain rfl := Option.some.inj hj
                rw [a2] at hdj; obtain rfl := Option.some.inj hdj
                rw [a2, getD_put (by rw [s.size]; exact a3), if_pos rfl]; exact hv
              · exact hdn v w' F' d a2 s.size a3 (ad.same s.flt) ad.sub j oj dj ek hjn hjm hL hj hdj
          have hres := a7 a w F hsat (wpAny P .any l.toArray Q fuel (listed.setIfInBounds i true)) Q hgo
          unfold wpOp
          rw [ho]
          exact hres
/-- step by step: first what only reads -/
def DrE (E : Env) (P : Program) (id : Nat) (l : List Oper) (n : Nat) (Γ : Ctx) (M Ms : Mem) (Q : Exit → Act → World → Prop) (ms : List Nat) (i : Nat) (Θ : Ctx) : Prop :=
  ∀ (Ss : Nat → VP), (∀ j, j < i → j ∉ ms → RdE E P l n Γ Ms ms Ss j) → (∀ t S, look Θ t = some S → ∃ (j : Nat) (o : Oper), j < i ∧ j ∉ ms ∧ l[j]? = some o ∧ o.dst = some t ∧ Ss j = S) → Tri E P (.region id l.toArray true) Γ M Q
theorem FromE.up {l : List Oper} {n : Nat} {ms : List Nat} {Ss Ss' : Nat → VP} {i t : Nat} {S : VP} (h : FromE l n ms Ss i t S) (e : ∀ j, j < n → j ∉ ms → (((masks l [])[i]?).getD 0).testBit j = true → Ss' j = Ss j) : FromE l n ms Ss' i t S := by
  obtain ⟨j, oj, h0, h1, h2, h3, h4, h5⟩ := h
  exact ⟨j, oj, h0, h1, h2, h3, h4, by rw [e j h0 h1 h2]; exact h5⟩
/-- nothing stands behind what comes later -/
def lowB (l : List Oper) (n : Nat) : Bool := (List.range n).all fun i => (List.range n).all fun j => Nat.blt j i || !(((masks l [])[i]?).getD 0).testBit j
theorem lowB_spec {l : List Oper} {n i j : Nat} (h : lowB l n = true) (hi : i < n) (hj : j < n) (hb : (((masks l [])[i]?).getD 0).testBit j = true) : j < i := by
  have h1 := List.all_eq_true.1 (List.all_eq_true.1 h i (by simpa using hi)) j (by simpa using hj)
  rw [hb] at h1
  simpa [Nat.blt_eq] using h1
theorem Tri.dre {id n : Nat} {l : List Oper} (ms : List Nat) (h : DrE E P id l n Γ M M Q ms 0 []) : Tri E P (.region id l.toArray true) Γ M Q :=
  h (fun _ => nilS) (fun j hj => absurd hj (Nat.not_lt_zero _)) (fun t S ht => by simp [look] at ht)
theorem DrE.sk {id n i : Nat} {l : List Oper} {Θ : Ctx} {Ms : Mem} {ms : List Nat} (h0 : inMs ms i = true) (k : DrE E P id l n Γ M Ms Q ms (i + 1) Θ) : DrE E P id l n Γ M Ms Q ms i Θ := by
  intro Ss hrd hΘ
  have him : i ∈ ms := by
    obtain ⟨j, hj, hb⟩ := List.any_eq_true.1 h0
    rwa [← Nat.eq_of_beq_eq_true hb]
  refine k Ss (fun j hj hjm => hrd j (by
    rcases Nat.lt_or_ge j i with h | h
    · exact h
    · exact absurd him (fun h => hjm ((show i = j by omega) ▸ h))) hjm) fun t S ht => ?_
  obtain ⟨j, o, h1, h2⟩ := hΘ t S ht
  exact ⟨j, o, by omega, h2⟩
theorem DrE.st {id n i d : Nat} {l : List Oper} {Θ : Ctx} {S : VP} {o : Oper} {Ms : Mem} {ms : List Nat} (ts : List Nat) (h0 : inMs ms i = false) (h1 : l[i]? = some o) (h2 : o.dst = some d) (h3 : Nat.blt d E.n = true) (hlow : lowB l n = true) (hin : Nat.blt i n = true)
    (h4 : behindB l i ts = true) (h5 : OKG E P l.toArray (keepc ts Θ ++ Γ) Ms o S) (k : DrE E P id l n Γ M Ms Q ms (i + 1) ((d, S) :: Θ)) : DrE E P id l n Γ M Ms Q ms i Θ := by
  intro Ss hrd hΘ
  have him := inMs_no h0
  have hin' : i < n := by simpa [Nat.blt_eq] using hin
  have he : ∀ j, j < i → (if j = i then S else Ss j) = Ss j := fun j hj => if_neg (by omega)
  refine k (fun j => if j = i then S else Ss j) (fun j hj hjm => ?_) (fun t S' ht => ?_)
  · by_cases e : j = i
    · subst e
      exact ⟨o, d, keepc ts Θ ++ Γ, h1, h2, by simpa [Nat.blt_eq] using h3, fun t S' ht => by
        rw [look_append] at ht
        cases hl : look (keepc ts Θ) t with
        | none => rw [hl] at ht; exact .inr (by simpa using ht)
        | some S'' =>
          rw [hl] at ht
          obtain rfl : S'' = S' := by simpa using ht
          obtain ⟨j2, oj, b0, b1, b2, b3, b4, b5⟩ := fromG hΘ h4 hl
          exact .inl ⟨j2, oj, by omega, b1, b2, b3, b4, by show (if j2 = j then S else Ss j2) = S''; rw [he j2 b0]; exact b5⟩, by rw [if_pos rfl]; exact h5⟩
    · obtain ⟨o', d', Δ, a1, a2, a3, a4, a5⟩ := (hrd j (by omega) hjm).ex
      exact ⟨o', d', Δ, a1, a2, a3, fun t S' ht => (a4 t S' ht).imp (fun h => h.up fun q hq hqm hb => if_neg (by have := lowB_spec hlow (show j < n by omega) hq hb; omega)) (fun h => h), by rw [if_neg e]; exact a5⟩
  · simp only [look] at ht
    cases hb : Nat.beq d t with
    | true =>
      rw [hb] at ht; simp at ht; subst ht
      obtain rfl := Nat.eq_of_beq_eq_true hb
      exact ⟨i, o, by omega, him, h1, h2, if_pos rfl⟩
    | false =>
      rw [hb] at ht
      obtain ⟨j, oj, b0, b1, b2, b3, b4⟩ := hΘ t S' ht
      exact ⟨j, oj, by omega, b1, b2, b3, by rw [if_neg (by omega)]; exact b4⟩
def behindA (l : List Oper) (n i : Nat) (ts : List Nat) : Bool :=
  let m := ((masks l [])[i]?).getD 0
  (List.range n).all fun j => m.testBit j || match (l[j]?).bind (·.dst) with
    | none => true
    | some d => ts.all fun t => !Nat.beq d t
/-- the chain, where all that reads is known -/
def DrEm (E : Env) (P : Program) (l : List Oper) (n : Nat) (Γ : Ctx) (Ms : Mem) (Q : Exit → Act → World → Prop) (ms : List Nat) (Θ : Ctx) (m : Nat) (Δm : Ctx) (Mc : Mem) : Prop :=
  ∀ (Ss : Nat → VP), (∀ t S, look Θ t = some S → ∃ (j : Nat) (o : Oper), j < n ∧ j ∉ ms ∧ l[j]? = some o ∧ o.dst = some t ∧ Ss j = S) → ChE E P l n Γ Ms ms Ss Q m Δm Mc
def orderB (l : List Oper) (ms : List Nat) : Bool := (List.range ms.length).all fun q => (List.range q).all fun p => (((masks l [])[ms.getD q 0]?).getD 0).testBit (ms.getD p 0)
def allLt (ms : List Nat) (n : Nat) : Bool := ms.all fun i => Nat.blt i n
theorem orderB_spec {l : List Oper} {ms : List Nat} (h : orderB l ms = true) : ∀ (q i : Nat), ms[q]? = some i → ∀ (q' i' : Nat), q' < q → ms[q']? = some i' → (((masks l [])[i]?).getD 0).testBit i' = true := by
  intro q i hq q' i' hlt hq'
  have hql : q < ms.length := by
    rcases Nat.lt_or_ge q ms.length with h | h
    · exact h
    · rw [List.getElem?_eq_none h] at hq; cases hq
  have h1 := List.all_eq_true.1 (List.all_eq_true.1 h q (by simpa using hql)) q' (by simpa using hlt)
  have e1 : ms.getD q 0 = i := by rw [List.getD_eq_getElem?_getD, hq]; rfl
  have e2 : ms.getD q' 0 = i' := by rw [List.getD_eq_getElem?_getD, hq']; rfl
  rw [e1, e2] at h1
  exact h1
theorem DrE.go {id n : Nat} {l : List Oper} {Θ : Ctx} {Ms : Mem} {ms : List Nat} (hs : Ms.Sublist M) (hm : P.follows .mixedOrders = true) (hap : apartB l n Γ = true) (htl : tailB l n = true) (hnl : Nat.ble n l.length = true) (hml : allLt ms n = true) (hmo : orderB l ms = true)
    (k : DrEm E P l n Γ Ms Q ms Θ 0 [] M) : DrE E P id l n Γ M Ms Q ms n Θ := by
  intro Ss hrd hΘ
  have hnl' := Nat.le_of_ble_eq_true hnl
  have hms : ∀ i ∈ ms, i < n := fun i hi => by simpa [Nat.blt_eq] using List.all_eq_true.1 hml i hi
  intro a w F s
  refine wp_region_any hm ?_
  have s1 := s.adv (Adv.drew w F)
  refine phaseCh hms (orderB_spec hmo) hrd hap htl hnl' _ _ a _ F 0 [] M (Nat.zero_le _) (k Ss hΘ) hs (fun t S ht => by simp [look] at ht) ?_ (by simp) (fun j hj hjl => ?_) (fun q i hq => ?_) ?_ s1 ?_
  · simp
    exact Nat.le_trans List.countP_le_length (by simp)
  · have : j < l.length := hjl
    simp [this]
  · have := hms i (List.mem_of_getElem? hq)
    have h2 : i < l.length := by omega
    simp [h2]
  · intro i o hi hL
    simp [Array.getD_eq_getD_getElem?, Array.getElem?_replicate] at hL
    split at hL <;> simp at hL
  · intro j o d hj hjm hL
    simp [Array.getD_eq_getD_getElem?, Array.getElem?_replicate] at hL
    split at hL <;> simp at hL
theorem DrEm.mid {i d m n : Nat} {l : List Oper} {Θ Δm : Ctx} {o : Oper} {Ms Mc : Mem} {ms : List Nat} {R : VP → Mem → Prop} (ts : List Nat) (h0 : ms[m]? = some i) (h1 : l[i]? = some o) (h2 : o.dst = some d) (h3 : Nat.blt d E.n = true)
    (h4 : behindA l n i ts = true) (hmo : orderB l ms = true) (h5 : StR E P (keepc ts Θ ++ (Δm ++ Γ)) Mc o R) (k : ∀ S M', R S M' → Ms.Sublist M' ∧ DrEm E P l n Γ Ms Q ms Θ (m + 1) ((d, S) :: Δm) M') : DrEm E P l n Γ Ms Q ms Θ m Δm Mc := by
  intro Ss hΘ
  refine .step h0 h1 h2 (by simpa [Nat.blt_eq] using h3) (fun t S ht => ?_) (orderB_spec hmo m i h0) h5 (fun S M' hR => (k S M' hR).1) fun S M' hR => (k S M' hR).2 Ss hΘ
  rw [look_append] at ht
  cases hl : look (keepc ts Θ) t with
  | none => rw [hl] at ht; exact .inr (by simpa using ht)
  | some S'' =>
    rw [hl] at ht
    obtain rfl : S'' = S := by simpa using ht
    obtain ⟨hm, hl2⟩ := look_keepc _ _ _ hl
    obtain ⟨j, oj, b0, b1, b2, b3, b4⟩ := hΘ t S'' hl2
    refine .inl ⟨j, oj, b0, b1, ?_, b2, b3, b4⟩
    have := List.all_eq_true.1 h4 j (by simpa using b0)
    rw [b2] at this
    simp only [Option.bind_some, b3, Bool.or_eq_true] at this
    rcases this with h | h
    · exact h
    · have := List.all_eq_true.1 h t hm
      simp [Nat.beq_refl] at this
theorem DrEm.fin {n m : Nat} {l : List Oper} {Θ Δm : Ctx} {Ms Mc : Mem} {ms : List Nat} (hml : m = ms.length) (k : Ops E P l.toArray Q (l.drop n) (Θ ++ (Δm ++ Γ)) Mc) : DrEm E P l n Γ Ms Q ms Θ m Δm Mc := by
  intro Ss hΘ
  refine .fin (Θ := Θ ++ (Δm ++ Γ)) hml (fun t S ht => ?_) k
  rw [look_append] at ht
  cases hl : look Θ t with
  | none => rw [hl] at ht; exact .inr (by simpa using ht)
  | some S' =>
    rw [hl] at ht
    obtain rfl : S' = S := by simpa using ht
    exact .inl (hΘ t S' hl)
end
end Go.En
/- Rows that are parts of one block, in a table of their own. -/
namespace Go.En
open Go.Nt Go.Gf Go.Mz Go.Mu Go.RowKit
set_option linter.unusedVariables false
/-- a part of a block that has grown -/
def isSeg (g : Gr Nat) (o n : Nat) : VP := .pure fun v => ∃ b c, g.ob = some b ∧ v = .slice (some ⟨b, o, none⟩) n c ∧ n ≤ c ∧ c ≤ maxLen
instance {g : Gr Nat} {o n : Nat} : IsSl (isSeg g o n) n := ⟨fun w F v ⟨b, c, _, e, h1, h2⟩ => ⟨_, _, e, h1, h2⟩⟩
instance {g : Gr Nat} {o n : Nat} : Shape (isSeg g o n) [isSeg g o n] := .of_one inferInstance
/-- a table's place: nothing, or a row -/
def segV (g : Gr Nat) (n : Nat) : Option Nat → VP
  | none => nilS
  | some s => isSeg g (s * n) n
instance {g : Gr Nat} {n s : Nat} : IsSl (segV g n (some s)) n := (inferInstance : IsSl (isSeg g (s * n) n) n)
instance {g : Gr Nat} {n : Nat} {x : Option Nat} : One (segV g n x) := by
  cases x
  · exact (inferInstance : One nilS)
  · exact (inferInstance : One (isSeg g _ n))
instance {g : Gr Nat} {n : Nat} {x : Option Nat} : Shape (segV g n x) [segV g n x] := .of_one inferInstance
/-- the work: rows of the matrix, and of what it is turned by -/
abbrev wkH (q bw n : Nat) (gth gtp : Gr (Option Nat)) (gh gp : Gr Nat) (σ H P : List Nat) : Mem :=
  [(some bw, cellM [isU q, isGr gth n, isGr gtp n]), grM (segV gh n) gth (σ.map some), grM (segV gp n) gtp (σ.map some), grM isU gh H, grM isU gp P]
section
variable {E : Env} {P : Program} {Γ : Ctx} {M : Mem} {ty : TypeId} {pos : String} {after : Array Edge} {gd : Option (Nat × Bool)} {d : Option Tmp}
  {ops : Array Oper} {Q : Exit → Act → World → Prop} {rest : List Oper} {T T' : TypeId} {x y : Operand}
theorem OK1.slSeg {e : TypeId} {m : Nat} {g : Gr Nat} {g0 : Bool} {y2 : Operand} {z z2 : Int} (hT : slB P T = some e) (ht : tyB P e = some (1, g0)) (hx : Has E Γ M x (isGr g m)) (hy : Has E Γ M y (isI z)) (hy2 : Has E Γ M y2 (isI z2)) (h : 0 ≤ z ∧ z < z2 ∧ z2 ≤ m) :
    OK1 E P Γ M ⟨d, .slice T x (some y) (some y2) none, ty, pos, after, gd⟩ (isSeg g z.toNat (z2.toNat - z.toNat)) := by
  cases hob : g.ob with
  | none =>
    intro a w F s
    have := noneG hob hx a w F s
    omega
  | some b =>
    intro a w F s K Q' hK
    have hc : m ≤ g.c := by
      have := (hx.winG hob a w F s).2.1; omega
    refine OK1.slLHWin hT ht (hx.winG hob) hy hy2 (by omega) a w F s K Q' fun v w' F' ad hv => hK v w' F' ad ?_
    obtain ⟨e1, e2, e3⟩ := hv
    refine ⟨b, _, hob, ?_, e2, e3⟩
    rw [e1, show 0 + z.toNat * 1 = z.toNat by omega]
theorem OK1.ixSeg {e : TypeId} {o n : Nat} {g : Gr Nat} {g0 : Bool} {z : Int} (hT : slB P T = some e) (ht : tyB P e = some (1, g0)) (hx : Has E Γ M x (isSeg g o n)) (hy : Has E Γ M y (isI z)) (h : 0 ≤ z ∧ z < n) :
    OK1 E P Γ M ⟨d, .indexAddr T x y, ty, pos, after, gd⟩ (isPtrG g ((o + z.toNat) * 1)) := .run fun a w F s => by
    obtain ⟨b, c, hob, he, g1, g2⟩ := hx a w F s
    exact ⟨.pointer (some ⟨b, o + z.toNat * 1, none⟩), by simp only [execOp, he, evI hy a w F s, Sem.run_bind, run_ix hT ht h.1 h.2, Result.andThen_ok, Sem.run_pure], b, hob, by rw [Nat.mul_one, Nat.mul_one]⟩
/-- the rows as they stand -/
def rowsH (n : Nat) (σ H : List Nat) : List (List Nat) := σ.map fun s => (H.drop (s * n)).take n
theorem Sat.freezeSeg {a : Act} {w : World} {F : Blk} {i : Nat} {g : Gr Nat} {L : List Nat} (s : Sat E Γ M a w F) (hW : E.W = []) (hM : M[i]? = some (grM isU g L)) :
    ∃ F', (∀ b, F b → F' b) ∧ Sat E Γ (M.eraseIdx i) a w F' ∧ ∀ o n v, o + n ≤ L.length → (isSeg g o n).h w F v → (isWords ((L.drop o).take n)).h w F' v := by
  cases hob : g.ob with
  | none =>
    refine ⟨F, fun _ h => h, s.drop1, ?_⟩
    rintro o n v _ ⟨b, c, hb, _⟩
    rw [hob] at hb; cases hb
  | some b =>
    have hM' : M[i]? = some (some b, cellM ((L ++ g.sp).map isU)) := by rw [hM]; unfold grM; rw [hob]
    obtain ⟨s', vs, T', hb, hv⟩ := s.freezeB hW hM'
    refine ⟨_, fun _ h => .inl h, s', ?_⟩
    rintro o n v hl ⟨b', c, hb', rfl, h1, h2⟩
    obtain rfl : b = b' := by rw [hob] at hb'; exact Option.some.inj hb'
    have hvl := hv.len
    rw [List.length_map, List.length_append] at hvl
    have e1 : ((L.drop o).take n).length = n := by rw [List.length_take, List.length_drop]; omega
    refine ⟨some ⟨b, o, none⟩, c, by rw [e1], by rw [e1]; exact h1, h2, by simp, .inr ⟨b, o, rfl, .inr rfl, (vs.drop o).take n, ?_, fun j u hj => ?_⟩⟩
    · have := (hv.drop o).take n
      rw [← List.map_drop, ← List.map_take, List.drop_append_of_le_length (by omega), List.take_append_of_le_length (by rw [List.length_drop]; omega)] at this
      exact this
    · have hjn : j < n := by
        rcases Nat.lt_or_ge j n with h | h
        · exact h
        · rw [List.getElem?_take_eq_none h] at hj; cases hj
      rw [List.getElem?_take_of_lt hjn, List.getElem?_drop] at hj
      simp [World.cell?, hb, hj]
def wsV (n : Nat) (H : List Nat) : Option Nat → VP
  | none => nilS
  | some s => isWs ((H.drop (s * n)).take n)
theorem Cv.freezeTab {i j n : Nat} {g : Gr Nat} {gt : Gr (Option Nat)} {σ H : List Nat} (hW : E.W = []) (hM : M[i]? = some (grM isU g H)) (hT : (M.eraseIdx i)[j]? = some (grM (segV g n) gt (σ.map some))) (hl : ∀ s ∈ σ, s * n + n ≤ H.length) :
    Cv E Γ M Γ ((M.eraseIdx i).set j (gt.ob, cellM ((σ.map some).map (wsV n H) ++ gt.sp.map (segV g n)))) := fun a w F s => by
  obtain ⟨F', hsub, s', hc⟩ := s.freezeSeg hW hM
  have hT' : (M.eraseIdx i)[j]? = some (gt.ob, cellM ((σ.map some ++ gt.sp).map (segV g n))) := by rw [hT]; rfl
  refine ⟨F', s'.memSetO hT' fun o ⟨vs, ty, e, h⟩ => ⟨vs, ty, e, ?_⟩⟩
  have h' : All2 ((σ.map some).map (segV g n) ++ gt.sp.map (segV g n)) w F' vs := by rw [← List.map_append]; exact h
  have key : ∀ (l : List Nat) (vs : List Value) (Us : List VP), (∀ s ∈ l, s * n + n ≤ H.length) → All2 ((l.map some).map (segV g n) ++ Us) w F' vs → All2 ((l.map some).map (wsV n H) ++ Us) w F' vs := by
    intro l
    induction l with
    | nil => intro vs Us _ h; exact h
    | cons x l ih =>
      intro vs Us hx h
      cases vs with
      | nil => exact h.elim
      | cons v vs => exact ⟨hc (x * n) n v (hx x (by simp)) h.1, ih vs Us (fun s hs => hx s (by simp [hs])) h.2⟩
  exact key σ vs _ hl h'
theorem rowsSlH {n : Nat} {σ H : List Nat} (h : σ.length = n) : SlL 1 n ((σ.map some).map (wsV n H)) = SlM isWs (rowsH n σ H) := by
  unfold SlM rowsH
  rw [List.length_map, List.map_map, List.map_map, h]; rfl
/-- the work as it stays -/
abbrev wkFH (q : Nat) (n : Nat) (σ H P : List Nat) : VP := PtrL [isU q, SlM isWs (rowsH n σ H), SlM isWs (rowsH n σ P)]
theorem Cv.freezeH {t q bw n : Nat} {gth gtp : Gr (Option Nat)} {gh gp : Gr Nat} {σ H P : List Nat} (hW : E.W = []) (ht : look Γ t = some (isPtr bw 0)) (hn : σ.length = n) (hH : ∀ s ∈ σ, s * n + n ≤ H.length) (hP : ∀ s ∈ σ, s * n + n ≤ P.length) :
    Cv E Γ (wkH q bw n gth gtp gh gp σ H P) ((t, wkFH q n σ H P) :: Γ) [] := by
  have h1 := Cv.freezeTab (E := E) (Γ := Γ) (M := wkH q bw n gth gtp gh gp σ H P) (i := 3) (j := 1) hW rfl rfl hH
  refine Cv.trans h1 ?_
  have h2 := Cv.freezeTab (E := E) (Γ := Γ) (M := [(some bw, cellM [isU q, isGr gth n, isGr gtp n]), (gth.ob, cellM ((σ.map some).map (wsV n H) ++ gth.sp.map (segV gh n))), grM (segV gp n) gtp (σ.map some), grM isU gp P]) (i := 3) (j := 2) hW rfl rfl hP
  refine Cv.trans h2 ?_
  have hl : ∀ (X : List Nat) (g : Gr Nat) (gt : Gr (Option Nat)), n * 1 ≤ ((σ.map some).map (wsV n X) ++ gt.sp.map (segV g n)).length := fun X g gt => by rw [List.length_append, List.length_map, List.length_map]; omega
  have he : ∀ (X : List Nat) (g : Gr Nat) (gt : Gr (Option Nat)), ((σ.map some).map (wsV n X) ++ gt.sp.map (segV g n)).take (n * 1) = (σ.map some).map (wsV n X) := fun X g gt => by rw [Nat.mul_one, List.take_left' (by rw [List.length_map, List.length_map, hn])]
  have h3 := Cv.freezeF (E := E) (Γ := Γ) (M := [(some bw, cellM [isU q, isGr gth n, isGr gtp n]), (gth.ob, cellM ((σ.map some).map (wsV n H) ++ gth.sp.map (segV gh n))), (gtp.ob, cellM ((σ.map some).map (wsV n P) ++ gtp.sp.map (segV gp n)))]) (k := 1) (i := 1) (j := 0) (o := 1) (g := gth) (n := n) hW rfl rfl rfl (hl H gh gth) (he H gh gth) rfl
  refine Cv.trans h3 ?_
  have h4 := Cv.freezeF (E := E) (Γ := Γ) (M := [(some bw, cellM [isU q, SlL 1 n ((σ.map some).map (wsV n H)), isGr gtp n]), (gtp.ob, cellM ((σ.map some).map (wsV n P) ++ gtp.sp.map (segV gp n)))]) (k := 1) (i := 1) (j := 0) (o := 2) (g := gtp) (n := n) hW rfl rfl rfl (hl P gp gtp) (he P gp gtp) rfl
  refine Cv.trans h4 ?_
  rw [rowsSlH hn, rowsSlH hn]
  exact Cv.freezeBox (i := 0) hW ht rfl
end
end Go.En
namespace Go.Hs
open Go.Mz
/-! ### rows by their numbers -/
structure SV (n : Nat) (σ : List Nat) : Prop where
  len : σ.length = n
  lt : ∀ r, r < n → σ.getD r 0 < n
  inj : ∀ r r', r < n → r' < n → σ.getD r 0 = σ.getD r' 0 → r = r'
def hu (n : Nat) (σ H : List Nat) (r s : Nat) : Nat := H.getD (σ.getD r 0 * n + s) 0
theorem place_inj {n a s b t : Nat} (hs : s < n) (ht : t < n) (h : a * n + s = b * n + t) : a = b ∧ s = t := by
  have h1 : (a * n + s) / n = a := by rw [Nat.mul_comm, Nat.mul_add_div (by omega), Nat.div_eq_of_lt hs, Nat.add_zero]
  have h2 : (b * n + t) / n = b := by rw [Nat.mul_comm, Nat.mul_add_div (by omega), Nat.div_eq_of_lt ht, Nat.add_zero]
  have e : a = b := by rw [← h1, h, h2]
  subst e
  exact ⟨rfl, by omega⟩
theorem SV.at {n : Nat} {σ : List Nat} (h : SV n σ) {r : Nat} (hr : r < n) : (σ.map some)[r]? = some (some (σ.getD r 0)) := by
  rw [List.getElem?_map, List.getElem?_eq_getElem (by rw [h.len]; exact hr), List.getD_eq_getElem?_getD, List.getElem?_eq_getElem (by rw [h.len]; exact hr)]; rfl
theorem SV.pl {n : Nat} {σ : List Nat} (h : SV n σ) {r s : Nat} (hr : r < n) (hs : s < n) : σ.getD r 0 * n + s < n * n := place_lt (h.lt r hr) hs
theorem hu_set {n : Nat} {σ H : List Nat} (h : SV n σ) (hH : H.length = n * n) {r0 s0 r s v : Nat} (hr0 : r0 < n) (hs0 : s0 < n) (hr : r < n) (hs : s < n) : hu n σ (H.set (σ.getD r0 0 * n + s0) v) r s = if r = r0 ∧ s = s0 then v else hu n σ H r s := by
  unfold hu
  have hp := h.pl hr0 hs0
  by_cases e : r = r0 ∧ s = s0
  · obtain ⟨rfl, rfl⟩ := e
    rw [if_pos ⟨rfl, rfl⟩, List.getD_eq_getElem?_getD, List.getElem?_set_self (by omega)]; rfl
  · have hne : σ.getD r0 0 * n + s0 ≠ σ.getD r 0 * n + s := fun e2 => by
      obtain ⟨e3, e4⟩ := place_inj hs0 hs e2
      exact e ⟨h.inj r r0 hr hr0 e3.symm, e4.symm⟩
    rw [if_neg e, List.getD_eq_getElem?_getD, List.getElem?_set_ne hne, ← List.getD_eq_getElem?_getD]
/-- two rows' numbers in each other's places -/
def swS (σ : List Nat) (i k : Nat) : List Nat := (σ.set i (σ.getD k 0)).set k (σ.getD i 0)
def ta (a b i : Nat) : Nat := if i = a then b else if i = b then a else i
theorem ta_lt {a b i n : Nat} (ha : a < n) (hb : b < n) (hi : i < n) : ta a b i < n := by unfold ta; split <;> (try split) <;> omega
theorem swS_at {n : Nat} {σ : List Nat} (h : SV n σ) {i k r : Nat} (hi : i < n) (hk : k < n) (hr : r < n) : (swS σ i k).getD r 0 = σ.getD (ta i k r) 0 := by
  have hl := h.len
  unfold swS ta
  rw [List.getD_eq_getElem?_getD]
  by_cases e1 : r = k
  · subst e1
    rw [List.getElem?_set_self (by rw [List.length_set]; omega)]
    by_cases e2 : r = i
    · subst e2; rw [if_pos rfl]; rfl
    · rw [if_neg e2, if_pos rfl]; rfl
  · rw [List.getElem?_set_ne (fun e => e1 e.symm)]
    by_cases e2 : r = i
    · subst e2; rw [List.getElem?_set_self (by omega), if_pos rfl]; rfl
    · rw [List.getElem?_set_ne (fun e => e2 e.symm), if_neg e2, if_neg e1, List.getD_eq_getElem?_getD]
theorem ta_ta (a b i : Nat) : ta a b (ta a b i) = i := by unfold ta; repeat' split
                                                          all_goals omega
theorem SV.swap {n : Nat} {σ : List Nat} (h : SV n σ) {i k : Nat} (hi : i < n) (hk : k < n) : SV n (swS σ i k) where
  len := by unfold swS; rw [List.length_set, List.length_set]; exact h.len
  lt := fun r hr => by rw [swS_at h hi hk hr]; exact h.lt _ (ta_lt hi hk hr)
  inj := fun r r' hr hr' e => by
    rw [swS_at h hi hk hr, swS_at h hi hk hr'] at e
    have := h.inj _ _ (ta_lt hi hk hr) (ta_lt hi hk hr') e
    rw [← ta_ta i k r, this, ta_ta]
theorem swS_map (σ : List Nat) (i k : Nat) : (swS σ i k).map some = ((σ.map some).set i (some (σ.getD k 0))).set k (some (σ.getD i 0)) := by
  unfold swS; rw [List.map_set, List.map_set]
theorem hu_sw {n : Nat} {σ H : List Nat} (h : SV n σ) {i k r s : Nat} (hi : i < n) (hk : k < n) (hr : r < n) : hu n (swS σ i k) H r s = hu n σ H (ta i k r) s := by
  unfold hu; rw [swS_at h hi hk hr]
/-- columns in each other's places, row by row -/
theorem col_step {n : Nat} {σ H H0 : List Nat} (h : SV n σ) (hH : H.length = n * n) {i k t : Nat} (hi : i < n) (hk : k < n) (ht : t < n) (hI : ∀ r s, r < n → s < n → hu n σ H r s = if r < t then hu n σ H0 r (ta i k s) else hu n σ H0 r s) :
    ∀ r s, r < n → s < n → hu n σ ((H.set (σ.getD t 0 * n + i) (H.getD (σ.getD t 0 * n + k) 0)).set (σ.getD t 0 * n + k) (H.getD (σ.getD t 0 * n + i) 0)) r s = if r < t + 1 then hu n σ H0 r (ta i k s) else hu n σ H0 r s := by
  intro r s hr hs
  rw [hu_set h (by rw [List.length_set]; exact hH) ht hk hr hs, hu_set h hH ht hi hr hs]
  have e1 := hI t k ht hk
  have e2 := hI t i ht hi
  rw [if_neg (by omega)] at e1 e2
  unfold hu at e1 e2
  rw [e1, e2]
  have e3 := hI r s hr hs
  unfold hu at e3 ⊢
  by_cases h1 : r = t
  · subst h1
    rw [if_pos (show r < r + 1 by omega)]
    rw [if_neg (show ¬ r < r by omega)] at e3
    unfold ta
    by_cases h2 : s = k
    · subst h2
      rw [if_pos ⟨rfl, rfl⟩]
      by_cases h3 : s = i
      · subst h3; rw [if_pos rfl]
      · rw [if_neg h3, if_pos rfl]
    · rw [if_neg (fun h => h2 h.2)]
      by_cases h3 : s = i
      · rw [if_pos ⟨rfl, h3⟩, if_pos h3]
      · rw [if_neg (fun h => h3 h.2), if_neg h3, if_neg h2, e3]
  · rw [if_neg (fun h => h1 h.1), if_neg (fun h => h1 h.1), e3]
    by_cases h2 : r < t
    · rw [if_pos h2, if_pos (show r < t + 1 by omega)]
    · rw [if_neg h2, if_neg (show ¬ r < t + 1 by omega)]
/-- a multiple of a row taken out of another one, and as many of the column put to the other one -/
def subE (p x y : Nat) : Nat := (x % p + p - y % p) % p
def addE (p x y : Nat) : Nat := (x % p + y % p) % p
def rowE (p : Nat) (h : Nat → Nat → Nat) (i k c r s : Nat) : Nat := if r = i then subE p (h i s) (c * h k s % p) else h r s
def colE (p : Nat) (h : Nat → Nat → Nat) (i k c r s : Nat) : Nat := if s = k then addE p (h r k) (c * h r i % p) else h r s
def clrU (p : Nat) (h : Nat → Nat → Nat) (i k c : Nat) : Nat → Nat → Nat := colE p (rowE p h i k c) i k c
theorem row_step {p n : Nat} {σ H H0 : List Nat} (h : SV n σ) (hH : H.length = n * n) {i k c j v : Nat} (hi : i < n) (hj : j < n) (hv : v = rowE p (hu n σ H0) i k c i j) (hI : ∀ r s, r < n → s < n → hu n σ H r s = if s < j then rowE p (hu n σ H0) i k c r s else hu n σ H0 r s) :
    ∀ r s, r < n → s < n → hu n σ (H.set (σ.getD i 0 * n + j) v) r s = if s < j + 1 then rowE p (hu n σ H0) i k c r s else hu n σ H0 r s := by
  intro r s hr hs
  rw [hu_set h hH hi hj hr hs]
  by_cases e : r = i ∧ s = j
  · obtain ⟨rfl, rfl⟩ := e
    rw [if_pos ⟨rfl, rfl⟩, if_pos (by omega), hv]
  · rw [if_neg e, hI r s hr hs]
    by_cases h1 : s < j
    · rw [if_pos h1, if_pos (by omega)]
    · rw [if_neg h1]
      by_cases h2 : s < j + 1
      · rw [if_pos h2]
        unfold rowE
        rw [if_neg (fun h3 => e ⟨h3, by omega⟩)]
      · rw [if_neg h2]
end Go.Hs
/- Hessenberg's form over a field: what the steps leave as it is. No program here. -/
namespace Go.Hs
open Go.Ch Go.Dt Go.Gf
def zm (h : Nat → Nat → Nat) : MatF := fun i j => ((h i j : Nat) : Int)
theorem mod_dvd (p x : Nat) : (p : Int) ∣ ((x % p : Nat) : Int) - (x : Int) := ⟨-((x / p : Nat) : Int), by have := Nat.div_add_mod x p; rw [Int.mul_neg, ← Int.natCast_mul]; omega⟩
theorem addE_dvd (p x y : Nat) : (p : Int) ∣ ((addE p x y : Nat) : Int) - ((x : Int) + y) := by
  obtain ⟨a, ha⟩ := mod_dvd p x
  obtain ⟨b, hb⟩ := mod_dvd p y
  obtain ⟨c, hc⟩ := mod_dvd p (x % p + y % p)
  refine ⟨a + b + c, ?_⟩
  unfold addE
  rw [Int.mul_add, Int.mul_add, ← ha, ← hb, ← hc]; omega
theorem subE_dvd {p : Nat} (hp : 0 < p) (x y : Nat) : (p : Int) ∣ ((subE p x y : Nat) : Int) - ((x : Int) - y) := by
  obtain ⟨a, ha⟩ := mod_dvd p x
  obtain ⟨b, hb⟩ := mod_dvd p y
  obtain ⟨c, hc⟩ := mod_dvd p (x % p + p - y % p)
  have hy := Nat.mod_lt y hp
  refine ⟨a - b + c + 1, ?_⟩
  unfold subE
  rw [Int.mul_add, Int.mul_add, Int.mul_sub, ← ha, ← hb, ← hc]; omega
theorem dvd_trans' {p a b c : Int} (h : p ∣ a - b) (k : p ∣ b - c) : p ∣ a - c := by
  obtain ⟨x, hx⟩ := h
  obtain ⟨y, hy⟩ := k
  exact ⟨x + y, by rw [Int.mul_add]; omega⟩
theorem mulc_dvd (p c y : Nat) : (p : Int) ∣ ((c * y % p : Nat) : Int) - (c : Int) * (y : Int) := by
  have := mod_dvd p (c * y)
  rwa [Int.natCast_mul] at this
theorem rowE_dvd {p : Nat} (hp : 0 < p) (h : Nat → Nat → Nat) (i k c r s : Nat) : (p : Int) ∣ ((rowE p h i k c r s : Nat) : Int) - clrR (zm h) i k c r s := by
  unfold rowE clrR
  by_cases e : r = i
  · subst e
    rw [if_pos rfl, if_pos rfl]
    obtain ⟨a, ha⟩ := subE_dvd hp (h r s) (c * h k s % p)
    obtain ⟨b, hb⟩ := mulc_dvd p c (h k s)
    refine ⟨a - b, ?_⟩
    unfold zm
    rw [Int.mul_sub, ← ha, ← hb]; omega
  · rw [if_neg e, if_neg e]; exact ⟨0, by unfold zm; omega⟩
theorem clrU_dvd {p : Nat} (hp : 0 < p) (h : Nat → Nat → Nat) (i k c r s : Nat) : (p : Int) ∣ ((clrU p h i k c r s : Nat) : Int) - clrC (clrR (zm h) i k c) i k c r s := by
  unfold clrU colE clrC
  have h1 := rowE_dvd hp h i k c
  by_cases e : s = k
  · subst e
    rw [if_pos rfl, if_pos rfl]
    obtain ⟨a, ha⟩ := addE_dvd p (rowE p h i s c r s) (c * rowE p h i s c r i % p)
    obtain ⟨b, hb⟩ := mulc_dvd p c (rowE p h i s c r i)
    obtain ⟨x, hx⟩ := h1 r s
    obtain ⟨y, hy⟩ := h1 r i
    refine ⟨a + b + x + c * y, ?_⟩
    have e1 : (p : Int) * (c * y) = c * (p * y) := by rw [← Int.mul_assoc, ← Int.mul_assoc, Int.mul_comm (p : Int)]
    rw [Int.mul_add, Int.mul_add, Int.mul_add, e1, ← ha, ← hb, ← hx, ← hy, Int.mul_sub]; omega
  · rw [if_neg e, if_neg e]; exact h1 r s
theorem subE_lt {p : Nat} (hp : 0 < p) (x y : Nat) : subE p x y < p := Nat.mod_lt _ hp
theorem addE_lt {p : Nat} (hp : 0 < p) (x y : Nat) : addE p x y < p := Nat.mod_lt _ hp
theorem subE_zero {p : Nat} (hp : 0 < p) (c : Nat) : subE p 0 (c * 0 % p) = 0 := by
  unfold subE
  rw [Nat.mul_zero, Nat.zero_mod, Nat.zero_mod, Nat.zero_add, Nat.sub_zero, Nat.mod_self]
/-- as far as a column is in form -/
structure HI (p n : Nat) (A : MatF) (h : Nat → Nat → Nat) (k : Nat) : Prop where
  lt : ∀ r s, r < n → s < n → h r s < p
  ch : ∀ m, m ≤ n → (p : Int) ∣ cp n (zm h) m - cp n A m
  low : ∀ r s, r < n → s + 1 < r → s + 1 < k → h r s = 0
variable {p n k : Nat} {A : MatF} {h h' : Nat → Nat → Nat}
theorem HI.ext (H : HI p n A h k) (e : ∀ r s, r < n → s < n → h' r s = h r s) : HI p n A h' k where
  lt := fun r s hr hs => by rw [e r s hr hs]; exact H.lt r s hr hs
  ch := fun m hm => dvd_trans' (cp_dvd (fun i j hi hj => ⟨0, by unfold zm; rw [e i j hi hj]; omega⟩) hm) (H.ch m hm)
  low := fun r s hr h1 h2 => by rw [e r s hr (by omega)]; exact H.low r s hr h1 h2
theorem HI.swap (H : HI p n A h k) {i : Nat} (hi : i < n) (hki : k ≤ i) (e : ∀ r s, r < n → s < n → h' r s = h (ta i k r) (ta i k s)) : HI p n A h' k where
  lt := fun r s hr hs => by rw [e r s hr hs]; exact H.lt _ _ (ta_lt hi (by omega) hr) (ta_lt hi (by omega) hs)
  ch := fun m hm => by
    have ht : tau = ta := by funext a b c; rfl
    have h1 : (p : Int) ∣ cp n (zm h') m - cp n (swpM (zm h) i k) m := cp_dvd (fun r s hr hs => ⟨0, by
      unfold zm swpM
      rw [e r s hr hs, ht]; dsimp only; omega⟩) hm
    rw [cp_swp (zm h) hi (by omega) hm] at h1
    exact dvd_trans' h1 (H.ch m hm)
  low := fun r s hr h1 h2 => by
    rw [e r s hr (by omega)]
    have e1 : ta i k s = s := by unfold ta; rw [if_neg (by omega), if_neg (by omega)]
    rw [e1]
    unfold ta
    by_cases h3 : r = i
    · rw [if_pos h3]; exact H.low k s (by omega) (by omega) h2
    · rw [if_neg h3]
      by_cases h4 : r = k
      · rw [if_pos h4]; exact H.low i s hi (by omega) h2
      · rw [if_neg h4]; exact H.low r s hr h1 h2
theorem HI.clear (hp : 0 < p) (H : HI p n A h k) {i c : Nat} (hi : i < n) (hki : k < i) (e : ∀ r s, r < n → s < n → h' r s = clrU p h i k c r s) : HI p n A h' k where
  lt := fun r s hr hs => by
    rw [e r s hr hs]
    unfold clrU colE
    split
    · exact addE_lt hp _ _
    · unfold rowE
      split
      · exact subE_lt hp _ _
      · exact H.lt r s hr hs
  ch := fun m hm => by
    have h1 : (p : Int) ∣ cp n (zm h') m - cp n (clrC (clrR (zm h) i k c) i k c) m := cp_dvd (fun r s hr hs => by unfold zm; rw [e r s hr hs]; exact clrU_dvd hp h i k c r s) hm
    rw [cp_clr (zm h) hi (by omega) (by omega) c hm] at h1
    exact dvd_trans' h1 (H.ch m hm)
  low := fun r s hr h1 h2 => by
    rw [e r s hr (by omega)]
    unfold clrU colE rowE
    rw [if_neg (show s ≠ k by omega)]
    split
    · rename_i e1
      subst e1
      rw [H.low r s hi h1 h2, H.low k s (by omega) (by omega) h2]; exact subE_zero hp c
    · exact H.low r s hr h1 h2
/-- the number that is cleared -/
theorem clr_zero (hp : Prime p) {x v : Nat} (hx : x < p) (hv : v < p) (hv0 : v ≠ 0) : subE p x (x * inv p v % p * v % p) = 0 := by
  have hp0 : 0 < p := Nat.pos_of_ne_zero (fun e => by subst e; omega)
  have h1 := inv_mul hp (a := v) (by rw [Nat.mod_eq_of_lt hv]; exact hv0)
  have h2 : x * inv p v % p * v % p = x % p := by
    rw [Nat.mod_mul_mod, Nat.mul_assoc, Nat.mul_comm (inv p v) v, Nat.mul_mod, h1, ← Nat.mul_mod, Nat.mul_one]
  unfold subE
  rw [h2, Nat.mod_mod, Nat.add_comm, Nat.add_sub_cancel, Nat.mod_self]
theorem clrU_at (p : Nat) (h : Nat → Nat → Nat) {i k c r s : Nat} (hs : s ≠ k) : clrU p h i k c r s = if r = i then subE p (h i s) (c * h k s % p) else h r s := by
  unfold clrU colE; rw [if_neg hs]; rfl
theorem HI.next (H : HI p n A h k) (h1 : 1 ≤ k) (hz : ∀ r, r < n → k < r → h r (k - 1) = 0) : HI p n A h (k + 1) where
  lt := H.lt
  ch := H.ch
  low := fun r s hr h2 h3 => by
    rcases Nat.lt_or_ge (s + 1) k with g | g
    · exact H.low r s hr h2 g
    · obtain rfl : s = k - 1 := by omega
      exact hz r hr (by omega)
end Go.Hs
/- Polynomials over the whole numbers: what the document's answers are. No program here, but the numbers' cells. -/
namespace Go.Pz
open Go.Nt Go.En
def radd (a b : List Int) : List Int := (List.range (max a.length b.length)).map fun i => cf a i + cf b i
theorem radd_len (a b : List Int) : (radd a b).length = max a.length b.length := by unfold radd; rw [List.length_map, List.length_range]
theorem cf_radd (a b : List Int) (i : Nat) : cf (radd a b) i = cf a i + cf b i := by
  unfold radd
  rw [cf_tab]
  split
  · rfl
  · rw [cf_high (l := a) (by omega), cf_high (l := b) (by omega)]; rfl
def rmul (a b : List Int) : List Int := (List.range (a.length + b.length)).map fun n => mul (cf a) (cf b) n
theorem rmul_len (a b : List Int) : (rmul a b).length = a.length + b.length := by unfold rmul; rw [List.length_map, List.length_range]
theorem cf_rmul (a b : List Int) (i : Nat) : cf (rmul a b) i = mul (cf a) (cf b) i := by
  unfold rmul
  rw [cf_tab]
  split
  · rfl
  · exact (mul_high (A := a.length) (B := b.length) (fun i hi => cf_high hi) (fun i hi => cf_high hi) (by omega)).symm
theorem Bd.radd {a b : List Int} {K : Nat} (h : Bd a K) (k : Bd b K) : Bd (radd a b) (K + 1) := fun i => by
  rw [cf_radd]; have := nz_add (cf a i) (cf b i); have := h i; have := k i; omega
theorem Bd.rmul {a b : List Int} {K L : Nat} (h : Bd a K) (k : Bd b L) : Bd (rmul a b) (K + L + a.length) := fun i => by
  rw [cf_rmul, ← cf_pmul]; exact (Bd.mul h k) i
/-- lists of a size that is looked at -/
def fewB (xs : List (Bool × List Nat)) (n w : Int) : Bool := (xs.take 100).all (fun p => decide ((p.2.length : Int) ≤ w)) && decide ((xs.length : Int) ≤ n)
theorem fewB_no {xs : List (Bool × List Nat)} {n w : Int} {i : Nat} (hi : i < xs.length) (h1 : i < 100) (h : ¬ ((xs.getD i (false, [])).2.length : Int) ≤ w) : fewB xs n w = false := by
  unfold fewB
  have hm : xs.getD i (false, []) ∈ xs.take 100 := by
    rw [List.getD, List.getElem?_eq_getElem hi]
    exact List.mem_take_iff_getElem.2 ⟨i, by omega, rfl⟩
  have : (xs.take 100).all (fun p => decide ((p.2.length : Int) ≤ w)) = false := by
    rw [List.all_eq_false]
    exact ⟨_, hm, by rw [decide_eq_true_eq]; exact h⟩
  rw [this]; rfl
theorem fewB_yes {xs : List (Bool × List Nat)} {n w : Int} {i : Nat} (hi : xs.length ≤ i ∨ 100 ≤ i) (h : ∀ j, j < i → ((xs.getD j (false, [])).2.length : Int) ≤ w) : fewB xs n w = decide ((xs.length : Int) ≤ n) := by
  unfold fewB
  have : (xs.take 100).all (fun p => decide ((p.2.length : Int) ≤ w)) = true := by
    rw [List.all_eq_true]
    intro p hp
    obtain ⟨j, hj, rfl⟩ := List.mem_take_iff_getElem.1 hp
    have := h j (by omega)
    rw [List.getD, List.getElem?_eq_getElem (by omega)] at this
    exact decide_eq_true this
  rw [this]; rfl
theorem fewB_bd {xs : List (Bool × List Nat)} {n w : Int} {N K : Nat} (ok : ∀ p ∈ xs, (∀ y ∈ p.2, y < 18446744073709551616) ∧ p.2.length ≤ 9223372036854775807) (h : fewB xs n w = true) (hn : n = (N : Int)) (hw : w = (K : Int)) (h1 : N ≤ 100) : xs.length ≤ N ∧ Bd (vals xs) K := by
  unfold fewB at h
  rw [Bool.and_eq_true, decide_eq_true_eq, List.all_eq_true] at h
  subst hn; subst hw
  refine ⟨by omega, fun i => ?_⟩
  rw [cf_vals, zv_nw]
  rcases Nat.lt_or_ge i xs.length with hi | hi
  · rw [List.getD, List.getElem?_eq_getElem hi]
    have h2 := h.1 xs[i] (List.mem_take_iff_getElem.2 ⟨i, by omega, rfl⟩)
    rw [decide_eq_true_eq] at h2
    exact Nat.le_trans (nw_val (ok _ (List.getElem_mem hi)).1) (by show xs[i].2.length ≤ K; omega)
  · rw [List.getD, List.getElem?_eq_none (by omega)]
    show (List.length (words (val []))) ≤ K
    rw [show val [] = 0 from rfl, words_zero]; exact Nat.zero_le _
end Go.Pz
/- Polynomials over a field of words, as lists. No program here. -/
namespace Go.Po
open Go.Nt Go.Pz Go.En
/-- elements as whole numbers -/
def zi (l : List Nat) : List Int := l.map fun (n : Nat) => (n : Int)
theorem zi_len (l : List Nat) : (zi l).length = l.length := by unfold zi; rw [List.length_map]
theorem cf_zi (l : List Nat) (i : Nat) : cf (zi l) i = ((l.getD i 0 : Nat) : Int) := by
  unfold cf zi
  rw [List.getD, List.getD, List.getElem?_map]
  cases l[i]? <;> rfl
def mdl (p : Nat) (l : List Int) : List Int := l.map fun x => x % (p : Int)
theorem cf_mdl (p : Nat) (l : List Int) (i : Nat) : cf (mdl p l) i = cf l i % (p : Int) := by
  unfold cf mdl
  rw [List.getD, List.getD, List.getElem?_map]
  cases l[i]? with
  | none => exact (Int.zero_emod _).symm
  | some x => rfl
/-- the normal list over the field -/
def nrm (p : Nat) (l : List Int) : List Nat := (pnorm (mdl p l)).map Int.toNat
theorem nrm_ext {p : Nat} {a b : List Int} (h : ∀ i, cf a i % (p : Int) = cf b i % (p : Int)) : nrm p a = nrm p b := by
  exact congrArg (List.map Int.toNat) (norm_ext (a := mdl p a) (b := mdl p b) fun i => by rw [cf_mdl, cf_mdl]; exact h i)
theorem cf_nrm {p : Nat} (hp : 0 < p) (l : List Int) (i : Nat) : cf (zi (nrm p l)) i = cf l i % (p : Int) := by
  rw [cf_zi]
  have e : (nrm p l).getD i 0 = (cf (pnorm (mdl p l)) i).toNat := by
    unfold nrm cf
    rw [List.getD, List.getD, List.getElem?_map]
    cases (pnorm (mdl p l))[i]? <;> rfl
  rw [e, cf_norm, cf_mdl, Int.toNat_of_nonneg (Int.emod_nonneg _ (by omega))]
theorem nrm_len (p : Nat) (l : List Int) : (nrm p l).length ≤ l.length := by
  unfold nrm
  rw [List.length_map]
  exact Nat.le_trans (norm_len _) (by unfold mdl; rw [List.length_map]; exact Nat.le_refl _)
theorem nrm_zi {p : Nat} (xs : List Nat) : (nrm p (zi xs)).length ≤ xs.length := by rw [← zi_len xs]; exact nrm_len _ _
theorem nrm_nil {p : Nat} {l : List Int} (h : ∀ i, cf l i % (p : Int) = 0) : nrm p l = [] := by
  unfold nrm; rw [norm_nil.2 fun i => by rw [cf_mdl]; exact h i]; rfl
/-- the first elements, in the field -/
def nmU (p : Nat) (xs : List Nat) (n : Nat) : List Nat := (xs.take n).map fun x => x % p
theorem nmU_len {p : Nat} {xs : List Nat} {n : Nat} (h : n ≤ xs.length) : (nmU p xs n).length = n := by unfold nmU; rw [List.length_map, List.length_take]; omega
theorem nmU_get {p : Nat} {xs : List Nat} {n i : Nat} (h : n ≤ xs.length) (hi : i < n) : (nmU p xs n)[i]? = some (xs.getD i 0 % p) := by
  unfold nmU
  rw [List.getElem?_map, List.getElem?_take_of_lt hi, List.getD, List.getElem?_eq_getElem (by omega)]; rfl
theorem nrm_take {p : Nat} {xs : List Nat} {n : Nat} (h0 : n = 0 ∨ xs.getD (n - 1) 0 % p ≠ 0) (hz : ∀ i, n ≤ i → xs.getD i 0 % p = 0) : nmU p xs n = nrm p (zi xs) := by
  have e : ∀ i, cf (mdl p (zi xs)) i = ((xs.getD i 0 % p : Nat) : Int) := fun i => by rw [cf_mdl, cf_zi]; exact (Int.natCast_emod _ _).symm
  unfold nrm
  rw [← take_norm (l := mdl p (zi xs)) (n := n) (h0.imp id fun h => by rw [e]; omega) fun i hi => by rw [e, hz i hi]; rfl]
  unfold nmU mdl zi
  rw [← List.map_take, ← List.map_take, List.map_map, List.map_map]
  refine List.map_congr_left fun x _ => ?_
  show x % p = (((x : Int)) % (p : Int)).toNat
  rw [← Int.natCast_emod]; rfl
/-- place by place -/
def bothU (op : Nat → Nat → Nat) (xs ys : List Nat) : List Nat := (List.range (max xs.length ys.length)).map fun i => op (xs.getD i 0) (ys.getD i 0)
theorem bothU_len (op : Nat → Nat → Nat) (xs ys : List Nat) : (bothU op xs ys).length = max xs.length ys.length := by unfold bothU; rw [List.length_map, List.length_range]
theorem bothU_get {op : Nat → Nat → Nat} {xs ys : List Nat} {i : Nat} (h : i < max xs.length ys.length) : (bothU op xs ys)[i]? = some (op (xs.getD i 0) (ys.getD i 0)) := by
  unfold bothU; rw [List.getElem?_map, List.getElem?_range h]; rfl
theorem getD_high {l : List Nat} {i : Nat} (h : l.length ≤ i) : l.getD i 0 = 0 := by rw [List.getD, List.getElem?_eq_none h]; rfl
theorem bothU_getD {op : Nat → Nat → Nat} (h0 : op 0 0 = 0) (xs ys : List Nat) (i : Nat) : (bothU op xs ys).getD i 0 = op (xs.getD i 0) (ys.getD i 0) := by
  rcases Nat.lt_or_ge i (max xs.length ys.length) with h | h
  · rw [List.getD, bothU_get h]; rfl
  · rw [getD_high (by rw [bothU_len]; exact h), getD_high (show xs.length ≤ i by omega), getD_high (show ys.length ≤ i by omega), h0]
/-- products -/
theorem mul_mod {p : Int} : ∀ (n : Nat) {f f' g g' : Nat → Int}, (∀ i, f i % p = f' i % p) → (∀ i, g i % p = g' i % p) → mul f g n % p = mul f' g' n % p
  | 0, f, f', g, g', h, k => by show (f 0 * g 0) % p = (f' 0 * g' 0) % p; rw [Int.mul_emod, h, k, ← Int.mul_emod]
  | n + 1, f, f', g, g', h, k => by
    show (f 0 * g (n + 1) + mul (fun i => f (i + 1)) g n) % p = (f' 0 * g' (n + 1) + mul (fun i => f' (i + 1)) g' n) % p
    rw [Int.add_emod, Int.mul_emod, h, k, mul_mod n (f' := fun i => f' (i + 1)) (fun i => h (i + 1)) k, ← Int.mul_emod, ← Int.add_emod]
def rwU (p : Nat) (A B : List Nat) (i k : Nat) : List Nat := (rowL (cf (zi A)) (cf (zi B)) (A.length + B.length - 1) i k).map fun z => (z % (p : Int)).toNat
abbrev rvU (p : Nat) (A B : List Nat) (i k : Nat) : Nat := (rowV (cf (zi A)) (cf (zi B)) i k (i + k) % (p : Int)).toNat
theorem rwU_len (p : Nat) (A B : List Nat) (i k : Nat) : (rwU p A B i k).length = A.length + B.length - 1 := by unfold rwU; rw [List.length_map, rowL_len]
theorem rwU_zero (p : Nat) (A B : List Nat) : rwU p A B 0 0 = List.replicate (A.length + B.length - 1) 0 := by
  unfold rwU; rw [rowL_zero, List.map_replicate, Int.zero_emod]; rfl
theorem rwU_next (p : Nat) (A B : List Nat) (i : Nat) : rwU p A B i B.length = rwU p A B (i + 1) 0 := by
  unfold rwU; rw [rowL_next (fun n hn => cf_high (by rw [zi_len]; exact hn))]
theorem rwU_get (p : Nat) {A B : List Nat} {i k : Nat} (h : i + k < A.length + B.length - 1) : (rwU p A B i k)[i + k]? = some (rvU p A B i k) := by
  unfold rwU; rw [List.getElem?_map, rowL_get _ _ _ _ h]; rfl
theorem mulU_step {p : Nat} (hp : 0 < p) (v : Int) (x y : Nat) : ((v % (p : Int)).toNat % p + (x * y % p) % p) % p = ((v + (x : Int) * (y : Int)) % (p : Int)).toNat := by
  have h : ((((v % (p : Int)).toNat % p + (x * y % p) % p) % p : Nat) : Int) = (v + (x : Int) * (y : Int)) % (p : Int) := by
    simp only [Int.natCast_emod, Int.natCast_add, Int.natCast_mul, Int.toNat_of_nonneg (Int.emod_nonneg v (show (p : Int) ≠ 0 by omega)), Int.emod_emod, ← Int.add_emod]
  rw [← h]; rfl
theorem rwU_set {p : Nat} (hp : 0 < p) {A B : List Nat} {i k : Nat} (h : i + k < A.length + B.length - 1) : (rwU p A B i k).set (i + k) ((rvU p A B i k % p + (A.getD i 0 * B.getD k 0 % p) % p) % p) = rwU p A B i (k + 1) := by
  rw [mulU_step hp]
  unfold rwU
  rw [← rowL_set _ _ h, List.map_set, cf_zi, cf_zi]
theorem mul_nrm {p : Nat} (hp : 0 < p) {xs ys A B : List Nat} (hA : A = nrm p (zi xs)) (hB : B = nrm p (zi ys)) : nrm p (zi (rwU p A B A.length 0)) = nrm p (rmul (zi xs) (zi ys)) :=
  nrm_ext fun i => by
    have h1 : ∀ j, cf (zi A) j % (p : Int) = cf (zi xs) j % (p : Int) := fun j => by rw [hA, cf_nrm hp, Int.emod_emod]
    have h2 : ∀ j, cf (zi B) j % (p : Int) = cf (zi ys) j % (p : Int) := fun j => by rw [hB, cf_nrm hp, Int.emod_emod]
    rw [cf_rmul, ← mul_mod i h1 h2, cf_zi]
    have e : (rwU p A B A.length 0) = (List.range (A.length + B.length - 1)).map fun n => (mul (cf (zi A)) (cf (zi B)) n % (p : Int)).toNat := by
      unfold rwU
      rw [rowL_all (A := A.length) (fun i hi => cf_high (by rw [zi_len]; exact hi)), List.map_map]; rfl
    rw [e]
    rcases Nat.lt_or_ge i (A.length + B.length - 1) with h | h
    · rw [List.getD, List.getElem?_map, List.getElem?_range h]
      show (((mul (cf (zi A)) (cf (zi B)) i % (p : Int)).toNat : Nat) : Int) % (p : Int) = _
      rw [Int.toNat_of_nonneg (Int.emod_nonneg _ (by omega)), Int.emod_emod]
    · rw [getD_high (by rw [List.length_map, List.length_range]; exact h), mul_high (A := A.length) (B := B.length) (fun j hj => cf_high (by rw [zi_len]; exact hj)) (fun j hj => cf_high (by rw [zi_len]; exact hj)) (by omega)]
      rfl
theorem zmul (g : Nat → Int) (n : Nat) : mul (cf (zi [])) g n = 0 := (mul_congr (f := cf (zi [])) (f' := fun _ => 0) (g := g) (g' := g) (fun i => by rw [cf_zi]; rfl) (fun _ => rfl) n).trans (zero_mul g n)
theorem mul_none {p : Nat} (hp : 0 < p) {xs ys : List Nat} (h : nrm p (zi xs) = [] ∨ nrm p (zi ys) = []) : nrm p (rmul (zi xs) (zi ys)) = [] :=
  nrm_nil fun i => by
    have h1 : ∀ j, cf (zi (nrm p (zi xs))) j % (p : Int) = cf (zi xs) j % (p : Int) := fun j => by rw [cf_nrm hp, Int.emod_emod]
    have h2 : ∀ j, cf (zi (nrm p (zi ys))) j % (p : Int) = cf (zi ys) j % (p : Int) := fun j => by rw [cf_nrm hp, Int.emod_emod]
    rw [cf_rmul, ← mul_mod i h1 h2]
    rcases h with h | h
    · rw [h, zmul]; rfl
    · rw [h, mul_comm, zmul]; rfl
/-- whole numbers' elements -/
def redU (p : Nat) (l : List Int) (k : Nat) : List Nat := (l.take k).map fun z => (z % (p : Int)).toNat
theorem redU_len {p : Nat} {l : List Int} {k : Nat} (h : k ≤ l.length) : (redU p l k).length = k := by unfold redU; rw [List.length_map, List.length_take]; omega
theorem redU_succ (p : Nat) {l : List Int} {k : Nat} (h : k < l.length) : redU p l k ++ [(cf l k % (p : Int)).toNat] = redU p l (k + 1) := by
  unfold redU
  rw [List.take_succ_eq_append_getElem h, List.map_append]
  unfold cf
  rw [List.getD, List.getElem?_eq_getElem h]; rfl
theorem red_nrm {p : Nat} (hp : 0 < p) {l : List Int} {k : Nat} (h : l.length ≤ k) : nrm p (zi (redU p l k)) = nrm p l :=
  nrm_ext fun i => by
    unfold redU
    rw [cf_zi, List.take_of_length_le h]
    unfold cf
    rw [List.getD, List.getD, List.getElem?_map]
    cases l[i]? with
    | none => rfl
    | some x =>
      show (((x % (p : Int)).toNat : Nat) : Int) % (p : Int) = x % (p : Int)
      rw [Int.toNat_of_nonneg (Int.emod_nonneg _ (by omega)), Int.emod_emod]
theorem eqL {a b : List Nat} (h : a.length = b.length) (k : ∀ i, i < a.length → a.getD i 0 = b.getD i 0) : a = b := by
  apply List.ext_getElem h
  intro i h1 h2
  have := k i h1
  rwa [List.getD, List.getD, List.getElem?_eq_getElem h1, List.getElem?_eq_getElem h2] at this
end Go.Po
/- Polynomials over the whole numbers: what the laws of layer 10 say. No program here, but the numbers' cells. -/
namespace Go.Pz
open Go.Nt Go.En
theorem cf_one (c : Int) (i : Nat) : cf [c] i = if i = 0 then c else 0 := by
  cases i with
  | zero => rfl
  | succ i => rw [cf_succ, cf_nil, if_neg (by omega)]
theorem mul_one_left (c : Int) (g : Nat → Int) (n : Nat) : mul (cf [c]) g n = c * g n := by
  have := mul_shift n c g
  have h := mul_congr (f := cf [c]) (f' := cf (pshift [c] 0)) (g := g) (g' := g) (fun i => rfl) (fun _ => rfl) n
  rw [h, mul_shift, if_neg (Nat.not_lt_zero _), Nat.sub_zero]
theorem mul_one_right (c : Int) (g : Nat → Int) (n : Nat) : mul g (cf [c]) n = g n * c := by rw [mul_comm, mul_one_left, Int.mul_comm]
end Go.Pz
/- Hessenberg's form and its characteristic polynomial, row by row. No program here. -/
namespace Go.Hs
open Go.Ch Go.Dt Go.Gf Go.Pz Go.Po Go.Nt
theorem emod_dvd {p a b : Int} (h : p ∣ a - b) : a % p = b % p := Int.emod_eq_emod_iff_emod_sub_eq_zero.2 (Int.emod_eq_zero_of_dvd h)
theorem sub_nrm {p : Nat} (hp : 0 < p) (xs ys : List Nat) : nrm p (zi (bothU (fun x y => (x % p + p - y % p) % p) xs ys)) = nrm p (radd (zi xs) (rmul [-1] (zi ys))) :=
  nrm_ext fun i => by
    rw [cf_zi, bothU_getD (by rw [Nat.zero_mod, Nat.zero_add, Nat.sub_zero, Nat.mod_self]), cf_radd, cf_rmul, mul_one_left, cf_zi, cf_zi]
    have := subE_dvd hp (xs.getD i 0) (ys.getD i 0)
    have e := emod_dvd this
    unfold subE at e
    rw [e]; congr 1; omega
def sclU (p : Nat) (xs : List Nat) (c : Nat) : List Nat := xs.map fun x => x * c % p
theorem sclU_len (p : Nat) (xs : List Nat) (c : Nat) : (sclU p xs c).length = xs.length := by unfold sclU; rw [List.length_map]
theorem sclU_get (p : Nat) {xs : List Nat} {c i : Nat} (h : i < xs.length) : (sclU p xs c)[i]? = some (xs.getD i 0 * c % p) := by
  unfold sclU; rw [List.getElem?_map, List.getD_eq_getElem?_getD, List.getElem?_eq_getElem h]; rfl
theorem scl_nrm (p : Nat) (xs : List Nat) (c : Nat) : nrm p (zi (sclU p xs c)) = nrm p (rmul (zi xs) [(c : Int)]) :=
  nrm_ext fun i => by
    rw [cf_zi, cf_rmul, mul_one_right, cf_zi]
    rcases Nat.lt_or_ge i xs.length with h | h
    · rw [List.getD_eq_getElem?_getD, sclU_get p h]
      have := mod_dvd p (xs.getD i 0 * c)
      show ((xs.getD i 0 * c % p : Nat) : Int) % (p : Int) = _
      rw [emod_dvd this, Int.natCast_mul]
    · rw [getD_high (by rw [sclU_len]; exact h), getD_high h]; simp
/-! ### row by row -/
def wst (A : Nat → Nat → Int) (l : List (List Int)) (k : Nat) : Nat → List Int × Int
  | 0 => (rmul [-(A k k), 1] (l.getD k []), 1)
  | t + 1 => (radd (wst A l k t).1 (rmul [-1] (rmul (l.getD (k - 1 - t) []) [(wst A l k t).2 * A (k - 1 - t + 1) (k - 1 - t) * A (k - 1 - t) k])), (wst A l k t).2 * A (k - 1 - t + 1) (k - 1 - t))
def chl (A : Nat → Nat → Int) : Nat → List (List Int)
  | 0 => [[1]]
  | k + 1 => chl A k ++ [(wst A (chl A k) k k).1]
theorem chl_len (A : Nat → Nat → Int) : ∀ k, (chl A k).length = k + 1
  | 0 => rfl
  | k + 1 => by unfold chl; rw [List.length_append, chl_len A k]; rfl
theorem chl_get (A : Nat → Nat → Int) {k j : Nat} (h : j ≤ k) : (chl A k).getD j [] = (chl A j).getD j [] := by
  induction k with
  | zero => rw [show j = 0 by omega]
  | succ k ih =>
    rcases Nat.lt_or_ge k j with g | g
    · rw [show j = k + 1 by omega]
    · rw [← ih g]
      show (chl A k ++ _).getD j [] = _
      rw [List.getD_eq_getElem?_getD, List.getElem?_append_left (by rw [chl_len]; omega), ← List.getD_eq_getElem?_getD]
theorem chl_top (A : Nat → Nat → Int) (k : Nat) : (chl A (k + 1)).getD (k + 1) [] = (wst A (chl A k) k k).1 := by
  show (chl A k ++ _).getD (k + 1) [] = _
  rw [List.getD_eq_getElem?_getD, List.getElem?_append_right (by rw [chl_len]; exact Nat.le_refl _), chl_len, Nat.sub_self]; rfl
theorem wst_len {A : Nat → Nat → Int} {l : List (List Int)} {k B : Nat} (h : ∀ j, (l.getD j []).length ≤ B) : ∀ t, (wst A l k t).1.length ≤ B + 2
  | 0 => by unfold wst; rw [rmul_len]; have := h k; simp only [List.length_cons, List.length_nil]; omega
  | t + 1 => by
    unfold wst
    rw [radd_len, rmul_len, rmul_len]
    have := wst_len h (A := A) (k := k) t
    have := h (k - 1 - t)
    simp only [List.length_cons, List.length_nil]; omega
theorem chl_bd (A : Nat → Nat → Int) : ∀ k j, ((chl A k).getD j []).length ≤ 1 + 2 * k
  | 0, j => by cases j <;> simp [chl]
  | k + 1, j => by
    rcases Nat.lt_trichotomy j (k + 1) with h | h | h
    · rw [chl_get A (show j ≤ k + 1 by omega), ← chl_get A (show j ≤ k by omega)]
      have := chl_bd A k j; omega
    · subst h; rw [chl_top]
      have := wst_len (chl_bd A k) (A := A) (k := k) k; omega
    · rw [List.getD_eq_getElem?_getD, List.getElem?_eq_none (by rw [chl_len]; omega)]; simp
/-- what a power's number is -/
noncomputable def cq (A : Nat → Nat → Int) (j m : Nat) : Int := if m ≤ j then cp j A m else 0
theorem cq_ev (A : Nat → Nat → Int) {j N : Nat} (h : j < N) (x : Int) : pe (cq A j) N x = det j (xm A x) := by
  induction N with
  | zero => omega
  | succ N ih =>
    rcases Nat.lt_or_ge j N with g | g
    · rw [pe_succ, ih g]
      unfold cq; rw [if_neg (by omega), Int.zero_mul, Int.add_zero]
    · obtain rfl : j = N := by omega
      rw [cp_ev]
      exact pe_congr (fun i hi => if_pos (by omega)) x
theorem wst_cf (A : Nat → Nat → Int) (l : List (List Int)) (k : Nat) (hl : ∀ j m, j ≤ k → cf (l.getD j []) m = cq A j m) (m : Nat) : ∀ t, t ≤ k → cf (wst A l k t).1 m = (if m = 0 then 0 else cq A k (m - 1)) - A k k * cq A k m - sm t fun u => (wst A l k (u + 1)).2 * A (k - 1 - u) k * cq A (k - 1 - u) m
  | 0, _ => by
    unfold wst sm
    rw [cf_rmul]
    have e : ∀ m, mul (cf [-(A k k), 1]) (cf (l.getD k [])) m = (if m = 0 then 0 else cf (l.getD k []) (m - 1)) - A k k * cf (l.getD k []) m := by
      intro m
      cases m with
      | zero => show cf [-(A k k), 1] 0 * _ = _; rw [if_pos rfl, cf_zero, Int.neg_mul]; omega
      | succ m =>
        show cf [-(A k k), 1] 0 * cf _ (m + 1) + mul (fun i => cf [-(A k k), 1] (i + 1)) _ m = _
        have e2 : mul (fun i => cf [-(A k k), 1] (i + 1)) (cf (l.getD k [])) m = mul (cf [1]) (cf (l.getD k [])) m := mul_congr (fun i => cf_succ _ _ _) (fun _ => rfl) m
        rw [e2, mul_one_left, cf_zero, if_neg (by omega), Int.neg_mul, Int.one_mul, Nat.add_sub_cancel]; omega
    rw [e, hl k _ (Nat.le_refl _), hl k _ (Nat.le_refl _)]; omega
  | t + 1, ht => by
    have h1 := wst_cf A l k hl m t (by omega)
    show cf (radd (wst A l k t).1 _) m = _ - (sm t _ + _)
    rw [cf_radd, h1, cf_rmul, mul_one_left, cf_rmul, mul_one_right, hl _ _ (by omega)]
    have e : (wst A l k (t + 1)).2 = (wst A l k t).2 * A (k - 1 - t + 1) (k - 1 - t) := rfl
    dsimp only
    rw [e, Int.mul_comm (cq A (k - 1 - t) m)]; omega
/-- the recurrence, where it holds -/
def Rec (A : Nat → Nat → Int) (k : Nat) : Prop := ∀ (b : Nat → Int), b 0 = 1 → (∀ t, t < k → b (t + 1) = b t * A (k - 1 - t + 1) (k - 1 - t)) → ∀ x, det (k + 1) (xm A x) = x * det k (xm A x) - A k k * det k (xm A x) - sm k fun u => b (u + 1) * A (k - 1 - u) k * det (k - 1 - u) (xm A x)
theorem chl_cf (A : Nat → Nat → Int) : ∀ k, (∀ j, j < k → Rec A j) → ∀ j m, j ≤ k → cf ((chl A k).getD j []) m = cq A j m
  | 0, _, j, m, hj => by
    obtain rfl : j = 0 := by omega
    show cf [1] m = _
    rw [cf_one]
    unfold cq
    cases m with
    | zero => rw [if_pos rfl, if_pos (Nat.le_refl _), cp_top]
    | succ m => rw [if_neg (by omega), if_neg (by omega)]
  | k + 1, h, j, m, hj => by
    have ih := chl_cf A k fun j hj => h j (by omega)
    rcases Nat.lt_or_ge k j with g | g
    · obtain rfl : j = k + 1 := by omega
      rw [chl_top, wst_cf A _ k ih m k (Nat.le_refl _)]
      have hR := h k (by omega) (fun t => (wst A (chl A k) k t).2) rfl (fun t _ => rfl)
      have key : ∀ N x, k + 2 ≤ N → pe (fun m => (if m = 0 then 0 else cq A k (m - 1)) - A k k * cq A k m - sm k fun u => (wst A (chl A k) k (u + 1)).2 * A (k - 1 - u) k * cq A (k - 1 - u) m) N x = pe (cq A (k + 1)) N x := by
        intro N x hN
        rw [cq_ev A (show k + 1 < N by omega), hR x]
        obtain ⟨N', rfl⟩ : ∃ N', N = N' + 1 := ⟨N - 1, by omega⟩
        have e1 : pe (fun m => if m = 0 then 0 else cq A k (m - 1)) (N' + 1) x = x * det k (xm A x) := by
          rw [pe_left, if_pos rfl, Int.zero_add, ← cq_ev A (show k < N' by omega)]
          congr 1
        have e2 : pe (fun m => sm k fun u => (wst A (chl A k) k (u + 1)).2 * A (k - 1 - u) k * cq A (k - 1 - u) m) (N' + 1) x = sm k fun u => (wst A (chl A k) k (u + 1)).2 * A (k - 1 - u) k * det (k - 1 - u) (xm A x) := by
          rw [← sm_pe k (N' + 1) (fun u => (wst A (chl A k) k (u + 1)).2 * A (k - 1 - u) k) (fun u => cq A (k - 1 - u)) x]
          exact sm_congr fun u hu => by rw [cq_ev A (show k - 1 - u < N' + 1 by omega)]
        have e3 : pe (fun m => (if m = 0 then 0 else cq A k (m - 1)) - A k k * cq A k m - sm k fun u => (wst A (chl A k) k (u + 1)).2 * A (k - 1 - u) k * cq A (k - 1 - u) m) (N' + 1) x = pe (fun m => 1 * (1 * (if m = 0 then 0 else cq A k (m - 1)) + -(A k k) * cq A k m) + -1 * (sm k fun u => (wst A (chl A k) k (u + 1)).2 * A (k - 1 - u) k * cq A (k - 1 - u) m)) (N' + 1) x :=
          pe_congr (fun m _ => by
            generalize (sm k fun u => (wst A (chl A k) k (u + 1)).2 * A (k - 1 - u) k * cq A (k - 1 - u) m) = z
            rw [Int.neg_mul]; omega) x
        rw [e3, pe_lin, pe_lin, e1, e2, cq_ev A (show k < N' + 1 by omega)]
        generalize (sm k fun u => (wst A (chl A k) k (u + 1)).2 * A (k - 1 - u) k * det (k - 1 - u) (xm A x)) = z
        rw [Int.neg_mul]; omega
      exact pe_inj (fun x => key (m + k + 2) x (by omega)) m (by omega)
    · rw [chl_get A (show j ≤ k + 1 by omega), ← chl_get A g]
      exact ih j m g
/-! ### up to four rows -/
theorem xm_at (A : MatF) (x : Int) (i j : Nat) : xm A x i j = one i j * x + -(A i j) := rfl
theorem rec0 (A : MatF) : Rec A 0 := by
  intro b _ _ x
  simp only [det, sm, sg, skip, xm_at, one]
  simp
  try omega
theorem rec1 (A : MatF) : Rec A 1 := by
  intro b h0 h x
  have h1 := h 0 (by omega)
  simp only [h0] at h1
  simp only [det, sm, sg, skip, xm_at, one, h1]
  simp
  rw [show det 0 (xm A x) = 1 from rfl]
  grind
theorem rec2 (A : MatF) (hz : ∀ r s, r < 3 → s + 1 < r → A r s = 0) : Rec A 2 := by
  intro b h0 h x
  have h1 := h 0 (by omega)
  have h2 := h 1 (by omega)
  have z1 := hz 2 0 (by omega) (by omega)
  simp only [h0] at h1
  simp only [h1] at h2
  simp only [det, sm, sg, skip, xm_at, one, h1, h2]
  simp [z1]
  rw [show det 0 (xm A x) = 1 from rfl]
  grind
theorem rec3 (A : MatF) (hz : ∀ r s, r < 4 → s + 1 < r → A r s = 0) : Rec A 3 := by
  intro b h0 h x
  have h1 := h 0 (by omega)
  have h2 := h 1 (by omega)
  have h3 := h 2 (by omega)
  have z1 := hz 2 0 (by omega) (by omega)
  have z2 := hz 3 0 (by omega) (by omega)
  have z3 := hz 3 1 (by omega) (by omega)
  simp only [h0] at h1
  simp only [h1] at h2
  simp only [h2] at h3
  simp only [det, sm, sg, skip, xm_at, one, h1, h2, h3]
  simp [z1, z2, z3]
  rw [show det 0 (xm A x) = 1 from rfl]
  grind
end Go.Hs
/- Hessenberg's form: words of polynomials; what the walk and the plain law say of one another. No program here. -/
namespace Go.Hs
open Go.Ch Go.Dt Go.Gf Go.Pz Go.Po Go.Nt Go.Mz
theorem nrm_mul2 {p : Nat} (hp : 0 < p) {a a' b : List Int} (h : ∀ i, cf a i % (p : Int) = cf a' i % (p : Int)) : nrm p (rmul a (zi (nrm p b))) = nrm p (rmul a' b) :=
  nrm_ext fun i => by
    rw [cf_rmul, cf_rmul]
    exact mul_mod i h fun i => by rw [cf_nrm hp, Int.emod_emod_of_dvd _ (Int.dvd_refl _)]
theorem nrm_scl2 {p : Nat} (hp : 0 < p) {l : List Int} {c C : Int} (h : c % (p : Int) = C % (p : Int)) : nrm p (rmul (zi (nrm p l)) [c]) = nrm p (rmul l [C]) :=
  nrm_ext fun i => by
    rw [cf_rmul, cf_rmul, mul_one_right, mul_one_right, cf_nrm hp, Int.mul_emod, Int.emod_emod_of_dvd _ (Int.dvd_refl _), h, ← Int.mul_emod]
theorem nrm_sub2 {p : Nat} (hp : 0 < p) (a b : List Int) : nrm p (radd (zi (nrm p a)) (rmul [-1] (zi (nrm p b)))) = nrm p (radd a (rmul [-1] b)) :=
  nrm_ext fun i => by
    rw [cf_radd, cf_radd, cf_rmul, cf_rmul, mul_one_left, mul_one_left, cf_nrm hp, cf_nrm hp]
    refine emod_dvd ?_
    obtain ⟨x, hx⟩ : (p : Int) ∣ cf a i % (p : Int) - cf a i := ⟨-(cf a i / p), by have := Int.mul_ediv_add_emod (cf a i) p; rw [Int.mul_neg]; omega⟩
    obtain ⟨y, hy⟩ : (p : Int) ∣ cf b i % (p : Int) - cf b i := ⟨-(cf b i / p), by have := Int.mul_ediv_add_emod (cf b i) p; rw [Int.mul_neg]; omega⟩
    exact ⟨x - y, by rw [Int.mul_sub, ← hx, ← hy]; omega⟩
variable {n : Nat} {σ H : List Nat}
theorem first_nrm {p : Nat} (hp : 0 < p) (a : Nat) (b : List Int) : nrm p (rmul (zi [(p - a % p) % p, 1]) (zi (nrm p b))) = nrm p (rmul [-(a : Int), 1] b) :=
  nrm_mul2 hp fun i => by
    cases i with
    | zero =>
      show (((p - a % p) % p : Nat) : Int) % (p : Int) = (-(a : Int)) % (p : Int)
      obtain ⟨x, hx⟩ := mod_dvd p (p - a % p)
      obtain ⟨y, hy⟩ := mod_dvd p a
      have ha := Nat.mod_lt a hp
      exact emod_dvd ⟨x + 1 - y, by rw [Int.mul_sub, Int.mul_add, ← hx, ← hy]; omega⟩
    | succ i => rfl
theorem by_step {p : Nat} (hp : 0 < p) (B : Int) (a : Nat) : (B % (p : Int)).toNat * a % p = ((B * (a : Int)) % (p : Int)).toNat := by
  have h1 := Int.emod_nonneg B (show (p : Int) ≠ 0 by omega)
  have h2 : (((B % (p : Int)).toNat * a % p : Nat) : Int) = (B * (a : Int)) % (p : Int) := by
    rw [Int.natCast_emod, Int.natCast_mul, Int.toNat_of_nonneg h1, Int.mul_emod, Int.emod_emod_of_dvd _ (Int.dvd_refl _), ← Int.mul_emod]
  rw [← h2, Int.toNat_natCast]
theorem by_cast {p : Nat} (hp : 0 < p) (B : Int) (a : Nat) : (((B % (p : Int)).toNat * a % p : Nat) : Int) % (p : Int) = (B * (a : Int)) % (p : Int) := by
  have h1 := Int.emod_nonneg (B * (a : Int)) (show (p : Int) ≠ 0 by omega)
  rw [by_step hp, Int.toNat_of_nonneg h1, Int.emod_emod_of_dvd _ (Int.dvd_refl _)]
open Go.En in
theorem rowsH_len (hS : SV n σ) : (rowsH n σ H).length = n := by unfold rowsH; rw [List.length_map, hS.len]
open Go.En in
theorem rowsH_get (hS : SV n σ) {r : Nat} (hr : r < n) : (rowsH n σ H).getD r [] = (H.drop (σ.getD r 0 * n)).take n := by
  have hl := hS.len
  unfold rowsH
  rw [List.getD_eq_getElem?_getD, List.getElem?_map, List.getD_eq_getElem?_getD, List.getElem?_eq_getElem (show r < σ.length by omega)]; rfl
open Go.En in
theorem rowsH_row (hS : SV n σ) (hH : H.length = n * n) {r : Nat} (hr : r < n) : ((rowsH n σ H).getD r []).length = n := by
  rw [rowsH_get hS hr, List.length_take, List.length_drop]
  have h1 : (σ.getD r 0 + 1) * n ≤ n * n := Nat.mul_le_mul_right n (hS.lt r hr)
  rw [Nat.succ_mul] at h1; omega
open Go.En in
theorem rowsH_at (hS : SV n σ) (hH : H.length = n * n) {r s : Nat} (hr : r < n) (hs : s < n) : ((rowsH n σ H).getD r []).getD s 0 = hu n σ H r s := by
  rw [rowsH_get hS hr, List.getD_eq_getElem?_getD, List.getElem?_take_of_lt hs, List.getElem?_drop, ← List.getD_eq_getElem?_getD]; rfl
theorem lsm_at {p : Nat} {ls : List (List Int)} {j : Nat} (h : j < ls.length) : (ls.map (nrm p))[j]? = some (nrm p (ls.getD j [])) := by
  rw [List.getElem?_map, List.getD_eq_getElem?_getD, List.getElem?_eq_getElem h]; rfl
theorem nrm_one {p : Nat} (h : 2 ≤ p) : nrm p [1] = [1] := by
  unfold nrm mdl
  show (pnorm [1 % (p : Int)]).map Int.toNat = [1]
  rw [Int.emod_eq_of_lt (by omega) (by omega)]; rfl
/-- the polynomial of what has been turned is that of the matrix -/
theorem chl_nrm {p n k : Nat} {A : MatF} {h : Nat → Nat → Nat} (hp : 0 < p) (hn : n ≤ 4) (hI : HI p n A h k) (hlow : ∀ r s, r < n → s + 1 < r → h r s = 0) : nrm p ((chl (zm h) n).getD n []) = nrm p ((List.range (n + 1)).map (cp n A)) := by
  have hz : ∀ r s, r < n → s + 1 < r → zm h r s = 0 := fun r s hr hs => by unfold zm; rw [hlow r s hr hs]; rfl
  have hrec : ∀ j, j < n → Rec (zm h) j := by
    intro j hj
    match j, hj with
    | 0, _ => exact rec0 _
    | 1, _ => exact rec1 _
    | 2, hj => exact rec2 _ fun r s hr hs => hz r s (by omega) hs
    | 3, hj => exact rec3 _ fun r s hr hs => hz r s (by omega) hs
    | j + 4, hj => omega
  refine nrm_ext fun i => ?_
  rw [chl_cf (zm h) n hrec n i (Nat.le_refl _)]
  unfold cq
  rcases Nat.lt_or_ge n i with g | g
  · rw [if_neg (by omega)]
    have : cf ((List.range (n + 1)).map (cp n A)) i = 0 := cf_high (by rw [List.length_map, List.length_range]; omega)
    rw [this]
  · rw [if_pos g]
    have : cf ((List.range (n + 1)).map (cp n A)) i = cp n A i := by
      show ((List.range (n + 1)).map (cp n A)).getD i 0 = _
      rw [List.getD_eq_getElem?_getD, List.getElem?_map, List.getElem?_range (by omega)]; rfl
    rw [this]
    exact emod_dvd (hI.ch i g)
theorem HI_start {p n : Nat} {A : MatF} {xs : List Nat} (hp : 0 < p) (h : ∀ i j, i < n → j < n → (p : Int) ∣ ((xs.getD (i * n + j) 0 : Nat) : Int) - A i j) : HI p n A (hu n (List.range n) (Go.Mu.tabU (n * n) n fun i k => xs.getD (i * n + k) 0 % p)) 1 := by
  have hg : ∀ r, r < n → (List.range n).getD r 0 = r := fun r hr => by rw [List.getD_eq_getElem?_getD, List.getElem?_range hr]; rfl
  have e : ∀ r s, r < n → s < n → hu n (List.range n) (Go.Mu.tabU (n * n) n fun i k => xs.getD (i * n + k) 0 % p) r s = xs.getD (r * n + s) 0 % p := fun r s hr hs => by
    unfold hu
    rw [hg r hr]
    exact Go.Mu.tabU_place _ hs (place_lt hr hs)
  refine ⟨fun r s hr hs => by rw [e r s hr hs]; exact Nat.mod_lt _ hp, fun m hm => cp_dvd (fun i j hi hj => ?_) hm, fun r s _ _ h2 => by omega⟩
  unfold zm
  rw [e i j hi hj]
  exact dvd_trans' (mod_dvd p _) (h i j hi hj)
end Go.Hs
/- From a contract to the given statement of a law. -/
namespace Go.En
open Go.RowKit Go.ChangeShapes Go.WideShapes Go.ChangeAt
set_option linter.unusedVariables false
section
variable {H : Type} {enc : TypeId × Value → H} {P : Program}
theorem trodAll_below (hl : laidOutB P = true) {W W' : World} (hb : Below W.heap.size W W') : ∀ {ts : List TypeId} {vs : List Value} {ds : List (DataW H)} {ps : List MemPlace},
    (ts.all fun t => P.readableRec t && decide (t < P.types.size)) = true → DataW.TrodAll enc P W 0 (fun _ => true) true ts vs ds ps → (∀ x ∈ ps, x.block < W.heap.size) →
    DataW.TrodAll enc P W' 0 (fun b => decide (b < W.heap.size)) true ts vs ds ps
  | [], vs, ds, ps, _, h, _ => by
    obtain ⟨rfl, rfl, rfl⟩ := trodAll_nil h; exact trodAll_mk0
  | t :: ts, vs, ds, ps, hr, h, hp => by
    obtain ⟨v, vs', d, ds', p, q, rfl, rfl, rfl, h1, h2⟩ := trodAll_cons h
    simp only [List.all_cons, Bool.and_eq_true] at hr
    exact trodAll_cons_mk (Below.trod hl hr.1.1 (of_decide_eq_true hr.1.2) h1 hb (fun x hx => hp x (by simp [hx]))) (trodAll_below hl hb hr.2 h2 (fun x hx => hp x (by simp [hx])))
theorem trodAll_len : ∀ {ts : List TypeId} {vs : List Value} {ds : List (DataW H)} {ps : List MemPlace} {W : World} {base : Nat} {sp : Nat → Bool} {hd : Bool}, DataW.TrodAll enc P W base sp hd ts vs ds ps → vs.length = ts.length ∧ ds.length = ts.length
  | [], vs, ds, ps, _, _, _, _, h => by obtain ⟨rfl, rfl, rfl⟩ := trodAll_nil h; exact ⟨rfl, rfl⟩
  | t :: ts, vs, ds, ps, _, _, _, _, h => by
    obtain ⟨v, vs', d, ds', p, q, rfl, rfl, rfl, h1, h2⟩ := trodAll_cons h
    have := trodAll_len h2
    exact ⟨by simp [this.1], by simp [this.2]⟩
/-- what a law's arguments are, as predicates -/
def Opens (P : Program) (fn : Func) (f : FuncId) : Prop := ∀ (H : Type) (enc : TypeId × Value → H) (W : World) (base : Nat) (args : Array Value) (ds : List (DataW H)) (ps : List MemPlace),
  (∀ (j : Nat) t v, fn.params[j]? = some t → args[j]? = some v → Value.okWide P W .any base t v) → DataW.TrodAll enc P W 0 (fun _ => true) true fn.params.toList args.toList ds ps →
  (∀ x ∈ ps, x.block < W.heap.size) → ∃ Ss, All2 Ss W (fun b => b < W.heap.size) args.toList ∧ Ctr P f Ss (isB true)
theorem lift_law {C : Checked} {os : Os} {f : FuncId} {fn : Func} {s : ChangeSpec} {conds : List PathCond} {tb : TypeId}
    (own : ownKnob C.prog.godebug = none) (started : os.Started) (noInit : C.prog.inits.idxOf? f = none) (hfn : C.prog.funcs[f]? = some fn)
    (witness : ∃ (w : World) (tape : Tape) (i : Input), w.os = os ∧ (w.forCall tape i).Shaped C.prog ∧ i.vars = [] ∧ Input.okWide C.prog (w.forCall tape i) .any w.heap.size f i ∧
      s.pre6 enc C.prog fn conds false (w.forCall tape i).memory i.args ∧ ({} : Assume).holds C.prog (lone (Frame.enter C.prog f i.args .normal) [] (w.forCall tape i)))
    (hl : laidOutB C.prog = true) (hpar : (fn.params.toList.all fun t => C.prog.readableRec t && decide (t < C.prog.types.size)) = true) (hvars : s.vars = [])
    (hres : fn.resultTypes = #[tb]) (htb : C.prog.underlying tb = some .bool)
    (hs : ∀ ds : List (DataW H), ds.length = fn.params.toList.length → s.fn H ds = { results := [.lit (.bool true)], args := ds }) (hopen : Opens C.prog fn f) :
    ReturnsInHanded {} C os f .any (s.pre6 enc C.prog fn conds false) (s.post enc C.prog fn false true false false) := by
  refine returnsInHanded_of_change (C := C) own started noInit hfn witness ?_
  intro W base args ds gs before hval hW hcnd _
  have hW' := hW
  obtain ⟨p, q, hA0, hV, rfl, hfz, hnd⟩ := hW
  have hA : DataW.TrodAll enc C.prog W 0 (fun _ => true) true fn.params.toList args.toList ds p := hA0
  rw [hvars] at hV
  obtain ⟨rfl, rfl⟩ := trodVars_none hV
  have hlt : ∀ x ∈ p, x.block < W.heap.size := fun x hx => hW'.lt x (by simp [hx])
  obtain ⟨Ss, h1, h2⟩ := hopen H enc W base args ds p hval hA hlt
  have hlen := trodAll_len hA
  refine (h2.2 W _ args.toList (fun _ h => h) h1).mono fun e W' => ?_
  rintro ⟨v, rfl, hk, hv⟩
  obtain rfl : v = .bool true := hv
  have bel := hk.below
  refine ⟨_, rfl, _, _, _, [], p, [], hW', ?_, ?_, ?_, ?_, fun h => by cases h⟩
  · rw [List.append_nil, hs ds hlen.2, hres]
    exact trodAll_mk1 (shut_bool htb _)
  · rw [List.append_nil, hs ds hlen.2]
    exact trodAll_below hl bel hpar hA hlt
  · rw [List.append_nil, hs ds hlen.2, hvars]; exact hV
  · exact bel.frame _
theorem open_K {W : World} {base : Nat} {T : TypeId} {k : IntKind} {v : Value} {d : DataW H} {ps : List MemPlace} (hu : P.underlying T = some (.int k)) (hv : Value.okWide P W .any base T v)
    (h : DataW.Trod enc P W 0 (fun _ => true) true T v d ps) : ∃ z, v = .int k z ∧ rng k z := by
  obtain ⟨n, rfl, _, _, hw⟩ := open_int hu hv h
  exact ⟨n, rfl, by simpa [Lit.wf, rng] using hw⟩
/-- an unsigned one as a natural -/
theorem open_N {W : World} {base : Nat} {T : TypeId} {k : IntKind} {v : Value} {d : DataW H} {ps : List MemPlace} (hu : P.underlying T = some (.int k)) (hk : k.min = 0) (hv : Value.okWide P W .any base T v)
    (h : DataW.Trod enc P W 0 (fun _ => true) true T v d ps) : ∃ n : Nat, ∀ F, (isK k (n : Int)).h W F v := by
  obtain ⟨z, rfl, h1, h2⟩ := open_K hu hv h
  rw [hk] at h1
  exact ⟨z.toNat, fun F => ⟨by rw [Int.toNat_of_nonneg h1], by rw [Int.toNat_of_nonneg h1]; exact ⟨by rw [hk]; exact h1, h2⟩⟩⟩
/-- reading: what the cells of a value are -/
theorem rd_K {w : World} {sp : Nat → Bool} {fuel : Nat} {T : TypeId} {k : IntKind} {cs : List Value} {x : DataW H × List MemPlace} (hu : P.underlying T = some (.int k)) (h : DataW.trod enc P w 0 sp true fuel T cs = some x) :
    ∃ z, cs = [.int k z] ∧ rng k z := by
  obtain ⟨n, hc, _, hw⟩ := DataW.trod_int hu h
  exact ⟨n, hc, by simpa [Lit.wf, rng] using hw⟩
theorem rd_I {w : World} {sp : Nat → Bool} {fuel : Nat} {T : TypeId} {cs : List Value} {x : DataW H × List MemPlace} (hu : P.underlying T = some (.int .i64)) (h : DataW.trod enc P w 0 sp true fuel T cs = some x) :
    ∃ z : Int, cs = [.int .i64 z] ∧ -9223372036854775808 ≤ z ∧ z < 9223372036854775808 := by
  obtain ⟨z, rfl, h1, h2⟩ := rd_K hu h
  simp [IntKind.min, IntKind.max, IntKind.signed, IntKind.bits] at h1 h2
  exact ⟨z, rfl, by omega, by omega⟩
theorem list_of_get {α : Type} {p : Nat → α → Prop} : ∀ (n : Nat), (∀ i, i < n → ∃ a, p i a) → ∃ l : List α, l.length = n ∧ ∀ i (h : i < l.length), p i l[i]
  | 0, _ => ⟨[], rfl, fun i h => absurd h (by simp)⟩
  | n + 1, h => by
    obtain ⟨l, h1, h2⟩ := list_of_get n (fun i hi => h i (by omega))
    obtain ⟨a, ha⟩ := h n (by omega)
    refine ⟨l ++ [a], by simp [h1], fun i hi => ?_⟩
    rcases Nat.lt_or_ge i l.length with h3 | h3
    · rw [List.getElem_append_left h3]; exact h2 i h3
    · have : i = n := by simp at hi; omega
      subst this
      rw [List.getElem_append_right h3]; simpa [h1] using ha
theorem all2_of_get : ∀ {Ss : List VP} {w : World} {F : Blk} {vs : List Value}, Ss.length = vs.length → (∀ (i : Nat) (S : VP) (v : Value), Ss[i]? = some S → vs[i]? = some v → S.h w F v) → All2 Ss w F vs
  | [], _, _, [], _, _ => trivial
  | S :: Ss, _, _, v :: vs, hl, h => ⟨h 0 S v rfl rfl, all2_of_get (by simpa using hl) (fun i S' v' h1 h2 => h (i + 1) S' v' (by simpa using h1) (by simpa using h2))⟩
  | [], _, _, _ :: _, hl, _ => by simp at hl
  | _ :: _, _, _, [], hl, _ => by simp at hl
end
end Go.En
/- Slices that a law is handed. -/
namespace Go.En
open Go.RowKit Go.ChangeShapes Go.WideShapes Go.ChangeAt
set_option linter.unusedVariables false
section
variable {H : Type} {enc : TypeId × Value → H} {P : Program}
/-- a slice of whole numbers of one kind, as it is read -/
theorem rd_row {α : Type} {f : α → VP} {W : World} {T T' : TypeId} {k : IntKind} {fuel : Nat} {cs : List Value} {x : DataW H × List MemPlace} (hu : P.underlying T = some (.slice T')) (hu' : P.underlying T' = some (.int k)) (hc : P.cellsOf T' = 1)
    (hf : ∀ z, rng k z → ∃ a, ∀ w F, (f a).h w F (.int k z)) (h : DataW.trod enc P W 0 (fun _ => true) true fuel T cs = some x) (hps : ∀ y ∈ x.2, y.block < W.heap.size) : ∃ (v : Value) (xs : List α), cs = [v] ∧ (SlM f xs).h W (fun b => b < W.heap.size) v := by
  rcases open_ints hu hu' hc h with ⟨h1, _⟩ | ⟨a, len, cap, zs, h1, h2, h3, h4, h5, h6, h7, h8⟩
  · exact ⟨_, [], h1, nilM _ _⟩
  · simp only [if_true] at h5
    obtain ⟨l, hl, hget⟩ := list_of_get (p := fun i (x : α) => ∀ w F, (f x).h w F (.int k (zs.getD i 0))) len (fun i hi => by
      have hz : zs.getD i 0 ∈ zs := by
        have : i < zs.length := by omega
        simp [List.getD, this]
      exact hf _ (by simpa [Lit.wf, rng] using h8 _ hz))
    refine ⟨_, l, h1, some a, cap, by rw [hl], by rw [hl]; exact h3, h4, by simp, ?_⟩
    rcases Nat.eq_zero_or_pos len with h0 | h0
    · exact .inl (by omega)
    · have hc0 := h7 0 (by omega)
      have hs : a.spot = none := by
        cases hsp : a.spot with
        | none => rfl
        | some s =>
          simp only [Addr.add, if_true] at hc0
          unfold World.cell? at hc0
          rw [hsp] at hc0
          split at hc0 <;> simp at hc0
      obtain ⟨b, off, sp⟩ := a
      simp only at hs
      subst hs
      right
      refine ⟨b, off, rfl, ?_, (List.range len).map (fun i => .int k (zs.getD i 0)), ?_, fun j u hj => ?_⟩
      · have : MemPlace.cell b (off + 0) ∈ x.2 := by
          rw [h6]
          exact List.mem_map.2 ⟨0, by simp; omega, rfl⟩
        exact hps _ this
      · refine all2_of_get (by simp [hl]) (fun i S v hS hv => ?_)
        have hi : i < l.length := by
          rcases Nat.lt_or_ge i l.length with h | h
          · exact h
          · rw [List.getElem?_eq_none (by simpa using h)] at hS; cases hS
        rw [List.getElem?_map, List.getElem?_eq_getElem hi] at hS
        rw [List.getElem?_map, List.getElem?_range (by omega)] at hv
        simp at hS hv
        subst hS; subst hv
        simpa [List.getD] using hget i hi W (fun b => b < W.heap.size)
      · have hjl : j < len := by
          rcases Nat.lt_or_ge j len with h | h
          · exact h
          · rw [List.getElem?_eq_none (by simpa using h)] at hj; cases hj
        rw [List.getElem?_map, List.getElem?_range hjl] at hj
        simp at hj
        subst hj
        have := h7 j (by omega)
        rw [add_mk] at this
        simpa [List.getD] using this
theorem word_of (z : Int) (h : rng .u64 z) : ∃ n : Nat, ∀ w F, (isU n).h w F (.int .u64 z) := by
  obtain ⟨h1, h2⟩ := h
  simp [IntKind.min, IntKind.max, IntKind.signed, IntKind.bits] at h1 h2
  refine ⟨z.toNat, fun w F => ⟨?_, by omega⟩⟩
  rw [Int.toNat_of_nonneg h1]
/-- a struct's fields: their types and places -/
def fsB (P : Program) (T : TypeId) : Option (List (TypeId × Nat)) := match P.underlying T with
  | some (.struct fs) => some (fs.toList.map fun f => (f.type, f.offset))
  | _ => none
theorem fsB_spec {T : TypeId} {l : List (TypeId × Nat)} (h : fsB P T = some l) : ∃ fs, P.underlying T = some (.struct fs) ∧ fs.size = l.length ∧ ∀ (i t o : Nat), l[i]? = some (t, o) → ∃ f, fs[i]? = some f ∧ f.type = t ∧ f.offset = o := by
  unfold fsB at h
  split at h
  · rename_i fs hu
    obtain rfl := Option.some.inj h
    refine ⟨fs, hu, by simp, fun i t o hi => ?_⟩
    rw [List.getElem?_map] at hi
    cases hf : fs.toList[i]? with
    | none => rw [hf] at hi; cases hi
    | some f =>
      rw [hf] at hi
      simp at hi
      exact ⟨f, by simpa using hf, hi.1, hi.2⟩
  · cases h
end
end Go.En
/- Closed facts about the types of the translation. -/
namespace Go.Proofs.YtkgipdidomikbaaGreat
open Go.En
theorem arr78 : arrB Tryz.prog 78 = some (12, 28) := by kernel_rfl
theorem by28 : byLe Tryz.prog 28 1024 = true := by kernel_rfl
theorem by36 : byLe Tryz.prog 36 1024 = true := by kernel_rfl
theorem by41 : byLe Tryz.prog 41 1024 = true := by kernel_rfl
theorem by61 : byLe Tryz.prog 61 1024 = true := by kernel_rfl
theorem ext_add64 : IsExt Tryz.prog 99 add64Entry := ⟨⟨Tryz.f99, Tryz.func99, by kernel_rfl, by kernel_rfl, by kernel_rfl, by kernel_rfl⟩⟩
theorem ext_sub64 : IsExt Tryz.prog 101 subE := ⟨⟨Tryz.f101, Tryz.func101, by kernel_rfl, by kernel_rfl, by kernel_rfl, by kernel_rfl⟩⟩
theorem fld24_0 : fldB Tryz.prog 24 0 = some (0, 3) := by kernel_rfl
theorem fld24_1 : fldB Tryz.prog 24 1 = some (1, 3) := by kernel_rfl
theorem fld24_2 : fldB Tryz.prog 24 2 = some (2, 22) := by kernel_rfl
theorem fld30_0 : fldB Tryz.prog 30 0 = some (0, 28) := by kernel_rfl
theorem fld38_0 : fldB Tryz.prog 38 0 = some (0, 3) := by kernel_rfl
theorem fld38_1 : fldB Tryz.prog 38 1 = some (1, 3) := by kernel_rfl
theorem fld38_2 : fldB Tryz.prog 38 2 = some (2, 36) := by kernel_rfl
theorem fld61_0 : fldB Tryz.prog 61 0 = some (0, 4) := by kernel_rfl
theorem fld61_1 : fldB Tryz.prog 61 1 = some (1, 59) := by kernel_rfl
theorem fld96_0 : fldB Tryz.prog 96 0 = some (0, 30) := by kernel_rfl
theorem fld96_1 : fldB Tryz.prog 96 1 = some (1, 94) := by kernel_rfl
theorem fld96_2 : fldB Tryz.prog 96 2 = some (2, 94) := by kernel_rfl
theorem fs24 : fsB Tryz.prog 24 = some [(3, 0), (3, 1), (22, 2)] := by kernel_rfl
theorem fs61 : fsB Tryz.prog 61 = some [(4, 0), (59, 1)] := by kernel_rfl
theorem mixed : Tryz.prog.follows .mixedOrders = true := by kernel_rfl
theorem pl24 : plB Tryz.prog 24 = some [(0, 1), (1, 1), (2, 1)] := by kernel_rfl
theorem pl30 : plB Tryz.prog 30 = some [(0, 1)] := by kernel_rfl
theorem pl38 : plB Tryz.prog 38 = some [(0, 1), (1, 1), (2, 1)] := by kernel_rfl
theorem pl61 : plB Tryz.prog 61 = some [(0, 1), (1, 1)] := by kernel_rfl
theorem pl96 : plB Tryz.prog 96 = some [(0, 1), (1, 1), (2, 1)] := by kernel_rfl
theorem sl22 : slB Tryz.prog 22 = some 61 := by kernel_rfl
theorem sl32 : slB Tryz.prog 32 = some 61 := by kernel_rfl
theorem sl36 : slB Tryz.prog 36 = some 28 := by kernel_rfl
theorem sl41 : slB Tryz.prog 41 = some 28 := by kernel_rfl
theorem sl59 : slB Tryz.prog 59 = some 28 := by kernel_rfl
theorem sl67 : slB Tryz.prog 67 = some 41 := by kernel_rfl
theorem sl70 : slB Tryz.prog 70 = some 2 := by kernel_rfl
theorem sl94 : slB Tryz.prog 94 = some 36 := by kernel_rfl
theorem ty2 : tyB Tryz.prog 2 = some (1, false) := by kernel_rfl
theorem ty22 : tyB Tryz.prog 22 = some (1, false) := by kernel_rfl
theorem ty24 : tyB Tryz.prog 24 = some (3, true) := by kernel_rfl
theorem ty28 : tyB Tryz.prog 28 = some (1, false) := by kernel_rfl
theorem ty3 : tyB Tryz.prog 3 = some (1, false) := by kernel_rfl
theorem ty30 : tyB Tryz.prog 30 = some (1, true) := by kernel_rfl
theorem ty36 : tyB Tryz.prog 36 = some (1, false) := by kernel_rfl
theorem ty38 : tyB Tryz.prog 38 = some (3, true) := by kernel_rfl
theorem ty4 : tyB Tryz.prog 4 = some (1, false) := by kernel_rfl
theorem ty41 : tyB Tryz.prog 41 = some (1, false) := by kernel_rfl
theorem ty59 : tyB Tryz.prog 59 = some (1, false) := by kernel_rfl
theorem ty61 : tyB Tryz.prog 61 = some (2, true) := by kernel_rfl
theorem ty70 : tyB Tryz.prog 70 = some (1, false) := by kernel_rfl
theorem ty94 : tyB Tryz.prog 94 = some (1, false) := by kernel_rfl
theorem un131 : Tryz.prog.underlying 131 = some (.int .u64) := by kernel_rfl
theorem un2 : Tryz.prog.underlying 2 = some (.int .i64) := by kernel_rfl
theorem un22 : Tryz.prog.underlying 22 = some (.slice 61) := by kernel_rfl
theorem un28 : Tryz.prog.underlying 28 = some (.int .u64) := by kernel_rfl
theorem un3 : Tryz.prog.underlying 3 = some (.int .i64) := by kernel_rfl
theorem un4 : Tryz.prog.underlying 4 = some .bool := by kernel_rfl
theorem un5 : Tryz.prog.underlying 5 = some (.int .u8) := by kernel_rfl
theorem un59 : Tryz.prog.underlying 59 = some (.slice 28) := by kernel_rfl
theorem un9 : Tryz.prog.underlying 9 = some .string := by kernel_rfl
theorem zero2 : zeroB Tryz.prog 2 = some (.int .i64 0) := by kernel_rfl
theorem zero24 : zeroB Tryz.prog 24 = some (.agg #[.int .i64 0, .int .i64 0, .slice none 0 0]) := by kernel_rfl
theorem zero28 : zeroB Tryz.prog 28 = some (.int .u64 0) := by kernel_rfl
theorem zero30 : zeroB Tryz.prog 30 = some (.agg #[.int .u64 0]) := by kernel_rfl
theorem zero36 : zeroB Tryz.prog 36 = some (.slice none 0 0) := by kernel_rfl
theorem zero38 : zeroB Tryz.prog 38 = some (.agg #[.int .i64 0, .int .i64 0, .slice none 0 0]) := by kernel_rfl
theorem zero41 : zeroB Tryz.prog 41 = some (.slice none 0 0) := by kernel_rfl
theorem zero61 : zeroB Tryz.prog 61 = some (.agg #[.bool false, .slice none 0 0]) := by kernel_rfl
theorem zero78 : zeroB Tryz.prog 78 = some (.agg #[.int .u64 0, .int .u64 0, .int .u64 0, .int .u64 0, .int .u64 0, .int .u64 0, .int .u64 0, .int .u64 0, .int .u64 0, .int .u64 0, .int .u64 0, .int .u64 0]) := by kernel_rfl
theorem zero96 : zeroB Tryz.prog 96 = some (.agg #[.int .u64 0, .slice none 0 0, .slice none 0 0]) := by kernel_rfl
end Go.Proofs.YtkgipdidomikbaaGreat
/- Contracts: fields of words. -/
namespace Go.Proofs.YtkgipdidomikbaaGreat
open Go.En Go.RowKit
set_option linter.unusedVariables false
set_option maxRecDepth 10000
open Go.Gf
set_option maxHeartbeats 4000000 in
theorem gfp_P {q : Nat} : Ctr Tryz.prog 50 [Flat [isU q]] (isU (fp q)) := by
  refine Ctr.intro Tryz.func50 rfl (by kernel_rfl) Tryz.ntmps50 rfl fun w0 F0 => ?_
  refine Tri.cv (Cv.wk (.cons (t := 0) (Has.t rfl) .nil)) ?_
  refine Tri.seq fun K1 hK1 => ?_
  refine Tri.region ?_
  refine Ops.box (Has.t rfl) rfl fun b1 => ?_
  refine st (OK1.as (Has.cU 0 rfl)) rfl ?_
  refine nl ?_
  refine At.thn (hK1 _ _ ?_); clear hK1
  refine Tri.seq fun K2 hK2 => ?_
  refine Tri.seq fun K3 hK3 => ?_
  refine Tri.region ?_
  refine st (OK1.fieldAddr (Has.t rfl) fld30_0 ty28) rfl ?_
  refine st (OK1.load1 (Has.t rfl) (i := 0) rfl ty28 rfl) rfl ?_
  refine st (OK1.eqU (Has.t rfl) (Has.cU 0 rfl)) rfl ?_
  refine nl ?_
  refine At.thn (hK3 _ _ ?_); clear hK3
  refine Tri.cond (Has.t rfl) (fun hc1 => ?_) (fun hc1 => ?_)
  · have hc1 := BP.t hc1
    refine Tri.seq fun K4 hK4 => ?_
    refine Tri.region ?_
    refine st (OK1.as (Has.cU 2 rfl)) rfl ?_
    refine nl ?_
    refine At.thn (hK4 _ _ ?_); clear hK4
    refine Tri.ret ?_
    refine At.thr ?_
    refine rt1 (.inl rfl) Tryz.results50 rfl (.tmp (Has.t' rfl ?_) .nil)
    all_goals (exact isU_eq (by rw [fp, if_pos hc1]))
  · have hc1 := BP.f hc1
    refine Tri.skip ?_
    refine At.thn (hK2 _ _ ?_); clear hK2
    refine Tri.seq fun K5 hK5 => ?_
    refine Tri.region ?_
    refine st (OK1.fieldAddr (Has.t rfl) fld30_0 ty28) rfl ?_
    refine st (OK1.load1 (Has.t rfl) (i := 0) rfl ty28 rfl) rfl ?_
    refine st (OK1.as (Has.t rfl)) rfl ?_
    refine nl ?_
    refine At.thn (hK5 _ _ ?_); clear hK5
    refine Tri.cv (Cv.wk (.cons (t := 2) (Has.t rfl) .nil)) ?_
    refine Tri.ret ?_
    refine rt1 (.inl rfl) Tryz.results50 rfl (.tmp (Has.t' rfl ?_) .nil)
    all_goals (exact isU_eq (by rw [fp, if_neg hc1]))
set_option maxHeartbeats 4000000 in
theorem gfp_Norm {q a : Nat} : Ctr Tryz.prog 46 [Flat [isU q], isU a] (isU (a % fp q)) := by
  refine Ctr.intro Tryz.func46 rfl (by kernel_rfl) Tryz.ntmps46 rfl fun w0 F0 => ?_
  refine Tri.cv (Cv.wk (.cons (t := 0) (Has.t rfl) (.cons (t := 1) (Has.t rfl) .nil))) ?_
  refine Tri.fact (Has.ltU (Has.t (t := 1) rfl)) fun lt1 => ?_
  have hp := fp_pos q
  refine Tri.seq fun K1 hK1 => ?_
  refine Tri.region ?_
  refine Ops.box (Has.t rfl) rfl fun b1 => ?_
  refine st (OK1.as (Has.cU 0 rfl)) rfl ?_
  refine nl ?_
  refine At.thn (hK1 _ _ ?_); clear hK1
  refine Tri.seq fun K2 hK2 => ?_
  refine Tri.region ?_
  refine st (OK1.mv (Has.t rfl)) rfl ?_
  refine st (OK1.load (Has.t rfl) (i := 0) rfl ty30 rfl (Ss' := [_]) rfl) rfl ?_
  refine st (OK1.call (gfp_P) (.cons (Has.t rfl) .nil)) rfl ?_
  refine st (OK1.remU (Has.t rfl) (Has.t rfl) (by first | omega | assumption) (by first | omega | assumption)) rfl ?_
  refine st (OK1.as (Has.t rfl)) rfl ?_
  refine nl ?_
  refine At.thn (hK2 _ _ ?_); clear hK2
  refine Tri.cv (Cv.wk (.cons (t := 4) (Has.t rfl) .nil)) ?_
  refine Tri.ret ?_
  refine rt1 (.inl rfl) Tryz.results46 rfl (.tmp (Has.t' rfl ?_) .nil)
  all_goals (rfl)
set_option maxHeartbeats 4000000 in
theorem gfp_Add {q a b : Nat} (hq : q < 4294967296) : Ctr Tryz.prog 82 [Flat [isU q], isU a, isU b] (isU ((a % fp q + b % fp q) % fp q)) := by
  refine Ctr.intro Tryz.func82 rfl (by kernel_rfl) Tryz.ntmps82 rfl fun w0 F0 => ?_
  refine Tri.cv (Cv.wk (.cons (t := 0) (Has.t rfl) (.cons (t := 1) (Has.t rfl) (.cons (t := 2) (Has.t rfl) .nil)))) ?_
  refine Tri.fact (Has.ltU (Has.t (t := 1) rfl)) fun lt1 => ?_
  refine Tri.fact (Has.ltU (Has.t (t := 2) rfl)) fun lt2 => ?_
  have hp := fp_pos q
  have hl := fp_lt hq
  have ha := Nat.mod_lt a hp
  have hb := Nat.mod_lt b hp
  refine Tri.seq fun K1 hK1 => ?_
  refine Tri.region ?_
  refine Ops.box (Has.t rfl) rfl fun b1 => ?_
  refine st (OK1.as (Has.cU 0 rfl)) rfl ?_
  refine nl ?_
  refine At.thn (hK1 _ _ ?_); clear hK1
  refine Tri.seq fun K2 hK2 => ?_
  refine Tri.dr ?_
  refine DrG.st (i := 0) [] rfl rfl rfl (by kernel_rfl) (OKG.o rfl (OK1.load (Has.t rfl) (i := 0) rfl ty30 rfl (Ss' := [_]) rfl)) ?_
  refine DrG.st (i := 1) [] rfl rfl rfl (by kernel_rfl) (OKG.o rfl (OK1.mv (Has.t rfl))) ?_
  refine DrG.st (i := 2) [7, 8] rfl rfl rfl (by kernel_rfl) (OKG.o rfl (OK1.call (gfp_Norm) (.cons (Has.t rfl) (.cons (Has.t rfl) .nil)))) ?_
  refine DrG.st (i := 3) [] rfl rfl rfl (by kernel_rfl) (OKG.o rfl (OK1.load (Has.t rfl) (i := 0) rfl ty30 rfl (Ss' := [_]) rfl)) ?_
  refine DrG.st (i := 4) [] rfl rfl rfl (by kernel_rfl) (OKG.o rfl (OK1.mv (Has.t rfl))) ?_
  refine DrG.st (i := 5) [10, 11] rfl rfl rfl (by kernel_rfl) (OKG.o rfl (OK1.call (gfp_Norm) (.cons (Has.t rfl) (.cons (Has.t rfl) .nil)))) ?_
  refine DrG.st (i := 6) [9, 12] rfl rfl rfl (by kernel_rfl) (OKG.o rfl (OK1.addU' (Has.t rfl) (Has.t rfl) (by first | omega | assumption))) ?_
  refine DrG.st (i := 7) [] rfl rfl rfl (by kernel_rfl) (OKG.o rfl (OK1.load (Has.t rfl) (i := 0) rfl ty30 rfl (Ss' := [_]) rfl)) ?_
  refine DrG.st (i := 8) [14] rfl rfl rfl (by kernel_rfl) (OKG.o rfl (OK1.call (gfp_P) (.cons (Has.t rfl) .nil))) ?_
  refine DrG.fin (n := 9) mixed (by kernel_rfl) (by kernel_rfl) (by kernel_rfl) ?_
  refine Ops.cv (Cv.wk (.cons (t := 6) (Has.t rfl) (.cons (t := 13) (Has.t rfl) (.cons (t := 15) (Has.t rfl) .nil)))) ?_
  refine st (OK1.remU (Has.t rfl) (Has.t rfl) (by first | omega | assumption) (by first | omega | assumption)) rfl ?_
  refine st (OK1.as (Has.t rfl)) rfl ?_
  refine nl ?_
  refine At.thn (hK2 _ _ ?_); clear hK2
  refine Tri.ret ?_
  refine rt1 (.inl rfl) Tryz.results82 rfl (.tmp (Has.t' rfl ?_) .nil)
  all_goals (rfl)
set_option maxHeartbeats 4000000 in
theorem gfp_Sub {q a b : Nat} (hq : q < 4294967296) : Ctr Tryz.prog 83 [Flat [isU q], isU a, isU b] (isU ((a % fp q + fp q - b % fp q) % fp q)) := by
  refine Ctr.intro Tryz.func83 rfl (by kernel_rfl) Tryz.ntmps83 rfl fun w0 F0 => ?_
  refine Tri.cv (Cv.wk (.cons (t := 0) (Has.t rfl) (.cons (t := 1) (Has.t rfl) (.cons (t := 2) (Has.t rfl) .nil)))) ?_
  refine Tri.fact (Has.ltU (Has.t (t := 1) rfl)) fun lt1 => ?_
  refine Tri.fact (Has.ltU (Has.t (t := 2) rfl)) fun lt2 => ?_
  have hp := fp_pos q
  have hl := fp_lt hq
  have ha := Nat.mod_lt a hp
  have hb := Nat.mod_lt b hp
  refine Tri.seq fun K1 hK1 => ?_
  refine Tri.region ?_
  refine Ops.box (Has.t rfl) rfl fun b1 => ?_
  refine st (OK1.as (Has.cU 0 rfl)) rfl ?_
  refine nl ?_
  refine At.thn (hK1 _ _ ?_); clear hK1
  refine Tri.seq fun K2 hK2 => ?_
  refine Tri.dr ?_
  refine DrG.st (i := 0) [] rfl rfl rfl (by kernel_rfl) (OKG.o rfl (OK1.load (Has.t rfl) (i := 0) rfl ty30 rfl (Ss' := [_]) rfl)) ?_
  refine DrG.st (i := 1) [] rfl rfl rfl (by kernel_rfl) (OKG.o rfl (OK1.mv (Has.t rfl))) ?_
  refine DrG.st (i := 2) [7, 8] rfl rfl rfl (by kernel_rfl) (OKG.o rfl (OK1.call (gfp_Norm) (.cons (Has.t rfl) (.cons (Has.t rfl) .nil)))) ?_
  refine DrG.st (i := 3) [] rfl rfl rfl (by kernel_rfl) (OKG.o rfl (OK1.load (Has.t rfl) (i := 0) rfl ty30 rfl (Ss' := [_]) rfl)) ?_
  refine DrG.st (i := 4) [10] rfl rfl rfl (by kernel_rfl) (OKG.o rfl (OK1.call (gfp_P) (.cons (Has.t rfl) .nil))) ?_
  refine DrG.st (i := 5) [9, 11] rfl rfl rfl (by kernel_rfl) (OKG.o rfl (OK1.addU' (Has.t rfl) (Has.t rfl) (by first | omega | assumption))) ?_
  refine DrG.st (i := 6) [] rfl rfl rfl (by kernel_rfl) (OKG.o rfl (OK1.load (Has.t rfl) (i := 0) rfl ty30 rfl (Ss' := [_]) rfl)) ?_
  refine DrG.st (i := 7) [] rfl rfl rfl (by kernel_rfl) (OKG.o rfl (OK1.mv (Has.t rfl))) ?_
  refine DrG.st (i := 8) [13, 14] rfl rfl rfl (by kernel_rfl) (OKG.o rfl (OK1.call (gfp_Norm) (.cons (Has.t rfl) (.cons (Has.t rfl) .nil)))) ?_
  refine DrG.st (i := 9) [12, 15] rfl rfl rfl (by kernel_rfl) (OKG.o rfl (OK1.subU' (Has.t rfl) (Has.t rfl) (by first | omega | assumption) (by first | omega | assumption))) ?_
  refine DrG.st (i := 10) [] rfl rfl rfl (by kernel_rfl) (OKG.o rfl (OK1.load (Has.t rfl) (i := 0) rfl ty30 rfl (Ss' := [_]) rfl)) ?_
  refine DrG.st (i := 11) [17] rfl rfl rfl (by kernel_rfl) (OKG.o rfl (OK1.call (gfp_P) (.cons (Has.t rfl) .nil))) ?_
  refine DrG.fin (n := 12) mixed (by kernel_rfl) (by kernel_rfl) (by kernel_rfl) ?_
  refine Ops.cv (Cv.wk (.cons (t := 6) (Has.t rfl) (.cons (t := 16) (Has.t rfl) (.cons (t := 18) (Has.t rfl) .nil)))) ?_
  refine st (OK1.remU (Has.t rfl) (Has.t rfl) (by first | omega | assumption) (by first | omega | assumption)) rfl ?_
  refine st (OK1.as (Has.t rfl)) rfl ?_
  refine nl ?_
  refine At.thn (hK2 _ _ ?_); clear hK2
  refine Tri.ret ?_
  refine rt1 (.inl rfl) Tryz.results83 rfl (.tmp (Has.t' rfl ?_) .nil)
  all_goals (rfl)
set_option maxHeartbeats 4000000 in
theorem gfp_Neg {q a : Nat} (hq : q < 4294967296) : Ctr Tryz.prog 58 [Flat [isU q], isU a] (isU ((fp q - a % fp q) % fp q)) := by
  refine Ctr.intro Tryz.func58 rfl (by kernel_rfl) Tryz.ntmps58 rfl fun w0 F0 => ?_
  refine Tri.cv (Cv.wk (.cons (t := 0) (Has.t rfl) (.cons (t := 1) (Has.t rfl) .nil))) ?_
  refine Tri.fact (Has.ltU (Has.t (t := 1) rfl)) fun lt1 => ?_
  have hp := fp_pos q
  refine Tri.seq fun K1 hK1 => ?_
  refine Tri.region ?_
  refine Ops.box (Has.t rfl) rfl fun b1 => ?_
  refine st (OK1.as (Has.cU 0 rfl)) rfl ?_
  refine nl ?_
  refine At.thn (hK1 _ _ ?_); clear hK1
  refine Tri.seq fun K2 hK2 => ?_
  refine Tri.region ?_
  refine st (OK1.load (Has.t rfl) (i := 0) rfl ty30 rfl (Ss' := [_]) rfl) rfl ?_
  refine st (OK1.mv (Has.t rfl)) rfl ?_
  refine st (OK1.call (gfp_Sub (by first | omega | assumption)) (.cons (Has.t rfl) (.cons (Has.cU 0 rfl) (.cons (Has.t rfl) .nil)))) rfl ?_
  refine st (OK1.as (Has.t rfl)) rfl ?_
  refine nl ?_
  refine At.thn (hK2 _ _ ?_); clear hK2
  refine Tri.cv (Cv.wk (.cons (t := 4) (Has.t rfl) .nil)) ?_
  refine Tri.ret ?_
  refine rt1 (.inl rfl) Tryz.results58 rfl (.tmp (Has.t' rfl ?_) .nil)
  all_goals (exact isU_eq (by rw [Nat.zero_mod, Nat.zero_add]))
set_option maxHeartbeats 4000000 in
theorem gfp_Mul {q a b : Nat} (hq : q < 4294967296) : Ctr Tryz.prog 59 [Flat [isU q], isU a, isU b] (isU (a * b % fp q)) := by
  refine Ctr.intro Tryz.func59 rfl (by kernel_rfl) Tryz.ntmps59 rfl fun w0 F0 => ?_
  refine Tri.cv (Cv.wk (.cons (t := 0) (Has.t rfl) (.cons (t := 1) (Has.t rfl) (.cons (t := 2) (Has.t rfl) .nil)))) ?_
  refine Tri.fact (Has.ltU (Has.t (t := 1) rfl)) fun lt1 => ?_
  refine Tri.fact (Has.ltU (Has.t (t := 2) rfl)) fun lt2 => ?_
  have hp := fp_pos q
  have hl := fp_lt hq
  have ha := Nat.mod_lt a hp
  have hb := Nat.mod_lt b hp
  have hab : (a % fp q) * (b % fp q) < 18446744073709551616 := Nat.lt_of_lt_of_le (Nat.mul_lt_mul'' (Nat.lt_trans ha hl) (Nat.lt_trans hb hl)) (by decide)
  refine Tri.seq fun K1 hK1 => ?_
  refine Tri.region ?_
  refine Ops.box (Has.t rfl) rfl fun b1 => ?_
  refine st (OK1.as (Has.cU 0 rfl)) rfl ?_
  refine nl ?_
  refine At.thn (hK1 _ _ ?_); clear hK1
  refine Tri.seq fun K2 hK2 => ?_
  refine Tri.dr ?_
  refine DrG.st (i := 0) [] rfl rfl rfl (by kernel_rfl) (OKG.o rfl (OK1.load (Has.t rfl) (i := 0) rfl ty30 rfl (Ss' := [_]) rfl)) ?_
  refine DrG.st (i := 1) [] rfl rfl rfl (by kernel_rfl) (OKG.o rfl (OK1.mv (Has.t rfl))) ?_
  refine DrG.st (i := 2) [7, 8] rfl rfl rfl (by kernel_rfl) (OKG.o rfl (OK1.call (gfp_Norm) (.cons (Has.t rfl) (.cons (Has.t rfl) .nil)))) ?_
  refine DrG.st (i := 3) [] rfl rfl rfl (by kernel_rfl) (OKG.o rfl (OK1.load (Has.t rfl) (i := 0) rfl ty30 rfl (Ss' := [_]) rfl)) ?_
  refine DrG.st (i := 4) [] rfl rfl rfl (by kernel_rfl) (OKG.o rfl (OK1.mv (Has.t rfl))) ?_
  refine DrG.st (i := 5) [10, 11] rfl rfl rfl (by kernel_rfl) (OKG.o rfl (OK1.call (gfp_Norm) (.cons (Has.t rfl) (.cons (Has.t rfl) .nil)))) ?_
  refine DrG.st (i := 6) [9, 12] rfl rfl rfl (by kernel_rfl) (OKG.o rfl (OK1.mulU' (Has.t rfl) (Has.t rfl) (by first | omega | assumption))) ?_
  refine DrG.st (i := 7) [] rfl rfl rfl (by kernel_rfl) (OKG.o rfl (OK1.load (Has.t rfl) (i := 0) rfl ty30 rfl (Ss' := [_]) rfl)) ?_
  refine DrG.st (i := 8) [14] rfl rfl rfl (by kernel_rfl) (OKG.o rfl (OK1.call (gfp_P) (.cons (Has.t rfl) .nil))) ?_
  refine DrG.fin (n := 9) mixed (by kernel_rfl) (by kernel_rfl) (by kernel_rfl) ?_
  refine Ops.cv (Cv.wk (.cons (t := 6) (Has.t rfl) (.cons (t := 13) (Has.t rfl) (.cons (t := 15) (Has.t rfl) .nil)))) ?_
  refine st (OK1.remU (Has.t rfl) (Has.t rfl) (by first | omega | assumption) (by first | omega | assumption)) rfl ?_
  refine st (OK1.as (Has.t rfl)) rfl ?_
  refine nl ?_
  refine At.thn (hK2 _ _ ?_); clear hK2
  refine Tri.ret ?_
  refine rt1 (.inl rfl) Tryz.results59 rfl (.tmp (Has.t' rfl ?_) .nil)
  all_goals (exact isU_eq (Nat.mul_mod _ _ _).symm)
set_option maxHeartbeats 4000000 in
theorem gfp_raise {q a n : Nat} (hq : q < 4294967296) : Ctr Tryz.prog 96 [Flat [isU q], isU a, isU n] (isU (a ^ n % fp q)) := by
  refine Ctr.intro Tryz.func96 rfl (by kernel_rfl) Tryz.ntmps96 rfl fun w0 F0 => ?_
  refine Tri.cv (Cv.wk (.cons (t := 0) (Has.t rfl) (.cons (t := 1) (Has.t rfl) (.cons (t := 2) (Has.t rfl) .nil)))) ?_
  refine Tri.fact (Has.ltU (Has.t (t := 1) rfl)) fun lt1 => ?_
  refine Tri.fact (Has.ltU (Has.t (t := 2) rfl)) fun lt2 => ?_
  have hp := fp_pos q
  have hl := fp_lt hq
  refine Tri.seq fun K1 hK1 => ?_
  refine Tri.region ?_
  refine Ops.box (Has.t rfl) rfl fun b1 => ?_
  refine st (OK1.as (Has.cU 0 rfl)) rfl ?_
  refine nl ?_
  refine At.thn (hK1 _ _ ?_); clear hK1
  refine Tri.seq fun K2 hK2 => ?_
  refine Tri.region ?_
  refine st (OK1.load (Has.t rfl) (i := 0) rfl ty30 rfl (Ss' := [_]) rfl) rfl ?_
  refine st (OK1.call (gfp_Norm) (.cons (Has.t rfl) (.cons (Has.cU 1 rfl) .nil))) rfl ?_
  refine st (OK1.as (Has.t rfl)) rfl ?_
  refine nl ?_
  refine At.thn (hK2 _ _ ?_); clear hK2
  refine Tri.seq fun K3 hK3 => ?_
  refine Tri.block ?_
  refine Tri.loopF [3, 6] (fun (z : { z : Nat × Nat × Nat // z.1 * z.2.1 ^ z.2.2 % fp q = a ^ n % fp q ∧ z.1 < fp q ∧ z.2.2 < 18446744073709551616 }) => match z with | ⟨(o, x, k), hI⟩ => [(7, isU o), (1, isU x), (2, isU k)]) (fun M => fun (z : { z : Nat × Nat × Nat // z.1 * z.2.1 ^ z.2.2 % fp q = a ^ n % fp q ∧ z.1 < fp q ∧ z.2.2 < 18446744073709551616 }) => match z with | ⟨(o, x, k), hI⟩ => M) (fun (z : { z : Nat × Nat × Nat // z.1 * z.2.1 ^ z.2.2 % fp q = a ^ n % fp q ∧ z.1 < fp q ∧ z.2.2 < 18446744073709551616 }) => match z with | ⟨(o, x, k), hI⟩ => k) (⟨(1 % fp q, a, n), raise_start _ a n hp lt2⟩) (Cv.mem (.cons (t := 7) (Has.t' rfl ?_) (.cons (t := 1) (Has.t' rfl ?_) (.cons (t := 2) (Has.t' rfl ?_) (.cons (t := 3) (Has.t rfl) (.cons (t := 6) (Has.t rfl) .nil))))) ?_) ?_
  · rfl
  · rfl
  · rfl
  · rfl
  rintro ⟨⟨o, x, k⟩, hI1, hI2, hI3⟩ K4 hK4
  refine Tri.cv (Cv.wk (.cons (t := 7) (Has.t rfl) (.cons (t := 1) (Has.t rfl) (.cons (t := 2) (Has.t rfl) (.cons (t := 3) (Has.t rfl) (.cons (t := 6) (Has.t rfl) .nil)))))) ?_
  simp only [] at hI1 hI2 hI3
  refine Tri.seq fun K5 hK5 => ?_
  refine Tri.seq fun K6 hK6 => ?_
  refine Tri.region ?_
  refine st (OK1.mv (Has.t rfl)) rfl ?_
  refine st (OK1.gtU (Has.t rfl) (Has.cU 0 rfl)) rfl ?_
  refine nl ?_
  refine At.thn (hK6 _ _ ?_); clear hK6
  refine Tri.cond (Has.t rfl) (fun hc1 => ?_) (fun hc1 => ?_)
  · have hc1 := BP.t hc1
    refine Tri.skip ?_
    refine At.thn (hK5 _ _ ?_); clear hK5
    refine Tri.seq fun K7 hK7 => ?_
    refine Tri.block ?_
    refine Tri.seq fun K8 hK8 => ?_
    refine Tri.seq fun K9 hK9 => ?_
    refine Tri.region ?_
    refine st (OK1.mv (Has.t rfl)) rfl ?_
    refine st (OK1.remU (Has.t rfl) (Has.cU 2 rfl) (by first | omega | assumption) (by first | omega | assumption)) rfl ?_
    refine st (OK1.eqU (Has.t rfl) (Has.cU 1 rfl)) rfl ?_
    refine nl ?_
    refine At.thn (hK9 _ _ ?_); clear hK9
    refine Tri.cond (Has.t rfl) (fun hc2 => ?_) (fun hc2 => ?_)
    · have hc2 := BP.t hc2
      refine Tri.region ?_
      refine st (OK1.load (Has.t rfl) (i := 0) rfl ty30 rfl (Ss' := [_]) rfl) rfl ?_
      refine st (OK1.mv (Has.t rfl)) rfl ?_
      refine st (OK1.mv (Has.t rfl)) rfl ?_
      refine st (OK1.call (gfp_Mul (by first | omega | assumption)) (.cons (Has.t rfl) (.cons (Has.t rfl) (.cons (Has.t rfl) .nil)))) rfl ?_
      refine st (OK1.as (Has.t rfl)) rfl ?_
      refine nl ?_
      refine At.thn (hK8 _ _ ?_); clear hK8
      refine Tri.region ?_
      refine st (OK1.load (Has.t rfl) (i := 0) rfl ty30 rfl (Ss' := [_]) rfl) rfl ?_
      refine st (OK1.mv (Has.t rfl)) rfl ?_
      refine st (OK1.mv (Has.t rfl)) rfl ?_
      refine st (OK1.call (gfp_Mul (by first | omega | assumption)) (.cons (Has.t rfl) (.cons (Has.t rfl) (.cons (Has.t rfl) .nil)))) rfl ?_
      refine st (OK1.as (Has.t rfl)) rfl ?_
      refine nl ?_
      refine At.bln ?_
      refine At.thn (hK7 _ _ ?_); clear hK7
      refine Tri.region ?_
      refine st (OK1.mv (Has.t rfl)) rfl ?_
      refine st (OK1.quoU (Has.t rfl) (Has.cU 2 rfl) (by first | omega | assumption) (by first | omega | assumption)) rfl ?_
      refine st (OK1.as (Has.t rfl)) rfl ?_
      refine nl ?_
      refine At.thn ?_
      refine hK4 (⟨(o * x % fp q, x * x % fp q, k / 2), raise_odd hp hI1 hI3 hc2⟩) _ _ ?_ (Cv.mem (.cons (t := 7) (Has.t' rfl ?_) (.cons (t := 1) (Has.t' rfl ?_) (.cons (t := 2) (Has.t' rfl ?_) (.cons (t := 3) (Has.t rfl) (.cons (t := 6) (Has.t rfl) .nil))))) ?_)
      · show k / 2 < k; omega
      · rfl
      · rfl
      · rfl
      · rfl
    · have hc2 := BP.f hc2
      refine Tri.skip ?_
      refine At.thn (hK8 _ _ ?_); clear hK8
      refine Tri.region ?_
      refine st (OK1.load (Has.t rfl) (i := 0) rfl ty30 rfl (Ss' := [_]) rfl) rfl ?_
      refine st (OK1.mv (Has.t rfl)) rfl ?_
      refine st (OK1.mv (Has.t rfl)) rfl ?_
      refine st (OK1.call (gfp_Mul (by first | omega | assumption)) (.cons (Has.t rfl) (.cons (Has.t rfl) (.cons (Has.t rfl) .nil)))) rfl ?_
      refine st (OK1.as (Has.t rfl)) rfl ?_
      refine nl ?_
      refine At.bln ?_
      refine At.thn (hK7 _ _ ?_); clear hK7
      refine Tri.region ?_
      refine st (OK1.mv (Has.t rfl)) rfl ?_
      refine st (OK1.quoU (Has.t rfl) (Has.cU 2 rfl) (by first | omega | assumption) (by first | omega | assumption)) rfl ?_
      refine st (OK1.as (Has.t rfl)) rfl ?_
      refine nl ?_
      refine At.thn ?_
      refine hK4 (⟨(o, x * x % fp q, k / 2), raise_even hI1 hI2 hI3 hc2⟩) _ _ ?_ (Cv.mem (.cons (t := 7) (Has.t' rfl ?_) (.cons (t := 1) (Has.t' rfl ?_) (.cons (t := 2) (Has.t' rfl ?_) (.cons (t := 3) (Has.t rfl) (.cons (t := 6) (Has.t rfl) .nil))))) ?_)
      · show k / 2 < k; omega
      · rfl
      · rfl
      · rfl
      · rfl
  · have hc1 := BP.f hc1
    refine Tri.exit ?_
    refine At.the ?_
    refine At.the ?_
    refine At.blh ?_
    refine At.thn (hK3 _ _ ?_); clear hK3
    refine Tri.cv (Cv.wk (.cons (t := 6) (Has.t rfl) (.cons (t := 7) (Has.t rfl) .nil))) ?_
    refine Tri.seq fun K10 hK10 => ?_
    refine Tri.region ?_
    refine st (OK1.mv (Has.t rfl)) rfl ?_
    refine st (OK1.as (Has.t rfl)) rfl ?_
    refine nl ?_
    refine At.thn (hK10 _ _ ?_); clear hK10
    refine Tri.ret ?_
    refine rt1 (.inl rfl) Tryz.results96 rfl (.tmp (Has.t' rfl ?_) .nil)
    all_goals (exact isU_eq (raise_end hI1 hI2 (by omega)))
set_option maxHeartbeats 4000000 in
theorem gfp_Inv {q a : Nat} (hq : q < 4294967296) (h2 : 2 ≤ fp q) : Ctr Tryz.prog 80 [Flat [isU q], isU a] (isU (inv (fp q) a)) := by
  refine Ctr.intro Tryz.func80 rfl (by kernel_rfl) Tryz.ntmps80 rfl fun w0 F0 => ?_
  refine Tri.cv (Cv.wk (.cons (t := 0) (Has.t rfl) (.cons (t := 1) (Has.t rfl) .nil))) ?_
  refine Tri.fact (Has.ltU (Has.t (t := 1) rfl)) fun lt1 => ?_
  have hp := fp_pos q
  have hl := fp_lt hq
  refine Tri.seq fun K1 hK1 => ?_
  refine Tri.region ?_
  refine Ops.box (Has.t rfl) rfl fun b1 => ?_
  refine st (OK1.as (Has.cU 0 rfl)) rfl ?_
  refine nl ?_
  refine At.thn (hK1 _ _ ?_); clear hK1
  refine Tri.seq fun K2 hK2 => ?_
  refine Tri.seq fun K3 hK3 => ?_
  refine Tri.region ?_
  refine st (OK1.load (Has.t rfl) (i := 0) rfl ty30 rfl (Ss' := [_]) rfl) rfl ?_
  refine st (OK1.mv (Has.t rfl)) rfl ?_
  refine st (OK1.call (gfp_Norm) (.cons (Has.t rfl) (.cons (Has.t rfl) .nil))) rfl ?_
  refine st (OK1.eqU (Has.t rfl) (Has.cU 0 rfl)) rfl ?_
  refine nl ?_
  refine At.thn (hK3 _ _ ?_); clear hK3
  refine Tri.cond (Has.t rfl) (fun hc1 => ?_) (fun hc1 => ?_)
  · have hc1 := BP.t hc1
    refine Tri.seq fun K4 hK4 => ?_
    refine Tri.region ?_
    refine st (OK1.as (Has.cU 0 rfl)) rfl ?_
    refine nl ?_
    refine At.thn (hK4 _ _ ?_); clear hK4
    refine Tri.cv (Cv.wk (.cons (t := 1) (Has.t rfl) (.cons (t := 2) (Has.t rfl) (.cons (t := 4) (Has.t rfl) .nil)))) ?_
    refine Tri.ret ?_
    refine At.thr ?_
    refine rt1 (.inl rfl) Tryz.results80 rfl (.tmp (Has.t' rfl ?_) .nil)
    all_goals (exact isU_eq (by rw [inv, if_pos hc1]))
  · have hc1 := BP.f hc1
    refine Tri.skip ?_
    refine At.thn (hK2 _ _ ?_); clear hK2
    refine Tri.cv (Cv.wk (.cons (t := 1) (Has.t rfl) (.cons (t := 2) (Has.t rfl) (.cons (t := 4) (Has.t rfl) .nil)))) ?_
    refine Tri.seq fun K5 hK5 => ?_
    refine Tri.dr ?_
    refine DrG.st (i := 0) [] rfl rfl rfl (by kernel_rfl) (OKG.o rfl (OK1.load (Has.t rfl) (i := 0) rfl ty30 rfl (Ss' := [_]) rfl)) ?_
    refine DrG.st (i := 1) [] rfl rfl rfl (by kernel_rfl) (OKG.o rfl (OK1.mv (Has.t rfl))) ?_
    refine DrG.st (i := 2) [] rfl rfl rfl (by kernel_rfl) (OKG.o rfl (OK1.load (Has.t rfl) (i := 0) rfl ty30 rfl (Ss' := [_]) rfl)) ?_
    refine DrG.st (i := 3) [11] rfl rfl rfl (by kernel_rfl) (OKG.o rfl (OK1.call (gfp_P) (.cons (Has.t rfl) .nil))) ?_
    refine DrG.st (i := 4) [12] rfl rfl rfl (by kernel_rfl) (OKG.o rfl (OK1.subU' (Has.t rfl) (Has.cU 2 rfl) (by first | omega | assumption) (by first | omega | assumption))) ?_
    refine DrG.fin (n := 5) mixed (by kernel_rfl) (by kernel_rfl) (by kernel_rfl) ?_
    refine Ops.cv (Cv.wk (.cons (t := 4) (Has.t rfl) (.cons (t := 9) (Has.t rfl) (.cons (t := 10) (Has.t rfl) (.cons (t := 13) (Has.t rfl) .nil))))) ?_
    refine st (OK1.call (gfp_raise (by first | omega | assumption)) (.cons (Has.t rfl) (.cons (Has.t rfl) (.cons (Has.t rfl) .nil)))) rfl ?_
    refine st (OK1.as (Has.t rfl)) rfl ?_
    refine nl ?_
    refine At.thn (hK5 _ _ ?_); clear hK5
    refine Tri.ret ?_
    refine rt1 (.inl rfl) Tryz.results80 rfl (.tmp (Has.t' rfl ?_) .nil)
    all_goals (exact isU_eq (by rw [inv, if_neg hc1]))
set_option maxHeartbeats 4000000 in
theorem modn_Prime {p : Nat} : Ctr Tryz.prog 37 [isU p] (isB (pr p)) := by
  refine Ctr.intro Tryz.func37 rfl (by kernel_rfl) Tryz.ntmps37 rfl fun w0 F0 => ?_
  refine Tri.cv (Cv.wk (.cons (t := 0) (Has.t rfl) .nil)) ?_
  refine Tri.fact (Has.ltU (Has.t (t := 0) rfl)) fun lt0 => ?_
  refine Tri.seq fun K1 hK1 => ?_
  refine Tri.region ?_
  refine st (OK1.as (Has.cB false)) rfl ?_
  refine nl ?_
  refine At.thn (hK1 _ _ ?_); clear hK1
  refine Tri.seq fun K2 hK2 => ?_
  refine Tri.seq fun K3 hK3 => ?_
  refine Tri.region ?_
  refine st (OK1.mv (Has.t rfl)) rfl ?_
  refine st (OK1.ltU (Has.t rfl) (Has.cU 2 rfl)) rfl ?_
  refine st (OK1.mv (Has.t rfl)) rfl ?_
  refine stF rfl rfl (fun hg => have hg' := BP.t hg; OK1.mv (Has.t rfl)) rfl ?_
  refine stF rfl rfl (fun hg => have hg' := BP.t hg; OK1.geU (Has.g rfl hg) (Has.cU 2147483648 rfl)) rfl ?_
  refine st (OK1.pickOr (Has.t rfl) (fun h => Has.g rfl (ng h))) rfl ?_
  refine st (OK1.mv (Has.t rfl)) rfl ?_
  refine stF rfl rfl (fun hg => have hg' := BP.t hg; OK1.mv (Has.t rfl)) rfl ?_
  refine stF rfl rfl (fun hg => have hg' := BP.t hg; OK1.remU (Has.g rfl hg) (Has.cU 2 rfl) (by first | omega | assumption) (by first | omega | assumption)) rfl ?_
  refine stF rfl rfl (fun hg => have hg' := BP.t hg; OK1.eqU (Has.g rfl hg) (Has.cU 0 rfl)) rfl ?_
  refine st (OK1.pickOr (Has.t rfl) (fun h => Has.g rfl (ng h))) rfl ?_
  refine nl ?_
  refine At.thn (hK3 _ _ ?_); clear hK3
  refine Tri.cv (Cv.wk (.cons (t := 0) (Has.t rfl) (.cons (t := 2) (Has.t rfl) (.cons (t := 14) (Has.t rfl) .nil)))) ?_
  refine Tri.cond (Has.t rfl) (fun hc1 => ?_) (fun hc1 => ?_)
  · have hc1 := BP.t hc1
    refine Tri.seq fun K4 hK4 => ?_
    refine Tri.region ?_
    refine st (OK1.mv (Has.t rfl)) rfl ?_
    refine st (OK1.eqU (Has.t rfl) (Has.cU 2 rfl)) rfl ?_
    refine st (OK1.as (Has.t rfl)) rfl ?_
    refine nl ?_
    refine At.thn (hK4 _ _ ?_); clear hK4
    refine Tri.ret ?_
    refine At.thr ?_
    refine rt1 (.inl rfl) Tryz.results37 rfl (.tmp (Has.t' rfl ?_) .nil)
    all_goals (exact isB_eq (pr_small hc1))
  · have hc1 := BP.f hc1
    refine Tri.skip ?_
    refine At.thn (hK2 _ _ ?_); clear hK2
    refine Tri.seq fun K5 hK5 => ?_
    refine Tri.seq fun K6 hK6 => ?_
    refine Tri.region ?_
    refine st (OK1.as (Has.cU 3 rfl)) rfl ?_
    refine nl ?_
    refine At.thn (hK6 _ _ ?_); clear hK6
    refine Tri.block ?_
    refine Tri.loopF [0] (fun (z : { d : Nat // d % 2 = 1 ∧ 3 ≤ d ∧ d < 65536 ∧ NoDiv p d }) => match z with | ⟨d, hI⟩ => [(3, isU d)]) (fun M => fun (z : { d : Nat // d % 2 = 1 ∧ 3 ≤ d ∧ d < 65536 ∧ NoDiv p d }) => match z with | ⟨d, hI⟩ => M) (fun (z : { d : Nat // d % 2 = 1 ∧ 3 ≤ d ∧ d < 65536 ∧ NoDiv p d }) => match z with | ⟨d, hI⟩ => 65536 - d) (⟨3, by omega, by omega, by omega, noDiv_three (by omega)⟩) (Cv.mem (.cons (t := 3) (Has.t' rfl ?_) (.cons (t := 0) (Has.t rfl) .nil)) ?_) ?_
    · rfl
    · rfl
    rintro ⟨d, hd1, hd2, hd3, hd4⟩ K7 hK7
    refine Tri.cv (Cv.wk (.cons (t := 3) (Has.t rfl) (.cons (t := 0) (Has.t rfl) .nil))) ?_
    have hdd : d * d < 4294967296 := Nat.mul_lt_mul'' hd3 hd3
    refine Tri.seq fun K8 hK8 => ?_
    refine Tri.seq fun K9 hK9 => ?_
    refine Tri.region ?_
    refine st (OK1.mv (Has.t rfl)) rfl ?_
    refine st (OK1.mv (Has.t rfl)) rfl ?_
    refine st (OK1.mulU' (Has.t rfl) (Has.t rfl) (by first | omega | assumption)) rfl ?_
    refine st (OK1.mv (Has.t rfl)) rfl ?_
    refine st (OK1.leU (Has.t rfl) (Has.t rfl)) rfl ?_
    refine nl ?_
    refine At.thn (hK9 _ _ ?_); clear hK9
    refine Tri.cond (Has.t rfl) (fun hc2 => ?_) (fun hc2 => ?_)
    · have hc2 := BP.t hc2
      refine Tri.skip ?_
      refine At.thn (hK8 _ _ ?_); clear hK8
      refine Tri.seq fun K10 hK10 => ?_
      refine Tri.block ?_
      refine Tri.seq fun K11 hK11 => ?_
      refine Tri.region ?_
      refine st (OK1.mv (Has.t rfl)) rfl ?_
      refine st (OK1.mv (Has.t rfl)) rfl ?_
      refine st (OK1.remU (Has.t rfl) (Has.t rfl) (by first | omega | assumption) (by first | omega | assumption)) rfl ?_
      refine st (OK1.eqU (Has.t rfl) (Has.cU 0 rfl)) rfl ?_
      refine nl ?_
      refine At.thn (hK11 _ _ ?_); clear hK11
      refine Tri.cond (Has.t rfl) (fun hc3 => ?_) (fun hc3 => ?_)
      · have hc3 := BP.t hc3
        refine Tri.seq fun K12 hK12 => ?_
        refine Tri.region ?_
        refine st (OK1.as (Has.cB false)) rfl ?_
        refine nl ?_
        refine At.thn (hK12 _ _ ?_); clear hK12
        refine Tri.ret ?_
        refine At.blr ?_
        refine At.thr ?_
        refine At.thr ?_
        refine At.blr ?_
        refine At.thr ?_
        refine rt1 (.inl rfl) Tryz.results37 rfl (.tmp (Has.t' rfl ?_) .nil)
        all_goals (exact isB_eq (pr_false (.inl (not_prime_of_div (by omega) hc2 hc3))).symm)
      · have hc3 := BP.f hc3
        refine Tri.skip ?_
        refine At.bln ?_
        refine At.thn (hK10 _ _ ?_); clear hK10
        refine Tri.region ?_
        refine st (OK1.mv (Has.t rfl)) rfl ?_
        refine st (OK1.addU' (Has.t rfl) (Has.cU 2 rfl) (by first | omega | assumption)) rfl ?_
        refine st (OK1.as (Has.t rfl)) rfl ?_
        refine nl ?_
        refine At.thn ?_
        have hd5 := sq_lt hc2 (by omega)
        refine hK7 (⟨d + 2, by omega, by omega, by omega, noDiv_step (by omega) hd1 hd4 hc3⟩) _ _ ?_ (Cv.mem (.cons (t := 3) (Has.t' rfl ?_) (.cons (t := 0) (Has.t rfl) .nil)) ?_)
        · show 65536 - (d + 2) < 65536 - d; omega
        · rfl
        · rfl
    · have hc2 := BP.f hc2
      refine Tri.exit ?_
      refine At.the ?_
      refine At.the ?_
      refine At.blh ?_
      refine At.thn (hK5 _ _ ?_); clear hK5
      refine Tri.cv (Cv.wk .nil) ?_
      refine Tri.seq fun K13 hK13 => ?_
      refine Tri.region ?_
      refine st (OK1.as (Has.cB true)) rfl ?_
      refine nl ?_
      refine At.thn (hK13 _ _ ?_); clear hK13
      refine Tri.ret ?_
      refine rt1 (.inl rfl) Tryz.results37 rfl (.tmp (Has.t' rfl ?_) .nil)
      all_goals (exact isB_eq (pr_iff.2 ⟨prime_of_noDiv (by omega) hd4 hc2, by omega⟩).symm)
set_option maxHeartbeats 4000000 in
theorem gfp_New {p : Nat} : Ctr Tryz.prog 18 [isU p] (isTup [Flat [isU (if pr p then p else 0)], isB (pr p)]) := by
  refine Ctr.intro Tryz.func18 rfl (by kernel_rfl) Tryz.ntmps18 rfl fun w0 F0 => ?_
  refine Tri.cv (Cv.wk (.cons (t := 0) (Has.t rfl) .nil)) ?_
  refine Tri.fact (Has.ltU (Has.t (t := 0) rfl)) fun lt0 => ?_
  refine Tri.seq fun K1 hK1 => ?_
  refine Tri.region ?_
  refine Ops.alloc [isU 0] zero30 (fun _ _ => ⟨⟨rfl, by decide⟩, trivial⟩) rfl fun b1 => ?_
  refine st (OK1.as (Has.cB false)) rfl ?_
  refine nl ?_
  refine At.thn (hK1 _ _ ?_); clear hK1
  refine Tri.seq fun K2 hK2 => ?_
  refine Tri.seq fun K3 hK3 => ?_
  refine Tri.region ?_
  refine st (OK1.mv (Has.t rfl)) rfl ?_
  refine st (OK1.call (modn_Prime) (.cons (Has.t rfl) .nil)) rfl ?_
  refine st (OK1.not (Has.t rfl)) rfl ?_
  refine nl ?_
  refine At.thn (hK3 _ _ ?_); clear hK3
  refine Tri.cond (Has.t rfl) (fun hc1 => ?_) (fun hc1 => ?_)
  · have hc1 := BP.t hc1
    refine Tri.seq fun K4 hK4 => ?_
    refine Tri.region ?_
    refine st (OK1.build [isU 0] pl30 zero30 (fun _ _ => ⟨⟨rfl, by decide⟩, trivial⟩) .nil (Z'' := [_]) rfl) rfl ?_
    refine Ops.store (Has.t rfl) (Has.t rfl) (i := 0) rfl ty30 rfl rfl (Ss' := [_]) rfl (M' := [(some _, cellM [_])]) rfl ?_
    refine st (OK1.as (Has.cB false)) rfl ?_
    refine nl ?_
    refine At.thn (hK4 _ _ ?_); clear hK4
    refine Tri.ret ?_
    refine At.thr ?_
    refine rtN (.inl rfl) Tryz.results18 rfl rfl (.cell rfl (i := 0) rfl ty30 rfl ?_ (.tmp (Has.t' rfl ?_) .nil))
    all_goals (simp [hc1])
  · have hc1 := BP.f hc1
    refine Tri.skip ?_
    refine At.thn (hK2 _ _ ?_); clear hK2
    refine Tri.seq fun K5 hK5 => ?_
    refine Tri.region ?_
    refine st (OK1.mv (Has.t rfl)) rfl ?_
    refine st (OK1.build [isU 0] pl30 zero30 (fun _ _ => ⟨⟨rfl, by decide⟩, trivial⟩) (.cons (Has.t rfl) rfl rfl rfl .nil) (Z'' := [_]) rfl) rfl ?_
    refine Ops.store (Has.t rfl) (Has.t rfl) (i := 0) rfl ty30 rfl rfl (Ss' := [_]) rfl (M' := [(some _, cellM [_])]) rfl ?_
    refine st (OK1.as (Has.cB true)) rfl ?_
    refine nl ?_
    refine At.thn (hK5 _ _ ?_); clear hK5
    refine Tri.cv (Cv.wk (.cons (t := 2) (Has.t rfl) (.cons (t := 3) (Has.t rfl) .nil))) ?_
    refine Tri.ret ?_
    refine rtN (.inl rfl) Tryz.results18 rfl rfl (.cell rfl (i := 0) rfl ty30 rfl ?_ (.tmp (Has.t' rfl ?_) .nil))
    all_goals (simp [hc1])
theorem gfp_New_yes {p : Nat} (h : pr p = true) : Ctr Tryz.prog 18 [isU p] (isTup [Flat [isU p], isB true]) := by
  have := gfp_New (p := p); rwa [h] at this
end Go.Proofs.YtkgipdidomikbaaGreat
/- Contracts: references for fields, the laws' fixed fact. -/
namespace Go.Proofs.YtkgipdidomikbaaGreat
open Go.En Go.RowKit
set_option linter.unusedVariables false
set_option maxRecDepth 10000
open Go.Gf
set_option maxHeartbeats 4000000 in
theorem ref08_P {n : Nat} : Ctr Tryz.prog 19 [isK .u8 (n : Int)] (isU (ptab (n % 12))) := by
  refine Ctr.intro Tryz.func19 rfl (by kernel_rfl) Tryz.ntmps19 rfl fun w0 F0 => ?_
  refine Tri.cv (Cv.wk (.cons (t := 0) (Has.t rfl) .nil)) ?_
  refine Tri.fact (Has.rngK (Has.t (t := 0) rfl)) fun lt0 => ?_
  simp only [IntKind.min, IntKind.max, IntKind.signed, IntKind.bits] at lt0
  refine Tri.seq fun K1 hK1 => ?_
  refine Tri.region ?_
  refine st (OK1.as (Has.cU 0 rfl)) rfl ?_
  refine nl ?_
  refine At.thn (hK1 _ _ ?_); clear hK1
  refine Tri.seq fun K2 hK2 => ?_
  refine Tri.region ?_
  refine st (OK1.buildA [isU 0, isU 0, isU 0, isU 0, isU 0, isU 0, isU 0, isU 0, isU 0, isU 0, isU 0, isU 0] arr78 ty28 zero78 (fun _ _ => ⟨⟨rfl, by decide⟩, ⟨rfl, by decide⟩, ⟨rfl, by decide⟩, ⟨rfl, by decide⟩, ⟨rfl, by decide⟩, ⟨rfl, by decide⟩, ⟨rfl, by decide⟩, ⟨rfl, by decide⟩, ⟨rfl, by decide⟩, ⟨rfl, by decide⟩, ⟨rfl, by decide⟩, ⟨rfl, by decide⟩, trivial⟩) (.cons (Has.cU 2 rfl) rfl rfl rfl (.cons (Has.cU 3 rfl) rfl rfl rfl (.cons (Has.cU 5 rfl) rfl rfl rfl (.cons (Has.cU 7 rfl) rfl rfl rfl (.cons (Has.cU 11 rfl) rfl rfl rfl (.cons (Has.cU 13 rfl) rfl rfl rfl (.cons (Has.cU 101 rfl) rfl rfl rfl (.cons (Has.cU 65537 rfl) rfl rfl rfl (.cons (Has.cU 1000003 rfl) rfl rfl rfl (.cons (Has.cU 1073741827 rfl) rfl rfl rfl (.cons (Has.cU 2147483629 rfl) rfl rfl rfl (.cons (Has.cU 2147483647 rfl) rfl rfl rfl .nil)))))))))))) (Z'' := [isU 2, isU 3, isU 5, isU 7, isU 11, isU 13, isU 101, isU 65537, isU 1000003, isU 1073741827, isU 2147483629, isU 2147483647]) rfl) rfl ?_
  refine st (OK1.mv (Has.t rfl)) rfl ?_
  refine st (OK1.remK (Has.t rfl) (Has.cK .u8 12 rfl) (by first | omega | decide | (simp only [IntKind.max, IntKind.signed, IntKind.bits]; simp; omega)) (by first | omega | decide | (simp only [IntKind.max, IntKind.signed, IntKind.bits]; simp; omega)) (by first | omega | decide | (simp only [IntKind.max, IntKind.signed, IntKind.bits]; simp; omega))) rfl ?_
  refine st (OK1.idx arr78 ty28 (Has.t rfl) (evK (Has.t rfl)) (by first | omega | decide | (simp only [IntKind.max, IntKind.signed, IntKind.bits]; simp; omega)) (by first | omega | decide | (simp only [IntKind.max, IntKind.signed, IntKind.bits]; simp; omega)) (ptab_get n isU)) rfl ?_
  refine st (OK1.as (Has.t rfl)) rfl ?_
  refine nl ?_
  refine At.thn (hK2 _ _ ?_); clear hK2
  refine Tri.cv (Cv.wk (.cons (t := 2) (Has.t rfl) .nil)) ?_
  refine Tri.ret ?_
  refine rt1 (.inl rfl) Tryz.results19 rfl (.tmp (Has.t' rfl ?_) .nil)
  all_goals (rfl)
end Go.Proofs.YtkgipdidomikbaaGreat
/- Contracts: matrices of words. -/
namespace Go.Proofs.YtkgipdidomikbaaGreat
open Go.En Go.RowKit
set_option linter.unusedVariables false
set_option maxRecDepth 10000
open Go.Gf
open Go.Mz
open Go.Mu
set_option maxHeartbeats 4000000 in
theorem fmat_side {n : Int} : Ctr Tryz.prog 76 [isI n] (isB (decide (0 ≤ n) && decide (n ≤ 64))) := by
  refine Ctr.intro Tryz.func76 rfl (by kernel_rfl) Tryz.ntmps76 rfl fun w0 F0 => ?_
  refine Tri.cv (Cv.wk (.cons (t := 0) (Has.t rfl) .nil)) ?_
  refine Tri.fact (Has.rngI (Has.t (t := 0) rfl)) fun lt0 => ?_
  refine Tri.seq fun K1 hK1 => ?_
  refine Tri.region ?_
  refine st (OK1.as (Has.cB false)) rfl ?_
  refine nl ?_
  refine At.thn (hK1 _ _ ?_); clear hK1
  refine Tri.seq fun K2 hK2 => ?_
  refine Tri.region ?_
  refine st (OK1.mv (Has.t rfl)) rfl ?_
  refine st (OK1.geI (Has.t rfl) (Has.cI 0 rfl)) rfl ?_
  refine st (OK1.mv (Has.t rfl)) rfl ?_
  refine stT rfl rfl (fun hg => have hg' := BP.t hg; OK1.mv (Has.t rfl)) rfl ?_
  refine stT rfl rfl (fun hg => have hg' := BP.t hg; OK1.leI (Has.g rfl hg) (Has.cI 64 rfl)) rfl ?_
  refine st (OK1.pickAnd (Has.t rfl) (fun h => Has.g rfl h)) rfl ?_
  refine st (OK1.as (Has.t rfl)) rfl ?_
  refine nl ?_
  refine At.thn (hK2 _ _ ?_); clear hK2
  refine Tri.cv (Cv.wk (.cons (t := 2) (Has.t rfl) .nil)) ?_
  refine Tri.ret ?_
  refine rt1 (.inl rfl) Tryz.results76 rfl (.tmp (Has.t' rfl ?_) .nil)
  all_goals (rfl)
set_option maxHeartbeats 4000000 in
theorem fmat_Formed {r c : Int} {xs : List Nat} : Ctr Tryz.prog 54 [isMW r c xs] (isB (formB r c xs.length)) := by
  refine Ctr.intro Tryz.func54 rfl (by kernel_rfl) Tryz.ntmps54 rfl fun w0 F0 => ?_
  refine Tri.cv (Cv.wk (.cons (t := 0) (Has.t rfl) .nil)) ?_
  refine Tri.seq fun K1 hK1 => ?_
  refine Tri.region ?_
  refine Ops.box (Has.t rfl) rfl fun b1 => ?_
  refine st (OK1.as (Has.cB false)) rfl ?_
  refine nl ?_
  refine At.thn (hK1 _ _ ?_); clear hK1
  refine Tri.seq fun K2 hK2 => ?_
  refine Tri.region ?_
  refine st (OK1.fieldAddr (Has.t rfl) fld38_0 ty3) rfl ?_
  refine st (OK1.load1 (Has.t rfl) (i := 0) rfl ty3 rfl) rfl ?_
  refine st (OK1.call (fmat_side) (.cons (Has.t rfl) .nil)) rfl ?_
  refine st (OK1.mv (Has.t rfl)) rfl ?_
  refine stT rfl rfl (fun hg => have hg' := BP.t hg; OK1.fieldAddr (Has.t rfl) fld38_1 ty3) rfl ?_
  refine stT rfl rfl (fun hg => have hg' := BP.t hg; OK1.load1 (Has.g rfl hg) (i := 0) rfl ty3 rfl) rfl ?_
  refine stT rfl rfl (fun hg => have hg' := BP.t hg; OK1.call (fmat_side) (.cons (Has.g rfl hg) .nil)) rfl ?_
  refine st (OK1.pickAnd (Has.t rfl) (fun h => Has.g rfl h)) rfl ?_
  refine st (OK1.mv (Has.t rfl)) rfl ?_
  refine stT rfl rfl (fun hg => have hg' := BP.t hg; OK1.fieldAddr (Has.t rfl) fld38_2 ty36) rfl ?_
  refine stT rfl rfl (fun hg => have hg' := BP.t hg; OK1.load1 (Has.g rfl hg) (i := 0) rfl ty36 rfl) rfl ?_
  refine stT rfl rfl (fun hg => have hg' := BP.t hg; OK1.len sl36 (Has.g rfl hg)) rfl ?_
  refine stT rfl rfl (fun hg => have hg' := BP.t hg; OK1.fieldAddr (Has.t rfl) fld38_0 ty3) rfl ?_
  refine stT rfl rfl (fun hg => have hg' := BP.t hg; OK1.load1 (Has.g rfl hg) (i := 0) rfl ty3 rfl) rfl ?_
  refine stT rfl rfl (fun hg => have hg' := BP.t hg; OK1.fieldAddr (Has.t rfl) fld38_1 ty3) rfl ?_
  refine stT rfl rfl (fun hg => have hg' := BP.t hg; OK1.load1 (Has.g rfl hg) (i := 0) rfl ty3 rfl) rfl ?_
  refine stT rfl rfl (fun hg => have hg' := BP.t hg; OK1.mulI (Has.g rfl hg) (Has.g rfl hg) (by have := mul_bnd ⟨hg'.1, hg'.2⟩; omega) (by have := mul_bnd ⟨hg'.1, hg'.2⟩; omega)) rfl ?_
  refine stT rfl rfl (fun hg => have hg' := BP.t hg; OK1.eqI (Has.g rfl hg) (Has.g rfl hg)) rfl ?_
  refine st (OK1.pickAnd (Has.t rfl) (fun h => Has.g rfl h)) rfl ?_
  refine st (OK1.as (Has.t rfl)) rfl ?_
  refine nl ?_
  refine At.thn (hK2 _ _ ?_); clear hK2
  refine Tri.cv (Cv.wk (.cons (t := 2) (Has.t rfl) .nil)) ?_
  refine Tri.ret ?_
  refine rt1 (.inl rfl) Tryz.results54 rfl (.tmp (Has.t' rfl ?_) .nil)
  all_goals (rfl)
set_option maxHeartbeats 4000000 in
theorem fmat_get {r : Int} {C i k : Nat} {xs : List Nat} (hx : xs.length ≤ 4096) (hl : i * C + k < xs.length) : Ctr Tryz.prog 112 [isMW r (C : Int) xs, isI (i : Int), isI (k : Int)] (isU (xs.getD (i * C + k) 0)) := by
  refine Ctr.intro Tryz.func112 rfl (by kernel_rfl) Tryz.ntmps112 rfl fun w0 F0 => ?_
  refine Tri.cv (Cv.wk (.cons (t := 0) (Has.t rfl) (.cons (t := 1) (Has.t rfl) (.cons (t := 2) (Has.t rfl) .nil)))) ?_
  refine Tri.fact (Has.rngI (Has.t (t := 1) rfl)) fun lt1 => ?_
  refine Tri.fact (Has.rngI (Has.t (t := 2) rfl)) fun lt2 => ?_
  have hcp : ((i : Int) * (C : Int)) = ((i * C : Nat) : Int) := (Int.natCast_mul i C).symm
  refine Tri.seq fun K1 hK1 => ?_
  refine Tri.region ?_
  refine Ops.box (Has.t rfl) rfl fun b1 => ?_
  refine st (OK1.as (Has.cU 0 rfl)) rfl ?_
  refine nl ?_
  refine At.thn (hK1 _ _ ?_); clear hK1
  refine Tri.seq fun K2 hK2 => ?_
  refine Tri.region ?_
  refine st (OK1.fieldAddr (Has.t rfl) fld38_2 ty36) rfl ?_
  refine st (OK1.load1 (Has.t rfl) (i := 0) rfl ty36 rfl) rfl ?_
  refine st (OK1.mv (Has.t rfl)) rfl ?_
  refine st (OK1.fieldAddr (Has.t rfl) fld38_1 ty3) rfl ?_
  refine st (OK1.load1 (Has.t rfl) (i := 0) rfl ty3 rfl) rfl ?_
  refine st (OK1.eq (OK1.mulI (Has.t rfl) (Has.t rfl) (by first | omega | (rw [hcp]; omega)) (by first | omega | (rw [hcp]; omega))) ((show isI _ = isI ((i * C : Nat) : Int) from isI_eq hcp))) rfl ?_
  refine st (OK1.mv (Has.t rfl)) rfl ?_
  refine st (OK1.eq (OK1.addI (Has.t rfl) (Has.t rfl) (by first | omega | (rw [hcp]; omega)) (by first | omega | (rw [hcp]; omega))) ((show isI _ = isI ((i * C + k : Nat) : Int) from isI_eq (by omega)))) rfl ?_
  refine st (OK1.ixP sl36 ty28 (Has.t rfl) (Has.t rfl) ⟨by omega, by omega⟩ (getD_some (d := 0) (by first | omega | (simp only [Int.toNat_natCast, List.length_set]; omega)))) rfl ?_
  refine st (OK1.loadP1 (Has.t rfl) ty28) rfl ?_
  refine st (OK1.as (Has.t rfl)) rfl ?_
  refine nl ?_
  refine At.thn (hK2 _ _ ?_); clear hK2
  refine Tri.cv (Cv.wk (.cons (t := 6) (Has.t rfl) .nil)) ?_
  refine Tri.ret ?_
  refine rt1 (.inl rfl) Tryz.results112 rfl (.tmp (Has.t' rfl ?_) .nil)
  all_goals (rfl)
set_option maxHeartbeats 4000000 in
theorem fmat_made {q R C : Nat} {f : Nat → Nat → Nat} (hR : R ≤ 64) (hC : C ≤ 64) : Ctr Tryz.prog 23 [Flat [isU q], isI (R : Int), isI (C : Int), isAtU Tryz.prog R C f] (isMW R C (tabU (R * C) C fun i k => f i k % fp q)) := by
  refine Ctr.intro Tryz.func23 rfl (by kernel_rfl) Tryz.ntmps23 rfl fun w0 F0 => ?_
  refine Tri.cv (Cv.wk (.cons (t := 0) (Has.t rfl) (.cons (t := 1) (Has.t rfl) (.cons (t := 2) (Has.t rfl) (.cons (t := 3) (Has.t rfl) .nil))))) ?_
  refine Tri.fact (Has.rngI (Has.t (t := 1) rfl)) fun lt1 => ?_
  refine Tri.fact (Has.rngI (Has.t (t := 2) rfl)) fun lt2 => ?_
  have hRC := side_le hR hC
  obtain ⟨G, hG⟩ : ∃ G : Nat → Nat → Nat, G = fun i k => f i k % fp q := ⟨_, rfl⟩
  rw [← hG]
  refine Tri.seq fun K1 hK1 => ?_
  refine Tri.region ?_
  refine Ops.box (Has.t rfl) rfl fun b1 => ?_
  refine Ops.alloc [isI 0, isI 0, nilS] zero38 (fun _ _ => ⟨⟨rfl, by decide, by decide⟩, ⟨rfl, by decide, by decide⟩, rfl, trivial⟩) rfl fun b2 => ?_
  refine nl ?_
  refine At.thn (hK1 _ _ ?_); clear hK1
  refine Tri.seq fun K2 hK2 => ?_
  refine Tri.region ?_
  refine st (OK1.mv (Has.t rfl)) rfl ?_
  refine st (OK1.mv (Has.t rfl)) rfl ?_
  refine st (OK1.build [isI 0, isI 0, nilS] pl38 zero38 (fun _ _ => ⟨⟨rfl, by decide, by decide⟩, ⟨rfl, by decide, by decide⟩, rfl, trivial⟩) (.cons (Has.t rfl) rfl rfl rfl (.cons (Has.t rfl) rfl rfl rfl .nil)) (Z'' := [_, _, _]) rfl) rfl ?_
  refine Ops.alloc [isI 0, isI 0, nilS] zero38 (fun _ _ => ⟨⟨rfl, by decide, by decide⟩, ⟨rfl, by decide, by decide⟩, rfl, trivial⟩) rfl fun b3 => ?_
  refine Ops.store (Has.t rfl) (Has.t rfl) (i := 0) rfl ty38 rfl rfl (Ss' := [_, _, _]) rfl (M' := [(some _, cellM [_, _, _]), _, _]) rfl ?_
  refine nl ?_
  refine At.thn (hK2 _ _ ?_); clear hK2
  refine Tri.seq fun K3 hK3 => ?_
  refine Tri.seq fun K4 hK4 => ?_
  refine Tri.cv (Cv.growF (Nat) (i := 0) (o := 2) rfl rfl rfl) ?_
  refine Tri.memEq (M' := [grM isU Gr.nil [], _, _, _]) rfl ?_
  refine Tri.region ?_
  refine st (OK1.mv (Has.t rfl)) rfl ?_
  refine st (OK1.mv (Has.cI 0 rfl)) rfl ?_
  refine nl ?_
  refine At.thn (hK4 _ _ ?_); clear hK4
  refine Tri.cv (Cv.wk (.cons (t := 2) (Has.t rfl) (.cons (t := 3) (Has.t rfl) (.cons (t := 4) (Has.t rfl) (.cons (t := 8) (Has.t rfl) (.cons (t := 9) (Has.t rfl) (.cons (t := 15) (Has.t rfl) (.cons (t := 16) (Has.t rfl) .nil)))))))) ?_
  refine Tri.block ?_
  refine Tri.loopF [2, 3, 4, 8, 9, 15] (fun (z : { z : Nat × Gr Nat // z.1 ≤ R }) => match z with | ⟨(i, g), hI⟩ => [(16, isI (i : Int))]) (fun M => fun (z : { z : Nat × Gr Nat // z.1 ≤ R }) => match z with | ⟨(i, g), hI⟩ => [grM isU g (tabU (i * C + 0) C G), (some b3, cellM [isI (R : Int), isI (C : Int), isGr g (tabU (i * C + 0) C G).length]), (some b2, cellM [isI 0, isI 0, nilS]), (some b1, cellM [isU q])]) (fun (z : { z : Nat × Gr Nat // z.1 ≤ R }) => match z with | ⟨(i, g), hI⟩ => R - i) (⟨(0, Gr.nil), Nat.zero_le _⟩) (Cv.mem (.cons (t := 16) (Has.t' rfl ?_) (.cons (t := 2) (Has.t rfl) (.cons (t := 3) (Has.t rfl) (.cons (t := 4) (Has.t rfl) (.cons (t := 8) (Has.t rfl) (.cons (t := 9) (Has.t rfl) (.cons (t := 15) (Has.t rfl) .nil))))))) ?_) ?_
  · rfl
  · exact grFu_eq (n := 0) (ys := []) (by rw [tabU_len, Nat.zero_mul]) (show [] = tabU (0 * C + 0) C G by rw [Nat.zero_mul]; rfl)
  rintro ⟨⟨i, g⟩, hI⟩ K5 hK5
  refine Tri.cv (Cv.wk (.cons (t := 16) (Has.t rfl) (.cons (t := 2) (Has.t rfl) (.cons (t := 3) (Has.t rfl) (.cons (t := 4) (Has.t rfl) (.cons (t := 8) (Has.t rfl) (.cons (t := 9) (Has.t rfl) (.cons (t := 15) (Has.t rfl) .nil)))))))) ?_
  refine Tri.memEq (M' := [grM isU g (tabU (i * C + 0) C G), (some b3, cellM [isI (R : Int), isI (C : Int), isGr g (tabU (i * C + 0) C G).length]), (some b2, cellM [isI 0, isI 0, nilS]), (some b1, cellM [isU q])]) rfl ?_
  simp only [] at hI
  refine Tri.seq fun K6 hK6 => ?_
  refine Tri.region ?_
  refine st (OK1.ltI (Has.t rfl) (Has.t rfl)) rfl ?_
  refine nl ?_
  refine At.thn (hK6 _ _ ?_); clear hK6
  refine Tri.seq fun K7 hK7 => ?_
  refine Tri.cond (Has.t rfl) (fun hc1 => ?_) (fun hc1 => ?_)
  · have hc1 := BP.t hc1
    refine Tri.skip ?_
    refine At.thn (hK7 _ _ ?_); clear hK7
    refine Tri.seq fun K8 hK8 => ?_
    refine Tri.block ?_
    refine Tri.seq fun K9 hK9 => ?_
    refine Tri.region ?_
    refine st (OK1.mv (Has.t rfl)) rfl ?_
    refine st (OK1.as (Has.t rfl)) rfl ?_
    refine nl ?_
    refine At.thn (hK9 _ _ ?_); clear hK9
    refine Tri.seq fun K10 hK10 => ?_
    refine Tri.region ?_
    refine st (OK1.mv (Has.t rfl)) rfl ?_
    refine st (OK1.mv (Has.cI 0 rfl)) rfl ?_
    refine nl ?_
    refine At.thn (hK10 _ _ ?_); clear hK10
    refine Tri.block ?_
    refine Tri.loopF [2, 3, 4, 8, 9, 15, 16, 17, 18, 10, 19] (fun (z : { z : Nat × Gr Nat // z.1 ≤ C }) => match z with | ⟨(k, g2), hK⟩ => [(20, isI (k : Int))]) (fun M => fun (z : { z : Nat × Gr Nat // z.1 ≤ C }) => match z with | ⟨(k, g2), hK⟩ => [grM isU g2 (tabU (i * C + k) C G), (some b3, cellM [isI (R : Int), isI (C : Int), isGr g2 (tabU (i * C + k) C G).length]), (some b2, cellM [isI 0, isI 0, nilS]), (some b1, cellM [isU q])]) (fun (z : { z : Nat × Gr Nat // z.1 ≤ C }) => match z with | ⟨(k, g2), hK⟩ => C - k) (⟨(0, g), Nat.zero_le _⟩) (Cv.mem (.cons (t := 20) (Has.t' rfl ?_) (.cons (t := 2) (Has.t rfl) (.cons (t := 3) (Has.t rfl) (.cons (t := 4) (Has.t rfl) (.cons (t := 8) (Has.t rfl) (.cons (t := 9) (Has.t rfl) (.cons (t := 15) (Has.t rfl) (.cons (t := 16) (Has.t rfl) (.cons (t := 17) (Has.t rfl) (.cons (t := 18) (Has.t rfl) (.cons (t := 10) (Has.t rfl) (.cons (t := 19) (Has.t rfl) .nil)))))))))))) ?_) ?_
    · rfl
    · rfl
    rintro ⟨⟨k, g2⟩, hK⟩ K11 hK11
    refine Tri.cv (Cv.wk (.cons (t := 20) (Has.t rfl) (.cons (t := 2) (Has.t rfl) (.cons (t := 3) (Has.t rfl) (.cons (t := 4) (Has.t rfl) (.cons (t := 8) (Has.t rfl) (.cons (t := 9) (Has.t rfl) (.cons (t := 15) (Has.t rfl) (.cons (t := 16) (Has.t rfl) (.cons (t := 17) (Has.t rfl) (.cons (t := 18) (Has.t rfl) (.cons (t := 10) (Has.t rfl) (.cons (t := 19) (Has.t rfl) .nil))))))))))))) ?_
    refine Tri.memEq (M' := [grM isU g2 (tabU (i * C + k) C G), (some b3, cellM [isI (R : Int), isI (C : Int), isGr g2 (tabU (i * C + k) C G).length]), (some b2, cellM [isI 0, isI 0, nilS]), (some b1, cellM [isU q])]) rfl ?_
    simp only [] at hK
    refine Tri.seq fun K12 hK12 => ?_
    refine Tri.region ?_
    refine st (OK1.ltI (Has.t rfl) (Has.t rfl)) rfl ?_
    refine nl ?_
    refine At.thn (hK12 _ _ ?_); clear hK12
    refine Tri.seq fun K13 hK13 => ?_
    refine Tri.cond (Has.t rfl) (fun hc2 => ?_) (fun hc2 => ?_)
    · have hc2 := BP.t hc2
      refine Tri.skip ?_
      refine At.thn (hK13 _ _ ?_); clear hK13
      refine Tri.seq fun K14 hK14 => ?_
      refine Tri.block ?_
      refine Tri.seq fun K15 hK15 => ?_
      refine Tri.region ?_
      refine st (OK1.mv (Has.t rfl)) rfl ?_
      refine st (OK1.as (Has.t rfl)) rfl ?_
      refine nl ?_
      refine At.thn (hK15 _ _ ?_); clear hK15
      refine Tri.dr ?_
      refine DrG.st (i := 0) [] rfl rfl rfl (by kernel_rfl) (OKG.o rfl (OK1.fieldAddr (Has.t rfl) fld38_2 ty36)) ?_
      refine DrG.st (i := 1) [23] rfl rfl rfl (by kernel_rfl) (OKG.o rfl (OK1.load1 (Has.t rfl) (i := 1) rfl ty36 rfl)) ?_
      refine DrG.st (i := 2) [] rfl rfl rfl (by kernel_rfl) (OKG.o rfl (OK1.load (Has.t rfl) (i := 3) rfl ty30 rfl (Ss' := [_]) rfl)) ?_
      refine DrG.st (i := 3) [] rfl rfl rfl (by kernel_rfl) (OKG.o rfl (OK1.mv (Has.t rfl))) ?_
      refine DrG.st (i := 4) [] rfl rfl rfl (by kernel_rfl) (OKG.o rfl (OK1.mv (Has.t rfl))) ?_
      refine DrG.st (i := 5) [] rfl rfl rfl (by kernel_rfl) (OKG.o rfl (OK1.mv (Has.t rfl))) ?_
      refine DrG.st (i := 6) [26, 27, 28] rfl rfl rfl (by kernel_rfl) (OKG.o rfl (OK1.callV ⟨(i, k), by omega, by omega⟩ (Has.t rfl) (.cons (Has.t rfl) (.cons (Has.t rfl) .nil)))) ?_
      refine DrG.st (i := 7) [25, 29] rfl rfl rfl (by kernel_rfl) (OKG.o rfl (OK1.eq (OK1.call (gfp_Norm) (.cons (Has.t rfl) (.cons (Has.t rfl) .nil))) ((show isU _ = isU (G i k) from isU_eq (by rw [hG]))))) ?_
      refine DrG.st (i := 8) [30] rfl rfl rfl (by kernel_rfl) (OKG.o rfl (OK1.buildS [isU 0] sl36 ty28 zero28 (fun _ _ => ⟨⟨rfl, by decide⟩, trivial⟩) rfl rfl (.cons (Has.t rfl) rfl rfl rfl .nil) rfl (S := SlM isU [G i k]) rfl)) ?_
      refine DrG.fin (n := 9) mixed (by kernel_rfl) (by kernel_rfl) (by kernel_rfl) ?_
      refine Ops.cv (Cv.wk (.cons (t := 2) (Has.t rfl) (.cons (t := 3) (Has.t rfl) (.cons (t := 4) (Has.t rfl) (.cons (t := 8) (Has.t rfl) (.cons (t := 9) (Has.t rfl) (.cons (t := 15) (Has.t rfl) (.cons (t := 16) (Has.t rfl) (.cons (t := 17) (Has.t rfl) (.cons (t := 18) (Has.t rfl) (.cons (t := 10) (Has.t rfl) (.cons (t := 19) (Has.t rfl) (.cons (t := 20) (Has.t rfl) (.cons (t := 21) (Has.t rfl) (.cons (t := 22) (Has.t rfl) (.cons (t := 11) (Has.t rfl) (.cons (t := 23) (Has.t rfl) (.cons (t := 24) (Has.t rfl) (.cons (t := 25) (Has.t rfl) (.cons (t := 26) (Has.t rfl) (.cons (t := 27) (Has.t rfl) (.cons (t := 28) (Has.t rfl) (.cons (t := 29) (Has.t rfl) (.cons (t := 30) (Has.t rfl) (.cons (t := 31) (Has.t rfl) .nil))))))))))))))))))))))))) ?_
      refine Ops.appendG (f := isU) (u := 0) sl36 ty28 zero28 (fun _ _ => ⟨⟨rfl, by decide⟩, trivial⟩) (fun _ => inferInstance) by28 (Has.t rfl) (i := 0) rfl (Has.t rfl) (by have hpl := place_lt (show i < R by omega) (show k < C by omega); rw [tabU_len]; show i * C + k + 1 ≤ _; omega) (by simp) rfl fun gr1 => ?_
      refine Ops.memEq (M' := [grM _ _ _, _, _, _]) rfl ?_
      refine st (OK1.fieldAddr (Has.t rfl) fld38_2 ty36) rfl ?_
      refine Ops.store (Has.t rfl) (Has.t rfl) (i := 1) rfl ty36 rfl rfl (Ss' := [_, _, _]) rfl (M' := [_, (some _, cellM [_, _, _]), _, _]) rfl ?_
      refine nl ?_
      refine At.bln ?_
      refine At.thn (hK14 _ _ ?_); clear hK14
      refine Tri.region ?_
      refine st (OK1.addI (Has.t rfl) (Has.cI 1 rfl) (by first | omega | assumption) (by first | omega | assumption)) rfl ?_
      refine st (OK1.mv (Has.t rfl)) rfl ?_
      refine nl ?_
      refine At.thn ?_
      have hpl := place_lt (show i < R by omega) (show k < C by omega)
      refine hK11 (⟨(k + 1, gr1), by show k + 1 ≤ C; omega⟩) _ _ ?_ (Cv.mem (.cons (t := 20) (Has.t' rfl ?_) (.cons (t := 2) (Has.t rfl) (.cons (t := 3) (Has.t rfl) (.cons (t := 4) (Has.t rfl) (.cons (t := 8) (Has.t rfl) (.cons (t := 9) (Has.t rfl) (.cons (t := 15) (Has.t rfl) (.cons (t := 16) (Has.t rfl) (.cons (t := 17) (Has.t rfl) (.cons (t := 18) (Has.t rfl) (.cons (t := 10) (Has.t rfl) (.cons (t := 19) (Has.t rfl) .nil)))))))))))) ?_)
      · show C - (k + 1) < C - k; omega
      · exact isI_eq (by omega)
      · exact grFu_eq (by rw [← tabU_succ G (show k < C by omega), List.length_append]) (by rw [← tabU_succ G (show k < C by omega)])
    · have hc2 := BP.f hc2
      refine Tri.exit ?_
      refine At.the ?_
      refine At.the ?_
      refine At.blh ?_
      refine At.bln ?_
      refine At.thn (hK8 _ _ ?_); clear hK8
      refine Tri.region ?_
      refine st (OK1.addI (Has.t rfl) (Has.cI 1 rfl) (by first | omega | assumption) (by first | omega | assumption)) rfl ?_
      refine st (OK1.mv (Has.t rfl)) rfl ?_
      refine nl ?_
      refine At.thn ?_
      have hkC : k = C := by omega
      subst hkC
      refine hK5 (⟨(i + 1, g2), by show i + 1 ≤ R; omega⟩) _ _ ?_ (Cv.mem (.cons (t := 16) (Has.t' rfl ?_) (.cons (t := 2) (Has.t rfl) (.cons (t := 3) (Has.t rfl) (.cons (t := 4) (Has.t rfl) (.cons (t := 8) (Has.t rfl) (.cons (t := 9) (Has.t rfl) (.cons (t := 15) (Has.t rfl) .nil))))))) ?_)
      · show R - (i + 1) < R - i; omega
      · exact isI_eq (by omega)
      · exact grFu_eq (by rw [tabU_next]) (by rw [tabU_next])
  · have hc1 := BP.f hc1
    refine Tri.exit ?_
    refine At.the ?_
    refine At.the ?_
    refine At.blh ?_
    refine At.thn (hK3 _ _ ?_); clear hK3
    refine Tri.cv (Cv.wk (.cons (t := 8) (Has.t rfl) (.cons (t := 9) (Has.t rfl) .nil))) ?_
    refine Tri.seq fun K16 hK16 => ?_
    refine Tri.cv (Cv.freezeF (k := 1) (i := 0) (j := 0) (o := 2) rfl rfl rfl rfl gr_lenM gr_takeM (Ss' := [_, _, SlM isU (tabU (i * C + 0) C G)]) rfl) ?_
    refine Tri.memEq (M' := [(some _, cellM [_, _, SlM isU (tabU (i * C + 0) C G)]), _, _]) rfl ?_
    refine Tri.cv (Cv.wk (.cons (t := 8) (Has.t rfl) (.cons (t := 9) (Has.t rfl) .nil))) ?_
    refine Tri.region ?_
    refine st (OK1.load (Has.t rfl) (i := 0) rfl ty38 rfl (Ss' := [_, _, _]) rfl) rfl ?_
    refine Ops.store (Has.t rfl) (Has.t rfl) (i := 1) rfl ty38 rfl rfl (Ss' := [_, _, _]) rfl (M' := [_, (some _, cellM [_, _, _]), _]) rfl ?_
    refine nl ?_
    refine At.thn (hK16 _ _ ?_); clear hK16
    refine Tri.ret ?_
    refine rt1 (.inl rfl) Tryz.results23 rfl (.cell rfl (i := 1) rfl ty38 rfl ?_ .nil)
    all_goals (rw [Nat.add_zero, show i = R by omega])
end Go.Proofs.YtkgipdidomikbaaGreat
/- Contracts: Hessenberg's form, its steps. -/
namespace Go.Proofs.YtkgipdidomikbaaGreat
open Go.En Go.RowKit
set_option linter.unusedVariables false
set_option maxRecDepth 10000
open Go.Gf
open Go.Mz
open Go.Mu
open Go.Nt
open Go.Hs
theorem clr_step {p n : Nat} {σ H1 H2 : List Nat} {h : Nat → Nat → Nat} (hS : SV n σ) (hH1 : H1.length = n * n) (hH2 : H2.length = n * n) {i k c t : Nat} (hk : k < n) (ht : t < n) (h1 : ∀ r s, r < n → s < n → hu n σ H1 r s = rowE p h i k c r s)
    (hI : ∀ r s, r < n → s < n → hu n σ H2 r s = if r < t then colE p (rowE p h i k c) i k c r s else rowE p h i k c r s) :
    ∀ r s, r < n → s < n → hu n σ (H2.set (σ.getD t 0 * n + k) (colE p (rowE p h i k c) i k c t k)) r s = if r < t + 1 then colE p (rowE p h i k c) i k c r s else rowE p h i k c r s := by
  intro r s hr hs
  rw [hu_set hS hH2 ht hk hr hs]
  by_cases e : r = t ∧ s = k
  · obtain ⟨rfl, rfl⟩ := e
    rw [if_pos ⟨rfl, rfl⟩, if_pos (by omega)]
  · rw [if_neg e, hI r s hr hs]
    by_cases h1 : r < t
    · rw [if_pos h1, if_pos (by omega)]
    · rw [if_neg h1]
      by_cases h2 : r < t + 1
      · rw [if_pos h2]
        conv => rhs; unfold colE
        rw [if_neg (fun h3 => e ⟨by omega, h3⟩)]
      · rw [if_neg h2]
set_option maxHeartbeats 4000000 in
theorem hess_swap {q bw n : Nat} {gth gtp : Gr (Option Nat)} {gh gp : Gr Nat} {σ H P : List Nat} (hS : SV n σ) (hH : H.length = n * n) (hP : P.length = n * n) (hn : n ≤ 64) {i k : Nat} (hi : i < n) (hk : k < n) : CtrX Tryz.prog 79 [isPtr bw 0, isI (i : Int), isI (k : Int)] (wkH q bw n gth gtp gh gp σ H P) (fun S M => ∃ H2, S = isTup [] ∧ M = wkH q bw n gth gtp gh gp (swS σ i k) H2 P ∧ H2.length = n * n ∧ ∀ r s, r < n → s < n → hu n (swS σ i k) H2 r s = hu n σ H (ta i k r) (ta i k s)) := by
  refine CtrX.intro Tryz.func79 rfl (by kernel_rfl) Tryz.ntmps79 rfl fun w0 F0 => ?_
  refine Tri.cv (Cv.wk (.cons (t := 0) (Has.t rfl) (.cons (t := 1) (Has.t rfl) (.cons (t := 2) (Has.t rfl) .nil)))) ?_
  refine Tri.fact (Has.rngI (Has.t (t := 1) rfl)) fun lt1 => ?_
  refine Tri.fact (Has.rngI (Has.t (t := 2) rfl)) fun lt2 => ?_
  have hsl := hS.len
  have hS2 := hS.swap hi hk
  have hsl2 := hS2.len
  refine Tri.seq fun K1 hK1 => ?_
  refine Tri.dry mixed ?_
  refine DrB.take (i := 0) rfl rfl rfl rfl (by kernel_rfl) (by kernel_rfl) (by kernel_rfl) (by kernel_rfl) (fun _ _ _ _ h => h) (OKY.mv (Has.t rfl)) ?_
  refine DrB.take (i := 1) rfl rfl rfl rfl (by kernel_rfl) (by kernel_rfl) (by kernel_rfl) (by kernel_rfl) (fun _ _ _ _ h => h) (OKY.nilc (Has.t rfl)) ?_
  refine DrB.take (i := 2) rfl rfl rfl rfl (by kernel_rfl) (by kernel_rfl) (by kernel_rfl) (by kernel_rfl) (fun _ _ _ _ h => h) (OKY.fieldAddr (Has.t rfl) fld96_1 ty94) ?_
  refine DrB.take (i := 4) rfl rfl rfl rfl (by kernel_rfl) (by kernel_rfl) (by kernel_rfl) (by kernel_rfl) (fun _ _ _ _ h => h) (OKY.mv (Has.t rfl)) ?_
  refine DrB.take (i := 5) rfl rfl rfl rfl (by kernel_rfl) (by kernel_rfl) (by kernel_rfl) (by kernel_rfl) (fun _ _ _ _ h => h) (OKY.mv (Has.t rfl)) ?_
  refine DrB.take (i := 6) rfl rfl rfl rfl (by kernel_rfl) (by kernel_rfl) (by kernel_rfl) (by kernel_rfl) (fun _ _ _ _ h => h) (OKY.nilc (Has.t rfl)) ?_
  refine DrB.take (i := 7) rfl rfl rfl rfl (by kernel_rfl) (by kernel_rfl) (by kernel_rfl) (by kernel_rfl) (fun _ _ _ _ h => h) (OKY.fieldAddr (Has.t rfl) fld96_1 ty94) ?_
  refine DrB.take (i := 9) rfl rfl rfl rfl (by kernel_rfl) (by kernel_rfl) (by kernel_rfl) (by kernel_rfl) (fun _ _ _ _ h => h) (OKY.mv (Has.t rfl)) ?_
  refine DrB.take (i := 10) rfl rfl rfl rfl (by kernel_rfl) (by kernel_rfl) (by kernel_rfl) (by kernel_rfl) (fun _ _ _ _ h => h) (OKY.mv (Has.t rfl)) ?_
  refine DrB.take (i := 11) rfl rfl rfl rfl (by kernel_rfl) (by kernel_rfl) (by kernel_rfl) (by kernel_rfl) (fun _ _ _ _ h => h) (OKY.nilc (Has.t rfl)) ?_
  refine DrB.take (i := 12) rfl rfl rfl rfl (by kernel_rfl) (by kernel_rfl) (by kernel_rfl) (by kernel_rfl) (fun _ _ _ _ h => h) (OKY.fieldAddr (Has.t rfl) fld96_1 ty94) ?_
  refine DrB.take (i := 14) rfl rfl rfl rfl (by kernel_rfl) (by kernel_rfl) (by kernel_rfl) (by kernel_rfl) (fun _ _ _ _ h => h) (OKY.mv (Has.t rfl)) ?_
  refine DrB.take (i := 17) rfl rfl rfl rfl (by kernel_rfl) (by kernel_rfl) (by kernel_rfl) (by kernel_rfl) (fun _ _ _ _ h => h) (OKY.mv (Has.t rfl)) ?_
  refine DrB.take (i := 18) rfl rfl rfl rfl (by kernel_rfl) (by kernel_rfl) (by kernel_rfl) (by kernel_rfl) (fun _ _ _ _ h => h) (OKY.nilc (Has.t rfl)) ?_
  refine DrB.take (i := 19) rfl rfl rfl rfl (by kernel_rfl) (by kernel_rfl) (by kernel_rfl) (by kernel_rfl) (fun _ _ _ _ h => h) (OKY.fieldAddr (Has.t rfl) fld96_1 ty94) ?_
  refine DrB.take (i := 21) rfl rfl rfl rfl (by kernel_rfl) (by kernel_rfl) (by kernel_rfl) (by kernel_rfl) (fun _ _ _ _ h => h) (OKY.mv (Has.t rfl)) ?_
  refine DrB.go [] ?_
  refine DrC.st (i := 3) [] rfl rfl rfl (by kernel_rfl) (by kernel_rfl) (OKG.o rfl (OK1.load1 (Has.t rfl) (i := 0) rfl ty94 rfl)) ?_
  refine DrC.st (i := 8) [] rfl rfl rfl (by kernel_rfl) (by kernel_rfl) (OKG.o rfl (OK1.load1 (Has.t rfl) (i := 0) rfl ty94 rfl)) ?_
  refine DrC.st (i := 13) [] rfl rfl rfl (by kernel_rfl) (by kernel_rfl) (OKG.o rfl (OK1.load1 (Has.t rfl) (i := 0) rfl ty94 rfl)) ?_
  refine DrC.st (i := 15) [21] rfl rfl rfl (by kernel_rfl) (by kernel_rfl) (OKG.o rfl (OK1.ixGr sl94 ty36 (Has.t rfl) (Has.t rfl) ⟨by omega, by omega⟩)) ?_
  refine DrC.st (i := 16) [23] rfl rfl rfl (by kernel_rfl) (by kernel_rfl) (OKG.o rfl (OK1.loadGM (Has.t rfl) (i := 1) rfl ty36 (hS.at hk))) ?_
  refine DrC.st (i := 20) [] rfl rfl rfl (by kernel_rfl) (by kernel_rfl) (OKG.o rfl (OK1.load1 (Has.t rfl) (i := 0) rfl ty94 rfl)) ?_
  refine DrC.st (i := 22) [28] rfl rfl rfl (by kernel_rfl) (by kernel_rfl) (OKG.o rfl (OK1.ixGr sl94 ty36 (Has.t rfl) (Has.t rfl) ⟨by omega, by omega⟩)) ?_
  refine DrC.st (i := 23) [30] rfl rfl rfl (by kernel_rfl) (by kernel_rfl) (OKG.o rfl (OK1.loadGM (Has.t rfl) (i := 1) rfl ty36 (hS.at hi))) ?_
  refine DrC.fin [24, 25, 26, 27] (by kernel_rfl) (by kernel_rfl) (fun _ _ _ _ _ h => h) (by kernel_rfl) (by kernel_rfl) (by kernel_rfl) (by kernel_rfl) (by kernel_rfl) (by kernel_rfl) (by kernel_rfl) (by kernel_rfl) (by kernel_rfl) ?_
  refine Ops.cv (Cv.wk (.cons (t := 0) (Has.t rfl) (.cons (t := 1) (Has.t rfl) (.cons (t := 2) (Has.t rfl) (.cons (t := 12) (Has.t rfl) (.cons (t := 17) (Has.t rfl) (.cons (t := 11) (Has.t rfl) (.cons (t := 16) (Has.t rfl) (.cons (t := 24) (Has.t rfl) (.cons (t := 31) (Has.t rfl) .nil)))))))))) ?_
  refine st (OK1.ixGr sl94 ty36 (Has.t rfl) (Has.t rfl) ⟨by omega, by omega⟩) rfl ?_
  refine Ops.storeGM (z := some (σ.getD k 0)) (Has.t rfl) (Has.t rfl) (i := 1) rfl ty36 (by simp only [Int.toNat_natCast, List.length_map, List.length_set]; omega) (M' := [_, grM _ _ _, _, _, _]) rfl ?_
  refine st (OK1.ixGr sl94 ty36 (Has.t rfl) (Has.t rfl) ⟨by omega, by omega⟩) rfl ?_
  refine Ops.storeGM (z := some (σ.getD i 0)) (Has.t rfl) (Has.t rfl) (i := 1) rfl ty36 (by simp only [Int.toNat_natCast, List.length_map, List.length_set]; omega) (M' := [_, grM _ _ _, _, _, _]) rfl ?_
  refine nl ?_
  refine At.thn (hK1 _ _ ?_); clear hK1
  refine Tri.cv (Cv.wk (.cons (t := 0) (Has.t rfl) (.cons (t := 1) (Has.t rfl) (.cons (t := 2) (Has.t rfl) .nil)))) ?_
  refine Tri.seq fun K2 hK2 => ?_
  refine Tri.dry mixed ?_
  refine DrB.take (i := 0) rfl rfl rfl rfl (by kernel_rfl) (by kernel_rfl) (by kernel_rfl) (by kernel_rfl) (fun _ _ _ _ h => h) (OKY.mv (Has.t rfl)) ?_
  refine DrB.take (i := 1) rfl rfl rfl rfl (by kernel_rfl) (by kernel_rfl) (by kernel_rfl) (by kernel_rfl) (fun _ _ _ _ h => h) (OKY.nilc (Has.t rfl)) ?_
  refine DrB.take (i := 2) rfl rfl rfl rfl (by kernel_rfl) (by kernel_rfl) (by kernel_rfl) (by kernel_rfl) (fun _ _ _ _ h => h) (OKY.fieldAddr (Has.t rfl) fld96_2 ty94) ?_
  refine DrB.take (i := 4) rfl rfl rfl rfl (by kernel_rfl) (by kernel_rfl) (by kernel_rfl) (by kernel_rfl) (fun _ _ _ _ h => h) (OKY.mv (Has.t rfl)) ?_
  refine DrB.take (i := 5) rfl rfl rfl rfl (by kernel_rfl) (by kernel_rfl) (by kernel_rfl) (by kernel_rfl) (fun _ _ _ _ h => h) (OKY.mv (Has.t rfl)) ?_
  refine DrB.take (i := 6) rfl rfl rfl rfl (by kernel_rfl) (by kernel_rfl) (by kernel_rfl) (by kernel_rfl) (fun _ _ _ _ h => h) (OKY.nilc (Has.t rfl)) ?_
  refine DrB.take (i := 7) rfl rfl rfl rfl (by kernel_rfl) (by kernel_rfl) (by kernel_rfl) (by kernel_rfl) (fun _ _ _ _ h => h) (OKY.fieldAddr (Has.t rfl) fld96_2 ty94) ?_
  refine DrB.take (i := 9) rfl rfl rfl rfl (by kernel_rfl) (by kernel_rfl) (by kernel_rfl) (by kernel_rfl) (fun _ _ _ _ h => h) (OKY.mv (Has.t rfl)) ?_
  refine DrB.take (i := 10) rfl rfl rfl rfl (by kernel_rfl) (by kernel_rfl) (by kernel_rfl) (by kernel_rfl) (fun _ _ _ _ h => h) (OKY.mv (Has.t rfl)) ?_
  refine DrB.take (i := 11) rfl rfl rfl rfl (by kernel_rfl) (by kernel_rfl) (by kernel_rfl) (by kernel_rfl) (fun _ _ _ _ h => h) (OKY.nilc (Has.t rfl)) ?_
  refine DrB.take (i := 12) rfl rfl rfl rfl (by kernel_rfl) (by kernel_rfl) (by kernel_rfl) (by kernel_rfl) (fun _ _ _ _ h => h) (OKY.fieldAddr (Has.t rfl) fld96_2 ty94) ?_
  refine DrB.take (i := 14) rfl rfl rfl rfl (by kernel_rfl) (by kernel_rfl) (by kernel_rfl) (by kernel_rfl) (fun _ _ _ _ h => h) (OKY.mv (Has.t rfl)) ?_
  refine DrB.take (i := 17) rfl rfl rfl rfl (by kernel_rfl) (by kernel_rfl) (by kernel_rfl) (by kernel_rfl) (fun _ _ _ _ h => h) (OKY.mv (Has.t rfl)) ?_
  refine DrB.take (i := 18) rfl rfl rfl rfl (by kernel_rfl) (by kernel_rfl) (by kernel_rfl) (by kernel_rfl) (fun _ _ _ _ h => h) (OKY.nilc (Has.t rfl)) ?_
  refine DrB.take (i := 19) rfl rfl rfl rfl (by kernel_rfl) (by kernel_rfl) (by kernel_rfl) (by kernel_rfl) (fun _ _ _ _ h => h) (OKY.fieldAddr (Has.t rfl) fld96_2 ty94) ?_
  refine DrB.take (i := 21) rfl rfl rfl rfl (by kernel_rfl) (by kernel_rfl) (by kernel_rfl) (by kernel_rfl) (fun _ _ _ _ h => h) (OKY.mv (Has.t rfl)) ?_
  refine DrB.go [] ?_
  refine DrC.st (i := 3) [] rfl rfl rfl (by kernel_rfl) (by kernel_rfl) (OKG.o rfl (OK1.load1 (Has.t rfl) (i := 0) rfl ty94 rfl)) ?_
  refine DrC.st (i := 8) [] rfl rfl rfl (by kernel_rfl) (by kernel_rfl) (OKG.o rfl (OK1.load1 (Has.t rfl) (i := 0) rfl ty94 rfl)) ?_
  refine DrC.st (i := 13) [] rfl rfl rfl (by kernel_rfl) (by kernel_rfl) (OKG.o rfl (OK1.load1 (Has.t rfl) (i := 0) rfl ty94 rfl)) ?_
  refine DrC.st (i := 15) [47] rfl rfl rfl (by kernel_rfl) (by kernel_rfl) (OKG.o rfl (OK1.ixGr sl94 ty36 (Has.t rfl) (Has.t rfl) ⟨by omega, by omega⟩)) ?_
  refine DrC.st (i := 16) [49] rfl rfl rfl (by kernel_rfl) (by kernel_rfl) (OKG.o rfl (OK1.loadGM (Has.t rfl) (i := 2) rfl ty36 (hS.at hk))) ?_
  refine DrC.st (i := 20) [] rfl rfl rfl (by kernel_rfl) (by kernel_rfl) (OKG.o rfl (OK1.load1 (Has.t rfl) (i := 0) rfl ty94 rfl)) ?_
  refine DrC.st (i := 22) [54] rfl rfl rfl (by kernel_rfl) (by kernel_rfl) (OKG.o rfl (OK1.ixGr sl94 ty36 (Has.t rfl) (Has.t rfl) ⟨by omega, by omega⟩)) ?_
  refine DrC.st (i := 23) [56] rfl rfl rfl (by kernel_rfl) (by kernel_rfl) (OKG.o rfl (OK1.loadGM (Has.t rfl) (i := 2) rfl ty36 (hS.at hi))) ?_
  refine DrC.fin [24, 25, 26, 27] (by kernel_rfl) (by kernel_rfl) (fun _ _ _ _ _ h => h) (by kernel_rfl) (by kernel_rfl) (by kernel_rfl) (by kernel_rfl) (by kernel_rfl) (by kernel_rfl) (by kernel_rfl) (by kernel_rfl) (by kernel_rfl) ?_
  refine Ops.cv (Cv.wk (.cons (t := 0) (Has.t rfl) (.cons (t := 1) (Has.t rfl) (.cons (t := 2) (Has.t rfl) (.cons (t := 38) (Has.t rfl) (.cons (t := 43) (Has.t rfl) (.cons (t := 37) (Has.t rfl) (.cons (t := 42) (Has.t rfl) (.cons (t := 50) (Has.t rfl) (.cons (t := 57) (Has.t rfl) .nil)))))))))) ?_
  refine st (OK1.ixGr sl94 ty36 (Has.t rfl) (Has.t rfl) ⟨by omega, by omega⟩) rfl ?_
  refine Ops.storeGM (z := some (σ.getD k 0)) (Has.t rfl) (Has.t rfl) (i := 2) rfl ty36 (by simp only [Int.toNat_natCast, List.length_map, List.length_set]; omega) (M' := [_, _, grM _ _ _, _, _]) rfl ?_
  refine st (OK1.ixGr sl94 ty36 (Has.t rfl) (Has.t rfl) ⟨by omega, by omega⟩) rfl ?_
  refine Ops.storeGM (z := some (σ.getD i 0)) (Has.t rfl) (Has.t rfl) (i := 2) rfl ty36 (by simp only [Int.toNat_natCast, List.length_map, List.length_set]; omega) (M' := [_, _, grM _ _ _, _, _]) rfl ?_
  refine nl ?_
  refine At.thn (hK2 _ _ ?_); clear hK2
  refine Tri.cv (Cv.wk (.cons (t := 0) (Has.t rfl) (.cons (t := 1) (Has.t rfl) (.cons (t := 2) (Has.t rfl) .nil)))) ?_
  refine Tri.seq fun K3 hK3 => ?_
  refine Tri.memEq (M' := wkH q bw n gth gtp gh gp (swS σ i k) H P) (by unfold wkH; rw [swS_map]; rfl) ?_
  refine Tri.region ?_
  refine st (OK1.mv (Has.t rfl)) rfl ?_
  refine st (OK1.nilc (Has.t rfl)) rfl ?_
  refine st (OK1.fieldAddr (Has.t rfl) fld96_1 ty94) rfl ?_
  refine st (OK1.load1 (Has.t rfl) (i := 0) rfl ty94 rfl) rfl ?_
  refine st (OK1.len sl94 (Has.t rfl)) rfl ?_
  refine st (OK1.mv (Has.cI 0 rfl)) rfl ?_
  refine nl ?_
  refine At.thn (hK3 _ _ ?_); clear hK3
  refine Tri.block ?_
  refine Tri.loopF [1, 2, 63, 64] (fun (z : { z : Nat × List Nat // z.1 ≤ n ∧ z.2.length = n * n ∧ ∀ r s, r < n → s < n → hu n (swS σ i k) z.2 r s = if r < z.1 then hu n (swS σ i k) H r (ta i k s) else hu n (swS σ i k) H r s }) => match z with | ⟨(t, H2), hI⟩ => [(65, isI (t : Int))]) (fun M => fun (z : { z : Nat × List Nat // z.1 ≤ n ∧ z.2.length = n * n ∧ ∀ r s, r < n → s < n → hu n (swS σ i k) z.2 r s = if r < z.1 then hu n (swS σ i k) H r (ta i k s) else hu n (swS σ i k) H r s }) => match z with | ⟨(t, H2), hI⟩ => wkH q bw n gth gtp gh gp (swS σ i k) H2 P) (fun (z : { z : Nat × List Nat // z.1 ≤ n ∧ z.2.length = n * n ∧ ∀ r s, r < n → s < n → hu n (swS σ i k) z.2 r s = if r < z.1 then hu n (swS σ i k) H r (ta i k s) else hu n (swS σ i k) H r s }) => match z with | ⟨(t, H2), hI⟩ => n - t) (⟨(0, H), Nat.zero_le _, hH, fun r s _ _ => (if_neg (Nat.not_lt_zero _)).symm⟩) (Cv.mem (.cons (t := 65) (Has.t' rfl ?_) (.cons (t := 1) (Has.t rfl) (.cons (t := 2) (Has.t rfl) (.cons (t := 63) (Has.t rfl) (.cons (t := 64) (Has.t rfl) .nil))))) ?_) ?_
  · rfl
  · rfl
  rintro ⟨⟨t, H2⟩, hI⟩ K4 hK4
  refine Tri.cv (Cv.wk (.cons (t := 65) (Has.t rfl) (.cons (t := 1) (Has.t rfl) (.cons (t := 2) (Has.t rfl) (.cons (t := 63) (Has.t rfl) (.cons (t := 64) (Has.t rfl) .nil)))))) ?_
  refine Tri.memEq (M' := wkH q bw n gth gtp gh gp (swS σ i k) H2 P) rfl ?_
  simp only [] at hI
  obtain ⟨ht0, hH2, hI2⟩ := hI
  refine Tri.seq fun K5 hK5 => ?_
  refine Tri.region ?_
  refine st (OK1.ltI (Has.t rfl) (Has.t rfl)) rfl ?_
  refine nl ?_
  refine At.thn (hK5 _ _ ?_); clear hK5
  refine Tri.seq fun K6 hK6 => ?_
  refine Tri.cond (Has.t rfl) (fun hc1 => ?_) (fun hc1 => ?_)
  · have hc1 := BP.t hc1
    have ht : t < n := (by omega)
    have hp1 := hS2.pl ht hi
    have hp2 := hS2.pl ht hk
    refine Tri.skip ?_
    refine At.thn (hK6 _ _ ?_); clear hK6
    refine Tri.seq fun K7 hK7 => ?_
    refine Tri.block ?_
    refine Tri.seq fun K8 hK8 => ?_
    refine Tri.region ?_
    refine st (OK1.ixGr sl94 ty36 (Has.t rfl) (Has.t rfl) ⟨by omega, by omega⟩) rfl ?_
    refine st (OK1.loadGM (Has.t rfl) (i := 1) rfl ty36 (hS2.at ht)) rfl ?_
    refine st (OK1.as (Has.t rfl)) rfl ?_
    refine nl ?_
    refine At.thn (hK8 _ _ ?_); clear hK8
    refine Tri.dry mixed ?_
    refine DrB.take (i := 0) rfl rfl rfl rfl (by kernel_rfl) (by kernel_rfl) (by kernel_rfl) (by kernel_rfl) (fun _ _ _ _ h => h) (OKY.mv (Has.t rfl)) ?_
    refine DrB.take (i := 1) rfl rfl rfl rfl (by kernel_rfl) (by kernel_rfl) (by kernel_rfl) (by kernel_rfl) (fun _ _ _ _ h => h) (OKY.mv (Has.t rfl)) ?_
    refine DrB.take (i := 2) rfl rfl rfl rfl (by kernel_rfl) (by kernel_rfl) (by kernel_rfl) (by kernel_rfl) (fun _ _ _ _ h => h) (OKY.mv (Has.t rfl)) ?_
    refine DrB.take (i := 3) rfl rfl rfl rfl (by kernel_rfl) (by kernel_rfl) (by kernel_rfl) (by kernel_rfl) (fun _ _ _ _ h => h) (OKY.mv (Has.t rfl)) ?_
    refine DrB.take (i := 4) rfl rfl rfl rfl (by kernel_rfl) (by kernel_rfl) (by kernel_rfl) (by kernel_rfl) (fun _ _ _ _ h => h) (OKY.mv (Has.t rfl)) ?_
    refine DrB.take (i := 5) rfl rfl rfl rfl (by kernel_rfl) (by kernel_rfl) (by kernel_rfl) (by kernel_rfl) (fun _ _ _ _ h => h) (OKY.mv (Has.t rfl)) ?_
    refine DrB.take (i := 8) rfl rfl rfl rfl (by kernel_rfl) (by kernel_rfl) (by kernel_rfl) (by kernel_rfl) (fun _ _ _ _ h => h) (OKY.mv (Has.t rfl)) ?_
    refine DrB.take (i := 9) rfl rfl rfl rfl (by kernel_rfl) (by kernel_rfl) (by kernel_rfl) (by kernel_rfl) (fun _ _ _ _ h => h) (OKY.mv (Has.t rfl)) ?_
    refine DrB.go [] ?_
    refine DrC.st (i := 6) [] rfl rfl rfl (by kernel_rfl) (by kernel_rfl) (OKG.o rfl (OK1.ixSeg sl36 ty28 (Has.t rfl) (Has.t rfl) ⟨by omega, by omega⟩)) ?_
    refine DrC.st (i := 7) [75] rfl rfl rfl (by kernel_rfl) (by kernel_rfl) (OKG.o rfl (OK1.loadGM (Has.t rfl) (i := 3) rfl ty28 (getD_some (d := 0) (by simp only [Int.toNat_natCast]; omega)))) ?_
    refine DrC.st (i := 10) [] rfl rfl rfl (by kernel_rfl) (by kernel_rfl) (OKG.o rfl (OK1.ixSeg sl36 ty28 (Has.t rfl) (Has.t rfl) ⟨by omega, by omega⟩)) ?_
    refine DrC.st (i := 11) [79] rfl rfl rfl (by kernel_rfl) (by kernel_rfl) (OKG.o rfl (OK1.loadGM (Has.t rfl) (i := 3) rfl ty28 (getD_some (d := 0) (by simp only [Int.toNat_natCast]; omega)))) ?_
    refine DrC.fin [12, 13, 14, 15] (by kernel_rfl) (by kernel_rfl) (fun _ _ _ _ _ h => h) (by kernel_rfl) (by kernel_rfl) (by kernel_rfl) (by kernel_rfl) (by kernel_rfl) (by kernel_rfl) (by kernel_rfl) (by kernel_rfl) (by kernel_rfl) ?_
    refine Ops.cv (Cv.wk (.cons (t := 1) (Has.t rfl) (.cons (t := 2) (Has.t rfl) (.cons (t := 63) (Has.t rfl) (.cons (t := 64) (Has.t rfl) (.cons (t := 65) (Has.t rfl) (.cons (t := 66) (Has.t rfl) (.cons (t := 67) (Has.t rfl) (.cons (t := 68) (Has.t rfl) (.cons (t := 7) (Has.t rfl) (.cons (t := 69) (Has.t rfl) (.cons (t := 70) (Has.t rfl) (.cons (t := 71) (Has.t rfl) (.cons (t := 72) (Has.t rfl) (.cons (t := 73) (Has.t rfl) (.cons (t := 74) (Has.t rfl) (.cons (t := 77) (Has.t rfl) (.cons (t := 78) (Has.t rfl) (.cons (t := 75) (Has.t rfl) (.cons (t := 76) (Has.t rfl) (.cons (t := 79) (Has.t rfl) (.cons (t := 80) (Has.t rfl) .nil)))))))))))))))))))))) ?_
    refine st (OK1.ixSeg sl36 ty28 (Has.t rfl) (Has.t rfl) ⟨by omega, by omega⟩) rfl ?_
    refine Ops.storeGM (Has.t rfl) (Has.t rfl) (i := 3) rfl ty28 (by simp only [Int.toNat_natCast]; omega) (M' := [_, _, _, grM _ _ _, _]) rfl ?_
    refine st (OK1.ixSeg sl36 ty28 (Has.t rfl) (Has.t rfl) ⟨by omega, by omega⟩) rfl ?_
    refine Ops.storeGM (Has.t rfl) (Has.t rfl) (i := 3) rfl ty28 (by rw [List.length_set]; simp only [Int.toNat_natCast]; omega) (M' := [_, _, _, grM _ _ _, _]) rfl ?_
    refine nl ?_
    refine At.bln ?_
    refine At.thn (hK7 _ _ ?_); clear hK7
    refine Tri.region ?_
    refine st (OK1.addI (Has.t rfl) (Has.cI 1 rfl) (by first | omega | assumption) (by first | omega | assumption)) rfl ?_
    refine st (OK1.mv (Has.t rfl)) rfl ?_
    refine nl ?_
    refine At.thn ?_
    refine hK4 (⟨(t + 1, (H2.set ((swS σ i k).getD t 0 * n + i) (H2.getD ((swS σ i k).getD t 0 * n + k) 0)).set ((swS σ i k).getD t 0 * n + k) (H2.getD ((swS σ i k).getD t 0 * n + i) 0)), by show t + 1 ≤ n; omega, by show (List.set _ _ _).length = _; rw [List.length_set, List.length_set]; exact hH2, col_step hS2 hH2 hi hk ht hI2⟩) _ _ ?_ (Cv.mem (.cons (t := 65) (Has.t' rfl ?_) (.cons (t := 1) (Has.t rfl) (.cons (t := 2) (Has.t rfl) (.cons (t := 63) (Has.t rfl) (.cons (t := 64) (Has.t rfl) .nil))))) ?_)
    · show n - (t + 1) < n - t; omega
    · exact isI_eq (by omega)
    · rfl
  · have hc1 := BP.f hc1
    refine Tri.exit ?_
    refine At.the ?_
    refine At.the ?_
    refine At.blh ?_
    refine rtX0 (.inr rfl) Tryz.results79 rfl ?_
    exact ⟨H2, rfl, rfl, hH2, fun r s hr hs => by rw [hI2 r s hr hs, if_pos (by omega), hu_sw hS hi hk hr]⟩
set_option maxHeartbeats 4000000 in
theorem hess_clear {q bw n : Nat} {gth gtp : Gr (Option Nat)} {gh gp : Gr Nat} {σ H P : List Nat} (hS : SV n σ) (hH : H.length = n * n) (hP : P.length = n * n) (hn : n ≤ 64) {i k c : Nat} (hq : q < 4294967296) (hi : i < n) (hk : k < n) (hne : i ≠ k) : CtrX Tryz.prog 81 [isPtr bw 0, isI (i : Int), isI (k : Int), isU c] (wkH q bw n gth gtp gh gp σ H P) (fun S M => ∃ H2 P2, S = isTup [] ∧ M = wkH q bw n gth gtp gh gp σ H2 P2 ∧ H2.length = n * n ∧ P2.length = n * n ∧ ∀ r s, r < n → s < n → hu n σ H2 r s = clrU (fp q) (hu n σ H) i k c r s) := by
  refine CtrX.intro Tryz.func81 rfl (by kernel_rfl) Tryz.ntmps81 rfl fun w0 F0 => ?_
  refine Tri.cv (Cv.wk (.cons (t := 0) (Has.t rfl) (.cons (t := 1) (Has.t rfl) (.cons (t := 2) (Has.t rfl) (.cons (t := 3) (Has.t rfl) .nil))))) ?_
  refine Tri.fact (Has.rngI (Has.t (t := 1) rfl)) fun lt1 => ?_
  refine Tri.fact (Has.rngI (Has.t (t := 2) rfl)) fun lt2 => ?_
  refine Tri.fact (Has.ltU (Has.t (t := 3) rfl)) fun lt3 => ?_
  have hsl := hS.len
  refine Tri.seq fun K1 hK1 => ?_
  refine Tri.seq fun K2 hK2 => ?_
  refine Tri.region ?_
  refine st (OK1.mv (Has.t rfl)) rfl ?_
  refine st (OK1.nilc (Has.t rfl)) rfl ?_
  refine st (OK1.fieldAddr (Has.t rfl) fld96_1 ty94) rfl ?_
  refine st (OK1.load1 (Has.t rfl) (i := 0) rfl ty94 rfl) rfl ?_
  refine st (OK1.mv (Has.t rfl)) rfl ?_
  refine st (OK1.ixGr sl94 ty36 (Has.t rfl) (Has.t rfl) ⟨by omega, by omega⟩) rfl ?_
  refine st (OK1.loadGM (Has.t rfl) (i := 1) rfl ty36 (hS.at hi)) rfl ?_
  refine st (OK1.len sl36 (Has.t rfl)) rfl ?_
  refine st (OK1.mv (Has.cI 0 rfl)) rfl ?_
  refine nl ?_
  refine At.thn (hK2 _ _ ?_); clear hK2
  refine Tri.cv (Cv.wk (.cons (t := 0) (Has.t rfl) (.cons (t := 1) (Has.t rfl) (.cons (t := 2) (Has.t rfl) (.cons (t := 3) (Has.t rfl) (.cons (t := 18) (Has.t rfl) (.cons (t := 19) (Has.t rfl) .nil))))))) ?_
  refine Tri.block ?_
  refine Tri.loopF [0, 1, 2, 3, 18] (fun (z : { z : Nat × List Nat × List Nat // z.1 ≤ n ∧ z.2.1.length = n * n ∧ z.2.2.length = n * n ∧ ∀ r s, r < n → s < n → hu n σ z.2.1 r s = if s < z.1 then rowE (fp q) (hu n σ H) i k c r s else hu n σ H r s }) => match z with | ⟨(j, H1, P1), hI⟩ => [(19, isI (j : Int))]) (fun M => fun (z : { z : Nat × List Nat × List Nat // z.1 ≤ n ∧ z.2.1.length = n * n ∧ z.2.2.length = n * n ∧ ∀ r s, r < n → s < n → hu n σ z.2.1 r s = if s < z.1 then rowE (fp q) (hu n σ H) i k c r s else hu n σ H r s }) => match z with | ⟨(j, H1, P1), hI⟩ => wkH q bw n gth gtp gh gp σ H1 P1) (fun (z : { z : Nat × List Nat × List Nat // z.1 ≤ n ∧ z.2.1.length = n * n ∧ z.2.2.length = n * n ∧ ∀ r s, r < n → s < n → hu n σ z.2.1 r s = if s < z.1 then rowE (fp q) (hu n σ H) i k c r s else hu n σ H r s }) => match z with | ⟨(j, H1, P1), hI⟩ => n - j) (⟨(0, H, P), Nat.zero_le _, hH, hP, fun r s _ _ => (if_neg (Nat.not_lt_zero _)).symm⟩) (Cv.mem (.cons (t := 19) (Has.t' rfl ?_) (.cons (t := 0) (Has.t rfl) (.cons (t := 1) (Has.t rfl) (.cons (t := 2) (Has.t rfl) (.cons (t := 3) (Has.t rfl) (.cons (t := 18) (Has.t rfl) .nil)))))) ?_) ?_
  · rfl
  · rfl
  rintro ⟨⟨j, H1, P1⟩, hI⟩ K3 hK3
  refine Tri.cv (Cv.wk (.cons (t := 19) (Has.t rfl) (.cons (t := 0) (Has.t rfl) (.cons (t := 1) (Has.t rfl) (.cons (t := 2) (Has.t rfl) (.cons (t := 3) (Has.t rfl) (.cons (t := 18) (Has.t rfl) .nil))))))) ?_
  refine Tri.memEq (M' := wkH q bw n gth gtp gh gp σ H1 P1) rfl ?_
  simp only [] at hI
  obtain ⟨hj0, hH1, hP1, hI1⟩ := hI
  refine Tri.seq fun K4 hK4 => ?_
  refine Tri.region ?_
  refine st (OK1.ltI (Has.t rfl) (Has.t rfl)) rfl ?_
  refine nl ?_
  refine At.thn (hK4 _ _ ?_); clear hK4
  refine Tri.seq fun K5 hK5 => ?_
  refine Tri.cond (Has.t rfl) (fun hc1 => ?_) (fun hc1 => ?_)
  · have hc1 := BP.t hc1
    have hj : j < n := (by omega)
    have hp1 := hS.pl hi hj
    have hp2 := hS.pl hk hj
    refine Tri.skip ?_
    refine At.thn (hK5 _ _ ?_); clear hK5
    refine Tri.seq fun K6 hK6 => ?_
    refine Tri.block ?_
    refine Tri.seq fun K7 hK7 => ?_
    refine Tri.region ?_
    refine st (OK1.mv (Has.t rfl)) rfl ?_
    refine st (OK1.as (Has.t rfl)) rfl ?_
    refine nl ?_
    refine At.thn (hK7 _ _ ?_); clear hK7
    refine Tri.seq fun K8 hK8 => ?_
    refine Tri.dr ?_
    refine DrG.st (i := 0) [] rfl rfl rfl (by kernel_rfl) (OKG.o rfl (OK1.mv (Has.t rfl))) ?_
    refine DrG.st (i := 1) [22] rfl rfl rfl (by kernel_rfl) (OKG.o rfl (OK1.nilc (Has.t rfl))) ?_
    refine DrG.st (i := 2) [23] rfl rfl rfl (by kernel_rfl) (OKG.o rfl (OK1.fieldAddr (Has.t rfl) fld96_1 ty94)) ?_
    refine DrG.st (i := 3) [24] rfl rfl rfl (by kernel_rfl) (OKG.o rfl (OK1.load1 (Has.t rfl) (i := 0) rfl ty94 rfl)) ?_
    refine DrG.st (i := 4) [] rfl rfl rfl (by kernel_rfl) (OKG.o rfl (OK1.mv (Has.t rfl))) ?_
    refine DrG.st (i := 5) [25, 26] rfl rfl rfl (by kernel_rfl) (OKG.o rfl (OK1.ixGr sl94 ty36 (Has.t rfl) (Has.t rfl) ⟨by omega, by omega⟩)) ?_
    refine DrG.st (i := 6) [27] rfl rfl rfl (by kernel_rfl) (OKG.o rfl (OK1.loadGM (Has.t rfl) (i := 1) rfl ty36 (hS.at hi))) ?_
    refine DrG.st (i := 7) [] rfl rfl rfl (by kernel_rfl) (OKG.o rfl (OK1.mv (Has.t rfl))) ?_
    refine DrG.st (i := 8) [] rfl rfl rfl (by kernel_rfl) (OKG.o rfl (OK1.mv (Has.t rfl))) ?_
    refine DrG.st (i := 9) [30] rfl rfl rfl (by kernel_rfl) (OKG.o rfl (OK1.nilc (Has.t rfl))) ?_
    refine DrG.st (i := 10) [31] rfl rfl rfl (by kernel_rfl) (OKG.o rfl (OK1.fieldAddr (Has.t rfl) fld96_0 ty30)) ?_
    refine DrG.st (i := 11) [32] rfl rfl rfl (by kernel_rfl) (OKG.o rfl (OK1.load (Has.t rfl) (i := 0) rfl ty30 rfl (Ss' := [_]) rfl)) ?_
    refine DrG.st (i := 12) [] rfl rfl rfl (by kernel_rfl) (OKG.o rfl (OK1.mv (Has.t rfl))) ?_
    refine DrG.st (i := 13) [34] rfl rfl rfl (by kernel_rfl) (OKG.o rfl (OK1.nilc (Has.t rfl))) ?_
    refine DrG.st (i := 14) [35] rfl rfl rfl (by kernel_rfl) (OKG.o rfl (OK1.fieldAddr (Has.t rfl) fld96_1 ty94)) ?_
    refine DrG.st (i := 15) [36] rfl rfl rfl (by kernel_rfl) (OKG.o rfl (OK1.load1 (Has.t rfl) (i := 0) rfl ty94 rfl)) ?_
    refine DrG.st (i := 16) [] rfl rfl rfl (by kernel_rfl) (OKG.o rfl (OK1.mv (Has.t rfl))) ?_
    refine DrG.st (i := 17) [37, 38] rfl rfl rfl (by kernel_rfl) (OKG.o rfl (OK1.ixGr sl94 ty36 (Has.t rfl) (Has.t rfl) ⟨by omega, by omega⟩)) ?_
    refine DrG.st (i := 18) [39] rfl rfl rfl (by kernel_rfl) (OKG.o rfl (OK1.loadGM (Has.t rfl) (i := 1) rfl ty36 (hS.at hi))) ?_
    refine DrG.st (i := 19) [] rfl rfl rfl (by kernel_rfl) (OKG.o rfl (OK1.mv (Has.t rfl))) ?_
    refine DrG.st (i := 20) [40, 41] rfl rfl rfl (by kernel_rfl) (OKG.o rfl (OK1.ixSeg sl36 ty28 (Has.t rfl) (Has.t rfl) ⟨by omega, by omega⟩)) ?_
    refine DrG.st (i := 21) [42] rfl rfl rfl (by kernel_rfl) (OKG.o rfl (OK1.eq (OK1.loadGM (Has.t rfl) (i := 3) rfl ty28 (getD_some (d := 0) (by simp only [Int.toNat_natCast]; omega))) ((show isU _ = isU (hu n σ H i j) from isU_eq ((hI1 i j hi hj).trans (if_neg (Nat.lt_irrefl _))))))) ?_
    refine DrG.st (i := 22) [] rfl rfl rfl (by kernel_rfl) (OKG.o rfl (OK1.mv (Has.t rfl))) ?_
    refine DrG.st (i := 23) [44] rfl rfl rfl (by kernel_rfl) (OKG.o rfl (OK1.nilc (Has.t rfl))) ?_
    refine DrG.st (i := 24) [45] rfl rfl rfl (by kernel_rfl) (OKG.o rfl (OK1.fieldAddr (Has.t rfl) fld96_0 ty30)) ?_
    refine DrG.st (i := 25) [46] rfl rfl rfl (by kernel_rfl) (OKG.o rfl (OK1.load (Has.t rfl) (i := 0) rfl ty30 rfl (Ss' := [_]) rfl)) ?_
    refine DrG.st (i := 26) [] rfl rfl rfl (by kernel_rfl) (OKG.o rfl (OK1.mv (Has.t rfl))) ?_
    refine DrG.st (i := 27) [] rfl rfl rfl (by kernel_rfl) (OKG.o rfl (OK1.mv (Has.t rfl))) ?_
    refine DrG.st (i := 28) [49] rfl rfl rfl (by kernel_rfl) (OKG.o rfl (OK1.nilc (Has.t rfl))) ?_
    refine DrG.st (i := 29) [50] rfl rfl rfl (by kernel_rfl) (OKG.o rfl (OK1.fieldAddr (Has.t rfl) fld96_1 ty94)) ?_
    refine DrG.st (i := 30) [51] rfl rfl rfl (by kernel_rfl) (OKG.o rfl (OK1.load1 (Has.t rfl) (i := 0) rfl ty94 rfl)) ?_
    refine DrG.st (i := 31) [] rfl rfl rfl (by kernel_rfl) (OKG.o rfl (OK1.mv (Has.t rfl))) ?_
    refine DrG.st (i := 32) [52, 53] rfl rfl rfl (by kernel_rfl) (OKG.o rfl (OK1.ixGr sl94 ty36 (Has.t rfl) (Has.t rfl) ⟨by omega, by omega⟩)) ?_
    refine DrG.st (i := 33) [54] rfl rfl rfl (by kernel_rfl) (OKG.o rfl (OK1.loadGM (Has.t rfl) (i := 1) rfl ty36 (hS.at hk))) ?_
    refine DrG.st (i := 34) [] rfl rfl rfl (by kernel_rfl) (OKG.o rfl (OK1.mv (Has.t rfl))) ?_
    refine DrG.st (i := 35) [55, 56] rfl rfl rfl (by kernel_rfl) (OKG.o rfl (OK1.ixSeg sl36 ty28 (Has.t rfl) (Has.t rfl) ⟨by omega, by omega⟩)) ?_
    refine DrG.st (i := 36) [57] rfl rfl rfl (by kernel_rfl) (OKG.o rfl (OK1.eq (OK1.loadGM (Has.t rfl) (i := 3) rfl ty28 (getD_some (d := 0) (by simp only [Int.toNat_natCast]; omega))) ((show isU _ = isU (hu n σ H k j) from isU_eq ((hI1 k j hk hj).trans (if_neg (Nat.lt_irrefl _))))))) ?_
    refine DrG.st (i := 37) [47, 48, 58] rfl rfl rfl (by kernel_rfl) (OKG.o rfl (OK1.call (gfp_Mul hq) (.cons (Has.t rfl) (.cons (Has.t rfl) (.cons (Has.t rfl) .nil))))) ?_
    refine DrG.st (i := 38) [33, 43, 59] rfl rfl rfl (by kernel_rfl) (OKG.o rfl (OK1.eq (OK1.call (gfp_Sub hq) (.cons (Has.t rfl) (.cons (Has.t rfl) (.cons (Has.t rfl) .nil)))) ((show isU _ = isU (rowE (fp q) (hu n σ H) i k c i j) from isU_eq (if_pos rfl).symm)))) ?_
    refine DrG.fin (n := 39) mixed (by kernel_rfl) (by kernel_rfl) (by kernel_rfl) ?_
    refine Ops.cv (Cv.wk (.cons (t := 0) (Has.t rfl) (.cons (t := 1) (Has.t rfl) (.cons (t := 2) (Has.t rfl) (.cons (t := 3) (Has.t rfl) (.cons (t := 18) (Has.t rfl) (.cons (t := 19) (Has.t rfl) (.cons (t := 20) (Has.t rfl) (.cons (t := 21) (Has.t rfl) (.cons (t := 8) (Has.t rfl) (.cons (t := 22) (Has.t rfl) (.cons (t := 23) (Has.t rfl) (.cons (t := 24) (Has.t rfl) (.cons (t := 25) (Has.t rfl) (.cons (t := 26) (Has.t rfl) (.cons (t := 27) (Has.t rfl) (.cons (t := 28) (Has.t rfl) (.cons (t := 29) (Has.t rfl) (.cons (t := 30) (Has.t rfl) (.cons (t := 31) (Has.t rfl) (.cons (t := 32) (Has.t rfl) (.cons (t := 33) (Has.t rfl) (.cons (t := 34) (Has.t rfl) (.cons (t := 35) (Has.t rfl) (.cons (t := 36) (Has.t rfl) (.cons (t := 37) (Has.t rfl) (.cons (t := 38) (Has.t rfl) (.cons (t := 39) (Has.t rfl) (.cons (t := 40) (Has.t rfl) (.cons (t := 41) (Has.t rfl) (.cons (t := 42) (Has.t rfl) (.cons (t := 43) (Has.t rfl) (.cons (t := 44) (Has.t rfl) (.cons (t := 45) (Has.t rfl) (.cons (t := 46) (Has.t rfl) (.cons (t := 47) (Has.t rfl) (.cons (t := 48) (Has.t rfl) (.cons (t := 49) (Has.t rfl) (.cons (t := 50) (Has.t rfl) (.cons (t := 51) (Has.t rfl) (.cons (t := 52) (Has.t rfl) (.cons (t := 53) (Has.t rfl) (.cons (t := 54) (Has.t rfl) (.cons (t := 55) (Has.t rfl) (.cons (t := 56) (Has.t rfl) (.cons (t := 57) (Has.t rfl) (.cons (t := 58) (Has.t rfl) (.cons (t := 59) (Has.t rfl) (.cons (t := 60) (Has.t rfl) .nil))))))))))))))))))))))))))))))))))))))))))))))))) ?_
    refine st (OK1.ixSeg sl36 ty28 (Has.t rfl) (Has.t rfl) ⟨by omega, by omega⟩) rfl ?_
    refine Ops.storeGM (Has.t rfl) (Has.t rfl) (i := 3) rfl ty28 (by simp only [Int.toNat_natCast]; omega) (M' := [_, _, _, grM _ _ _, _]) rfl ?_
    refine nl ?_
    refine At.thn (hK8 _ _ ?_); clear hK8
    refine Tri.dr ?_
    refine DrG.st (i := 0) [] rfl rfl rfl (by kernel_rfl) (OKG.o rfl (OK1.mv (Has.t rfl))) ?_
    refine DrG.st (i := 1) [62] rfl rfl rfl (by kernel_rfl) (OKG.o rfl (OK1.nilc (Has.t rfl))) ?_
    refine DrG.st (i := 2) [63] rfl rfl rfl (by kernel_rfl) (OKG.o rfl (OK1.fieldAddr (Has.t rfl) fld96_2 ty94)) ?_
    refine DrG.st (i := 3) [64] rfl rfl rfl (by kernel_rfl) (OKG.o rfl (OK1.load1 (Has.t rfl) (i := 0) rfl ty94 rfl)) ?_
    refine DrG.st (i := 4) [] rfl rfl rfl (by kernel_rfl) (OKG.o rfl (OK1.mv (Has.t rfl))) ?_
    refine DrG.st (i := 5) [65, 66] rfl rfl rfl (by kernel_rfl) (OKG.o rfl (OK1.ixGr sl94 ty36 (Has.t rfl) (Has.t rfl) ⟨by omega, by omega⟩)) ?_
    refine DrG.st (i := 6) [67] rfl rfl rfl (by kernel_rfl) (OKG.o rfl (OK1.loadGM (Has.t rfl) (i := 2) rfl ty36 (hS.at hi))) ?_
    refine DrG.st (i := 7) [] rfl rfl rfl (by kernel_rfl) (OKG.o rfl (OK1.mv (Has.t rfl))) ?_
    refine DrG.st (i := 8) [] rfl rfl rfl (by kernel_rfl) (OKG.o rfl (OK1.mv (Has.t rfl))) ?_
    refine DrG.st (i := 9) [70] rfl rfl rfl (by kernel_rfl) (OKG.o rfl (OK1.nilc (Has.t rfl))) ?_
    refine DrG.st (i := 10) [71] rfl rfl rfl (by kernel_rfl) (OKG.o rfl (OK1.fieldAddr (Has.t rfl) fld96_0 ty30)) ?_
    refine DrG.st (i := 11) [72] rfl rfl rfl (by kernel_rfl) (OKG.o rfl (OK1.load (Has.t rfl) (i := 0) rfl ty30 rfl (Ss' := [_]) rfl)) ?_
    refine DrG.st (i := 12) [] rfl rfl rfl (by kernel_rfl) (OKG.o rfl (OK1.mv (Has.t rfl))) ?_
    refine DrG.st (i := 13) [74] rfl rfl rfl (by kernel_rfl) (OKG.o rfl (OK1.nilc (Has.t rfl))) ?_
    refine DrG.st (i := 14) [75] rfl rfl rfl (by kernel_rfl) (OKG.o rfl (OK1.fieldAddr (Has.t rfl) fld96_2 ty94)) ?_
    refine DrG.st (i := 15) [76] rfl rfl rfl (by kernel_rfl) (OKG.o rfl (OK1.load1 (Has.t rfl) (i := 0) rfl ty94 rfl)) ?_
    refine DrG.st (i := 16) [] rfl rfl rfl (by kernel_rfl) (OKG.o rfl (OK1.mv (Has.t rfl))) ?_
    refine DrG.st (i := 17) [77, 78] rfl rfl rfl (by kernel_rfl) (OKG.o rfl (OK1.ixGr sl94 ty36 (Has.t rfl) (Has.t rfl) ⟨by omega, by omega⟩)) ?_
    refine DrG.st (i := 18) [79] rfl rfl rfl (by kernel_rfl) (OKG.o rfl (OK1.loadGM (Has.t rfl) (i := 2) rfl ty36 (hS.at hi))) ?_
    refine DrG.st (i := 19) [] rfl rfl rfl (by kernel_rfl) (OKG.o rfl (OK1.mv (Has.t rfl))) ?_
    refine DrG.st (i := 20) [80, 81] rfl rfl rfl (by kernel_rfl) (OKG.o rfl (OK1.ixSeg sl36 ty28 (Has.t rfl) (Has.t rfl) ⟨by omega, by omega⟩)) ?_
    refine DrG.st (i := 21) [82] rfl rfl rfl (by kernel_rfl) (OKG.o rfl (OK1.loadGM (Has.t rfl) (i := 4) rfl ty28 (getD_some (d := 0) (by simp only [Int.toNat_natCast]; omega)))) ?_
    refine DrG.st (i := 22) [] rfl rfl rfl (by kernel_rfl) (OKG.o rfl (OK1.mv (Has.t rfl))) ?_
    refine DrG.st (i := 23) [84] rfl rfl rfl (by kernel_rfl) (OKG.o rfl (OK1.nilc (Has.t rfl))) ?_
    refine DrG.st (i := 24) [85] rfl rfl rfl (by kernel_rfl) (OKG.o rfl (OK1.fieldAddr (Has.t rfl) fld96_0 ty30)) ?_
    refine DrG.st (i := 25) [86] rfl rfl rfl (by kernel_rfl) (OKG.o rfl (OK1.load (Has.t rfl) (i := 0) rfl ty30 rfl (Ss' := [_]) rfl)) ?_
    refine DrG.st (i := 26) [] rfl rfl rfl (by kernel_rfl) (OKG.o rfl (OK1.mv (Has.t rfl))) ?_
    refine DrG.st (i := 27) [] rfl rfl rfl (by kernel_rfl) (OKG.o rfl (OK1.mv (Has.t rfl))) ?_
    refine DrG.st (i := 28) [89] rfl rfl rfl (by kernel_rfl) (OKG.o rfl (OK1.nilc (Has.t rfl))) ?_
    refine DrG.st (i := 29) [90] rfl rfl rfl (by kernel_rfl) (OKG.o rfl (OK1.fieldAddr (Has.t rfl) fld96_2 ty94)) ?_
    refine DrG.st (i := 30) [91] rfl rfl rfl (by kernel_rfl) (OKG.o rfl (OK1.load1 (Has.t rfl) (i := 0) rfl ty94 rfl)) ?_
    refine DrG.st (i := 31) [] rfl rfl rfl (by kernel_rfl) (OKG.o rfl (OK1.mv (Has.t rfl))) ?_
    refine DrG.st (i := 32) [92, 93] rfl rfl rfl (by kernel_rfl) (OKG.o rfl (OK1.ixGr sl94 ty36 (Has.t rfl) (Has.t rfl) ⟨by omega, by omega⟩)) ?_
    refine DrG.st (i := 33) [94] rfl rfl rfl (by kernel_rfl) (OKG.o rfl (OK1.loadGM (Has.t rfl) (i := 2) rfl ty36 (hS.at hk))) ?_
    refine DrG.st (i := 34) [] rfl rfl rfl (by kernel_rfl) (OKG.o rfl (OK1.mv (Has.t rfl))) ?_
    refine DrG.st (i := 35) [95, 96] rfl rfl rfl (by kernel_rfl) (OKG.o rfl (OK1.ixSeg sl36 ty28 (Has.t rfl) (Has.t rfl) ⟨by omega, by omega⟩)) ?_
    refine DrG.st (i := 36) [97] rfl rfl rfl (by kernel_rfl) (OKG.o rfl (OK1.loadGM (Has.t rfl) (i := 4) rfl ty28 (getD_some (d := 0) (by simp only [Int.toNat_natCast]; omega)))) ?_
    refine DrG.st (i := 37) [87, 88, 98] rfl rfl rfl (by kernel_rfl) (OKG.o rfl (OK1.call (gfp_Mul hq) (.cons (Has.t rfl) (.cons (Has.t rfl) (.cons (Has.t rfl) .nil))))) ?_
    refine DrG.st (i := 38) [73, 83, 99] rfl rfl rfl (by kernel_rfl) (OKG.o rfl (OK1.eq (OK1.call (gfp_Sub hq) (.cons (Has.t rfl) (.cons (Has.t rfl) (.cons (Has.t rfl) .nil)))) ((show isU _ = isU (subE (fp q) (P1.getD (σ.getD i 0 * n + j) 0) (c * P1.getD (σ.getD k 0 * n + j) 0 % fp q)) from isU_eq rfl)))) ?_
    refine DrG.fin (n := 39) mixed (by kernel_rfl) (by kernel_rfl) (by kernel_rfl) ?_
    refine Ops.cv (Cv.wk (.cons (t := 0) (Has.t rfl) (.cons (t := 1) (Has.t rfl) (.cons (t := 2) (Has.t rfl) (.cons (t := 3) (Has.t rfl) (.cons (t := 18) (Has.t rfl) (.cons (t := 19) (Has.t rfl) (.cons (t := 20) (Has.t rfl) (.cons (t := 21) (Has.t rfl) (.cons (t := 8) (Has.t rfl) (.cons (t := 22) (Has.t rfl) (.cons (t := 23) (Has.t rfl) (.cons (t := 24) (Has.t rfl) (.cons (t := 25) (Has.t rfl) (.cons (t := 26) (Has.t rfl) (.cons (t := 27) (Has.t rfl) (.cons (t := 28) (Has.t rfl) (.cons (t := 29) (Has.t rfl) (.cons (t := 30) (Has.t rfl) (.cons (t := 31) (Has.t rfl) (.cons (t := 32) (Has.t rfl) (.cons (t := 33) (Has.t rfl) (.cons (t := 34) (Has.t rfl) (.cons (t := 35) (Has.t rfl) (.cons (t := 36) (Has.t rfl) (.cons (t := 37) (Has.t rfl) (.cons (t := 38) (Has.t rfl) (.cons (t := 39) (Has.t rfl) (.cons (t := 40) (Has.t rfl) (.cons (t := 41) (Has.t rfl) (.cons (t := 42) (Has.t rfl) (.cons (t := 43) (Has.t rfl) (.cons (t := 44) (Has.t rfl) (.cons (t := 45) (Has.t rfl) (.cons (t := 46) (Has.t rfl) (.cons (t := 47) (Has.t rfl) (.cons (t := 48) (Has.t rfl) (.cons (t := 49) (Has.t rfl) (.cons (t := 50) (Has.t rfl) (.cons (t := 51) (Has.t rfl) (.cons (t := 52) (Has.t rfl) (.cons (t := 53) (Has.t rfl) (.cons (t := 54) (Has.t rfl) (.cons (t := 55) (Has.t rfl) (.cons (t := 56) (Has.t rfl) (.cons (t := 57) (Has.t rfl) (.cons (t := 58) (Has.t rfl) (.cons (t := 59) (Has.t rfl) (.cons (t := 60) (Has.t rfl) (.cons (t := 61) (Has.t rfl) (.cons (t := 62) (Has.t rfl) (.cons (t := 63) (Has.t rfl) (.cons (t := 64) (Has.t rfl) (.cons (t := 65) (Has.t rfl) (.cons (t := 66) (Has.t rfl) (.cons (t := 67) (Has.t rfl) (.cons (t := 68) (Has.t rfl) (.cons (t := 69) (Has.t rfl) (.cons (t := 70) (Has.t rfl) (.cons (t := 71) (Has.t rfl) (.cons (t := 72) (Has.t rfl) (.cons (t := 73) (Has.t rfl) (.cons (t := 74) (Has.t rfl) (.cons (t := 75) (Has.t rfl) (.cons (t := 76) (Has.t rfl) (.cons (t := 77) (Has.t rfl) (.cons (t := 78) (Has.t rfl) (.cons (t := 79) (Has.t rfl) (.cons (t := 80) (Has.t rfl) (.cons (t := 81) (Has.t rfl) (.cons (t := 82) (Has.t rfl) (.cons (t := 83) (Has.t rfl) (.cons (t := 84) (Has.t rfl) (.cons (t := 85) (Has.t rfl) (.cons (t := 86) (Has.t rfl) (.cons (t := 87) (Has.t rfl) (.cons (t := 88) (Has.t rfl) (.cons (t := 89) (Has.t rfl) (.cons (t := 90) (Has.t rfl) (.cons (t := 91) (Has.t rfl) (.cons (t := 92) (Has.t rfl) (.cons (t := 93) (Has.t rfl) (.cons (t := 94) (Has.t rfl) (.cons (t := 95) (Has.t rfl) (.cons (t := 96) (Has.t rfl) (.cons (t := 97) (Has.t rfl) (.cons (t := 98) (Has.t rfl) (.cons (t := 99) (Has.t rfl) (.cons (t := 100) (Has.t rfl) .nil))))))))))))))))))))))))))))))))))))))))))))))))))))))))))))))))))))))))))))))))))))))))) ?_
    refine st (OK1.ixSeg sl36 ty28 (Has.t rfl) (Has.t rfl) ⟨by omega, by omega⟩) rfl ?_
    refine Ops.storeGM (Has.t rfl) (Has.t rfl) (i := 4) rfl ty28 (by simp only [Int.toNat_natCast]; omega) (M' := [_, _, _, _, grM _ _ _]) rfl ?_
    refine nl ?_
    refine At.bln ?_
    refine At.thn (hK6 _ _ ?_); clear hK6
    refine Tri.region ?_
    refine st (OK1.addI (Has.t rfl) (Has.cI 1 rfl) (by first | omega | assumption) (by first | omega | assumption)) rfl ?_
    refine st (OK1.mv (Has.t rfl)) rfl ?_
    refine nl ?_
    refine At.thn ?_
    refine hK3 (⟨(j + 1, H1.set (σ.getD i 0 * n + j) (rowE (fp q) (hu n σ H) i k c i j), P1.set (σ.getD i 0 * n + j) (subE (fp q) (P1.getD (σ.getD i 0 * n + j) 0) (c * P1.getD (σ.getD k 0 * n + j) 0 % fp q))), by show j + 1 ≤ n; omega, by show (List.set _ _ _).length = _; rw [List.length_set]; exact hH1, by show (List.set _ _ _).length = _; rw [List.length_set]; exact hP1, row_step hS hH1 hi hj rfl hI1⟩) _ _ ?_ (Cv.mem (.cons (t := 19) (Has.t' rfl ?_) (.cons (t := 0) (Has.t rfl) (.cons (t := 1) (Has.t rfl) (.cons (t := 2) (Has.t rfl) (.cons (t := 3) (Has.t rfl) (.cons (t := 18) (Has.t rfl) .nil)))))) ?_)
    · show n - (j + 1) < n - j; omega
    · exact isI_eq (by omega)
    · rfl
  · have hc1 := BP.f hc1
    refine Tri.exit ?_
    refine At.the ?_
    refine At.the ?_
    refine At.blh ?_
    refine At.thn (hK1 _ _ ?_); clear hK1
    refine Tri.seq fun K9 hK9 => ?_
    refine Tri.region ?_
    refine st (OK1.mv (Has.t rfl)) rfl ?_
    refine st (OK1.nilc (Has.t rfl)) rfl ?_
    refine st (OK1.fieldAddr (Has.t rfl) fld96_1 ty94) rfl ?_
    refine st (OK1.load1 (Has.t rfl) (i := 0) rfl ty94 rfl) rfl ?_
    refine st (OK1.len sl94 (Has.t rfl)) rfl ?_
    refine st (OK1.mv (Has.cI 0 rfl)) rfl ?_
    refine nl ?_
    refine At.thn (hK9 _ _ ?_); clear hK9
    refine Tri.cv (Cv.wk (.cons (t := 0) (Has.t rfl) (.cons (t := 1) (Has.t rfl) (.cons (t := 2) (Has.t rfl) (.cons (t := 3) (Has.t rfl) (.cons (t := 106) (Has.t rfl) (.cons (t := 107) (Has.t rfl) (.cons (t := 108) (Has.t rfl) .nil)))))))) ?_
    refine Tri.block ?_
    refine Tri.loopF [0, 1, 2, 3, 106, 107] (fun (z : { z : Nat × List Nat // z.1 ≤ n ∧ z.2.length = n * n ∧ ∀ r s, r < n → s < n → hu n σ z.2 r s = if r < z.1 then colE (fp q) (rowE (fp q) (hu n σ H) i k c) i k c r s else rowE (fp q) (hu n σ H) i k c r s }) => match z with | ⟨(t, H2), hI⟩ => [(108, isI (t : Int))]) (fun M => fun (z : { z : Nat × List Nat // z.1 ≤ n ∧ z.2.length = n * n ∧ ∀ r s, r < n → s < n → hu n σ z.2 r s = if r < z.1 then colE (fp q) (rowE (fp q) (hu n σ H) i k c) i k c r s else rowE (fp q) (hu n σ H) i k c r s }) => match z with | ⟨(t, H2), hI⟩ => wkH q bw n gth gtp gh gp σ H2 P1) (fun (z : { z : Nat × List Nat // z.1 ≤ n ∧ z.2.length = n * n ∧ ∀ r s, r < n → s < n → hu n σ z.2 r s = if r < z.1 then colE (fp q) (rowE (fp q) (hu n σ H) i k c) i k c r s else rowE (fp q) (hu n σ H) i k c r s }) => match z with | ⟨(t, H2), hI⟩ => n - t) (⟨(0, H1), Nat.zero_le _, hH1, fun r s hr hs => by rw [if_neg (Nat.not_lt_zero _), hI1 r s hr hs, if_pos (by omega)]⟩) (Cv.mem (.cons (t := 108) (Has.t' rfl ?_) (.cons (t := 0) (Has.t rfl) (.cons (t := 1) (Has.t rfl) (.cons (t := 2) (Has.t rfl) (.cons (t := 3) (Has.t rfl) (.cons (t := 106) (Has.t rfl) (.cons (t := 107) (Has.t rfl) .nil))))))) ?_) ?_
    · rfl
    · rfl
    rintro ⟨⟨t, H2⟩, hI⟩ K10 hK10
    refine Tri.cv (Cv.wk (.cons (t := 108) (Has.t rfl) (.cons (t := 0) (Has.t rfl) (.cons (t := 1) (Has.t rfl) (.cons (t := 2) (Has.t rfl) (.cons (t := 3) (Has.t rfl) (.cons (t := 106) (Has.t rfl) (.cons (t := 107) (Has.t rfl) .nil)))))))) ?_
    refine Tri.memEq (M' := wkH q bw n gth gtp gh gp σ H2 P1) rfl ?_
    simp only [] at hI
    obtain ⟨ht0, hH2, hI2⟩ := hI
    refine Tri.seq fun K11 hK11 => ?_
    refine Tri.region ?_
    refine st (OK1.ltI (Has.t rfl) (Has.t rfl)) rfl ?_
    refine nl ?_
    refine At.thn (hK11 _ _ ?_); clear hK11
    refine Tri.seq fun K12 hK12 => ?_
    refine Tri.cond (Has.t rfl) (fun hc2 => ?_) (fun hc2 => ?_)
    · have hc2 := BP.t hc2
      have ht : t < n := (by omega)
      have hp1 := hS.pl ht hi
      have hp2 := hS.pl ht hk
      refine Tri.skip ?_
      refine At.thn (hK12 _ _ ?_); clear hK12
      refine Tri.seq fun K13 hK13 => ?_
      refine Tri.block ?_
      refine Tri.seq fun K14 hK14 => ?_
      refine Tri.region ?_
      refine st (OK1.ixGr sl94 ty36 (Has.t rfl) (Has.t rfl) ⟨by omega, by omega⟩) rfl ?_
      refine st (OK1.loadGM (Has.t rfl) (i := 1) rfl ty36 (hS.at ht)) rfl ?_
      refine st (OK1.as (Has.t rfl)) rfl ?_
      refine nl ?_
      refine At.thn (hK14 _ _ ?_); clear hK14
      refine Tri.dr ?_
      refine DrG.st (i := 0) [] rfl rfl rfl (by kernel_rfl) (OKG.o rfl (OK1.mv (Has.t rfl))) ?_
      refine DrG.st (i := 1) [] rfl rfl rfl (by kernel_rfl) (OKG.o rfl (OK1.mv (Has.t rfl))) ?_
      refine DrG.st (i := 2) [] rfl rfl rfl (by kernel_rfl) (OKG.o rfl (OK1.mv (Has.t rfl))) ?_
      refine DrG.st (i := 3) [114] rfl rfl rfl (by kernel_rfl) (OKG.o rfl (OK1.nilc (Has.t rfl))) ?_
      refine DrG.st (i := 4) [115] rfl rfl rfl (by kernel_rfl) (OKG.o rfl (OK1.fieldAddr (Has.t rfl) fld96_0 ty30)) ?_
      refine DrG.st (i := 5) [116] rfl rfl rfl (by kernel_rfl) (OKG.o rfl (OK1.load (Has.t rfl) (i := 0) rfl ty30 rfl (Ss' := [_]) rfl)) ?_
      refine DrG.st (i := 6) [] rfl rfl rfl (by kernel_rfl) (OKG.o rfl (OK1.mv (Has.t rfl))) ?_
      refine DrG.st (i := 7) [] rfl rfl rfl (by kernel_rfl) (OKG.o rfl (OK1.mv (Has.t rfl))) ?_
      refine DrG.st (i := 8) [118, 119] rfl rfl rfl (by kernel_rfl) (OKG.o rfl (OK1.ixSeg sl36 ty28 (Has.t rfl) (Has.t rfl) ⟨by omega, by omega⟩)) ?_
      refine DrG.st (i := 9) [120] rfl rfl rfl (by kernel_rfl) (OKG.o rfl (OK1.eq (OK1.loadGM (Has.t rfl) (i := 3) rfl ty28 (getD_some (d := 0) (by simp only [Int.toNat_natCast]; omega))) ((show isU _ = isU (rowE (fp q) (hu n σ H) i k c t k) from isU_eq ((hI2 t k ht hk).trans (if_neg (Nat.lt_irrefl _))))))) ?_
      refine DrG.st (i := 10) [] rfl rfl rfl (by kernel_rfl) (OKG.o rfl (OK1.mv (Has.t rfl))) ?_
      refine DrG.st (i := 11) [122] rfl rfl rfl (by kernel_rfl) (OKG.o rfl (OK1.nilc (Has.t rfl))) ?_
      refine DrG.st (i := 12) [123] rfl rfl rfl (by kernel_rfl) (OKG.o rfl (OK1.fieldAddr (Has.t rfl) fld96_0 ty30)) ?_
      refine DrG.st (i := 13) [124] rfl rfl rfl (by kernel_rfl) (OKG.o rfl (OK1.load (Has.t rfl) (i := 0) rfl ty30 rfl (Ss' := [_]) rfl)) ?_
      refine DrG.st (i := 14) [] rfl rfl rfl (by kernel_rfl) (OKG.o rfl (OK1.mv (Has.t rfl))) ?_
      refine DrG.st (i := 15) [] rfl rfl rfl (by kernel_rfl) (OKG.o rfl (OK1.mv (Has.t rfl))) ?_
      refine DrG.st (i := 16) [] rfl rfl rfl (by kernel_rfl) (OKG.o rfl (OK1.mv (Has.t rfl))) ?_
      refine DrG.st (i := 17) [127, 128] rfl rfl rfl (by kernel_rfl) (OKG.o rfl (OK1.ixSeg sl36 ty28 (Has.t rfl) (Has.t rfl) ⟨by omega, by omega⟩)) ?_
      refine DrG.st (i := 18) [129] rfl rfl rfl (by kernel_rfl) (OKG.o rfl (OK1.eq (OK1.loadGM (Has.t rfl) (i := 3) rfl ty28 (getD_some (d := 0) (by simp only [Int.toNat_natCast]; omega))) ((show isU _ = isU (rowE (fp q) (hu n σ H) i k c t i) from isU_eq ((hI2 t i ht hi).trans (if_neg (Nat.lt_irrefl _))))))) ?_
      refine DrG.st (i := 19) [125, 126, 130] rfl rfl rfl (by kernel_rfl) (OKG.o rfl (OK1.call (gfp_Mul hq) (.cons (Has.t rfl) (.cons (Has.t rfl) (.cons (Has.t rfl) .nil))))) ?_
      refine DrG.st (i := 20) [117, 121, 131] rfl rfl rfl (by kernel_rfl) (OKG.o rfl (OK1.eq (OK1.call (gfp_Add hq) (.cons (Has.t rfl) (.cons (Has.t rfl) (.cons (Has.t rfl) .nil)))) ((show isU _ = isU (colE (fp q) (rowE (fp q) (hu n σ H) i k c) i k c t k) from isU_eq (if_pos rfl).symm)))) ?_
      refine DrG.fin (n := 21) mixed (by kernel_rfl) (by kernel_rfl) (by kernel_rfl) ?_
      refine Ops.cv (Cv.wk (.cons (t := 0) (Has.t rfl) (.cons (t := 1) (Has.t rfl) (.cons (t := 2) (Has.t rfl) (.cons (t := 3) (Has.t rfl) (.cons (t := 106) (Has.t rfl) (.cons (t := 107) (Has.t rfl) (.cons (t := 108) (Has.t rfl) (.cons (t := 109) (Has.t rfl) (.cons (t := 110) (Has.t rfl) (.cons (t := 111) (Has.t rfl) (.cons (t := 10) (Has.t rfl) (.cons (t := 112) (Has.t rfl) (.cons (t := 113) (Has.t rfl) (.cons (t := 114) (Has.t rfl) (.cons (t := 115) (Has.t rfl) (.cons (t := 116) (Has.t rfl) (.cons (t := 117) (Has.t rfl) (.cons (t := 118) (Has.t rfl) (.cons (t := 119) (Has.t rfl) (.cons (t := 120) (Has.t rfl) (.cons (t := 121) (Has.t rfl) (.cons (t := 122) (Has.t rfl) (.cons (t := 123) (Has.t rfl) (.cons (t := 124) (Has.t rfl) (.cons (t := 125) (Has.t rfl) (.cons (t := 126) (Has.t rfl) (.cons (t := 127) (Has.t rfl) (.cons (t := 128) (Has.t rfl) (.cons (t := 129) (Has.t rfl) (.cons (t := 130) (Has.t rfl) (.cons (t := 131) (Has.t rfl) (.cons (t := 132) (Has.t rfl) .nil))))))))))))))))))))))))))))))))) ?_
      refine st (OK1.ixSeg sl36 ty28 (Has.t rfl) (Has.t rfl) ⟨by omega, by omega⟩) rfl ?_
      refine Ops.storeGM (Has.t rfl) (Has.t rfl) (i := 3) rfl ty28 (by simp only [Int.toNat_natCast]; omega) (M' := [_, _, _, grM _ _ _, _]) rfl ?_
      refine nl ?_
      refine At.bln ?_
      refine At.thn (hK13 _ _ ?_); clear hK13
      refine Tri.region ?_
      refine st (OK1.addI (Has.t rfl) (Has.cI 1 rfl) (by first | omega | assumption) (by first | omega | assumption)) rfl ?_
      refine st (OK1.mv (Has.t rfl)) rfl ?_
      refine nl ?_
      refine At.thn ?_
      refine hK10 (⟨(t + 1, H2.set (σ.getD t 0 * n + k) (colE (fp q) (rowE (fp q) (hu n σ H) i k c) i k c t k)), by show t + 1 ≤ n; omega, by show (List.set _ _ _).length = _; rw [List.length_set]; exact hH2, clr_step hS hH1 hH2 hk ht (fun r s hr hs => by rw [hI1 r s hr hs, if_pos (by omega)]) hI2⟩) _ _ ?_ (Cv.mem (.cons (t := 108) (Has.t' rfl ?_) (.cons (t := 0) (Has.t rfl) (.cons (t := 1) (Has.t rfl) (.cons (t := 2) (Has.t rfl) (.cons (t := 3) (Has.t rfl) (.cons (t := 106) (Has.t rfl) (.cons (t := 107) (Has.t rfl) .nil))))))) ?_)
      · show n - (t + 1) < n - t; omega
      · exact isI_eq (by omega)
      · rfl
    · have hc2 := BP.f hc2
      refine Tri.exit ?_
      refine At.the ?_
      refine At.the ?_
      refine At.blh ?_
      refine rtX0 (.inr rfl) Tryz.results81 rfl ?_
      exact ⟨H2, P1, rfl, rfl, hH2, hP1, fun r s hr hs => by rw [hI2 r s hr hs, if_pos (by omega)]; rfl⟩
end Go.Proofs.YtkgipdidomikbaaGreat
/- Contracts: a column in Hessenberg's form. -/
namespace Go.Proofs.YtkgipdidomikbaaGreat
open Go.En Go.RowKit
set_option linter.unusedVariables false
set_option maxRecDepth 10000
open Go.Gf
open Go.Mz
open Go.Mu
open Go.Nt
open Go.Hs
set_option maxHeartbeats 4000000 in
theorem hess_column {q bw n : Nat} {gth gtp : Gr (Option Nat)} {gh gp : Gr Nat} {σ H P : List Nat} (hS : SV n σ) (hH : H.length = n * n) (hP : P.length = n * n) (hn : n ≤ 64) {k : Nat} {A : Go.Dt.MatF} (hq : q < 4294967296) (hpr : Prime (fp q)) (hI : HI (fp q) n A (hu n σ H) k) (hk1 : 1 ≤ k) (hk : k < n) : CtrX Tryz.prog 56 [isPtr bw 0, isI (k : Int)] (wkH q bw n gth gtp gh gp σ H P) (fun S M => ∃ σ2 H2 P2, S = isTup [] ∧ M = wkH q bw n gth gtp gh gp σ2 H2 P2 ∧ SV n σ2 ∧ H2.length = n * n ∧ P2.length = n * n ∧ HI (fp q) n A (hu n σ2 H2) (k + 1)) := by
  refine CtrX.intro Tryz.func56 rfl (by kernel_rfl) Tryz.ntmps56 rfl fun w0 F0 => ?_
  refine Tri.cv (Cv.wk (.cons (t := 0) (Has.t rfl) (.cons (t := 1) (Has.t rfl) .nil))) ?_
  refine Tri.fact (Has.rngI (Has.t (t := 1) rfl)) fun lt1 => ?_
  have hsl := hS.len
  have hp2 := hpr.1
  have hp0 : 0 < fp q := by omega
  refine Tri.seq fun K1 hK1 => ?_
  refine Tri.region ?_
  refine st (OK1.mv (Has.t rfl)) rfl ?_
  refine st (OK1.as (Has.t rfl)) rfl ?_
  refine nl ?_
  refine At.thn (hK1 _ _ ?_); clear hK1
  refine Tri.seq fun K2 hK2 => ?_
  refine Tri.block ?_
  refine Tri.loopF [0, 1] (fun (z : { i : Nat // k ≤ i ∧ i ≤ n ∧ ∀ r, k ≤ r → r < i → hu n σ H r (k - 1) = 0 }) => match z with | ⟨i, hL⟩ => [(4, isI (i : Int))]) (fun M => fun (z : { i : Nat // k ≤ i ∧ i ≤ n ∧ ∀ r, k ≤ r → r < i → hu n σ H r (k - 1) = 0 }) => match z with | ⟨i, hL⟩ => wkH q bw n gth gtp gh gp σ H P) (fun (z : { i : Nat // k ≤ i ∧ i ≤ n ∧ ∀ r, k ≤ r → r < i → hu n σ H r (k - 1) = 0 }) => match z with | ⟨i, hL⟩ => n - i) (⟨k, Nat.le_refl _, Nat.le_of_lt hk, fun r h1 h2 => by omega⟩) (Cv.mem (.cons (t := 4) (Has.t' rfl ?_) (.cons (t := 0) (Has.t rfl) (.cons (t := 1) (Has.t rfl) .nil))) ?_) ?_
  · rfl
  · rfl
  rintro ⟨i, hL⟩ K3 hK3
  refine Tri.cv (Cv.wk (.cons (t := 4) (Has.t rfl) (.cons (t := 0) (Has.t rfl) (.cons (t := 1) (Has.t rfl) .nil)))) ?_
  refine Tri.memEq (M' := wkH q bw n gth gtp gh gp σ H P) rfl ?_
  obtain ⟨hL1, hL2, hL3⟩ := hL
  refine Tri.seq fun K4 hK4 => ?_
  refine Tri.seq fun K5 hK5 => ?_
  refine Tri.region ?_
  refine st (OK1.mv (Has.t rfl)) rfl ?_
  refine st (OK1.mv (Has.t rfl)) rfl ?_
  refine st (OK1.nilc (Has.t rfl)) rfl ?_
  refine st (OK1.fieldAddr (Has.t rfl) fld96_1 ty94) rfl ?_
  refine st (OK1.load1 (Has.t rfl) (i := 0) rfl ty94 rfl) rfl ?_
  refine st (OK1.len sl94 (Has.t rfl)) rfl ?_
  refine st (OK1.ltI (Has.t rfl) (Has.t rfl)) rfl ?_
  refine st (OK1.mv (Has.t rfl)) rfl ?_
  refine stT rfl rfl (fun hg => have hg' := BP.t hg; OK1.mv (Has.t rfl)) rfl ?_
  refine stT rfl rfl (fun hg => have hg' := BP.t hg; OK1.nilc (Has.g rfl hg)) rfl ?_
  refine stT rfl rfl (fun hg => have hg' := BP.t hg; OK1.fieldAddr (Has.g rfl hg) fld96_1 ty94) rfl ?_
  refine stT rfl rfl (fun hg => have hg' := BP.t hg; OK1.load1 (Has.g rfl hg) (i := 0) rfl ty94 rfl) rfl ?_
  refine stT rfl rfl (fun hg => have hg' := BP.t hg; OK1.mv (Has.t rfl)) rfl ?_
  refine stT rfl rfl (fun hg => have hg' := BP.t hg; OK1.ixGr sl94 ty36 (Has.g rfl hg) (Has.g rfl hg) ⟨by omega, by omega⟩) rfl ?_
  refine stT rfl rfl (fun hg => have hg' := BP.t hg; OK1.loadGM (Has.g rfl hg) (i := 1) rfl ty36 (hS.at (show i < n by omega))) rfl ?_
  refine stT rfl rfl (fun hg => have hg' := BP.t hg; OK1.mv (Has.t rfl)) rfl ?_
  refine stT rfl rfl (fun hg => have hg' := BP.t hg; OK1.eq (OK1.subI (Has.g rfl hg) (Has.cI 1 rfl) (by first | omega | assumption) (by first | omega | assumption)) ((show isI _ = isI ((k - 1 : Nat) : Int) from isI_eq (by omega)))) rfl ?_
  refine stT rfl rfl (fun hg => have hg' := BP.t hg; OK1.ixSeg sl36 ty28 (Has.g rfl hg) (Has.g rfl hg) ⟨by omega, by omega⟩) rfl ?_
  refine stT rfl rfl (fun hg => have hg' := BP.t hg; OK1.eq (OK1.loadGM (Has.g rfl hg) (i := 3) rfl ty28 (getD_some (d := 0) (by have := hS.pl (show i < n by omega) (show k - 1 < n by omega); simp only [Int.toNat_natCast]; omega))) ((show isU _ = isU (hu n σ H i (k - 1)) from isU_eq rfl))) rfl ?_
  refine stT rfl rfl (fun hg => have hg' := BP.t hg; OK1.eqU (Has.g rfl hg) (Has.cU 0 rfl)) rfl ?_
  refine st (OK1.pickAnd (Has.t rfl) (fun h => Has.g rfl h)) rfl ?_
  refine nl ?_
  refine At.thn (hK5 _ _ ?_); clear hK5
  refine Tri.cond (Has.t rfl) (fun hc1 => ?_) (fun hc1 => ?_)
  · have hc1 := BP.t hc1
    have HZ := hc1
    refine Tri.skip ?_
    refine At.thn (hK4 _ _ ?_); clear hK4
    refine Tri.block ?_
    refine Tri.region ?_
    refine st (OK1.mv (Has.t rfl)) rfl ?_
    refine st (OK1.addI (Has.t rfl) (Has.cI 1 rfl) (by first | omega | assumption) (by first | omega | assumption)) rfl ?_
    refine st (OK1.as (Has.t rfl)) rfl ?_
    refine nl ?_
    refine At.bln ?_
    refine At.thn ?_
    refine hK3 (⟨i + 1, by omega, by omega, fun r h1 h2 => by rcases Nat.lt_or_ge r i with h | h; exact hL3 r h1 h; rw [show r = i by omega]; exact HZ.2⟩) _ _ ?_ (Cv.mem (.cons (t := 4) (Has.t' rfl ?_) (.cons (t := 0) (Has.t rfl) (.cons (t := 1) (Has.t rfl) .nil))) ?_)
    · show n - (i + 1) < n - i; omega
    · exact isI_eq (by omega)
    · rfl
  · have hc1 := BP.f hc1
    have HE := hc1
    refine Tri.exit ?_
    refine At.the ?_
    refine At.the ?_
    refine At.blh ?_
    refine At.thn (hK2 _ _ ?_); clear hK2
    refine Tri.cv (Cv.wk (.cons (t := 0) (Has.t rfl) (.cons (t := 1) (Has.t rfl) (.cons (t := 4) (Has.t rfl) .nil)))) ?_
    refine Tri.seq fun K6 hK6 => ?_
    refine Tri.seq fun K7 hK7 => ?_
    refine Tri.region ?_
    refine st (OK1.mv (Has.t rfl)) rfl ?_
    refine st (OK1.mv (Has.t rfl)) rfl ?_
    refine st (OK1.nilc (Has.t rfl)) rfl ?_
    refine st (OK1.fieldAddr (Has.t rfl) fld96_1 ty94) rfl ?_
    refine st (OK1.load1 (Has.t rfl) (i := 0) rfl ty94 rfl) rfl ?_
    refine st (OK1.len sl94 (Has.t rfl)) rfl ?_
    refine st (OK1.eqI (Has.t rfl) (Has.t rfl)) rfl ?_
    refine nl ?_
    refine At.thn (hK7 _ _ ?_); clear hK7
    refine Tri.cv (Cv.wk (.cons (t := 0) (Has.t rfl) (.cons (t := 1) (Has.t rfl) (.cons (t := 4) (Has.t rfl) (.cons (t := 37) (Has.t rfl) .nil))))) ?_
    refine Tri.cond (Has.t rfl) (fun hc2 => ?_) (fun hc2 => ?_)
    · have hc2 := BP.t hc2
      have hin : i = n := (by omega)
      refine Tri.ret ?_
      refine At.thr ?_
      refine rtX0 (.inl rfl) Tryz.results56 rfl ?_
      exact ⟨σ, H, P, rfl, rfl, hS, hH, hP, hI.next hk1 fun r h1 h2 => hL3 r (by omega) (by omega)⟩
    · have hc2 := BP.f hc2
      have hin : i < n := (by omega)
      have hne0 : hu n σ H i (k - 1) ≠ 0 := fun e => by rcases HE with h | h; omega; exact h e
      refine Tri.skip ?_
      refine At.thn (hK6 _ _ ?_); clear hK6
      refine Tri.cutF [0, 1] (fun (z : { z : List Nat × List Nat // SV n z.1 ∧ z.2.length = n * n ∧ HI (fp q) n A (hu n z.1 z.2) k ∧ hu n z.1 z.2 k (k - 1) ≠ 0 }) => match z with | ⟨(σ1, H1), hC⟩ => []) (fun M => fun (z : { z : List Nat × List Nat // SV n z.1 ∧ z.2.length = n * n ∧ HI (fp q) n A (hu n z.1 z.2) k ∧ hu n z.1 z.2 k (k - 1) ≠ 0 }) => match z with | ⟨(σ1, H1), hC⟩ => wkH q bw n gth gtp gh gp σ1 H1 P) (fun K8 hK8 => ?_) ?_
      · skip
        refine Tri.seq fun K9 hK9 => ?_
        refine Tri.region ?_
        refine st (OK1.mv (Has.t rfl)) rfl ?_
        refine st (OK1.mv (Has.t rfl)) rfl ?_
        refine st (OK1.gtI (Has.t rfl) (Has.t rfl)) rfl ?_
        refine nl ?_
        refine At.thn (hK9 _ _ ?_); clear hK9
        refine Tri.cond (Has.t rfl) (fun hc3 => ?_) (fun hc3 => ?_)
        · have hc3 := BP.t hc3
          have hki : k < i := (by omega)
          refine Tri.region ?_
          refine st (OK1.mv (Has.t rfl)) rfl ?_
          refine st (OK1.mv (Has.t rfl)) rfl ?_
          refine st (OK1.mv (Has.t rfl)) rfl ?_
          refine Ops.callX (hess_swap hS hH hP hn hin hk) (List.Perm.refl _) (.cons (Has.t rfl) (.cons (Has.t rfl) (.cons (Has.t rfl) .nil))) rfl ?_
          rintro _ _ ⟨H3, rfl, rfl, hH3, he⟩
          refine Ops.memEq (M' := wkH q bw n gth gtp gh gp (swS σ i k) H3 P) rfl ?_
          refine nl ?_
          refine At.thn ?_
          refine hK8 (⟨(swS σ i k, H3), hS.swap hin hk, hH3, hI.swap hin (by omega) he, by show hu n (swS σ i k) H3 k (k - 1) ≠ 0; rw [he k (k - 1) hk (by omega), show ta i k k = i by unfold ta; rw [if_neg (by omega), if_pos rfl], show ta i k (k - 1) = k - 1 by unfold ta; rw [if_neg (by omega), if_neg (by omega)]]; exact hne0⟩) _ _ (Cv.mem (.cons (t := 0) (Has.t rfl) (.cons (t := 1) (Has.t rfl) .nil)) ?_)
          · rfl
        · have hc3 := BP.f hc3
          have hki : i = k := (by omega)
          subst hki
          refine Tri.skip ?_
          refine At.thn ?_
          refine hK8 (⟨(σ, H), hS, hH, hI, hne0⟩) _ _ (Cv.mem (.cons (t := 0) (Has.t rfl) (.cons (t := 1) (Has.t rfl) .nil)) ?_)
          · rfl
      rintro ⟨⟨σ1, H1⟩, hC⟩
      refine Tri.cv (Cv.wk (.cons (t := 0) (Has.t rfl) (.cons (t := 1) (Has.t rfl) .nil))) ?_
      refine Tri.memEq (M' := wkH q bw n gth gtp gh gp σ1 H1 P) rfl ?_
      simp only [] at hC
      obtain ⟨hS1, hH1, hI1, hN1⟩ := hC
      have hsl1 := hS1.len
      refine Tri.seq fun K10 hK10 => ?_
      refine Tri.dr ?_
      refine DrG.st (i := 0) [] rfl rfl rfl (by kernel_rfl) (OKG.o rfl (OK1.mv (Has.t rfl))) ?_
      refine DrG.st (i := 1) [45] rfl rfl rfl (by kernel_rfl) (OKG.o rfl (OK1.nilc (Has.t rfl))) ?_
      refine DrG.st (i := 2) [46] rfl rfl rfl (by kernel_rfl) (OKG.o rfl (OK1.fieldAddr (Has.t rfl) fld96_0 ty30)) ?_
      refine DrG.st (i := 3) [47] rfl rfl rfl (by kernel_rfl) (OKG.o rfl (OK1.load (Has.t rfl) (i := 0) rfl ty30 rfl (Ss' := [_]) rfl)) ?_
      refine DrG.st (i := 4) [] rfl rfl rfl (by kernel_rfl) (OKG.o rfl (OK1.mv (Has.t rfl))) ?_
      refine DrG.st (i := 5) [49] rfl rfl rfl (by kernel_rfl) (OKG.o rfl (OK1.nilc (Has.t rfl))) ?_
      refine DrG.st (i := 6) [50] rfl rfl rfl (by kernel_rfl) (OKG.o rfl (OK1.fieldAddr (Has.t rfl) fld96_1 ty94)) ?_
      refine DrG.st (i := 7) [51] rfl rfl rfl (by kernel_rfl) (OKG.o rfl (OK1.load1 (Has.t rfl) (i := 0) rfl ty94 rfl)) ?_
      refine DrG.st (i := 8) [] rfl rfl rfl (by kernel_rfl) (OKG.o rfl (OK1.mv (Has.t rfl))) ?_
      refine DrG.st (i := 9) [52, 53] rfl rfl rfl (by kernel_rfl) (OKG.o rfl (OK1.ixGr sl94 ty36 (Has.t rfl) (Has.t rfl) ⟨by omega, by omega⟩)) ?_
      refine DrG.st (i := 10) [54] rfl rfl rfl (by kernel_rfl) (OKG.o rfl (OK1.loadGM (Has.t rfl) (i := 1) rfl ty36 (hS1.at hk))) ?_
      refine DrG.st (i := 11) [] rfl rfl rfl (by kernel_rfl) (OKG.o rfl (OK1.mv (Has.t rfl))) ?_
      refine DrG.st (i := 12) [56] rfl rfl rfl (by kernel_rfl) (OKG.o rfl (OK1.eq (OK1.subI (Has.t rfl) (Has.cI 1 rfl) (by first | omega | assumption) (by first | omega | assumption)) ((show isI _ = isI ((k - 1 : Nat) : Int) from isI_eq (by omega))))) ?_
      refine DrG.st (i := 13) [55, 57] rfl rfl rfl (by kernel_rfl) (OKG.o rfl (OK1.ixSeg sl36 ty28 (Has.t rfl) (Has.t rfl) ⟨by omega, by omega⟩)) ?_
      refine DrG.st (i := 14) [58] rfl rfl rfl (by kernel_rfl) (OKG.o rfl (OK1.eq (OK1.loadGM (Has.t rfl) (i := 3) rfl ty28 (getD_some (d := 0) (by have := hS1.pl (show k < n by omega) (show k - 1 < n by omega); simp only [Int.toNat_natCast]; omega))) ((show isU _ = isU (hu n σ1 H1 k (k - 1)) from isU_eq rfl)))) ?_
      refine DrG.fin (n := 15) mixed (by kernel_rfl) (by kernel_rfl) (by kernel_rfl) ?_
      refine Ops.cv (Cv.wk (.cons (t := 0) (Has.t rfl) (.cons (t := 1) (Has.t rfl) (.cons (t := 48) (Has.t rfl) (.cons (t := 59) (Has.t rfl) .nil))))) ?_
      refine st (OK1.eq (OK1.call (gfp_Inv hq hp2) (.cons (Has.t rfl) (.cons (Has.t rfl) .nil))) ((show isU _ = isU (Go.Gf.inv (fp q) (hu n σ1 H1 k (k - 1))) from isU_eq rfl))) rfl ?_
      refine st (OK1.as (Has.t rfl)) rfl ?_
      refine nl ?_
      refine At.thn (hK10 _ _ ?_); clear hK10
      refine Tri.seq fun K11 hK11 => ?_
      refine Tri.region ?_
      refine st (OK1.mv (Has.t rfl)) rfl ?_
      refine st (OK1.addI (Has.t rfl) (Has.cI 1 rfl) (by first | omega | assumption) (by first | omega | assumption)) rfl ?_
      refine st (OK1.as (Has.t rfl)) rfl ?_
      refine nl ?_
      refine At.thn (hK11 _ _ ?_); clear hK11
      refine Tri.cv (Cv.wk (.cons (t := 0) (Has.t rfl) (.cons (t := 1) (Has.t rfl) (.cons (t := 5) (Has.t rfl) (.cons (t := 6) (Has.t rfl) .nil))))) ?_
      refine Tri.block ?_
      refine Tri.loopF [0, 1, 5] (fun (z : { z : Nat × List Nat × List Nat // k + 1 ≤ z.1 ∧ z.1 ≤ n ∧ z.2.1.length = n * n ∧ z.2.2.length = n * n ∧ HI (fp q) n A (hu n σ1 z.2.1) k ∧ hu n σ1 z.2.1 k (k - 1) = hu n σ1 H1 k (k - 1) ∧ ∀ r, k < r → r < z.1 → hu n σ1 z.2.1 r (k - 1) = 0 }) => match z with | ⟨(i, H2, P2), hL⟩ => [(6, isI (i : Int))]) (fun M => fun (z : { z : Nat × List Nat × List Nat // k + 1 ≤ z.1 ∧ z.1 ≤ n ∧ z.2.1.length = n * n ∧ z.2.2.length = n * n ∧ HI (fp q) n A (hu n σ1 z.2.1) k ∧ hu n σ1 z.2.1 k (k - 1) = hu n σ1 H1 k (k - 1) ∧ ∀ r, k < r → r < z.1 → hu n σ1 z.2.1 r (k - 1) = 0 }) => match z with | ⟨(i, H2, P2), hL⟩ => wkH q bw n gth gtp gh gp σ1 H2 P2) (fun (z : { z : Nat × List Nat × List Nat // k + 1 ≤ z.1 ∧ z.1 ≤ n ∧ z.2.1.length = n * n ∧ z.2.2.length = n * n ∧ HI (fp q) n A (hu n σ1 z.2.1) k ∧ hu n σ1 z.2.1 k (k - 1) = hu n σ1 H1 k (k - 1) ∧ ∀ r, k < r → r < z.1 → hu n σ1 z.2.1 r (k - 1) = 0 }) => match z with | ⟨(i, H2, P2), hL⟩ => n - i) (⟨(k + 1, H1, P), Nat.le_refl _, hk, hH1, hP, hI1, rfl, fun r h1 h2 => by omega⟩) (Cv.mem (.cons (t := 6) (Has.t' rfl ?_) (.cons (t := 0) (Has.t rfl) (.cons (t := 1) (Has.t rfl) (.cons (t := 5) (Has.t rfl) .nil)))) ?_) ?_
      · exact isI_eq (by omega)
      · rfl
      rintro ⟨⟨i, H2, P2⟩, hL⟩ K12 hK12
      refine Tri.cv (Cv.wk (.cons (t := 6) (Has.t rfl) (.cons (t := 0) (Has.t rfl) (.cons (t := 1) (Has.t rfl) (.cons (t := 5) (Has.t rfl) .nil))))) ?_
      refine Tri.memEq (M' := wkH q bw n gth gtp gh gp σ1 H2 P2) rfl ?_
      simp only [] at hL
      obtain ⟨hL1, hL2, hH2, hP2, hI2, hL3, hL4⟩ := hL
      refine Tri.seq fun K13 hK13 => ?_
      refine Tri.seq fun K14 hK14 => ?_
      refine Tri.region ?_
      refine st (OK1.mv (Has.t rfl)) rfl ?_
      refine st (OK1.mv (Has.t rfl)) rfl ?_
      refine st (OK1.nilc (Has.t rfl)) rfl ?_
      refine st (OK1.fieldAddr (Has.t rfl) fld96_1 ty94) rfl ?_
      refine st (OK1.load1 (Has.t rfl) (i := 0) rfl ty94 rfl) rfl ?_
      refine st (OK1.len sl94 (Has.t rfl)) rfl ?_
      refine st (OK1.ltI (Has.t rfl) (Has.t rfl)) rfl ?_
      refine nl ?_
      refine At.thn (hK14 _ _ ?_); clear hK14
      refine Tri.cond (Has.t rfl) (fun hc4 => ?_) (fun hc4 => ?_)
      · have hc4 := BP.t hc4
        have hin : i < n := (by omega)
        refine Tri.skip ?_
        refine At.thn (hK13 _ _ ?_); clear hK13
        refine Tri.seq fun K15 hK15 => ?_
        refine Tri.block ?_
        refine Tri.seq fun K16 hK16 => ?_
        refine Tri.region ?_
        refine st (OK1.mv (Has.t rfl)) rfl ?_
        refine st (OK1.nilc (Has.t rfl)) rfl ?_
        refine st (OK1.fieldAddr (Has.t rfl) fld96_1 ty94) rfl ?_
        refine st (OK1.load1 (Has.t rfl) (i := 0) rfl ty94 rfl) rfl ?_
        refine st (OK1.mv (Has.t rfl)) rfl ?_
        refine st (OK1.ixGr sl94 ty36 (Has.t rfl) (Has.t rfl) ⟨by omega, by omega⟩) rfl ?_
        refine st (OK1.loadGM (Has.t rfl) (i := 1) rfl ty36 (hS1.at (show i < n by omega))) rfl ?_
        refine st (OK1.mv (Has.t rfl)) rfl ?_
        refine st (OK1.eq (OK1.subI (Has.t rfl) (Has.cI 1 rfl) (by first | omega | assumption) (by first | omega | assumption)) ((show isI _ = isI ((k - 1 : Nat) : Int) from isI_eq (by omega)))) rfl ?_
        refine st (OK1.ixSeg sl36 ty28 (Has.t rfl) (Has.t rfl) ⟨by omega, by omega⟩) rfl ?_
        refine st (OK1.eq (OK1.loadGM (Has.t rfl) (i := 3) rfl ty28 (getD_some (d := 0) (by have := hS1.pl (show i < n by omega) (show k - 1 < n by omega); simp only [Int.toNat_natCast]; omega))) ((show isU _ = isU (hu n σ1 H2 i (k - 1)) from isU_eq rfl))) rfl ?_
        refine st (OK1.neU (Has.t rfl) (Has.cU 0 rfl)) rfl ?_
        refine nl ?_
        refine At.thn (hK16 _ _ ?_); clear hK16
        refine Tri.cond (Has.t rfl) (fun hc5 => ?_) (fun hc5 => ?_)
        · have hc5 := BP.t hc5
          have HN2 := hc5
          refine Tri.dr ?_
          refine DrG.st (i := 0) [] rfl rfl rfl (by kernel_rfl) (OKG.o rfl (OK1.mv (Has.t rfl))) ?_
          refine DrG.st (i := 1) [] rfl rfl rfl (by kernel_rfl) (OKG.o rfl (OK1.mv (Has.t rfl))) ?_
          refine DrG.st (i := 2) [] rfl rfl rfl (by kernel_rfl) (OKG.o rfl (OK1.mv (Has.t rfl))) ?_
          refine DrG.st (i := 3) [] rfl rfl rfl (by kernel_rfl) (OKG.o rfl (OK1.mv (Has.t rfl))) ?_
          refine DrG.st (i := 4) [87] rfl rfl rfl (by kernel_rfl) (OKG.o rfl (OK1.nilc (Has.t rfl))) ?_
          refine DrG.st (i := 5) [88] rfl rfl rfl (by kernel_rfl) (OKG.o rfl (OK1.fieldAddr (Has.t rfl) fld96_0 ty30)) ?_
          refine DrG.st (i := 6) [89] rfl rfl rfl (by kernel_rfl) (OKG.o rfl (OK1.load (Has.t rfl) (i := 0) rfl ty30 rfl (Ss' := [_]) rfl)) ?_
          refine DrG.st (i := 7) [] rfl rfl rfl (by kernel_rfl) (OKG.o rfl (OK1.mv (Has.t rfl))) ?_
          refine DrG.st (i := 8) [91] rfl rfl rfl (by kernel_rfl) (OKG.o rfl (OK1.nilc (Has.t rfl))) ?_
          refine DrG.st (i := 9) [92] rfl rfl rfl (by kernel_rfl) (OKG.o rfl (OK1.fieldAddr (Has.t rfl) fld96_1 ty94)) ?_
          refine DrG.st (i := 10) [93] rfl rfl rfl (by kernel_rfl) (OKG.o rfl (OK1.load1 (Has.t rfl) (i := 0) rfl ty94 rfl)) ?_
          refine DrG.st (i := 11) [] rfl rfl rfl (by kernel_rfl) (OKG.o rfl (OK1.mv (Has.t rfl))) ?_
          refine DrG.st (i := 12) [94, 95] rfl rfl rfl (by kernel_rfl) (OKG.o rfl (OK1.ixGr sl94 ty36 (Has.t rfl) (Has.t rfl) ⟨by omega, by omega⟩)) ?_
          refine DrG.st (i := 13) [96] rfl rfl rfl (by kernel_rfl) (OKG.o rfl (OK1.loadGM (Has.t rfl) (i := 1) rfl ty36 (hS1.at (show i < n by omega)))) ?_
          refine DrG.st (i := 14) [] rfl rfl rfl (by kernel_rfl) (OKG.o rfl (OK1.mv (Has.t rfl))) ?_
          refine DrG.st (i := 15) [98] rfl rfl rfl (by kernel_rfl) (OKG.o rfl (OK1.eq (OK1.subI (Has.t rfl) (Has.cI 1 rfl) (by first | omega | assumption) (by first | omega | assumption)) ((show isI _ = isI ((k - 1 : Nat) : Int) from isI_eq (by omega))))) ?_
          refine DrG.st (i := 16) [97, 99] rfl rfl rfl (by kernel_rfl) (OKG.o rfl (OK1.ixSeg sl36 ty28 (Has.t rfl) (Has.t rfl) ⟨by omega, by omega⟩)) ?_
          refine DrG.st (i := 17) [100] rfl rfl rfl (by kernel_rfl) (OKG.o rfl (OK1.eq (OK1.loadGM (Has.t rfl) (i := 3) rfl ty28 (getD_some (d := 0) (by have := hS1.pl (show i < n by omega) (show k - 1 < n by omega); simp only [Int.toNat_natCast]; omega))) ((show isU _ = isU (hu n σ1 H2 i (k - 1)) from isU_eq rfl)))) ?_
          refine DrG.st (i := 18) [] rfl rfl rfl (by kernel_rfl) (OKG.o rfl (OK1.mv (Has.t rfl))) ?_
          refine DrG.st (i := 19) [90, 101, 102] rfl rfl rfl (by kernel_rfl) (OKG.o rfl (OK1.eq (OK1.call (gfp_Mul hq) (.cons (Has.t rfl) (.cons (Has.t rfl) (.cons (Has.t rfl) .nil)))) ((show isU _ = isU (hu n σ1 H2 i (k - 1) * Go.Gf.inv (fp q) (hu n σ1 H1 k (k - 1)) % fp q) from isU_eq rfl)))) ?_
          refine DrG.fin (n := 20) mixed (by kernel_rfl) (by kernel_rfl) (by kernel_rfl) ?_
          refine Ops.cv (Cv.wk (.cons (t := 0) (Has.t rfl) (.cons (t := 1) (Has.t rfl) (.cons (t := 5) (Has.t rfl) (.cons (t := 6) (Has.t rfl) (.cons (t := 63) (Has.t rfl) (.cons (t := 64) (Has.t rfl) (.cons (t := 65) (Has.t rfl) (.cons (t := 66) (Has.t rfl) (.cons (t := 67) (Has.t rfl) (.cons (t := 68) (Has.t rfl) (.cons (t := 69) (Has.t rfl) (.cons (t := 72) (Has.t rfl) (.cons (t := 73) (Has.t rfl) (.cons (t := 74) (Has.t rfl) (.cons (t := 75) (Has.t rfl) (.cons (t := 76) (Has.t rfl) (.cons (t := 77) (Has.t rfl) (.cons (t := 78) (Has.t rfl) (.cons (t := 79) (Has.t rfl) (.cons (t := 80) (Has.t rfl) (.cons (t := 81) (Has.t rfl) (.cons (t := 82) (Has.t rfl) (.cons (t := 83) (Has.t rfl) (.cons (t := 84) (Has.t rfl) (.cons (t := 85) (Has.t rfl) (.cons (t := 86) (Has.t rfl) (.cons (t := 87) (Has.t rfl) (.cons (t := 88) (Has.t rfl) (.cons (t := 89) (Has.t rfl) (.cons (t := 90) (Has.t rfl) (.cons (t := 91) (Has.t rfl) (.cons (t := 92) (Has.t rfl) (.cons (t := 93) (Has.t rfl) (.cons (t := 94) (Has.t rfl) (.cons (t := 95) (Has.t rfl) (.cons (t := 96) (Has.t rfl) (.cons (t := 97) (Has.t rfl) (.cons (t := 98) (Has.t rfl) (.cons (t := 99) (Has.t rfl) (.cons (t := 100) (Has.t rfl) (.cons (t := 101) (Has.t rfl) (.cons (t := 102) (Has.t rfl) (.cons (t := 103) (Has.t rfl) .nil)))))))))))))))))))))))))))))))))))))))))))) ?_
          refine Ops.callX (hess_clear hS1 hH2 hP2 hn hq hin hk (by omega)) (List.Perm.refl _) (.cons (Has.t rfl) (.cons (Has.t rfl) (.cons (Has.t rfl) (.cons (Has.t rfl) .nil)))) rfl ?_
          rintro _ _ ⟨H3, P3, rfl, rfl, hH3, hP3, he⟩
          refine Ops.memEq (M' := wkH q bw n gth gtp gh gp σ1 H3 P3) rfl ?_
          refine nl ?_
          refine At.bln ?_
          refine At.thn (hK15 _ _ ?_); clear hK15
          refine Tri.region ?_
          refine st (OK1.mv (Has.t rfl)) rfl ?_
          refine st (OK1.addI (Has.t rfl) (Has.cI 1 rfl) (by first | omega | assumption) (by first | omega | assumption)) rfl ?_
          refine st (OK1.as (Has.t rfl)) rfl ?_
          refine nl ?_
          refine At.thn ?_
          refine hK12 (⟨(i + 1, H3, P3), by show k + 1 ≤ i + 1; omega, by show i + 1 ≤ n; omega, hH3, hP3, hI2.clear hp0 hin (by omega) he, (he k (k - 1) hk (by omega)).trans (by rw [clrU_at _ _ (by omega), if_neg (by omega)]; exact hL3), fun r h1 h2 => by rw [he r (k - 1) (by omega) (by omega), clrU_at _ _ (by omega)]; split; (rw [hL3]; exact clr_zero hpr (hI2.lt i (k - 1) hin (by omega)) (hI1.lt k (k - 1) hk (by omega)) hN1); exact hL4 r h1 (by omega)⟩) _ _ ?_ (Cv.mem (.cons (t := 6) (Has.t' rfl ?_) (.cons (t := 0) (Has.t rfl) (.cons (t := 1) (Has.t rfl) (.cons (t := 5) (Has.t rfl) .nil)))) ?_)
          · show n - (i + 1) < n - i; omega
          · exact isI_eq (by omega)
          · rfl
        · have hc5 := BP.f hc5
          have HZ2 : hu n σ1 H2 i (k - 1) = 0 := hc5
          refine Tri.skip ?_
          refine At.bln ?_
          refine At.thn (hK15 _ _ ?_); clear hK15
          refine Tri.region ?_
          refine st (OK1.mv (Has.t rfl)) rfl ?_
          refine st (OK1.addI (Has.t rfl) (Has.cI 1 rfl) (by first | omega | assumption) (by first | omega | assumption)) rfl ?_
          refine st (OK1.as (Has.t rfl)) rfl ?_
          refine nl ?_
          refine At.thn ?_
          refine hK12 (⟨(i + 1, H2, P2), by show k + 1 ≤ i + 1; omega, by show i + 1 ≤ n; omega, hH2, hP2, hI2, hL3, fun r h1 h2 => by rcases Nat.lt_or_ge r i with h | h; exact hL4 r h1 h; rw [show r = i by omega]; exact HZ2⟩) _ _ ?_ (Cv.mem (.cons (t := 6) (Has.t' rfl ?_) (.cons (t := 0) (Has.t rfl) (.cons (t := 1) (Has.t rfl) (.cons (t := 5) (Has.t rfl) .nil)))) ?_)
          · show n - (i + 1) < n - i; omega
          · exact isI_eq (by omega)
          · rfl
      · have hc4 := BP.f hc4
        refine Tri.exit ?_
        refine At.the ?_
        refine At.the ?_
        refine At.blh ?_
        refine rtX0 (.inr rfl) Tryz.results56 rfl ?_
        exact ⟨σ1, H2, P2, rfl, rfl, hS1, hH2, hP2, hI2.next hk1 fun r h1 h2 => hL4 r h2 (by omega)⟩
end Go.Proofs.YtkgipdidomikbaaGreat
/- Elimination without fractions: what stands in the rows are minors. No program here. -/
namespace Go.Dt
open RowF Go.Pz
theorem getD_some {β : Type} {l : List β} {i : Nat} {x d : β} (h : l[i]? = some x) : l.getD i d = x := by rw [List.getD, h]; rfl
end Go.Dt
/- Determinants of the matrices that a program holds: sizes, and what is left of a row and a column. -/
namespace Go.Mz
open Go.Pz Go.Nt Go.En Go.Dt
/-- the matrix of a list of numbers, row by row -/
def mf (C : Nat) (L : List Int) : MatF := fun i k => cf L (i * C + k)
theorem sm_nw {f : Nat → Int} {K : Nat} (h : ∀ i, (List.length (words (f i).natAbs)) ≤ K) : ∀ n, (List.length (words (sm n f).natAbs)) ≤ K + n
  | 0 => by show (List.length (words (Int.natAbs 0))) ≤ _; rw [Int.natAbs_zero, words_zero]; exact Nat.zero_le _
  | n + 1 => by
    have h1 := sm_nw h n
    have h2 := nz_add (sm n f) (f n)
    have h3 := h n
    show (List.length (words (sm n f + f n).natAbs)) ≤ _
    omega
theorem dotS_sm (f g : Nat → Int) : ∀ n, dotS f g n = sm n fun i => f i * g i
  | 0 => rfl
  | n + 1 => by show dotS f g n + f n * g n = sm n _ + _; rw [dotS_sm f g n]
end Go.Mz
namespace Go.En
open Go.Nt Go.Pz Go.Mz
section
variable {E : Env} {P : Program} {Γ : Ctx} {M : Mem} {x : Operand}
theorem Has.okM {r c : Int} {xs : List (Bool × List Nat)} (h : Has E Γ M x (isM r c xs)) : ∀ a w F, Sat E Γ M a w F → ∀ p ∈ xs, (∀ y ∈ p.2, y < 18446744073709551616) ∧ p.2.length ≤ 9223372036854775807 := by
  intro a w F s p hp
  obtain ⟨vs0, _, hv0⟩ := h a w F s
  obtain ⟨v0, _, ad, cap, e, g1, g2, g3, g4⟩ := hv0.get 2 (SlK 2 zc xs) rfl
  obtain ⟨i, hi, rfl⟩ := List.mem_iff_getElem.1 hp
  rcases g4 with g4 | ⟨b, off, _, _, vs, hv, _⟩
  · omega
  · have hd := (hv.drop (i * 2)).take 2
    rw [flat_drop xs i xs[i] (fun y _ => zc_len y) (List.getElem?_eq_getElem hi)] at hd
    obtain ⟨v, _, ad, cap, e, g1, g2, g3, g4⟩ := hd.get 1 (isWords xs[i].2) rfl
    refine ⟨fun y hy => ?_, by rw [maxLen_eq] at g2; omega⟩
    obtain ⟨j, hj, rfl⟩ := List.mem_iff_getElem.1 hy
    rcases g4 with g4 | ⟨b, off, _, _, us, hu, _⟩
    · omega
    · obtain ⟨u, _, h2⟩ := hu.get j (isU xs[i].2[j]) (by simp [hj])
      exact h2.2
end
end Go.En
/- Hermite's form, step by step, as functions of lists of rows. No program here. -/
namespace Go.Hn
open Go.Nt Go.Pz Go.Mz Go.En
/-- a sum of multiples of two rows -/
def mx2 (x : Int) (p : List Int) (y : Int) (q : List Int) : List Int := (List.range p.length).map fun k => x * cf p k + y * cf q k
theorem mx2_len (x : Int) (p : List Int) (y : Int) (q : List Int) : (mx2 x p y q).length = p.length := by unfold mx2; rw [List.length_map, List.length_range]
theorem cf_mx2 {x : Int} {p : List Int} {y : Int} {q : List Int} (h : q.length = p.length) (k : Nat) : cf (mx2 x p y q) k = x * cf p k + y * cf q k := by
  unfold mx2
  rw [cf_tab]
  split
  · rfl
  · rw [cf_high (l := p) (by omega), cf_high (l := q) (by omega)]; omega
/-- the greatest common divisor, and what makes it -/
def xgg (a b : Int) : Int := (Nat.gcd a.natAbs b.natAbs : Nat)
def xgx (a b : Int) : Int := if b = 0 then sgn a else xg a b
def xgy (a b : Int) : Int := if b = 0 then 0 else (xgg a b - xg a b * a).tdiv b
theorem xgg_zero {a b : Int} : xgg a b = 0 ↔ a = 0 ∧ b = 0 := by
  unfold xgg
  constructor
  · intro h
    have h1 : Nat.gcd a.natAbs b.natAbs = 0 := by omega
    have := Nat.gcd_eq_zero_iff.1 h1
    omega
  · rintro ⟨rfl, rfl⟩; rfl
theorem xgg_left (a b : Int) : xgg a b ∣ a := Int.natAbs_dvd_natAbs.1 (by unfold xgg; rw [Int.natAbs_natCast]; exact Nat.gcd_dvd_left _ _)
theorem xgg_right (a b : Int) : xgg a b ∣ b := Int.natAbs_dvd_natAbs.1 (by unfold xgg; rw [Int.natAbs_natCast]; exact Nat.gcd_dvd_right _ _)
/-! ### the steps -/
/-- two rows are joined: the first one gets the greatest common divisor, the other one 0 -/
def jn (rs : List (List Int)) (t i col : Nat) : List (List Int) :=
  if xgg (cf (rs.getD t []) col) (cf (rs.getD i []) col) = 0 then rs else
  (rs.set t (mx2 (xgx (cf (rs.getD t []) col) (cf (rs.getD i []) col)) (rs.getD t []) (xgy (cf (rs.getD t []) col) (cf (rs.getD i []) col)) (rs.getD i []))).set i
    (mx2 (-((cf (rs.getD i []) col).tdiv (xgg (cf (rs.getD t []) col) (cf (rs.getD i []) col)))) (rs.getD t []) ((cf (rs.getD t []) col).tdiv (xgg (cf (rs.getD t []) col) (cf (rs.getD i []) col))) (rs.getD i []))
def jns (rs : List (List Int)) (t col : Nat) : Nat → List (List Int)
  | 0 => rs
  | n + 1 => jn (jns rs t col n) t (t + 1 + n) col
/-- what is above a pivot is made less than it -/
def rd (rs : List (List Int)) (t i col : Nat) : List (List Int) := rs.set i (mx2 1 (rs.getD i []) (-(cf (rs.getD i []) col / cf (rs.getD t []) col)) (rs.getD t []))
def rds (rs : List (List Int)) (t col : Nat) : Nat → List (List Int)
  | 0 => rs
  | n + 1 => rd (rds rs t col n) t n col
def hsg (rs : List (List Int)) (t col : Nat) : List (List Int) := if cf (rs.getD t []) col < 0 then rs.set t (mx2 (-1) (rs.getD t []) 0 (rs.getD t [])) else rs
structure HS where
  rows : List (List Int)
  top : Nat
def hjs (s : HS) (col : Nat) : List (List Int) := jns s.rows s.top col (s.rows.length - (s.top + 1))
def hcol (s : HS) (col : Nat) : HS := if cf ((hjs s col).getD s.top []) col = 0 then ⟨hjs s col, s.top⟩ else ⟨rds (hsg (hjs s col) s.top col) s.top col s.top, s.top + 1⟩
def hred (s : HS) : Nat → HS
  | 0 => s
  | c + 1 => if (hred s c).top < (hred s c).rows.length then hcol (hred s c) c else hred s c
def row0 (C R : Nat) (L : List Int) (i : Nat) : List Int := (List.range (C + R)).map fun k => if k < C then cf L (i * C + k) else if k = C + i then 1 else 0
def rows0 (C R : Nat) (L : List Int) (n : Nat) : List (List Int) := (List.range n).map (row0 C R L)
def hrm (R C : Nat) (L : List Int) : HS := hred ⟨rows0 C R L R, 0⟩ C
/-! ### sizes -/
theorem jn_len (rs : List (List Int)) (t i col : Nat) : (jn rs t i col).length = rs.length := by unfold jn; split <;> simp
theorem jns_len (rs : List (List Int)) (t col : Nat) : ∀ n, (jns rs t col n).length = rs.length
  | 0 => rfl
  | n + 1 => (jn_len _ _ _ _).trans (jns_len rs t col n)
theorem rd_len (rs : List (List Int)) (t i col : Nat) : (rd rs t i col).length = rs.length := by unfold rd; simp
theorem rds_len (rs : List (List Int)) (t col : Nat) : ∀ n, (rds rs t col n).length = rs.length
  | 0 => rfl
  | n + 1 => (rd_len _ _ _ _).trans (rds_len rs t col n)
theorem hsg_len (rs : List (List Int)) (t col : Nat) : (hsg rs t col).length = rs.length := by unfold hsg; split <;> simp
theorem jns_off {rs : List (List Int)} {t col j : Nat} (hj : j < t) : ∀ n, (jns rs t col n)[j]? = rs[j]?
  | 0 => rfl
  | n + 1 => by
    show (jn _ _ _ _)[j]? = _
    unfold jn
    split
    · exact jns_off hj n
    · rw [List.getElem?_set_ne (by omega), List.getElem?_set_ne (by omega)]; exact jns_off hj n
theorem all_set {α : Type} {P : α → Prop} {l : List α} {i : Nat} {x : α} (h : ∀ r ∈ l, P r) (hx : P x) : ∀ r ∈ l.set i x, P r := fun r hr => by
  rcases List.mem_or_eq_of_mem_set hr with h1 | rfl
  · exact h r h1
  · exact hx
theorem all_getD {P : List Int → Prop} {l : List (List Int)} {i : Nat} (h : ∀ r ∈ l, P r) (hi : i < l.length) : P (l.getD i []) := by
  rw [List.getD, List.getElem?_eq_getElem hi]; exact h _ (List.getElem_mem _)
theorem jn_row {rs : List (List Int)} {t i col W : Nat} (h : ∀ r ∈ rs, r.length = W) (ht : t < rs.length) : ∀ r ∈ jn rs t i col, r.length = W := by
  unfold jn
  split
  · exact h
  · have e := all_getD h ht
    exact all_set (all_set h (by rw [mx2_len, e])) (by rw [mx2_len, e])
theorem jns_row {rs : List (List Int)} {t col W : Nat} (h : ∀ r ∈ rs, r.length = W) (ht : t < rs.length) : ∀ n, ∀ r ∈ jns rs t col n, r.length = W
  | 0 => h
  | n + 1 => jn_row (jns_row h ht n) (by rw [jns_len]; exact ht)
theorem rds_row {rs : List (List Int)} {t col W : Nat} (h : ∀ r ∈ rs, r.length = W) (ht : t < rs.length) : ∀ n, n ≤ t → ∀ r ∈ rds rs t col n, r.length = W
  | 0, _ => h
  | n + 1, hn => by
    have ih := rds_row h ht (col := col) n (by omega)
    exact all_set ih (by rw [mx2_len]; exact all_getD ih (by rw [rds_len]; omega))
theorem hsg_row {rs : List (List Int)} {t col W : Nat} (h : ∀ r ∈ rs, r.length = W) (ht : t < rs.length) : ∀ r ∈ hsg rs t col, r.length = W := by
  unfold hsg
  split
  · exact all_set h (by rw [mx2_len]; exact all_getD h ht)
  · exact h
/-! ### how great the numbers get -/
/-! ### parts of rows, put together -/
def flatP (lo hi : Nat) (rs : List (List Int)) : List Int := rs.flatMap fun r => (r.take hi).drop lo
end Go.Hn
/- Rows that are turned into Hermite's form: their memory. -/
namespace Go.En
open Go.RowKit Go.Nt Go.Pz Go.Mz
set_option linter.unusedVariables false
section
variable {E : Env} {P : Program} {Γ : Ctx} {M M' : Mem}
theorem fin_retXD {fn : Func} {R : VP → Mem → Prop} {S : VP} {W : List Nat} {e : Exit} {a : Act} {w : World} {F : Blk} (hs : M'.Sublist M) (he : e = .ret ∨ e = .normal) (s : Sat E Γ M a w F) (hw : E.W = W) {v : Value} (hv : (results fn a.tmps).run P w = .ok v w) (hS : S.h w F v) (hR : R S M') :
    bodyPost P fn (RetX E.w0 E.F0 W R) e a w := fin_retX he (s.sub hs) hw hv hS hR
theorem rtX1D {fn : Func} {r : ResultVar} {R : VP → Mem → Prop} {S : VP} {W : List Nat} {e : Exit} (hs : M'.Sublist M) (he : e = .ret ∨ e = .normal) (hr : fn.results = #[r]) (hw : E.W = W) (h : ResL E P Γ M [r] [S]) (hR : R S M') : At E Γ M (bodyPost P fn (RetX E.w0 E.F0 W R)) e := by
  intro a w F s
  obtain ⟨vs, h1, h2⟩ := run_results hr h s
  match vs, h2 with
  | [v], h2 => exact fin_retXD hs he s hw (by simpa using h1) h2.1 hR
  | [], h2 => exact h2.elim
  | _ :: _ :: _, h2 => exact h2.2.elim
end
section
variable {E : Env} {P : Program} {Γ : Ctx} {M : Mem} {ty : TypeId} {pos : String} {after : Array Edge} {gd : Option (Nat × Bool)} {d : Option Tmp}
  {ops : Array Oper} {Q : Exit → Act → World → Prop} {rest : List Oper} {T T' : TypeId} {x y : Operand} {α : Type} {fk : α → List VP} {xs : List α} {k : Nat}
theorem DrB.cv {Γ' : Ctx} {l : List Oper} {bs : List Nat} (c : Cv E Γ M Γ' M) (h : DrB E P l Γ' M Q bs) : DrB E P l Γ M Q bs := fun a w F s => by
  obtain ⟨F', s'⟩ := c a w F s
  exact h a w F' s'
end
theorem isPl_eq {L L' : List Int} (h : L = L') : isP L = isP L' := h ▸ rfl
end Go.En
/- Ranks: lists of choices, as programs hold them. -/
namespace Go.En
open Go.RowKit Go.Dt Go.Pz Go.Nt Go.Mz
set_option linter.unusedVariables false
section
variable {P : Program} {α : Type} {f : α → VP}
/-- a slice that is handed back with its room, read alone from now on -/
theorem CtrX.freeze {g : FuncId} {args : List VP} {ys : List α} (h : CtrX P g args [] (fun S M => ∃ gr : Gr α, S = isGr gr ys.length ∧ M = [grM f gr ys])) : Ctr P g args (SlM f ys) :=
  ⟨h.1, fun w F vs hF hargs => (h.2 w F vs hF ⟨List.Pairwise.nil, by simp⟩ hargs).mono (by
    rintro e w' ⟨v, S', M', F', rfl, ⟨gr, rfl, rfl⟩, hk, hsub, hnew, hv, _, heach⟩
    refine ⟨v, rfl, hk, ?_⟩
    rcases hv with ⟨h1, h2, rfl⟩ | ⟨b, hob, rfl, h1, h2⟩
    · obtain rfl : ys = [] := List.eq_nil_of_length_eq_zero h2
      exact nilM _ _
    · obtain ⟨g1, g2, g3, o, g4, us, T, rfl, hu⟩ := heach b (cellM ((ys ++ gr.sp).map f)) (by unfold grM; rw [hob]; simp)
      have hb : fresh F w w' b := by
        rcases g1 with g1 | g1
        · exact .inr ⟨g1, g2⟩
        · exact absurd g1 (by simp [blks])
      rw [List.map_append] at hu
      have hu2 := hu.take ys.length
      rw [List.take_left' (by simp)] at hu2
      refine ⟨_, _, rfl, by omega, h2, by simp, .inr ⟨b, 0, rfl, hb, us.take ys.length, All2.mono (fun _ _ => rfl) hnew _ _ hu2, fun j u hj => ?_⟩⟩
      rw [Nat.zero_add]
      have hj2 : j < ys.length := by
        rcases Nat.lt_or_ge j ys.length with h | h
        · exact h
        · rw [List.getElem?_take_eq_none h] at hj; cases hj
      rw [List.getElem?_take_of_lt hj2] at hj
      simp [World.cell?, g4, hj])⟩
end
theorem rtXND {E : Env} {P : Program} {Γ : Ctx} {M M' : Mem} {fn : Func} {rs : List ResultVar} {Rs : List VP} {R : VP → Mem → Prop} {W : List Nat} {e : Exit} (hs : M'.Sublist M) (he : e = .ret ∨ e = .normal) (hr : fn.results = rs.toArray) (hn : Nat.beq rs.length 1 = false) (hw : E.W = W) (h : ResL E P Γ M rs Rs) (hR : R (isTup Rs) M') : At E Γ M (bodyPost P fn (RetX E.w0 E.F0 W R)) e := by
  intro a w F s
  obtain ⟨vs, h1, h2⟩ := run_results hr h s
  have hl : Rs.length = rs.length := by
    clear h1 h2 s a w F vs hR
    clear hn hr
    induction h with
    | nil => rfl
    | tmp _ _ ih => simp [ih]
    | cell _ _ _ _ _ _ ih => simp [ih]
    | cell1 _ _ _ _ _ ih => simp [ih]
  have hne : vs.length ≠ 1 := by rw [← h2.len, hl]; exact Nat.ne_of_beq_eq_false hn
  rw [dif_neg hne] at h1
  exact fin_retXD (S := isTup Rs) hs he s hw h1 ⟨vs, rfl, h2⟩ hR
end Go.En
