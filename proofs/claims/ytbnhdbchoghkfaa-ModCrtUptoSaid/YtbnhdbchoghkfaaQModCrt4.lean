/- Rules and contracts, part 4 of 5. -/
import Derived.Test.YtbnhdbchoghkfaaQModCrt3
/- Functions that take memory of their caller's and hand memory back; rows that have grown, read and written. -/
namespace Go.En
open Go.RowKit
set_option linter.unusedVariables false
section
variable {E : Env} {P : Program} {Γ : Ctx} {M : Mem} {ty : TypeId} {pos : String} {after : Array Edge} {gd : Option (Nat × Bool)} {d : Option Tmp}
  {ops : Array Oper} {Q : Exit → Act → World → Prop} {rest : List Oper} {T T' : TypeId} {x y : Operand} {α : Type} {f : α → VP} {fk : α → List VP} {xs : List α} {k : Nat}
/-- a place of a row that has grown -/
def isPtrG (g : Gr α) (o : Nat) : VP := .pure fun v => ∃ b, g.ob = some b ∧ v = .pointer (some ⟨b, o, none⟩)
instance {g : Gr α} {o : Nat} : One (isPtrG g o) := ⟨fun w F v h => by obtain ⟨b, _, rfl⟩ := h; rfl⟩
instance {g : Gr α} {o : Nat} : Shape (isPtrG g o) [isPtrG g o] := .of_one inferInstance
theorem Has.ptrG {g : Gr α} {o b : Nat} (hob : g.ob = some b) (h : Has E Γ M x (isPtrG g o)) : Has E Γ M x (isPtr b o) := fun a w F s => by
  obtain ⟨b', hb, e⟩ := h a w F s
  obtain rfl : b = b' := by rw [hob] at hb; exact Option.some.inj hb
  exact e
theorem Has.winG {g : Gr α} {n b : Nat} (hob : g.ob = some b) (h : Has E Γ M x (isGr g n)) : Has E Γ M x (isWin b 0 n g.c) := fun a w F s => by
  rcases h a w F s with ⟨h0, _⟩ | ⟨b', hb, e, h1, h2⟩
  · rw [hob] at h0; cases h0
  · obtain rfl : b = b' := by rw [hob] at hb; exact Option.some.inj hb
    exact ⟨e, by omega, h2⟩
theorem noneG {g : Gr α} {n : Nat} (hob : g.ob = none) (h : Has E Γ M x (isGr g n)) : ∀ a w F, Sat E Γ M a w F → n = 0 := fun a w F s => by
  rcases h a w F s with ⟨_, h0, _⟩ | ⟨b', hb, _⟩
  · exact h0
  · rw [hob] at hb; cases hb
theorem OK1.ixGr {e : TypeId} {n m : Nat} {g : Gr α} {g0 : Bool} {z : Int} (hT : slB P T = some e) (ht : tyB P e = some (m, g0)) (hx : Has E Γ M x (isGr g n)) (hy : Has E Γ M y (isI z)) (h : 0 ≤ z ∧ z < n) :
    OK1 E P Γ M ⟨d, .indexAddr T x y, ty, pos, after, gd⟩ (isPtrG g (z.toNat * m)) := by
  cases hob : g.ob with
  | none =>
    intro a w F s
    have := noneG hob hx a w F s
    omega
  | some b =>
    intro a w F s K Q' hK
    refine OK1.ixWin hT ht (hx.winG hob) hy h a w F s K Q' fun v w' F' ad hv => hK v w' F' ad ?_
    refine ⟨b, hob, ?_⟩
    rw [show z.toNat * m = 0 + z.toNat * m by omega]
    exact hv
theorem OK1.absurdG {o : Oper} {S : VP} {g : Gr α} {j : Nat} (hob : g.ob = none) (hx : Has E Γ M x (isPtrG g j)) : OK1 E P Γ M o S := fun a w F s => by
  obtain ⟨b, hb, _⟩ := hx a w F s
  rw [hob] at hb; cases hb
theorem Ops.absurdG {g : Gr α} {j : Nat} (hob : g.ob = none) (hx : Has E Γ M x (isPtrG g j)) {l : List Oper} : Ops E P ops Q l Γ M := fun a w F s => by
  obtain ⟨b, hb, _⟩ := hx a w F s
  rw [hob] at hb; cases hb
/-- an element of a row that has grown -/
theorem OK1.loadGK {i j : Nat} {g : Gr α} {ys : List α} {y' : α} (hk : ∀ y, (fk y).length = k) (hx : Has E Γ M x (isPtrG g (j * k))) (hM : M[i]? = some (grMK fk g ys)) (hT : tyB P T = some (k, true)) (hS : ys[j]? = some y') :
    OK1 E P Γ M ⟨d, .load T x, ty, pos, after, gd⟩ (Flat (fk y')) := by
  cases hob : g.ob with
  | none => exact OK1.absurdG hob hx
  | some b =>
    refine OK1.loadK (xs := ys ++ g.sp) (i := i) hk (hx.ptrG hob) (by rw [hM]; unfold grMK; rw [hob]) hT ?_
    have hj : j < ys.length := by
      rcases Nat.lt_or_ge j ys.length with h | h
      · exact h
      · rw [List.getElem?_eq_none h] at hS; cases hS
    rw [List.getElem?_append_left hj]; exact hS
theorem Ops.storeGK {i j : Nat} {g0 : Bool} {T : TypeId} {S : VP} {g : Gr α} {ys : List α} {z : α} [sh : Shape S (fk z)] [o1 : Ones (fk z)] (hk : ∀ y, (fk y).length = k) (hx : Has E Γ M x (isPtrG g (j * k))) (hy : Has E Γ M y S)
    (hM : M[i]? = some (grMK fk g ys)) (hT : tyB P T = some (k, g0)) (hl : j < ys.length) {M' : Mem} (hM' : M.set i (grMK fk g (ys.set j z)) = M') (kk : Ops E P ops Q rest Γ M') : Ops E P ops Q (⟨none, .store T x y, ty, pos, after, none⟩ :: rest) Γ M := by
  cases hob : g.ob with
  | none => exact Ops.absurdG hob hx
  | some b =>
    refine Ops.storeK (z := z) (xs := ys ++ g.sp) (i := i) (b := b) (j := j) hk (hx.ptrG hob) hy (by rw [hM]; unfold grMK; rw [hob]) hT (by rw [List.length_append]; omega) (M' := M') ?_ kk
    rw [← hM']
    congr 1
    unfold grMK
    rw [hob, List.set_append_left _ _ hl]
/-- memory in another order -/
theorem Cv.perm {M' : Mem} (h : M.Perm M') : Cv E Γ M Γ M' := fun a w F s =>
  ⟨F, { s with mem := ⟨(h.pairwise_iff (fun {x y} hxy => by
    rcases hxy with h1 | h1
    · by_cases h2 : y.1 = none
      · exact .inl h2
      · exact .inr (fun e => h2 (e.trans h1))
    · exact .inr (fun e => h1 e.symm))).1 s.mem.apart, fun b C hb => s.mem.each b C (h.mem_iff.2 hb)⟩ }⟩
/-! ### functions over memory of their caller's -/
structure MemIn (M : Mem) (w : World) (F : Blk) : Prop where
  apart : M.Pairwise (fun x y => x.1 = none ∨ x.1 ≠ y.1)
  each : ∀ (b : Nat) (C : MP), (some b, C) ∈ M → b < w.heap.size ∧ ¬ F b ∧ ∃ o, w.heap[b]? = some o ∧ C.h w F o
def blks (M : Mem) : List Nat := M.filterMap (·.1)
theorem mem_blks {M : Mem} {b : Nat} : b ∈ blks M ↔ ∃ C, (some b, C) ∈ M := by
  unfold blks
  rw [List.mem_filterMap]
  constructor
  · rintro ⟨⟨k, C⟩, h1, h2⟩
    obtain rfl : k = some b := h2
    exact ⟨C, h1⟩
  · rintro ⟨C, h⟩; exact ⟨_, h, rfl⟩
def RetX (w : World) (F : Blk) (W : List Nat) (R : VP → Mem → Prop) : Ending → World → Prop := fun e w' => ∃ v S M' F', e = .returned v ∧ R S M' ∧ Keep W w w' ∧ (∀ k, F k → F' k) ∧ (∀ k, F' k → fresh F w w' k) ∧ S.h w' F' v ∧
  M'.Pairwise (fun x y => x.1 = none ∨ x.1 ≠ y.1) ∧ ∀ (b : Nat) (C : MP), (some b, C) ∈ M' → (w.heap.size ≤ b ∨ b ∈ W) ∧ b < w'.heap.size ∧ ¬ F' b ∧ ∃ o, w'.heap[b]? = some o ∧ C.h w' F' o
/-- the arguments' predicates, the memory that is taken, and what may be handed back -/
def CtrX (P : Program) (f : FuncId) (args : List VP) (M : Mem) (R : VP → Mem → Prop) : Prop :=
  Enters P f ∧ ∀ (w : World) (F : Blk) (vs : List Value), (∀ k, F k → k < w.heap.size) → MemIn M w F → All2 args w F vs → Calls P f vs.toArray w (RetX w F (blks M) R)
theorem CtrX.intro {f : FuncId} {fn : Func} {c : Code} {args : List VP} {M : Mem} {R : VP → Mem → Prop} (hf : P.funcs[f]? = some fn) (hb : fn.body = some c) (hn : (fn.name == "runtime.NumGoroutine") = false) {nt : Nat} (hnt : fn.ntmps = nt)
    (hsz : Nat.ble args.length nt = true) (h : ∀ w F, Tri ⟨w, F, blks M, nt⟩ P c (argsCtx 0 args) M (bodyPost P fn (RetX w F (blks M) R))) : CtrX P f args M R := by
  subst hnt
  refine ⟨⟨fn, hf, by simp [hb], hn⟩, fun w F vs hF hm hargs => ?_⟩
  have hlen := hargs.len
  have hsz' : args.length ≤ fn.ntmps := by simpa using Nat.le_of_ble_eq_true hsz
  refine calls_of_wp hf hb (h w F _ w F ?_)
  refine { defers := rfl, size := ?_, keep := Keep.refl _ _, f0 := fun _ h => h, fnew := fun _ h => .inl h, flt := hF, slots := ?_, mem := ⟨hm.apart, fun k C hk => ?_⟩ }
  · simp; omega
  · intro t S ht
    obtain ⟨_, h2⟩ := look_args args 0 t S ht
    obtain ⟨v, hv, hS⟩ := hargs.get t S (by simpa using h2)
    have : (vs.toArray ++ Array.replicate (fn.ntmps - vs.toArray.size) undef).getD t undef = v := by
      have hlt : t < vs.length := by
        rcases Nat.lt_or_ge t vs.length with h | h
        · exact h
        · simp [List.getElem?_eq_none h] at hv
      have e : vs[t] = v := by rw [List.getElem?_eq_getElem hlt] at hv; exact Option.some.inj hv
      simp [Array.getElem?_append, hlt, e]
    rw [this]; exact hS
  · obtain ⟨h1, h2, h3⟩ := hm.each k C hk
    exact ⟨.inr (mem_blks.2 ⟨C, hk⟩), h1, h2, h3⟩
theorem Ops.callX {g : FuncId} {xs : List Operand} {ts : Array TypeId} {args : List VP} {Mp Mr : Mem} {R : VP → Mem → Prop} {d : Nat} (hf : CtrX P g args Mp R) (hp : M.Perm (Mp ++ Mr)) (hx : HasL E Γ M xs args) (hd : Nat.blt d E.n = true)
    (kk : ∀ S M', R S M' → Ops E P ops Q rest ((d, S) :: Γ) (M' ++ Mr)) : Ops E P ops Q (⟨some d, .call ⟨.value (.func g), xs.toArray, ts⟩, ty, pos, after, none⟩ :: rest) Γ M := by
  intro a w F s0
  refine wpList_plain rfl fun K hK => ?_
  unfold Oper.wp
  have hr : (execOp a.eval (⟨some d, .call ⟨.value (.func g), xs.toArray, ts⟩, ty, pos, after, none⟩ : Oper)).run P w = .ok (.enter g (xs.map a.eval).toArray) w := by
    have := run_enter hf.1 (xs.map a.eval).toArray w
    simpa [go_sem] using this
  rw [hr]
  have hargs := hx.all s0
  have s : Sat E Γ (Mp ++ Mr) a w F := by
    obtain ⟨F', h⟩ := (Cv.perm (E := E) (Γ := Γ) hp) a w F s0
    exact { s0 with mem := ⟨h.mem.apart, fun b C hb => s0.mem.each b C (hp.mem_iff.2 hb)⟩ }
  have hapart := List.pairwise_append.1 s.mem.apart
  have hmp : MemIn Mp w F := ⟨hapart.1, fun b C hb => by
    obtain ⟨_, h2, h3, h4⟩ := s.mem.each b C (List.mem_append_left _ hb)
    exact ⟨h2, h3, h4⟩⟩
  refine (hf.2 w F _ s.flt hmp hargs).mono ?_
  rintro e w' ⟨v, S, M', F', rfl, hR, hk, hsub, hnew, hv, hap, heach⟩
  have hd' : d < E.n := by simpa [Nat.blt_eq] using hd
  have hW : ∀ b, b ∈ blks Mp → ¬ F b := fun b hb hF => by
    obtain ⟨C, hC⟩ := mem_blks.1 hb
    exact (hmp.each b C hC).2.1 hF
  have hsame : ∀ b, F b → w'.heap[b]? = w.heap[b]? := fun b hb => hk.block b (s.flt b hb) (fun h => hW b h hb)
  have hown : ∀ b, b ∈ blks Mp → E.w0.heap.size ≤ b ∨ b ∈ E.W := fun b hb => by
    obtain ⟨C, hC⟩ := mem_blks.1 hb
    exact (s.mem.each b C (List.mem_append_left _ hC)).1
  have hrest : ∀ (b : Nat) (C : MP), (some b, C) ∈ Mr → b ∉ blks Mp ∧ b < w.heap.size := fun b C hb => by
    refine ⟨fun h => ?_, (s.mem.each b C (List.mem_append_right _ hb)).2.1⟩
    obtain ⟨C', hC'⟩ := mem_blks.1 h
    have := hapart.2.2 _ hC' _ hb
    rcases this with h | h
    · cases h
    · exact h rfl
  have s' : Sat E Γ (M' ++ Mr) a w' F' := {
    defers := s.defers, size := s.size
    keep := by
      refine ⟨hk.os.trans s.keep.os, hk.tape.trans s.keep.tape, hk.output.trans s.keep.output, Nat.le_trans s.keep.size hk.size, fun k hk0 hkW => ?_⟩
      rw [hk.block k (Nat.lt_of_lt_of_le hk0 s.keep.size) (fun h => by rcases hown k h with h' | h'; omega; exact hkW h')]
      exact s.keep.block k hk0 hkW
    f0 := fun b h => hsub b (s.f0 b h)
    fnew := fun b h => by
      rcases hnew b h with h1 | h1
      · rcases s.fnew b h1 with h2 | h2
        · exact .inl h2
        · exact .inr ⟨h2.1, Nat.lt_of_lt_of_le h2.2 hk.size⟩
      · exact .inr ⟨Nat.le_trans s.keep.size h1.1, h1.2⟩
    flt := fun b h => by
      rcases hnew b h with h1 | h1
      · exact Nat.lt_of_lt_of_le (s.flt b h1) hk.size
      · exact h1.2
    slots := fun t S h => S.mono _ _ _ _ _ (s.slots t S h) hsame hsub
    mem := by
      refine ⟨List.pairwise_append.2 ⟨hap, hapart.2.1, ?_⟩, ?_⟩
      · rintro ⟨k, C⟩ h1 ⟨k', C'⟩ h2
        cases k with
        | none => exact .inl rfl
        | some b =>
          refine .inr fun e => ?_
          subst e
          obtain ⟨g1, _⟩ := heach b C h1
          obtain ⟨g2, g3⟩ := hrest b C' h2
          rcases g1 with g1 | g1
          · omega
          · exact g2 g1
      · intro b C hb
        rcases List.mem_append.1 hb with h | h
        · obtain ⟨g1, g2, g3, g4⟩ := heach b C h
          refine ⟨?_, g2, g3, g4⟩
          rcases g1 with g1 | g1
          · exact .inl (Nat.le_trans s.keep.size g1)
          · exact hown b g1
        · obtain ⟨g1, g2, g3, o, g4, g5⟩ := s.mem.each b C (List.mem_append_right _ h)
          obtain ⟨r1, r2⟩ := hrest b C h
          refine ⟨g1, Nat.lt_of_lt_of_le g2 hk.size, fun hF => ?_, o, (hk.block b g2 r1).trans g4, C.mono _ _ _ _ _ g5 hsame hsub⟩
          rcases hnew b hF with h1 | h1
          · exact g3 h1
          · omega }
  exact hK _ _ (kk S M' hR _ _ _ (s'.put hd' hv))
theorem fin_retX {fn : Func} {R : VP → Mem → Prop} {S : VP} {W : List Nat} {e : Exit} {a : Act} {w : World} {F : Blk} (he : e = .ret ∨ e = .normal) (s : Sat E Γ M a w F) (hw : E.W = W) {v : Value} (hv : (results fn a.tmps).run P w = .ok v w) (hS : S.h w F v) (hR : R S M) :
    bodyPost P fn (RetX E.w0 E.F0 W R) e a w := by
  have hk := s.keep
  rw [hw] at hk
  have hb : a.defers = [] ∧ ∃ v, (results fn a.tmps).run P w = .ok v w ∧ RetX E.w0 E.F0 W R (.returned v) w :=
    ⟨s.defers, _, hv, v, S, M, F, rfl, hR, hk, s.f0, fun k h => (s.fnew k h).imp id id, hS, s.mem.apart, fun b C hb => by
      obtain ⟨g1, g2, g3, g4⟩ := s.mem.each b C hb
      rw [hw] at g1
      exact ⟨g1, g2, g3, g4⟩⟩
  rcases he with rfl | rfl <;> exact hb
theorem rtX0 {fn : Func} {R : VP → Mem → Prop} {W : List Nat} {e : Exit} (he : e = .ret ∨ e = .normal) (hr : fn.results = #[]) (hw : E.W = W) (hR : R (isTup []) M) : At E Γ M (bodyPost P fn (RetX E.w0 E.F0 W R)) e := by
  intro a w F s
  obtain ⟨vs, h1, h2⟩ := run_results (rs := []) hr .nil s
  cases vs with
  | nil => exact fin_retX he s hw (by simpa using h1) (S := isTup []) ⟨[], rfl, trivial⟩ hR
  | cons => exact h2.elim
/-- what is handed back is known -/
theorem CtrX.toCtr {f : FuncId} {args : List VP} {R : VP → Mem → Prop} {S : VP} (h : CtrX P f args [] R) (hR : ∀ S' M', R S' M' → S' = S) : Ctr P f args S :=
  ⟨h.1, fun w F vs hF hargs => (h.2 w F vs hF ⟨List.Pairwise.nil, by simp⟩ hargs).mono (by
    rintro e w' ⟨v, S', M', F', rfl, hr, hk, hsub, hnew, hv, _⟩
    obtain rfl := hR S' M' hr
    exact ⟨v, rfl, hk, S'.mono _ _ _ _ _ hv (fun _ _ => rfl) hnew⟩)⟩
end
end Go.En
/- What a call may read of memory that is still its caller's to write: lent for the call alone. -/
namespace Go.En
open Go.RowKit
set_option linter.unusedVariables false
section
variable {E : Env} {P : Program} {Γ : Ctx} {M : Mem} {ty : TypeId} {pos : String} {after : Array Edge} {gd : Option (Nat × Bool)} {d : Option Tmp}
  {ops : Array Oper} {Q : Exit → Act → World → Prop} {rest : List Oper} {T T' : TypeId} {x y : Operand} {α : Type} {f : α → VP} {xs : List α}
theorem OKY.eq {o : Oper} {S S' : VP} (h : OKY E P Γ M o S) (e : S = S') : OKY E P Γ M o S' := e ▸ h
theorem OKY.addI {d : Option Tmp} {i j : Int} (hx : Has E Γ M x (isI i)) (hy : Has E Γ M y (isI j)) (h1 : -9223372036854775808 ≤ i + j) (h2 : i + j < 9223372036854775808) : OKY E P Γ M ⟨d, .binOp .add T x y T', ty, pos, after, none⟩ (isI (i + j)) := fun a w F s => by
  refine ⟨.int .i64 (i + j), fun w' => ?_, isI_of h1 h2 w F⟩
  have g1 := evI hx a w F s
  have g2 := evI hy a w F s
  have g3 := run_add (P := P) (T := T) .i64 i j w'
  simp only [execOp, g1, g2]
  simp [go_sem, g3]
  exact wrap_i64 h1 h2
/-- what may be read, with what is lent -/
def lent (M : Mem) (F : Blk) : Blk := fun k => F k ∨ k ∈ blks M
def HasB (E : Env) (Γ : Ctx) (M : Mem) (x : Operand) (S : VP) : Prop := ∀ a w F, Sat E Γ M a w F → S.h w (lent M F) (a.eval x)
theorem HasB.of {S : VP} (h : Has E Γ M x S) : HasB E Γ M x S := fun a w F s => S.mono _ _ _ _ _ (h a w F s) (fun _ _ => rfl) fun _ h => .inl h
inductive HasBL (E : Env) (Γ : Ctx) (M : Mem) : List Operand → List VP → Prop
  | nil : HasBL E Γ M [] []
  | cons {x : Operand} {S : VP} {xs : List Operand} {Ss : List VP} : HasB E Γ M x S → HasBL E Γ M xs Ss → HasBL E Γ M (x :: xs) (S :: Ss)
theorem HasBL.all {xs : List Operand} {Ss : List VP} (h : HasBL E Γ M xs Ss) {a : Act} {w : World} {F : Blk} (s : Sat E Γ M a w F) : All2 Ss w (lent M F) (xs.map a.eval) := by
  induction h with
  | nil => trivial
  | cons h1 _ ih => exact ⟨h1 a w F s, ih⟩
end
end Go.En
/- Determinants by their first rows. No program here. -/
namespace Go.Dt
abbrev MatF : Type := Nat → Nat → Int
/-- the sum of the first n numbers -/
def sm : Nat → (Nat → Int) → Int
  | 0, _ => 0
  | n + 1, f => sm n f + f n
/-- 1 and -1, turn by turn -/
def sg (k : Nat) : Int := if k % 2 = 1 then -1 else 1
/-- all numbers but k, in a row -/
def skip (k j : Nat) : Nat := if j < k then j else j + 1
/-- the determinant by its first row -/
def det : Nat → MatF → Int
  | 0, _ => 1
  | n + 1, A => sm (n + 1) fun k => sg k * (A 0 k * det n fun i j => A (i + 1) (skip k j))
def setr (A : MatF) (r : Nat) (v : Nat → Int) : MatF := fun i j => if i = r then v j else A i j
def one : MatF := fun i j => if i = j then 1 else 0
/-- what is linear in each row, and 0 where two rows that stand beside each other are the same -/
structure RowF (n : Nat) (F : MatF → Int) : Prop where
  congr : ∀ {A B : MatF}, (∀ i j, i < n → j < n → A i j = B i j) → F A = F B
  lin : ∀ (A : MatF) (r : Nat) (x y : Int) (u v : Nat → Int), r < n → F (setr A r fun j => x * u j + y * v j) = x * F (setr A r u) + y * F (setr A r v)
  alt : ∀ (A : MatF) (r : Nat), r + 1 < n → (∀ j, j < n → A r j = A (r + 1) j) → F A = 0
namespace RowF
variable {n : Nat} {F : MatF → Int}
theorem set_self (A : MatF) (r : Nat) : setr A r (A r) = A := by
  funext i j; unfold setr; split
  · rename_i e; rw [e]
  · rfl
theorem set_set (A : MatF) (r : Nat) (u v : Nat → Int) : setr (setr A r u) r v = setr A r v := by
  funext i j; unfold setr; split <;> rfl
theorem set_comm (A : MatF) {r s : Nat} (h : r ≠ s) (u v : Nat → Int) : setr (setr A r u) s v = setr (setr A s v) r u := by
  funext i j; unfold setr
  by_cases e1 : i = s
  · rw [if_pos e1, if_neg (by omega), if_pos e1]
  · rw [if_neg e1, if_neg e1]
theorem set_at (A : MatF) (r : Nat) (u : Nat → Int) : setr A r u r = u := by funext j; exact if_pos rfl
theorem set_ne (A : MatF) {r s : Nat} (h : s ≠ r) (u : Nat → Int) : setr A r u s = A s := by funext j; exact if_neg h
theorem zero (h : RowF n F) {A : MatF} {r : Nat} (hr : r < n) (hz : ∀ j, j < n → A r j = 0) : F A = 0 := by
  have e : F A = F (setr A r fun j => 0 * A r j + 0 * A r j) := h.congr fun i j _ hj => by
    unfold setr; split
    · rename_i e; show _ = 0 * A r j + 0 * A r j; rw [e, hz j hj]; rfl
    · rfl
  rw [e, h.lin A r 0 0 _ _ hr]; omega
theorem add (h : RowF n F) (A : MatF) {r : Nat} (hr : r < n) (u v : Nat → Int) : F (setr A r fun j => u j + v j) = F (setr A r u) + F (setr A r v) := by
  have e := h.lin A r 1 1 u v hr
  rw [Int.one_mul, Int.one_mul] at e
  rw [← e]
  congr 2; funext j; omega
theorem two (h : RowF n F) (A : MatF) {r s : Nat} (hr : r < n) (hs : s < n) (hne : r ≠ s) (heq : ∀ u : Nat → Int, F (setr (setr A r u) s u) = 0) (u v : Nat → Int) : F (setr (setr A r u) s v) = - F (setr (setr A r v) s u) := by
  have e := heq fun j => u j + v j
  rw [h.add _ hs, set_comm _ hne, set_comm _ hne, h.add _ hr, h.add _ hr, ← set_comm _ hne, ← set_comm _ hne, ← set_comm _ hne, ← set_comm _ hne, heq u, heq v] at e
  omega
theorem swap1 (h : RowF n F) (A : MatF) {r : Nat} (hr : r + 1 < n) (u v : Nat → Int) : F (setr (setr A r u) (r + 1) v) = - F (setr (setr A r v) (r + 1) u) :=
  h.two A (by omega) hr (by omega) (fun u => h.alt _ r hr fun j _ => by rw [set_at, set_ne _ (by omega), set_at]) u v
theorem same (h : RowF n F) : ∀ (d : Nat) (A : MatF) (r : Nat), r + 1 + d < n → (∀ j, j < n → A r j = A (r + 1 + d) j) → F A = 0
  | 0, A, r, hr, hA => h.alt A r hr hA
  | d + 1, A, r, hr, hA => by
    have e : A = setr (setr A (r + 1 + d) (A (r + 1 + d))) (r + 1 + d + 1) (A (r + 1 + d + 1)) := by rw [set_self, set_self]
    rw [e, h.swap1 A (by omega), same h d _ r (by omega) fun j hj => ?_]
    · rfl
    · rw [set_ne _ (by omega), set_ne _ (by omega), set_ne _ (by omega), set_at, hA j hj]; rfl
theorem eqr (h : RowF n F) {A : MatF} {r s : Nat} (hr : r < n) (hs : s < n) (hne : r ≠ s) (hA : ∀ j, j < n → A r j = A s j) : F A = 0 := by
  rcases Nat.lt_or_gt_of_ne hne with hl | hl
  · obtain ⟨d, rfl⟩ : ∃ d, s = r + 1 + d := ⟨s - r - 1, by omega⟩
    exact h.same d A r hs hA
  · obtain ⟨d, rfl⟩ : ∃ d, r = s + 1 + d := ⟨r - s - 1, by omega⟩
    exact h.same d A s hr fun j hj => (hA j hj).symm
/-- two rows change places -/
theorem swap (h : RowF n F) (A : MatF) {r s : Nat} (hr : r < n) (hs : s < n) (hne : r ≠ s) (u v : Nat → Int) : F (setr (setr A r u) s v) = - F (setr (setr A r v) s u) :=
  h.two A hr hs hne (fun u => h.eqr hr hs hne fun j _ => by rw [set_at, set_ne _ hne, set_at]) u v
end RowF
open RowF
end Go.Dt
/- Minors, and the identity that elimination without fractions rests on. No program here. -/
namespace Go.Dt
open RowF
/-- the rows and columns that are named -/
def sub (A : MatF) (rs cs : List Nat) : MatF := fun i j => A (rs.getD i 0) (cs.getD j 0)
/-- a bordered minor is the row, and multiples of the others -/
def ec (A : MatF) (rs cs : List Nat) (i r : Nat) : Int := sg (r + 1) * det rs.length (fun p q => A ((i :: rs).getD (skip (r + 1) q) 0) (cs.getD p 0))
end Go.Dt
/- Polynomials over the whole numbers: lists, their numbers, normal lists, products. No program here. -/
namespace Go.Pz
/-- the number of a power -/
def cf (l : List Int) (i : Nat) : Int := l.getD i 0
/-- without noughts behind -/
def pnorm : List Int → List Int
  | [] => []
  | a :: l => if pnorm l = [] ∧ a = 0 then [] else a :: pnorm l
/-- products, by their numbers -/
def mul (f g : Nat → Int) : Nat → Int
  | 0 => f 0 * g 0
  | n + 1 => f 0 * g (n + 1) + mul (fun i => f (i + 1)) g n
theorem mul_congr {f f' g g' : Nat → Int} (h : ∀ i, f i = f' i) (k : ∀ i, g i = g' i) : ∀ n, mul f g n = mul f' g' n := by
  obtain rfl : f = f' := funext h
  obtain rfl : g = g' := funext k
  intro n; rfl
theorem mul_back : ∀ (n : Nat) (f g : Nat → Int), mul f g (n + 1) = mul f (fun i => g (i + 1)) n + f (n + 1) * g 0
  | 0, f, g => rfl
  | n + 1, f, g => by
    have h := mul_back n (fun i => f (i + 1)) g
    show f 0 * g (n + 2) + mul (fun i => f (i + 1)) g (n + 1) = (f 0 * g (n + 2) + mul (fun i => f (i + 1)) (fun i => g (i + 1)) n) + f (n + 2) * g 0
    rw [h]
    show _ = _ + f (n + 1 + 1) * g 0
    exact (Int.add_assoc _ _ _).symm
theorem mul_comm : ∀ (n : Nat) (f g : Nat → Int), mul f g n = mul g f n
  | 0, f, g => Int.mul_comm _ _
  | n + 1, f, g => by
    rw [mul_back, mul_comm n f, Int.mul_comm (f (n + 1))]
    show _ = g 0 * f (n + 1) + mul (fun i => g (i + 1)) f n
    omega
theorem add_mul (f f' g : Nat → Int)  (n : Nat) : mul (fun i => f i + f' i) g n = mul f g n + mul f' g n := by
    induction n generalizing f f' with
    | zero => exact Int.add_mul _ _ _
    | succ n ih =>
      have h := ih (fun i => f (i + 1)) (fun i => f' (i + 1))
      have e := Int.add_mul (f 0) (f' 0) (g (n + 1))
      show (f 0 + f' 0) * g (n + 1) + mul (fun i => f (i + 1) + f' (i + 1)) g n = _
      rw [h, e]
      show _ = (f 0 * g (n + 1) + mul (fun i => f (i + 1)) g n) + (f' 0 * g (n + 1) + mul (fun i => f' (i + 1)) g n)
      omega
theorem smul_mul (c : Int) (f g : Nat → Int)  (n : Nat) : mul (fun i => c * f i) g n = c * mul f g n := by
    induction n generalizing f with
    | zero => exact Int.mul_assoc _ _ _
    | succ n ih =>
      have h := ih (fun i => f (i + 1))
      show c * f 0 * g (n + 1) + mul (fun i => c * f (i + 1)) g n = c * (f 0 * g (n + 1) + mul (fun i => f (i + 1)) g n)
      rw [h, Int.mul_add, Int.mul_assoc]
theorem mul_add (f g g' : Nat → Int) (n : Nat) : mul f (fun i => g i + g' i) n = mul f g n + mul f g' n := by
  rw [mul_comm, add_mul, mul_comm n g, mul_comm n g']
theorem mul_assoc (f g h : Nat → Int)  (n : Nat) : mul (mul f g) h n = mul f (mul g h) n := by
    induction n generalizing f g with
    | zero => exact Int.mul_assoc _ _ _
    | succ n ih =>
      show f 0 * g 0 * h (n + 1) + mul (fun i => f 0 * g (i + 1) + mul (fun i => f (i + 1)) g i) h n = f 0 * (g 0 * h (n + 1) + mul (fun i => g (i + 1)) h n) + mul (fun i => f (i + 1)) (mul g h) n
      rw [add_mul, smul_mul, ih, Int.mul_add, Int.mul_assoc]
      omega
theorem zero_mul (g : Nat → Int) (n : Nat) : mul (fun _ => 0) g n = 0 := by
  have h := smul_mul 0 (fun _ => 0) g n
  exact h.trans (Int.zero_mul _)
theorem mul_high : ∀ {n A B : Nat} {f g : Nat → Int}, (∀ i, A ≤ i → f i = 0) → (∀ i, B ≤ i → g i = 0) → A + B ≤ n + 1 → mul f g n = 0
  | n, 0, B, f, g, hf, hg, h => by rw [mul_congr (f' := fun _ => 0) (fun i => hf i (Nat.zero_le _)) (fun _ => rfl), zero_mul]
  | 0, A + 1, B, f, g, hf, hg, h => by
    show f 0 * g 0 = 0
    rw [hg 0 (by omega), Int.mul_zero]
  | n + 1, A + 1, B, f, g, hf, hg, h => by
    show f 0 * g (n + 1) + mul (fun i => f (i + 1)) g n = 0
    rw [mul_high (A := A) (B := B) (fun i hi => hf (i + 1) (by omega)) hg (by omega), hg (n + 1) (by omega), Int.mul_zero]
    rfl
/-- the greatest number of a product -/
theorem mul_top : ∀ {A B : Nat} {f g : Nat → Int}, (∀ i, A < i → f i = 0) → (∀ i, B < i → g i = 0) → mul f g (A + B) = f A * g B
  | 0, 0, f, g, _, _ => rfl
  | 0, B + 1, f, g, hf, hg => by
    rw [Nat.zero_add]
    show f 0 * g (B + 1) + mul (fun i => f (i + 1)) g B = _
    rw [mul_congr (f' := fun _ => 0) (fun i => hf (i + 1) (by omega)) (fun _ => rfl), zero_mul]; omega
  | A + 1, B, f, g, hf, hg => by
    rw [show A + 1 + B = (A + B) + 1 by omega]
    show f 0 * g (A + B + 1) + mul (fun i => f (i + 1)) g (A + B) = _
    rw [mul_top (fun i hi => hf (i + 1) (by omega)) hg, hg (A + B + 1) (by omega)]
    omega
end Go.Pz
/- Polynomials in the program: slices of whole numbers. -/
namespace Go.En
open Go.RowKit Go.Nt Go.Pz
set_option linter.unusedVariables false
abbrev nz (z : Int) : Bool × List Nat := (decide (z < 0), words z.natAbs)
theorem nz_zero : nz 0 = (false, []) := by
  show (decide ((0 : Int) < 0), words (Int.natAbs 0)) = (false, [])
  rw [Int.natAbs_zero, words_zero]; rfl
/-- a row that is filled from its beginning on -/
def fill {β : Type} (l : List β) (i : Nat) (z : β) : List β := l.take i ++ List.replicate (l.length - i) z
section
variable {E : Env} {P : Program} {Γ : Ctx} {M : Mem} {x : Operand}
theorem Has.okP {xs : List (Bool × List Nat)} (h : Has E Γ M x (SlK 2 zc xs)) : ∀ a w F, Sat E Γ M a w F → ∀ p ∈ xs, (∀ y ∈ p.2, y < 18446744073709551616) ∧ p.2.length ≤ 9223372036854775807 := by
  intro a w F s p hp
  obtain ⟨ad, cap, e, g1, g2, g3, g4⟩ := h a w F s
  obtain ⟨i, hi, rfl⟩ := List.mem_iff_getElem.1 hp
  rcases g4 with g4 | ⟨b, off, _, _, vs, hv, _⟩
  · omega
  · have hd := (hv.drop (i * 2)).take 2
    rw [flat_drop xs i xs[i] (fun y _ => zc_len y) (List.getElem?_eq_getElem hi)] at hd
    obtain ⟨v, _, ad, cap, e, g1, g2, g3, g4⟩ := hd.get 1 (isWords xs[i].2) rfl
    refine ⟨fun y hy => ?_, by rw [maxLen_eq] at g2; omega⟩
    obtain ⟨j, hj, rfl⟩ := List.mem_iff_getElem.1 hy
    rcases g4 with g4 | ⟨b, off, _, _, us, hu, _⟩
    · omega
    · obtain ⟨u, _, h2⟩ := hu.get j (isU xs[i].2[j]) (by simp [hj])
      exact h2.2
end
end Go.En
/- Polynomials over the whole numbers: what the program makes of them, list by list. No program here. -/
namespace Go.Pz
def both (op : Int → Int → Int) (a b : List Int) : List Int := pnorm ((List.range (max a.length b.length)).map fun i => op (cf a i) (cf b i))
def pshift (a : List Int) (n : Nat) : List Int := List.replicate n 0 ++ a
/-- the numbers of a product: as they stand when so many rows are put in -/
def rows (f g : Nat → Int) : Nat → Nat → Int
  | 0, _ => 0
  | i + 1, n => rows f g i n + if i ≤ n then f i * g (n - i) else 0
end Go.Pz
/- Polynomials over the whole numbers: quotients of multiples. No program here. -/
namespace Go.Pz
theorem mul_zero (f : Nat → Int) (n : Nat) : mul f (fun _ => 0) n = 0 := by rw [mul_comm, zero_mul]
end Go.Pz
/- Polynomials over the whole numbers: how many words their numbers have; values; sameness. No program here. -/
namespace Go.Pz
open Go.Nt Go.En
end Go.Pz
namespace Go.En
open Go.Nt Go.Pz
/-- two numbers that are not too long -/
def PR (K : Nat) : Type := { p : (Bool × List Nat) × (Bool × List Nat) // (List.length (words (val p.1.2))) ≤ K ∧ (List.length (words (val p.2.2))) ≤ K }
end Go.En
/- Plain numbers: binomials, Fermat's little theorem, primes by trial division; the fields' functions. No program here. -/
namespace Go.Gf
/-- binomials -/
def ch : Nat → Nat → Nat
  | _, 0 => 1
  | 0, _ + 1 => 0
  | n + 1, k + 1 => ch n k + ch n (k + 1)
/-- the first m terms of (a+1)^n -/
def S (a n : Nat) : Nat → Nat
  | 0 => 0
  | m + 1 => S a n m + ch n m * a ^ m
def inv (p a : Nat) : Nat := if a % p = 0 then 0 else a ^ (p - 2) % p
end Go.Gf
namespace Go.Gf
end Go.Gf
namespace Go.Gf
theorem half (y : Nat) {k : Nat} (hk : 0 < k) : y / 2 ^ (k - 1) = 2 * (y / 2 ^ k) + y / 2 ^ (k - 1) % 2 := by
  have : y / 2 ^ k = y / 2 ^ (k - 1) / 2 := by
    rw [Nat.div_div_eq_div_mul, ← Nat.pow_succ]; congr 2; omega
  omega
theorem mul_step0 {x y p k o : Nat} (hk : 0 < k) (h : o = x * (y / 2 ^ k) % p) (hb : ¬ y / 2 ^ (k - 1) % 2 = 1) : 2 * o % p = x * (y / 2 ^ (k - 1)) % p := by
  have e := half y hk
  rw [h, Nat.mul_mod_mod]
  congr 1
  rw [e, show y / 2 ^ (k - 1) % 2 = 0 by omega]; grind
theorem mul_end {a b p k o : Nat} (h : o = a % p * (b % p / 2 ^ k) % p) (hk : k = 0) : o = a * b % p := by
  subst hk; simp at h; rw [h]
end Go.Gf
namespace Go.Gf
end Go.Gf
namespace Go.Gf
end Go.Gf
/- Polynomials over the whole numbers: what the loops keep. No program here, but the numbers' cells. -/
namespace Go.Pz
open Go.Nt Go.En
theorem shift_len (a : List Int) (n : Nat) : (pshift a n).length = n + a.length := by unfold pshift; rw [List.length_append, List.length_replicate]
end Go.Pz
namespace Go.En
open Go.Nt Go.Pz
end Go.En
/- A matrix that is reckoned on, row by row. -/
namespace Go.En
open Go.Nt Go.Pz
/-- a row: where it lies, and its numbers -/
abbrev Row : Type := Gr (Bool × List Nat) × List Int
theorem swap_perm {β : Type} {l : List β} {i j : Nat} {a b : β} (hi : l[i]? = some a) (hj : l[j]? = some b) (hne : i ≠ j) : ((l.set i b).set j a).Perm l := by
  have hil : i < l.length := by
    rcases Nat.lt_or_ge i l.length with h | h
    · exact h
    · rw [List.getElem?_eq_none h] at hi; cases hi
  have hjl : j < l.length := by
    rcases Nat.lt_or_ge j l.length with h | h
    · exact h
    · rw [List.getElem?_eq_none h] at hj; cases hj
  have p1 : ∀ (m : List β) (k : Nat) (x : β), m[k]? = some x → m.Perm (x :: m.eraseIdx k) := by
    intro m
    induction m with
    | nil => intro k x h; simp at h
    | cons y m ih =>
      intro k x h
      cases k with
      | zero =>
        obtain rfl : y = x := by simpa using h
        exact List.Perm.refl _
      | succ k => exact ((ih k x (by simpa using h)).cons y).trans (List.Perm.swap x y _)
  have q1 := p1 l i a hi
  have q2 := p1 (l.set i b) i b (List.getElem?_set_self hil)
  rw [List.eraseIdx_set_eq] at q2
  have q3 := p1 (l.set i b) j b (by rw [List.getElem?_set_ne hne]; exact hj)
  have q4 := p1 ((l.set i b).set j a) j a (List.getElem?_set_self (by rw [List.length_set]; exact hjl))
  rw [List.eraseIdx_set_eq] at q4
  have q5 : ((l.set i b).eraseIdx j).Perm (l.eraseIdx i) := (q3.symm.trans q2).cons_inv
  exact q4.trans ((q5.cons a).trans q1.symm)
/-- what an exact division yields -/
def exQ (x l : Int) : Int := if l ≠ 0 ∧ x.tmod l = 0 then x.tdiv l else 0
/-- a row out of which the pivot's row is taken -/
def clr (p row : List Int) (col : Nat) (last : Int) (k : Nat) : Int := exQ (cf row k * cf p col - cf row col * cf p k) last
def clrL (p row : List Int) (col : Nat) (last : Int) : List Int := (List.range row.length).map (clr p row col last)
def mixR (p row : List Int) (col : Nat) (last : Int) (k : Nat) : List Int := (clrL p row col last).take k ++ row.drop k
theorem mixR_zero (p row : List Int) (col : Nat) (last : Int) : mixR p row col last 0 = row := by unfold mixR; rw [List.take_zero, List.drop_zero]; rfl
theorem set_same {β : Type} {l : List β} {i : Nat} {x : β} (h : l[i]? = some x) : l.set i x = l := by
  have hi : i < l.length := by
    rcases Nat.lt_or_ge i l.length with h' | h'
    · exact h'
    · rw [List.getElem?_eq_none h'] at h; cases h
  have e : l[i] = x := by rw [List.getElem?_eq_getElem hi] at h; exact Option.some.inj h
  subst e
  exact List.set_getElem_self hi
theorem mix_start {rs : List Row} {i col : Nat} {r : Row} {p : List Int} {last : Int} (h : rs[i]? = some r) : rs = rs.set i (r.1, mixR p r.2 col last 0) := by rw [mixR_zero]; exact (set_same h).symm
end Go.En
/- Elimination without fractions: what stands in the rows are minors. No program here. -/
namespace Go.Dt
open RowF Go.Pz
theorem getD_some {β : Type} {l : List β} {i : Nat} {x d : β} (h : l[i]? = some x) : l.getD i d = x := by rw [List.getD, h]; rfl
end Go.Dt
/- Rows that are turned into Hermite's form: their memory. -/
namespace Go.En
open Go.RowKit Go.Nt Go.Pz
set_option linter.unusedVariables false
section
variable {E : Env} {P : Program} {Γ : Ctx} {M M' : Mem}
theorem fin_retXD {fn : Func} {R : VP → Mem → Prop} {S : VP} {W : List Nat} {e : Exit} {a : Act} {w : World} {F : Blk} (hs : M'.Sublist M) (he : e = .ret ∨ e = .normal) (s : Sat E Γ M a w F) (hw : E.W = W) {v : Value} (hv : (results fn a.tmps).run P w = .ok v w) (hS : S.h w F v) (hR : R S M') :
    bodyPost P fn (RetX E.w0 E.F0 W R) e a w := fin_retX he (s.sub hs) hw hv hS hR
theorem rtX1D {fn : Func} {r : ResultVar} {R : VP → Mem → Prop} {S : VP} {W : List Nat} {e : Exit} (hs : M'.Sublist M) (he : e = .ret ∨ e = .normal) (hr : fn.results = #[r]) (hw : E.W = W) (h : ResL E P Γ M [r] [S]) (hR : R S M') : At E Γ M (bodyPost P fn (RetX E.w0 E.F0 W R)) e := by
  intro a w F s
  obtain ⟨vs, h1, h2⟩ := run_results hr h s
  match vs, h2 with
  | [v], h2 => exact fin_retXD hs he s hw (by simpa using h1) h2.1 hR
  | [], h2 => exact h2.elim
  | _ :: _ :: _, h2 => exact h2.2.elim
theorem rtX0D {fn : Func} {R : VP → Mem → Prop} {W : List Nat} {e : Exit} (hs : M'.Sublist M) (he : e = .ret ∨ e = .normal) (hr : fn.results = #[]) (hw : E.W = W) (hR : R (isTup []) M') : At E Γ M (bodyPost P fn (RetX E.w0 E.F0 W R)) e := by
  intro a w F s
  obtain ⟨vs, h1, h2⟩ := run_results (rs := []) hr .nil s
  cases vs with
  | nil => exact fin_retXD hs he s hw (by simpa using h1) (S := isTup []) ⟨[], rfl, trivial⟩ hR
  | cons => exact h2.elim
end
section
variable {E : Env} {P : Program} {Γ : Ctx} {M : Mem} {ty : TypeId} {pos : String} {after : Array Edge} {gd : Option (Nat × Bool)} {d : Option Tmp}
  {ops : Array Oper} {Q : Exit → Act → World → Prop} {rest : List Oper} {T T' : TypeId} {x y : Operand} {α : Type} {fk : α → List VP} {xs : List α} {k : Nat}
theorem DrB.cv {Γ' : Ctx} {l : List Oper} {bs : List Nat} (c : Cv E Γ M Γ' M) (h : DrB E P l Γ' M Q bs) : DrB E P l Γ M Q bs := fun a w F s => by
  obtain ⟨F', s'⟩ := c a w F s
  exact h a w F' s'
end
/-- the work's memory: its own block, and the table of rows -/
abbrev hw0 (bw : Nat) (gt : Gr (List Int)) (n C top : Nat) : Option Nat × MP := (some bw, cellM [isGr gt n, isI (C : Int), isI (top : Int)])
end Go.En
/- Ranks: lists of choices, as programs hold them. -/
namespace Go.En
open Go.RowKit Go.Dt Go.Pz Go.Nt
set_option linter.unusedVariables false
section
variable {P : Program} {α : Type} {f : α → VP}
/-- a slice that is handed back with its room, read alone from now on -/
theorem CtrX.freeze {g : FuncId} {args : List VP} {ys : List α} (h : CtrX P g args [] (fun S M => ∃ gr : Gr α, S = isGr gr ys.length ∧ M = [grM f gr ys])) : Ctr P g args (SlM f ys) :=
  ⟨h.1, fun w F vs hF hargs => (h.2 w F vs hF ⟨List.Pairwise.nil, by simp⟩ hargs).mono (by
    rintro e w' ⟨v, S', M', F', rfl, ⟨gr, rfl, rfl⟩, hk, hsub, hnew, hv, _, heach⟩
    refine ⟨v, rfl, hk, ?_⟩
    rcases hv with ⟨h1, h2, rfl⟩ | ⟨b, hob, rfl, h1, h2⟩
    · obtain rfl : ys = [] := List.eq_nil_of_length_eq_zero h2
      exact nilM _ _
    · obtain ⟨g1, g2, g3, o, g4, us, T, rfl, hu⟩ := heach b (cellM ((ys ++ gr.sp).map f)) (by unfold grM; rw [hob]; simp)
      have hb : fresh F w w' b := by
        rcases g1 with g1 | g1
        · exact .inr ⟨g1, g2⟩
        · exact absurd g1 (by simp [blks])
      rw [List.map_append] at hu
      have hu2 := hu.take ys.length
      rw [List.take_left' (by simp)] at hu2
      refine ⟨_, _, rfl, by omega, h2, by simp, .inr ⟨b, 0, rfl, hb, us.take ys.length, All2.mono (fun _ _ => rfl) hnew _ _ hu2, fun j u hj => ?_⟩⟩
      rw [Nat.zero_add]
      have hj2 : j < ys.length := by
        rcases Nat.lt_or_ge j ys.length with h | h
        · exact h
        · rw [List.getElem?_take_eq_none h] at hj; cases hj
      rw [List.getElem?_take_of_lt hj2] at hj
      simp [World.cell?, g4, hj])⟩
end
theorem rtXND {E : Env} {P : Program} {Γ : Ctx} {M M' : Mem} {fn : Func} {rs : List ResultVar} {Rs : List VP} {R : VP → Mem → Prop} {W : List Nat} {e : Exit} (hs : M'.Sublist M) (he : e = .ret ∨ e = .normal) (hr : fn.results = rs.toArray) (hn : Nat.beq rs.length 1 = false) (hw : E.W = W) (h : ResL E P Γ M rs Rs) (hR : R (isTup Rs) M') : At E Γ M (bodyPost P fn (RetX E.w0 E.F0 W R)) e := by
  intro a w F s
  obtain ⟨vs, h1, h2⟩ := run_results hr h s
  have hl : Rs.length = rs.length := by
    clear h1 h2 s a w F vs hR
    clear hn hr
    induction h with
    | nil => rfl
    | tmp _ _ ih => simp [ih]
    | cell _ _ _ _ _ _ ih => simp [ih]
    | cell1 _ _ _ _ _ ih => simp [ih]
  have hne : vs.length ≠ 1 := by rw [← h2.len, hl]; exact Nat.ne_of_beq_eq_false hn
  rw [dif_neg hne] at h1
  exact fin_retXD (S := isTup Rs) hs he s hw h1 ⟨vs, rfl, h2⟩ hR
end Go.En
/- A slice that is built, and may grow; rows of polynomials. -/
namespace Go.En
open Go.RowKit Go.Pz Go.Nt
set_option linter.unusedVariables false
section
variable {E : Env} {P : Program} {Γ : Ctx} {M : Mem} {ty : TypeId} {pos : String} {after : Array Edge}
  {ops : Array Oper} {Q : Exit → Act → World → Prop} {rest : List Oper} {T : TypeId} {α : Type} {fk : α → List VP} {xs : List α} {k : Nat}
theorem Ops.buildGK {d : Nat} {e : TypeId} {n : Nat} {g : Bool} {z : Value} {ps : List (Nat × Operand)} (Z : List VP) {Z' : List VP} (hT : slB P T = some e) (ht : tyB P e = some (k, g)) (hz : zeroB P e = some z) (hZ : ∀ w F, All2 Z w F ((List.replicate n z.cells.toList).flatten)) (hnm : Nat.ble (n * k) 1000 = true) (hn0 : Nat.beq (n * k) 0 = false)
    (h : Parts E Γ M (fun i => some (i * k, k)) Z ps Z') (hl : Nat.beq Z'.length (n * k) = true) (hS : Z' = xs.flatMap fk) (hn : n = xs.length) (hd : Nat.blt d E.n = true)
    (kk : ∀ b, Ops E P ops Q rest ((d, isGr (⟨some b, n, []⟩ : Gr α) xs.length) :: Γ) (grMK fk ⟨some b, n, []⟩ xs :: M)) : Ops E P ops Q (⟨some d, .buildSlice T n ps.toArray, ty, pos, after, none⟩ :: rest) Γ M := by
  intro a w F s
  refine wpList_plain rfl fun K hK => ?_
  have hu := slB_under hT
  have hnm' := Nat.le_of_ble_eq_true hnm
  have hn0' := Nat.ne_of_beq_eq_false hn0
  have hm : (n * z.cells.size) = n * k := by
    have h1 := (hZ w F).len
    have h2 := Nat.eq_of_beq_eq_true hl
    have h3 : Z'.length = Z.length := by
      clear h1 h2 hK hZ hS hl
      induction h with
      | nil => rfl
      | @cons Z Z' i off k x S0 Ss r sh a1 a2 a3 a4 _ ih =>
        rw [ih, spliceV_eq _ _ _ (by have := Nat.le_of_ble_eq_true a4; have := Nat.eq_of_beq_eq_true a3; omega)]
        have := Nat.le_of_ble_eq_true a4; have := Nat.eq_of_beq_eq_true a3
        simp; omega
    simp at h1
    omega
  have hz0 : z.cells.size = k := by
    rcases Nat.eq_zero_or_pos n with h0 | h0
    · subst h0; simp at hn0'
    · exact Nat.eq_of_mul_eq_mul_left h0 hm
  have hfl : ((Array.range (n * k)).map fun j => z.cells[j % z.cells.size]!) = ((List.replicate n z.cells.toList).flatten).toArray := make_flat hz0
  obtain ⟨cells, h1, h2⟩ := h.fill s ((List.replicate n z.cells.toList).flatten).toArray (by simpa using hZ w F)
  have hr : (execOp a.eval (⟨some d, .buildSlice T n ps.toArray, ty, pos, after, none⟩ : Oper)).run P w = .ok (.value (.slice (some ⟨w.heap.size, 0, none⟩) n n)) { w with heap := w.heap.push (.cells cells.toList.toArray e) } := by
    have hmap : (ps.toArray.map fun (p : Nat × Operand) => (p.1, a.eval p.2)).toList = ps.map fun p => (p.1, a.eval p.2) := by simp
    have hbig : ¬ n * k > 2 ^ 24 := by omega
    simp only [execOp, Instr.buildSlice, Sem.run_bind, run_under hu, Result.andThen_ok, run_size ht, if_neg hbig, if_neg hn0', run_zero hz, Sem.run_pure, hmap, hfl, h1, newRow, run_newObj]
  unfold Oper.wp
  rw [hr]
  subst hS
  have s1 := s.alloc (T := e) h2
  have hd' : d < E.n := by simpa [Nat.blt_eq] using hd
  have hk0 : 0 < k := by
    rcases Nat.eq_zero_or_pos k with h0 | h0
    · subst h0; simp at hn0'
    · exact h0
  have hnk := Nat.le_mul_of_pos_right n hk0
  have hM : grMK fk (⟨some w.heap.size, n, []⟩ : Gr α) xs = (some w.heap.size, cellM (xs.flatMap fk)) := by unfold grMK; rw [List.append_nil]
  have k1 := kk w.heap.size
  rw [hM] at k1
  exact hK _ _ (k1 _ _ F (s1.put hd' (.inr ⟨w.heap.size, rfl, by rw [hn], by simp [hn], by show n ≤ maxLen; rw [maxLen_eq]; omega⟩)))
end
end Go.En
/- Values behind interfaces: made, called, taken out again. -/
namespace Go.En
open Go.RowKit
set_option linter.unusedVariables false
/-- a value of a type, behind an interface -/
def isIf (t : TypeId) (S : VP) : VP := ⟨fun w F v => ∃ x, v = .iface t x ∧ S.h w F x, fun w w' F F' v ⟨x, e, h⟩ h1 h2 => ⟨x, e, S.mono _ _ _ _ _ h h1 h2⟩⟩
instance {t : TypeId} {S : VP} : One (isIf t S) := ⟨fun w F v ⟨x, e, _⟩ => by rw [e]; rfl⟩
instance {t : TypeId} {S : VP} : Shape (isIf t S) [isIf t S] := .of_one inferInstance
def nilI : VP := .pure fun v => v = .nilIface
instance : One nilI := ⟨fun w F v h => by rw [show v = .nilIface from h]; rfl⟩
instance : Shape nilI [nilI] := .of_one inferInstance
/-- a type that is no interface -/
def solidB (P : Program) (t : TypeId) : Bool := match P.underlying t with
  | none => false
  | some (.interface _) => false
  | some _ => true
/-- a method of a pointer; one of what it points to -/
def InvP (P : Program) (t : TypeId) (m : String) (f : FuncId) : Prop := ∀ (x : Value) (args : Array Value) (w : World), (callMethod (.iface t x) m args).run P w = (callFunc f (#[x] ++ args)).run P w
def InvV (P : Program) (t : TypeId) (m : String) (f : FuncId) : Prop := ∀ (a : Addr) (args : Array Value) (w : World), (callMethod (.iface t (.pointer (some a))) m args).run P w = (Go.load a >>= fun v => callFunc f (#[v] ++ args)).run P w
section
variable {E : Env} {P : Program} {Γ : Ctx} {M : Mem} {ty : TypeId} {pos : String} {after : Array Edge} {gd : Option (Nat × Bool)} {d : Option Tmp}
  {ops : Array Oper} {Q : Exit → Act → World → Prop} {rest : List Oper} {T T' : TypeId} {x y : Operand} {α : Type} {fk : α → List VP} {k : Nat}
theorem Has.cNil : Has E Γ M (.const .nilIface) nilI := fun _ _ _ _ => rfl
theorem OK1.mkIf {S : VP} (h : solidB P T = true) (hx : Has E Γ M x S) : OK1 E P Γ M ⟨d, .makeInterface T x, ty, pos, after, gd⟩ (isIf T S) :=
  .run fun a w F s => by
    refine ⟨.iface T (a.eval x), ?_, a.eval x, rfl, hx a w F s⟩
    unfold solidB at h
    cases hu : P.underlying T with
    | none => rw [hu] at h; cases h
    | some dd =>
      rw [hu] at h
      cases dd <;> simp only [execOp, Instr.makeInterface, Sem.run_bind, run_under hu, Result.andThen_ok, Sem.run_pure] <;> cases h
theorem OK1.tassert {S : VP} (h : solidB P T' = true) (hx : Has E Γ M x (isIf T' S)) : OK1 E P Γ M ⟨d, .typeAssert x T T' true, ty, pos, after, gd⟩ (isTup [S, isB true]) :=
  .run fun a w F s => by
    obtain ⟨v, e, hv⟩ := hx a w F s
    refine ⟨.tuple #[v, .bool true], ?_, [v, .bool true], rfl, hv, rfl, trivial⟩
    unfold solidB at h
    cases hu : P.underlying T' with
    | none => rw [hu] at h; cases h
    | some dd =>
      rw [hu] at h
      cases dd <;> simp only [execOp, e, Instr.typeAssert, Sem.run_bind, run_under hu, Result.andThen_ok, Sem.run_pure, if_true] <;> cases h
/-- any operation that calls a function -/
theorem Ops.enterX {o : Oper} {g : FuncId} {args : List VP} {Mp Mr : Mem} {R : VP → Mem → Prop} {d : Nat} (ho : o.dst = some d) (hg : o.guard = none) (hf : CtrX P g args Mp R) (hp : M.Perm (Mp ++ Mr))
    (hr : ∀ a w F, Sat E Γ M a w F → ∃ vs : List Value, (execOp a.eval o).run P w = .ok (.enter g vs.toArray) w ∧ All2 args w F vs) (hd : Nat.blt d E.n = true)
    (kk : ∀ S M', R S M' → Ops E P ops Q rest ((d, S) :: Γ) (M' ++ Mr)) : Ops E P ops Q (o :: rest) Γ M := by
  intro a w F s0
  refine wpList_plain hg fun K hK => ?_
  unfold Oper.wp
  obtain ⟨vs, hr, hargs⟩ := hr a w F s0
  rw [hr]
  have s : Sat E Γ (Mp ++ Mr) a w F := by
    obtain ⟨F', h⟩ := (Cv.perm (E := E) (Γ := Γ) hp) a w F s0
    exact { s0 with mem := ⟨h.mem.apart, fun b C hb => s0.mem.each b C (hp.mem_iff.2 hb)⟩ }
  have hapart := List.pairwise_append.1 s.mem.apart
  have hmp : MemIn Mp w F := ⟨hapart.1, fun b C hb => by
    obtain ⟨_, h2, h3, h4⟩ := s.mem.each b C (List.mem_append_left _ hb)
    exact ⟨h2, h3, h4⟩⟩
  refine (hf.2 w F _ s.flt hmp hargs).mono ?_
  rintro e w' ⟨v, S, M', F', rfl, hR, hk, hsub, hnew, hv, hap, heach⟩
  have hd' : d < E.n := by simpa [Nat.blt_eq] using hd
  have hW : ∀ b, b ∈ blks Mp → ¬ F b := fun b hb hF => by
    obtain ⟨C, hC⟩ := mem_blks.1 hb
    exact (hmp.each b C hC).2.1 hF
  have hsame : ∀ b, F b → w'.heap[b]? = w.heap[b]? := fun b hb => hk.block b (s.flt b hb) (fun h => hW b h hb)
  have hown : ∀ b, b ∈ blks Mp → E.w0.heap.size ≤ b ∨ b ∈ E.W := fun b hb => by
    obtain ⟨C, hC⟩ := mem_blks.1 hb
    exact (s.mem.each b C (List.mem_append_left _ hC)).1
  have hrest : ∀ (b : Nat) (C : MP), (some b, C) ∈ Mr → b ∉ blks Mp ∧ b < w.heap.size := fun b C hb => by
    refine ⟨fun h => ?_, (s.mem.each b C (List.mem_append_right _ hb)).2.1⟩
    obtain ⟨C', hC'⟩ := mem_blks.1 h
    have := hapart.2.2 _ hC' _ hb
    rcases this with h | h
    · cases h
    · exact h rfl
  have s' : Sat E Γ (M' ++ Mr) a w' F' := {
    defers := s.defers, size := s.size
    keep := by
      refine ⟨hk.os.trans s.keep.os, hk.tape.trans s.keep.tape, hk.output.trans s.keep.output, Nat.le_trans s.keep.size hk.size, fun k hk0 hkW => ?_⟩
      rw [hk.block k (Nat.lt_of_lt_of_le hk0 s.keep.size) (fun h => by rcases hown k h with h' | h'; omega; exact hkW h')]
      exact s.keep.block k hk0 hkW
    f0 := fun b h => hsub b (s.f0 b h)
    fnew := fun b h => by
      rcases hnew b h with h1 | h1
      · rcases s.fnew b h1 with h2 | h2
        · exact .inl h2
        · exact .inr ⟨h2.1, Nat.lt_of_lt_of_le h2.2 hk.size⟩
      · exact .inr ⟨Nat.le_trans s.keep.size h1.1, h1.2⟩
    flt := fun b h => by
      rcases hnew b h with h1 | h1
      · exact Nat.lt_of_lt_of_le (s.flt b h1) hk.size
      · exact h1.2
    slots := fun t S h => S.mono _ _ _ _ _ (s.slots t S h) hsame hsub
    mem := by
      refine ⟨List.pairwise_append.2 ⟨hap, hapart.2.1, ?_⟩, ?_⟩
      · rintro ⟨k, C⟩ h1 ⟨k', C'⟩ h2
        cases k with
        | none => exact .inl rfl
        | some b =>
          refine .inr fun e => ?_
          subst e
          obtain ⟨g1, _⟩ := heach b C h1
          obtain ⟨g2, g3⟩ := hrest b C' h2
          rcases g1 with g1 | g1
          · omega
          · exact g2 g1
      · intro b C hb
        rcases List.mem_append.1 hb with h | h
        · obtain ⟨g1, g2, g3, g4⟩ := heach b C h
          refine ⟨?_, g2, g3, g4⟩
          rcases g1 with g1 | g1
          · exact .inl (Nat.le_trans s.keep.size g1)
          · exact hown b g1
        · obtain ⟨g1, g2, g3, o, g4, g5⟩ := s.mem.each b C (List.mem_append_right _ h)
          obtain ⟨r1, r2⟩ := hrest b C h
          refine ⟨g1, Nat.lt_of_lt_of_le g2 hk.size, fun hF => ?_, o, (hk.block b g2 r1).trans g4, C.mono _ _ _ _ _ g5 hsame hsub⟩
          rcases hnew b hF with h1 | h1
          · exact g3 h1
          · omega }
  show K (a.put o.dst v) w'
  rw [ho]
  exact hK _ _ (kk S M' hR _ _ _ (s'.put hd' hv))
theorem OK1.enterB {o : Oper} {g : FuncId} {Ss : List VP} {p : Value → Prop} (hf : Ctr P g Ss (.pure p))
    (hr : ∀ a w F, Sat E Γ M a w F → ∃ vs : List Value, (execOp a.eval o).run P w = .ok (.enter g vs.toArray) w ∧ All2 Ss w (lent M F) vs) : OK1 E P Γ M o (.pure p) := by
  intro a w F s K Q hK
  unfold Oper.wp
  obtain ⟨vs, hr, hargs⟩ := hr a w F s
  rw [hr]
  have hlt : ∀ k, lent M F k → k < w.heap.size := fun k hk => by
    rcases hk with hk | hk
    · exact s.flt k hk
    · obtain ⟨C, hC⟩ := mem_blks.1 hk
      exact (s.mem.each k C hC).2.1
  refine (hf.2 w (lent M F) _ hlt hargs).mono ?_
  rintro e w' ⟨v, rfl, hk, hv⟩
  exact hK v w' F ⟨hk, fun _ h => h, fun _ h => .inl h⟩ hv
theorem run_inv {m : String} {zs : List Operand} {ts : Array TypeId} {a : Act} {w : World} {t : TypeId} {v : Value} (hx : a.eval x = .iface t v) :
    (execOp a.eval (⟨d, .call ⟨.invoke x m, zs.toArray, ts⟩, ty, pos, after, gd⟩ : Oper)).run P w = (callMethod (.iface t v) m (zs.map a.eval).toArray).run P w := by
  simp only [execOp, resolve, invoke, Sem.run_bind, Sem.run_pure, Result.andThen_ok, hx]
  simp [List.take_of_length_le]
theorem run_enterA {f : FuncId} (hf : Enters P f) (v : Value) (vs : List Value) (w : World) : (callFunc f (#[v] ++ vs.toArray)).run P w = .ok (.enter f (v :: vs).toArray) w := by
  have := run_enter hf (#[v] ++ vs.toArray) w
  rw [this]; simp
/-- a pointer's method -/
theorem Ops.invPX {m : String} {t : TypeId} {g : FuncId} {zs : List Operand} {ts : Array TypeId} {Sx : VP} {args : List VP} {Mp Mr : Mem} {R : VP → Mem → Prop} {d : Nat} (hi : InvP P t m g) (hx : Has E Γ M x (isIf t Sx)) (hf : CtrX P g (Sx :: args) Mp R) (hp : M.Perm (Mp ++ Mr)) (hz : HasL E Γ M zs args) (hd : Nat.blt d E.n = true)
    (kk : ∀ S M', R S M' → Ops E P ops Q rest ((d, S) :: Γ) (M' ++ Mr)) : Ops E P ops Q (⟨some d, .call ⟨.invoke x m, zs.toArray, ts⟩, ty, pos, after, none⟩ :: rest) Γ M :=
  Ops.enterX rfl rfl hf hp (fun a w F s => by
    obtain ⟨v, e, hv⟩ := hx a w F s
    exact ⟨v :: zs.map a.eval, by rw [run_inv e, hi, run_enterA hf.1], hv, hz.all s⟩) hd kk
theorem run_load1 {a : Addr} {v : Value} {w : World} {β : Type} {f : Value → Sem β} (h : w.cell? a = some v) : (Go.load a >>= f).run P w = (f v).run P w := by
  rw [Sem.run_bind]
  have : (Go.load a).run P w = .ok v w := by simp [h]
  rw [this]; rfl
/-- a method of what a pointer points to, a variable of one cell -/
theorem Ops.invVX {m : String} {t : TypeId} {g : FuncId} {zs : List Operand} {ts : Array TypeId} {S0 Sx : VP} {args : List VP} {Mp Mr : Mem} {R : VP → Mem → Prop} {d b i : Nat} (hi : InvV P t m g) (hx : Has E Γ M x (isIf t (isPtr b 0))) (hM : M[i]? = some (some b, cellM [S0])) (hS : ∀ w F v, S0.h w F v → Sx.h w F v) (hf : CtrX P g (Sx :: args) Mp R) (hp : M.Perm (Mp ++ Mr)) (hz : HasL E Γ M zs args) (hd : Nat.blt d E.n = true)
    (kk : ∀ S M', R S M' → Ops E P ops Q rest ((d, S) :: Γ) (M' ++ Mr)) : Ops E P ops Q (⟨some d, .call ⟨.invoke x m, zs.toArray, ts⟩, ty, pos, after, none⟩ :: rest) Γ M :=
  Ops.enterX rfl rfl hf hp (fun a w F s => by
    obtain ⟨v, e, hv⟩ := hx a w F s
    obtain ⟨o, ho, us, T', rfl, hu⟩ := mem_at s hM
    obtain ⟨u, hu1, hu2⟩ := hu.get 0 S0 rfl
    have hc : w.cell? ⟨b, 0, none⟩ = some u := by simp [World.cell?, ho, hu1]
    obtain rfl : v = .pointer (some ⟨b, 0, none⟩) := hv
    exact ⟨u :: zs.map a.eval, by rw [run_inv e, hi, run_load1 hc, run_enterA hf.1], hS _ _ _ hu2, hz.all s⟩) hd kk
theorem OK1.invVB {m : String} {t : TypeId} {g : FuncId} {zs : List Operand} {ts : Array TypeId} {S0 Sx : VP} {args : List VP} {p : Value → Prop} {b i : Nat} (hi : InvV P t m g) (hx : Has E Γ M x (isIf t (isPtr b 0))) (hM : M[i]? = some (some b, cellM [S0])) (hS : ∀ a w F, Sat E Γ M a w F → ∀ v, S0.h w F v → Sx.h w (lent M F) v) (hf : Ctr P g (Sx :: args) (.pure p)) (hz : HasBL E Γ M zs args) :
    OK1 E P Γ M ⟨d, .call ⟨.invoke x m, zs.toArray, ts⟩, ty, pos, after, gd⟩ (.pure p) :=
  OK1.enterB hf fun a w F s => by
    obtain ⟨v, e, hv⟩ := hx a w F s
    obtain ⟨o, ho, us, T', rfl, hu⟩ := mem_at s hM
    obtain ⟨u, hu1, hu2⟩ := hu.get 0 S0 rfl
    have hc : w.cell? ⟨b, 0, none⟩ = some u := by simp [World.cell?, ho, hu1]
    obtain rfl : v = .pointer (some ⟨b, 0, none⟩) := hv
    exact ⟨u :: zs.map a.eval, by rw [run_inv e, hi, run_load1 hc, run_enterA hf.1], hS a w F s _ hu2, hz.all s⟩
theorem OK1.quoZ {i j : Int} (hx : Has E Γ M x (isI i)) (hy : Has E Γ M y (isI j)) (h' : 0 < j) (h1 : -9223372036854775808 ≤ Int.tdiv i j) (h2 : Int.tdiv i j < 9223372036854775808) : OK1 E P Γ M ⟨d, .binOp .quo T x y T', ty, pos, after, gd⟩ (isI (Int.tdiv i j)) :=
  .bin (evI hx) (evI hy) (run_quo _ _ _ (by omega)) (fun w F => by rw [wrap_i64 h1 h2]; exact isI_of h1 h2 w F)
/-- a slice that grows, lent -/
theorem lentK {g : Gr α} {n i : Nat} {ys : List α} (hk : ∀ y, (fk y).length = k) (hM : M[i]? = some (grMK fk g ys)) (hn : n = ys.length) : ∀ a w F, Sat E Γ M a w F → ∀ v, (isGr g n).h w F v → (SlK k fk ys).h w (lent M F) v := fun a w F s v h => by
  subst hn
  rcases h with ⟨h0, h1, h2⟩ | ⟨b, hob, e, h1, h2⟩
  · rw [h2, List.eq_nil_of_length_eq_zero h1]; exact nilK
  · have hM' : M[i]? = some (some b, cellM ((ys ++ g.sp).flatMap fk)) := by rw [hM]; unfold grMK; rw [hob]
    obtain ⟨o, ho, vs, T', rfl, hv⟩ := mem_at s hM'
    have hl := flat_len hk ys
    refine ⟨_, _, e, by omega, h2, hl, .inr ⟨b, 0, rfl, .inr (mem_blks.2 ⟨_, List.mem_of_getElem? hM'⟩), vs.take (ys.flatMap fk).length, ?_, fun j u hj => ?_⟩⟩
    · have := hv.take (ys.flatMap fk).length
      rw [List.flatMap_append, List.take_left' rfl] at this
      exact All2.mono (fun _ _ => rfl) (fun _ h => .inl h) _ _ this
    · have hjl : j < (ys.flatMap fk).length := by
        rcases Nat.lt_or_ge j (ys.flatMap fk).length with h | h
        · exact h
        · rw [List.getElem?_take_eq_none h] at hj; cases hj
      rw [List.getElem?_take_of_lt hjl] at hj
      simp only [World.cell?, ho, Nat.zero_add]
      simpa using hj
/-- the front of a slice that grows -/
theorem OK1.slGrH {e : TypeId} {m : Nat} {g : Gr α} {g0 : Bool} {ys : List α} {z : Int} (hT : slB P T = some e) (ht : tyB P e = some (m, g0)) (hx : Has E Γ M x (isGr g ys.length)) (hy : Has E Γ M y (isI z)) (h : 0 ≤ z ∧ z ≤ ys.length ∧ 0 < ys.length) :
    OK1 E P Γ M ⟨d, .slice T x none (some y) none, ty, pos, after, gd⟩ (isGr (⟨g.ob, g.c, ys.drop z.toNat ++ g.sp⟩ : Gr α) z.toNat) := by
  cases hob : g.ob with
  | none =>
    intro a w F s
    have := noneG hob hx a w F s
    omega
  | some b =>
    intro a w F s K Q' hK
    have hw := (hx.winG hob a w F s)
    have hc : ys.length + g.sp.length = g.c := by
      rcases hx a w F s with ⟨h0, _⟩ | ⟨b', _, _, h2, _⟩
      · rw [hob] at h0; cases h0
      · exact h2
    refine OK1.slHWin hT ht (hx.winG hob) hy ⟨h.1, h.2.1, by omega⟩ a w F s K Q' fun v w' F' ad hv => hK v w' F' ad ?_
    obtain ⟨e1, e2, e3⟩ := hv
    exact .inr ⟨b, rfl, e1, by show z.toNat + (ys.drop z.toNat ++ g.sp).length = g.c; rw [List.length_append, List.length_drop]; omega, e3⟩
theorem grMK_cut (g : Gr α) (ys : List α) (n : Nat) : grMK fk (⟨g.ob, g.c, ys.drop n ++ g.sp⟩ : Gr α) (ys.take n) = grMK fk g ys := by
  unfold grMK
  rw [← List.append_assoc, List.take_append_drop]
end
end Go.En
/- Lists of fractions, as a program holds them; sums of products. -/
namespace Go.En
open Go.RowKit Go.Nt Go.Pz
abbrev rc (p : (Bool × List Nat) × Bool × List Nat) : List VP := [isB p.1.1, isWords p.1.2, isB p.2.1, isWords p.2.2]
theorem rc_len : ∀ p, (rc p).length = 4 := fun _ => rfl
section
variable {E : Env} {P : Program} {Γ : Ctx} {M : Mem} {ty : TypeId} {pos : String} {after : Array Edge} {gd : Option (Nat × Bool)} {d : Option Tmp}
  {ops : Array Oper} {Q : Exit → Act → World → Prop} {rest : List Oper} {T T' : TypeId} {x y : Operand} {α : Type} {fk : α → List VP} {xs : List α} {k : Nat}
end
end Go.En
/- A matrix that has been reckoned on, handed on. -/
namespace Go.En
open Go.RowKit Go.Nt Go.Pz
set_option linter.unusedVariables false
section
variable {E : Env} {P : Program} {Γ : Ctx} {M : Mem}
theorem All2.conv {α : Type} {f g : α → VP} {w : World} {F : Blk} : ∀ {xs : List α} {Us : List VP} {vs : List Value}, (∀ x ∈ xs, ∀ v, (f x).h w F v → (g x).h w F v) → All2 (xs.map f ++ Us) w F vs → All2 (xs.map g ++ Us) w F vs
  | [], Us, vs, _, h => h
  | x :: xs, Us, v :: vs, hc, h => ⟨hc x (by simp) v h.1, All2.conv (fun y hy => hc y (by simp [hy])) h.2⟩
  | _ :: _, _, [], _, h => h.elim
end
end Go.En
/- Rows that stay, and are known to be new: they may be written again later. -/
namespace Go.En
open Go.RowKit Go.Nt Go.Pz
set_option linter.unusedVariables false
section
variable {E : Env} {P : Program} {Γ : Ctx} {M : Mem} {ops : Array Oper} {Q : Exit → Act → World → Prop} {rest : List Oper}
theorem Has.wk {x : Operand} {S S' : VP} (h : Has E Γ M x S) (k : ∀ w F v, S.h w F v → S'.h w F v) : Has E Γ M x S' := fun a w F s => k _ _ _ (h a w F s)
theorem OK1.wk {o : Oper} {S S' : VP} (h : OK1 E P Γ M o S) (k : ∀ w F v, S.h w F v → S'.h w F v) : OK1 E P Γ M o S' := fun a w F s K Q hK => h a w F s K Q fun v w' F' ad hv => hK v w' F' ad (k _ _ _ hv)
theorem OKY.wk {o : Oper} {S S' : VP} (h : OKY E P Γ M o S) (k : ∀ w F v, S.h w F v → S'.h w F v) : OKY E P Γ M o S' := fun a w F s => by
  obtain ⟨v, h1, h2⟩ := h a w F s
  exact ⟨v, h1, k _ _ _ h2⟩
theorem Cv.memEq {M' : Mem} (h : M = M') : Cv E Γ M Γ M' := h ▸ Cv.refl
end
end Go.En
/- Contracts: classes in a row. -/
namespace Go.Proofs.Ytbnhdbchoghkfaa
open Go.En Go.RowKit
set_option linter.unusedVariables false
set_option maxRecDepth 10000
open Go.Nt
open Go.Pz
abbrev ce0 : (Bool × List Nat) × Bool × List Nat := ((false, []), (false, []))
/-- two classes in each other's places -/
def swC (cs : List ((Bool × List Nat) × Bool × List Nat)) (i k : Nat) : List ((Bool × List Nat) × Bool × List Nat) := (cs.set i (cs.getD k ce0)).set k (cs.getD i ce0)
theorem swC_len (cs : List ((Bool × List Nat) × Bool × List Nat)) (i k : Nat) : (swC cs i k).length = cs.length := by unfold swC; rw [List.length_set, List.length_set]
theorem getD_at {cs : List ((Bool × List Nat) × Bool × List Nat)} {i : Nat} (h : i < cs.length) : cs[i]? = some (cs.getD i ce0) := by rw [List.getD_eq_getElem?_getD, List.getElem?_eq_getElem h]; rfl
theorem swC_perm {cs : List ((Bool × List Nat) × Bool × List Nat)} {i k : Nat} (hi : i < cs.length) (hk : k < cs.length) : (swC cs i k).Perm cs := by
  unfold swC
  by_cases h : i = k
  · subst h
    rw [List.set_set]
    have : cs.set i (cs.getD i ce0) = cs := by
      refine List.ext_getElem? fun j => ?_
      by_cases e : i = j
      · subst e; rw [List.getElem?_set_self hi, getD_at hi]
      · rw [List.getElem?_set_ne e]
    rw [this]
  · exact swap_perm (getD_at hi) (getD_at hk) h
/-- sizes of the moduli -/
def CB (K : Nat) (cs : List ((Bool × List Nat) × Bool × List Nat)) : Prop := ∀ c ∈ cs, List.length (words (val c.2.2)) ≤ K
theorem CB.at {K : Nat} {cs : List ((Bool × List Nat) × Bool × List Nat)} (h : CB K cs) {i : Nat} (hi : i < cs.length) : List.length (words (val (cs.getD i ce0).2.2)) ≤ K := h _ (by rw [List.getD_eq_getElem?_getD, List.getElem?_eq_getElem hi]; exact List.getElem_mem _)
theorem CB.perm {K : Nat} {cs cs' : List ((Bool × List Nat) × Bool × List Nat)} (h : CB K cs) (p : cs'.Perm cs) : CB K cs' := fun c hc => h c (p.mem_iff.1 hc)
def lessC (cs : List ((Bool × List Nat) × Bool × List Nat)) (i k : Nat) : Bool := decide (cmpZ (zv (cs.getD i ce0).2.1 (cs.getD i ce0).2.2) (zv (cs.getD k ce0).2.1 (cs.getD k ce0).2.2) < 0)
set_option maxHeartbeats 4000000 in
theorem cls_Len {n : Nat} {g : Gr ((Bool × List Nat) × Bool × List Nat)} : Ctr Try.prog 18 [isGr g n] (isI (n : Int)) := by
  refine Ctr.intro Try.func18 rfl (by kernel_rfl) Try.ntmps18 rfl fun w0 F0 => ?_
  refine Tri.cv (Cv.wk (.cons (t := 0) (Has.t rfl) .nil)) ?_
  refine Tri.seq fun K1 hK1 => ?_
  refine Tri.region ?_
  refine st (OK1.as (Has.cI 0 rfl)) rfl ?_
  refine nl ?_
  refine At.thn (hK1 _ _ ?_); clear hK1
  refine Tri.seq fun K2 hK2 => ?_
  refine Tri.region ?_
  refine st (OK1.mv (Has.t rfl)) rfl ?_
  refine st (OK1.len sl43 (Has.t rfl)) rfl ?_
  refine st (OK1.as (Has.t rfl)) rfl ?_
  refine nl ?_
  refine At.thn (hK2 _ _ ?_); clear hK2
  refine Tri.ret ?_
  refine rt1 (.inl rfl) Try.results18 rfl (.tmp (Has.t' rfl ?_) .nil)
  all_goals (rfl)
set_option maxHeartbeats 4000000 in
theorem cls_Less {cs : List ((Bool × List Nat) × Bool × List Nat)} {i k : Nat} (hB : CB 100000000 cs) (hi : i < cs.length) (hk : k < cs.length) : Ctr Try.prog 104 [SlK 4 rc cs, isI (i : Int), isI (k : Int)] (isB (lessC cs i k)) := by
  refine Ctr.intro Try.func104 rfl (by kernel_rfl) Try.ntmps104 rfl fun w0 F0 => ?_
  refine Tri.cv (Cv.wk (.cons (t := 0) (Has.t rfl) (.cons (t := 1) (Has.t rfl) (.cons (t := 2) (Has.t rfl) .nil)))) ?_
  refine Tri.fact (Has.lenLt (Has.t (t := 0) rfl)) fun lt0 => ?_
  refine Tri.fact (Has.rngI (Has.t (t := 1) rfl)) fun lt1 => ?_
  refine Tri.fact (Has.rngI (Has.t (t := 2) rfl)) fun lt2 => ?_
  have h1 := hB.at hi
  have h2 := hB.at hk
  refine Tri.seq fun K1 hK1 => ?_
  refine Tri.region ?_
  refine st (OK1.as (Has.cB false)) rfl ?_
  refine nl ?_
  refine At.thn (hK1 _ _ ?_); clear hK1
  refine Tri.seq fun K2 hK2 => ?_
  refine Tri.dr ?_
  refine DrG.st (i := 0) [] rfl rfl rfl (by kernel_rfl) (OKG.o rfl (OK1.mv (Has.t rfl))) ?_
  refine DrG.st (i := 1) [] rfl rfl rfl (by kernel_rfl) (OKG.o rfl (OK1.mv (Has.t rfl))) ?_
  refine DrG.st (i := 2) [7, 8] rfl rfl rfl (by kernel_rfl) (OKG.o rfl (OK1.ixK sl43 ty41 (Has.t rfl) (Has.t rfl) rc_len ⟨by omega, by omega⟩ (getD_at hi))) ?_
  refine DrG.st (i := 3) [9] rfl rfl rfl (by kernel_rfl) (OKG.o rfl (OK1.fieldAddrP (Has.t rfl) fld41_1 ty27 (Ss' := [_, _]) rfl)) ?_
  refine DrG.st (i := 4) [10] rfl rfl rfl (by kernel_rfl) (OKG.o rfl (OK1.loadP (Has.t rfl) ty27 rfl (Ss' := [_, _]) rfl)) ?_
  refine DrG.st (i := 5) [] rfl rfl rfl (by kernel_rfl) (OKG.o rfl (OK1.mv (Has.t rfl))) ?_
  refine DrG.st (i := 6) [] rfl rfl rfl (by kernel_rfl) (OKG.o rfl (OK1.mv (Has.t rfl))) ?_
  refine DrG.st (i := 7) [12, 13] rfl rfl rfl (by kernel_rfl) (OKG.o rfl (OK1.ixK sl43 ty41 (Has.t rfl) (Has.t rfl) rc_len ⟨by omega, by omega⟩ (getD_at hk))) ?_
  refine DrG.st (i := 8) [14] rfl rfl rfl (by kernel_rfl) (OKG.o rfl (OK1.fieldAddrP (Has.t rfl) fld41_1 ty27 (Ss' := [_, _]) rfl)) ?_
  refine DrG.st (i := 9) [15] rfl rfl rfl (by kernel_rfl) (OKG.o rfl (OK1.loadP (Has.t rfl) ty27 rfl (Ss' := [_, _]) rfl)) ?_
  refine DrG.fin (n := 10) mixed (by kernel_rfl) (by kernel_rfl) (by kernel_rfl) ?_
  refine Ops.cv (Cv.wk (.cons (t := 6) (Has.t rfl) (.cons (t := 11) (Has.t rfl) (.cons (t := 16) (Has.t rfl) .nil)))) ?_
  refine st (OK1.call (zint_Cmp (Nat.lt_of_le_of_lt h1 (by decide)) (Nat.lt_of_le_of_lt h2 (by decide))) (.cons (Has.t rfl) (.cons (Has.t rfl) .nil))) rfl ?_
  refine st (OK1.ltI (Has.t rfl) (Has.cI 0 rfl)) rfl ?_
  refine st (OK1.as (Has.t rfl)) rfl ?_
  refine nl ?_
  refine At.thn (hK2 _ _ ?_); clear hK2
  refine Tri.ret ?_
  refine rt1 (.inl rfl) Try.results104 rfl (.tmp (Has.t' rfl ?_) .nil)
  all_goals (rfl)
set_option maxHeartbeats 4000000 in
theorem cls_Swap {g : Gr ((Bool × List Nat) × Bool × List Nat)} {cs : List ((Bool × List Nat) × Bool × List Nat)} {i k : Nat} (hi : i < cs.length) (hk : k < cs.length) : CtrX Try.prog 107 [isGr g cs.length, isI (i : Int), isI (k : Int)] ([grMK rc g cs]) (fun S M => S = isTup [] ∧ M = [grMK rc g (swC cs i k)]) := by
  refine CtrX.intro Try.func107 rfl (by kernel_rfl) Try.ntmps107 rfl fun w0 F0 => ?_
  refine Tri.cv (Cv.wk (.cons (t := 0) (Has.t rfl) (.cons (t := 1) (Has.t rfl) (.cons (t := 2) (Has.t rfl) .nil)))) ?_
  refine Tri.fact (Has.rngI (Has.t (t := 1) rfl)) fun lt1 => ?_
  refine Tri.fact (Has.rngI (Has.t (t := 2) rfl)) fun lt2 => ?_
  refine Tri.dry mixed ?_
  refine DrB.take (i := 0) rfl rfl rfl rfl (by kernel_rfl) (by kernel_rfl) (by kernel_rfl) (by kernel_rfl) (fun _ _ _ _ h => h) (OKY.mv (Has.t rfl)) ?_
  refine DrB.take (i := 1) rfl rfl rfl rfl (by kernel_rfl) (by kernel_rfl) (by kernel_rfl) (by kernel_rfl) (fun _ _ _ _ h => h) (OKY.mv (Has.t rfl)) ?_
  refine DrB.take (i := 2) rfl rfl rfl rfl (by kernel_rfl) (by kernel_rfl) (by kernel_rfl) (by kernel_rfl) (fun _ _ _ _ h => h) (OKY.mv (Has.t rfl)) ?_
  refine DrB.take (i := 3) rfl rfl rfl rfl (by kernel_rfl) (by kernel_rfl) (by kernel_rfl) (by kernel_rfl) (fun _ _ _ _ h => h) (OKY.mv (Has.t rfl)) ?_
  refine DrB.take (i := 4) rfl rfl rfl rfl (by kernel_rfl) (by kernel_rfl) (by kernel_rfl) (by kernel_rfl) (fun _ _ _ _ h => h) (OKY.mv (Has.t rfl)) ?_
  refine DrB.take (i := 5) rfl rfl rfl rfl (by kernel_rfl) (by kernel_rfl) (by kernel_rfl) (by kernel_rfl) (fun _ _ _ _ h => h) (OKY.mv (Has.t rfl)) ?_
  refine DrB.take (i := 8) rfl rfl rfl rfl (by kernel_rfl) (by kernel_rfl) (by kernel_rfl) (by kernel_rfl) (fun _ _ _ _ h => h) (OKY.mv (Has.t rfl)) ?_
  refine DrB.take (i := 9) rfl rfl rfl rfl (by kernel_rfl) (by kernel_rfl) (by kernel_rfl) (by kernel_rfl) (fun _ _ _ _ h => h) (OKY.mv (Has.t rfl)) ?_
  refine DrB.go [] ?_
  refine DrC.st (i := 6) [] rfl rfl rfl (by kernel_rfl) (by kernel_rfl) (OKG.o rfl (OK1.ixGr sl43 ty41 (Has.t rfl) (Has.t rfl) ⟨by omega, by omega⟩)) ?_
  refine DrC.st (i := 7) [12] rfl rfl rfl (by kernel_rfl) (by kernel_rfl) (OKG.o rfl (OK1.loadGK rc_len (Has.t rfl) (i := 0) rfl ty41 (getD_at hk))) ?_
  refine DrC.st (i := 10) [] rfl rfl rfl (by kernel_rfl) (by kernel_rfl) (OKG.o rfl (OK1.ixGr sl43 ty41 (Has.t rfl) (Has.t rfl) ⟨by omega, by omega⟩)) ?_
  refine DrC.st (i := 11) [16] rfl rfl rfl (by kernel_rfl) (by kernel_rfl) (OKG.o rfl (OK1.loadGK rc_len (Has.t rfl) (i := 0) rfl ty41 (getD_at hi))) ?_
  refine DrC.fin [12, 13, 14, 15] (by kernel_rfl) (by kernel_rfl) (fun _ _ _ _ _ h => h) (by kernel_rfl) (by kernel_rfl) (by kernel_rfl) (by kernel_rfl) (by kernel_rfl) (by kernel_rfl) (by kernel_rfl) (by kernel_rfl) (by kernel_rfl) ?_
  refine Ops.cv (Cv.wk (.cons (t := 6) (Has.t rfl) (.cons (t := 7) (Has.t rfl) (.cons (t := 8) (Has.t rfl) (.cons (t := 9) (Has.t rfl) (.cons (t := 13) (Has.t rfl) (.cons (t := 17) (Has.t rfl) .nil))))))) ?_
  refine st (OK1.ixGr sl43 ty41 (Has.t rfl) (Has.t rfl) ⟨by omega, by omega⟩) rfl ?_
  refine Ops.storeGK (z := cs.getD k ce0) rc_len (Has.t rfl) (Has.t rfl) (i := 0) rfl ty41 (by simp only [Int.toNat_natCast]; omega) (M' := [grMK _ _ _]) rfl ?_
  refine st (OK1.ixGr sl43 ty41 (Has.t rfl) (Has.t rfl) ⟨by omega, by omega⟩) rfl ?_
  refine Ops.storeGK (z := cs.getD i ce0) rc_len (Has.t rfl) (Has.t rfl) (i := 0) rfl ty41 (by rw [List.length_set]; simp only [Int.toNat_natCast]; omega) (M' := [grMK _ _ _]) rfl ?_
  refine nl ?_
  refine rtX0 (.inr rfl) Try.results107 rfl ?_
  exact ⟨rfl, rfl⟩
theorem solid41 : solidB Try.prog 41 = true := by kernel_rfl
set_option maxHeartbeats 4000000 in
theorem cls_Push {b : Nat} {g : Gr ((Bool × List Nat) × Bool × List Nat)} {cs : List ((Bool × List Nat) × Bool × List Nat)} {c : ((Bool × List Nat) × Bool × List Nat)} (hl : cs.length ≤ 1000) : CtrX Try.prog 106 [isPtr b 0, isIf 41 (Flat (rc c))] ([(some b, cellM [isGr g (cs).length]), grMK rc g (cs)]) (fun S M => ∃ g2, S = isTup [] ∧ M = [(some b, cellM [isGr g2 (cs ++ [c]).length]), grMK rc g2 (cs ++ [c])]) := by
  refine CtrX.intro Try.func106 rfl (by kernel_rfl) Try.ntmps106 rfl fun w0 F0 => ?_
  refine Tri.cv (Cv.wk (.cons (t := 0) (Has.t rfl) (.cons (t := 1) (Has.t rfl) .nil))) ?_
  refine Tri.seq fun K1 hK1 => ?_
  refine Tri.region ?_
  refine st (OK1.mv (Has.t rfl)) rfl ?_
  refine st (OK1.tassert solid41 (Has.t rfl)) rfl ?_
  refine st (OK1.mv (Has.t rfl)) rfl ?_
  refine st (OK1.ext (Has.t rfl) rfl) rfl ?_
  refine st (OK1.ext (Has.t rfl) rfl) rfl ?_
  refine Ops.alloc [isB false, SlM isU [], isB false, SlM isU []] zero41 (fun _ _ => ⟨rfl, nilM _ _, rfl, nilM _ _, trivial⟩) rfl fun b1 => ?_
  refine Ops.store (Has.t rfl) (Has.t rfl) (i := 0) rfl ty41 rfl rfl (Ss' := [_, _, _, _]) rfl (M' := [(some _, cellM [_, _, _, _]), _, _]) rfl ?_
  refine st (OK1.as (Has.t rfl)) rfl ?_
  refine nl ?_
  refine At.thn (hK1 _ _ ?_); clear hK1
  refine Tri.cv (Cv.wk (.cons (t := 0) (Has.t rfl) (.cons (t := 4) (Has.t rfl) (.cons (t := 5) (Has.t rfl) .nil)))) ?_
  refine Tri.seq fun K2 hK2 => ?_
  refine Tri.region ?_
  refine st (OK1.mv (Has.t rfl)) rfl ?_
  refine nl ?_
  refine At.thn (hK2 _ _ ?_); clear hK2
  refine Tri.cond (Has.t rfl) (fun hc1 => ?_) (fun hc1 => ?_)
  · have hc1 := BP.t hc1
    refine Tri.dry mixed ?_
    refine DrB.take (i := 0) rfl rfl rfl rfl (by kernel_rfl) (by kernel_rfl) (by kernel_rfl) (by kernel_rfl) (fun _ _ _ _ h => h) (OKY.mv (Has.t rfl)) ?_
    refine DrB.take (i := 1) rfl rfl rfl rfl (by kernel_rfl) (by kernel_rfl) (by kernel_rfl) (by kernel_rfl) (fun _ _ _ _ h => h) (OKY.mv (Has.t rfl)) ?_
    refine DrB.take (i := 2) rfl rfl rfl rfl (by kernel_rfl) (by kernel_rfl) (by kernel_rfl) (by kernel_rfl) (fun _ _ _ _ h => h) (OKY.nilc (Has.t rfl)) ?_
    refine DrB.go [] ?_
    refine DrC.st (i := 3) [] rfl rfl rfl (by kernel_rfl) (by kernel_rfl) (OKG.o rfl (OK1.load1 (Has.t rfl) (i := 1) rfl ty43 rfl)) ?_
    refine DrC.st (i := 4) [] rfl rfl rfl (by kernel_rfl) (by kernel_rfl) (OKG.o rfl (OK1.load (Has.t rfl) (i := 0) rfl ty41 rfl (Ss' := [_, _, _, _]) rfl)) ?_
    refine DrC.st (i := 5) [16] rfl rfl rfl (by kernel_rfl) (by kernel_rfl) (OKG.o rfl (OK1.buildS [isB false, SlM isU [], isB false, SlM isU []] sl43 ty41 zero41 (fun _ _ => ⟨rfl, nilM _ _, rfl, nilM _ _, trivial⟩) rfl rfl (.cons (Has.t rfl) rfl rfl rfl .nil) rfl (S := SlK 4 rc [c]) rfl)) ?_
    refine DrC.fin [6, 7, 8] (by kernel_rfl) (by kernel_rfl) (fun _ _ _ _ _ h => h) (by kernel_rfl) (by kernel_rfl) (by kernel_rfl) (by kernel_rfl) (by kernel_rfl) (by kernel_rfl) (by kernel_rfl) (by kernel_rfl) (by kernel_rfl) ?_
    refine Ops.cv (Cv.wk (.cons (t := 12) (Has.t rfl) (.cons (t := 15) (Has.t rfl) (.cons (t := 17) (Has.t rfl) .nil)))) ?_
    refine Ops.appendGK (fk := rc) (u := ((false, []), (false, []))) rc_len (by decide) (fun _ => inferInstance) sl43 ty41 zero41 (fun _ _ => ⟨rfl, nilM _ _, rfl, nilM _ _, trivial⟩) by41 (Has.t rfl) (i := 2) rfl (Has.t rfl) (by simp only [List.length_cons, List.length_nil]; omega) (by simp) rfl fun gr1 => ?_
    refine Ops.memEq (M' := [_, _, grMK _ _ _]) rfl ?_
    refine st (OK1.nilc (Has.t rfl)) rfl ?_
    refine Ops.store (Has.t rfl) (Has.t rfl) (i := 1) rfl ty43 rfl rfl (Ss' := [_]) rfl (M' := [_, (some _, cellM [_]), _]) rfl ?_
    refine nl ?_
    refine rtX0D (.cons _ (.cons_cons _ (.cons_cons _ .slnil))) (.inr rfl) Try.results106 rfl ?_
    exact ⟨gr1, rfl, by rw [List.length_append] <;> rfl⟩
  · have hc1 := BP.f hc1
    exact absurd hc1 (by simp)
set_option maxHeartbeats 4000000 in
theorem cls_Pop {b : Nat} {g : Gr ((Bool × List Nat) × Bool × List Nat)} {cs : List ((Bool × List Nat) × Bool × List Nat)} (h0 : 0 < cs.length) (hl : cs.length ≤ 1000) : CtrX Try.prog 105 [isPtr b 0] ([(some b, cellM [isGr g (cs).length]), grMK rc g (cs)]) (fun S M => ∃ g2, S = isIf 41 (Flat (rc (cs.getD (cs.length - 1) ce0))) ∧ M = [(some b, cellM [isGr g2 (cs.take (cs.length - 1)).length]), grMK rc g2 (cs.take (cs.length - 1))]) := by
  refine CtrX.intro Try.func105 rfl (by kernel_rfl) Try.ntmps105 rfl fun w0 F0 => ?_
  refine Tri.cv (Cv.wk (.cons (t := 0) (Has.t rfl) .nil)) ?_
  refine Tri.seq fun K1 hK1 => ?_
  refine Tri.region ?_
  refine st (OK1.as Has.cNil) rfl ?_
  refine nl ?_
  refine At.thn (hK1 _ _ ?_); clear hK1
  refine Tri.seq fun K2 hK2 => ?_
  refine Tri.region ?_
  refine st (OK1.mv (Has.t rfl)) rfl ?_
  refine st (OK1.nilc (Has.t rfl)) rfl ?_
  refine st (OK1.load1 (Has.t rfl) (i := 0) rfl ty43 rfl) rfl ?_
  refine st (OK1.len sl43 (Has.t rfl)) rfl ?_
  refine st (OK1.eq (OK1.subI (Has.t rfl) (Has.cI 1 rfl) (by first | omega | assumption) (by first | omega | assumption)) ((show isI _ = isI ((cs.length - 1 : Nat) : Int) from isI_eq (by omega)))) rfl ?_
  refine st (OK1.as (Has.t rfl)) rfl ?_
  refine nl ?_
  refine At.thn (hK2 _ _ ?_); clear hK2
  refine Tri.cv (Cv.wk (.cons (t := 0) (Has.t rfl) (.cons (t := 2) (Has.t rfl) (.cons (t := 3) (Has.t rfl) .nil)))) ?_
  refine Tri.seq fun K3 hK3 => ?_
  refine Tri.region ?_
  refine st (OK1.mv (Has.t rfl)) rfl ?_
  refine st (OK1.nilc (Has.t rfl)) rfl ?_
  refine st (OK1.load1 (Has.t rfl) (i := 0) rfl ty43 rfl) rfl ?_
  refine st (OK1.mv (Has.t rfl)) rfl ?_
  refine st (OK1.ixGr sl43 ty41 (Has.t rfl) (Has.t rfl) ⟨by omega, by omega⟩) rfl ?_
  refine st (OK1.loadGK rc_len (Has.t rfl) (i := 1) rfl ty41 (getD_at (by omega))) rfl ?_
  refine Ops.alloc [isB false, SlM isU [], isB false, SlM isU []] zero41 (fun _ _ => ⟨rfl, nilM _ _, rfl, nilM _ _, trivial⟩) rfl fun b1 => ?_
  refine Ops.store (Has.t rfl) (Has.t rfl) (i := 0) rfl ty41 rfl rfl (Ss' := [_, _, _, _]) rfl (M' := [(some _, cellM [_, _, _, _]), _, _]) rfl ?_
  refine nl ?_
  refine At.thn (hK3 _ _ ?_); clear hK3
  refine Tri.cv (Cv.wk (.cons (t := 0) (Has.t rfl) (.cons (t := 2) (Has.t rfl) (.cons (t := 3) (Has.t rfl) (.cons (t := 4) (Has.t rfl) .nil))))) ?_
  refine Tri.seq fun K4 hK4 => ?_
  refine Tri.region ?_
  refine st (OK1.mv (Has.t rfl)) rfl ?_
  refine st (OK1.mv (Has.t rfl)) rfl ?_
  refine st (OK1.nilc (Has.t rfl)) rfl ?_
  refine st (OK1.load1 (Has.t rfl) (i := 1) rfl ty43 rfl) rfl ?_
  refine st (OK1.mv (Has.t rfl)) rfl ?_
  refine st (OK1.slGrH sl43 ty41 (Has.t rfl) (Has.t rfl) ⟨by omega, by omega, by omega⟩) rfl ?_
  refine st (OK1.nilc (Has.t rfl)) rfl ?_
  refine Ops.store (Has.t rfl) (Has.t rfl) (i := 1) rfl ty43 rfl rfl (Ss' := [_]) rfl (M' := [_, (some _, cellM [_]), _]) rfl ?_
  refine nl ?_
  refine At.thn (hK4 _ _ ?_); clear hK4
  refine Tri.cv (Cv.wk (.cons (t := 2) (Has.t rfl) (.cons (t := 4) (Has.t rfl) .nil))) ?_
  refine Tri.seq fun K5 hK5 => ?_
  refine Tri.region ?_
  refine Ops.cv (Cv.memEq (congrArg (fun z : Option Nat × MP => ([_, _, z] : Mem)) (grMK_cut (fk := rc) g cs (cs.length - 1)).symm)) ?_
  refine st (OK1.load (Has.t rfl) (i := 0) rfl ty41 rfl (Ss' := [_, _, _, _]) rfl) rfl ?_
  refine st (OK1.mkIf solid41 (Has.t rfl)) rfl ?_
  refine st (OK1.as (Has.t rfl)) rfl ?_
  refine nl ?_
  refine At.thn (hK5 _ _ ?_); clear hK5
  refine Tri.ret ?_
  refine rtX1D (.cons _ (.cons_cons _ (.cons_cons _ .slnil))) (.inl rfl) Try.results105 rfl (.tmp (Has.t rfl) .nil) ?_
  exact ⟨⟨g.ob, g.c, cs.drop (cs.length - 1) ++ g.sp⟩, rfl, by rw [List.length_take, Nat.min_eq_left (by omega)]; rfl⟩
end Go.Proofs.Ytbnhdbchoghkfaa
/- Contracts: a heap of classes. -/
namespace Go.Proofs.Ytbnhdbchoghkfaa
open Go.En Go.RowKit
set_option linter.unusedVariables false
set_option maxRecDepth 10000
open Go.Nt
open Go.Pz
theorem up_eq (j : Nat) : Int.tdiv ((j : Int) - 1) 2 = (((j - 1) / 2 : Nat) : Int) := by
  rcases Nat.eq_zero_or_pos j with h | h
  · subst h; decide
  · rw [show (j : Int) - 1 = ((j - 1 : Nat) : Int) by omega]; rfl
theorem take_last {cs : List ((Bool × List Nat) × Bool × List Nat)} (h : 0 < cs.length) : cs.take (cs.length - 1) ++ [cs.getD (cs.length - 1) ce0] = cs := by
  have h1 := getD_at (show cs.length - 1 < cs.length by omega)
  have h2 := List.take_append_drop (cs.length - 1) cs
  rw [List.drop_eq_getElem_cons (show cs.length - 1 < cs.length by omega), List.drop_of_length_le (by omega)] at h2
  rw [List.getElem?_eq_getElem (show cs.length - 1 < cs.length by omega)] at h1
  rw [← Option.some.inj h1]; exact h2
theorem CB.add {K : Nat} {cs : List ((Bool × List Nat) × Bool × List Nat)} {c : (Bool × List Nat) × Bool × List Nat} (h : CB K cs) (hc : List.length (words (val c.2.2)) ≤ K) : CB K (cs ++ [c]) := fun d hd => by
  rcases List.mem_append.1 hd with h1 | h1
  · exact h d h1
  · rw [List.mem_singleton.1 h1]; exact hc
theorem inv39_Less : InvV Try.prog 39 "Less" 104 := fun _ _ _ => by kernel_rfl
theorem inv39_Swap : InvV Try.prog 39 "Swap" 107 := fun _ _ _ => by kernel_rfl
set_option maxHeartbeats 4000000 in
theorem heap_down {b : Nat} {g : Gr ((Bool × List Nat) × Bool × List Nat)} {cs : List ((Bool × List Nat) × Bool × List Nat)} (hB : CB 100000000 cs) (hl : cs.length ≤ 1000) {i0 n : Nat} (hi0 : i0 ≤ 1000) (hn : n ≤ cs.length) : CtrX Try.prog 37 [isIf 39 (isPtr b 0), isI (i0 : Int), isI (n : Int)] ([(some b, cellM [isGr g (cs).length]), grMK rc g (cs)]) (fun S M => ∃ bb cs2, S = isB bb ∧ M = [(some b, cellM [isGr g (cs2).length]), grMK rc g (cs2)] ∧ cs2.Perm cs) := by
  refine CtrX.intro Try.func37 rfl (by kernel_rfl) Try.ntmps37 rfl fun w0 F0 => ?_
  refine Tri.cv (Cv.wk (.cons (t := 0) (Has.t rfl) (.cons (t := 1) (Has.t rfl) (.cons (t := 2) (Has.t rfl) .nil)))) ?_
  refine Tri.fact (Has.rngI (Has.t (t := 1) rfl)) fun lt1 => ?_
  refine Tri.fact (Has.rngI (Has.t (t := 2) rfl)) fun lt2 => ?_
  refine Tri.seq fun K1 hK1 => ?_
  refine Tri.region ?_
  refine st (OK1.as (Has.cB false)) rfl ?_
  refine nl ?_
  refine At.thn (hK1 _ _ ?_); clear hK1
  refine Tri.seq fun K2 hK2 => ?_
  refine Tri.region ?_
  refine st (OK1.mv (Has.t rfl)) rfl ?_
  refine st (OK1.as (Has.t rfl)) rfl ?_
  refine nl ?_
  refine At.thn (hK2 _ _ ?_); clear hK2
  refine Tri.seq fun K3 hK3 => ?_
  refine Tri.block ?_
  refine Tri.loopF [0, 1, 2, 6] (fun (z : { z : Nat × List ((Bool × List Nat) × Bool × List Nat) // z.1 ≤ 1000 ∧ z.2.Perm cs }) => match z with | ⟨(i, cs2), hI⟩ => [(7, isI (i : Int))]) (fun M => fun (z : { z : Nat × List ((Bool × List Nat) × Bool × List Nat) // z.1 ≤ 1000 ∧ z.2.Perm cs }) => match z with | ⟨(i, cs2), hI⟩ => [(some b, cellM [isGr g (cs2).length]), grMK rc g (cs2)]) (fun (z : { z : Nat × List ((Bool × List Nat) × Bool × List Nat) // z.1 ≤ 1000 ∧ z.2.Perm cs }) => match z with | ⟨(i, cs2), hI⟩ => 1001 - i) (⟨(i0, cs), hi0, List.Perm.refl _⟩) (Cv.mem (.cons (t := 7) (Has.t' rfl ?_) (.cons (t := 0) (Has.t rfl) (.cons (t := 1) (Has.t rfl) (.cons (t := 2) (Has.t rfl) (.cons (t := 6) (Has.t rfl) .nil))))) ?_) ?_
  · rfl
  · rfl
  rintro ⟨⟨i, cs2⟩, hI⟩ K4 hK4
  refine Tri.cv (Cv.wk (.cons (t := 7) (Has.t rfl) (.cons (t := 0) (Has.t rfl) (.cons (t := 1) (Has.t rfl) (.cons (t := 2) (Has.t rfl) (.cons (t := 6) (Has.t rfl) .nil)))))) ?_
  refine Tri.memEq (M' := [(some b, cellM [isGr g (cs2).length]), grMK rc g (cs2)]) rfl ?_
  simp only [] at hI
  obtain ⟨hi, hpm⟩ := hI
  have hB2 := hB.perm hpm
  have hll := hpm.length_eq
  refine Tri.block ?_
  refine Tri.seq fun K5 hK5 => ?_
  refine Tri.region ?_
  refine st (OK1.mv (Has.t rfl)) rfl ?_
  refine st (OK1.mulI (Has.cI 2 rfl) (Has.t rfl) (by first | omega | assumption) (by first | omega | assumption)) rfl ?_
  refine st (OK1.eq (OK1.addI (Has.t rfl) (Has.cI 1 rfl) (by first | omega | assumption) (by first | omega | assumption)) ((show isI _ = isI ((2 * i + 1 : Nat) : Int) from isI_eq (by omega)))) rfl ?_
  refine st (OK1.as (Has.t rfl)) rfl ?_
  refine nl ?_
  refine At.thn (hK5 _ _ ?_); clear hK5
  refine Tri.seq fun K6 hK6 => ?_
  refine Tri.seq fun K7 hK7 => ?_
  refine Tri.region ?_
  refine st (OK1.mv (Has.t rfl)) rfl ?_
  refine st (OK1.mv (Has.t rfl)) rfl ?_
  refine st (OK1.geI (Has.t rfl) (Has.t rfl)) rfl ?_
  refine st (OK1.mv (Has.t rfl)) rfl ?_
  refine stF rfl rfl (fun hg => have hg' := BP.t hg; OK1.mv (Has.t rfl)) rfl ?_
  refine stF rfl rfl (fun hg => have hg' := BP.t hg; OK1.ltI (Has.g rfl hg) (Has.cI 0 rfl)) rfl ?_
  refine st (OK1.pickOr (Has.t rfl) (fun h => Has.g rfl (ng h))) rfl ?_
  refine nl ?_
  refine At.thn (hK7 _ _ ?_); clear hK7
  refine Tri.cond (Has.t rfl) (fun hc1 => ?_) (fun hc1 => ?_)
  · have hc1 := BP.t hc1
    refine Tri.exit ?_
    refine At.the ?_
    refine At.blm rfl ?_
    refine At.the ?_
    refine At.blh ?_
    refine At.thn (hK3 _ _ ?_); clear hK3
    refine Tri.cv (Cv.wk (.cons (t := 1) (Has.t rfl) (.cons (t := 6) (Has.t rfl) (.cons (t := 7) (Has.t rfl) .nil)))) ?_
    refine Tri.seq fun K8 hK8 => ?_
    refine Tri.region ?_
    refine st (OK1.mv (Has.t rfl)) rfl ?_
    refine st (OK1.mv (Has.t rfl)) rfl ?_
    refine st (OK1.gtI (Has.t rfl) (Has.t rfl)) rfl ?_
    refine st (OK1.as (Has.t rfl)) rfl ?_
    refine nl ?_
    refine At.thn (hK8 _ _ ?_); clear hK8
    refine Tri.cv (Cv.wk (.cons (t := 6) (Has.t rfl) .nil)) ?_
    refine Tri.ret ?_
    refine rtX1D (.cons_cons _ (.cons_cons _ .slnil)) (.inl rfl) Try.results37 rfl (.tmp (Has.t rfl) .nil) ?_
    exact ⟨_, cs2, rfl, rfl, hpm⟩
  · have hc1 := BP.f hc1
    refine Tri.skip ?_
    refine At.thn (hK6 _ _ ?_); clear hK6
    refine Tri.seq fun K9 hK9 => ?_
    refine Tri.region ?_
    refine st (OK1.mv (Has.t rfl)) rfl ?_
    refine st (OK1.as (Has.t rfl)) rfl ?_
    refine nl ?_
    refine At.thn (hK9 _ _ ?_); clear hK9
    refine Tri.cutF [0, 1, 2, 6, 7, 12, 13, 14, 8, 15, 16, 17, 18, 19, 20, 21, 22] (fun (z : { j : Nat // i < j ∧ j < n }) => match z with | ⟨j, hj⟩ => [(9, isI (j : Int))]) (fun M => fun (z : { j : Nat // i < j ∧ j < n }) => match z with | ⟨j, hj⟩ => [(some b, cellM [isGr g (cs2).length]), grMK rc g (cs2)]) (fun K10 hK10 => ?_) ?_
    · skip
      refine Tri.seq fun K11 hK11 => ?_
      refine Tri.region ?_
      refine st (OK1.mv (Has.t rfl)) rfl ?_
      refine st (OK1.eq (OK1.addI (Has.t rfl) (Has.cI 1 rfl) (by first | omega | assumption) (by first | omega | assumption)) ((show isI _ = isI ((2 * i + 2 : Nat) : Int) from isI_eq (by omega)))) rfl ?_
      refine st (OK1.as (Has.t rfl)) rfl ?_
      refine nl ?_
      refine At.thn (hK11 _ _ ?_); clear hK11
      refine Tri.seq fun K12 hK12 => ?_
      refine Tri.region ?_
      refine st (OK1.mv (Has.t rfl)) rfl ?_
      refine st (OK1.mv (Has.t rfl)) rfl ?_
      refine st (OK1.ltI (Has.t rfl) (Has.t rfl)) rfl ?_
      refine st (OK1.mv (Has.t rfl)) rfl ?_
      refine stT rfl rfl (fun hg => have hg' := BP.t hg; OK1.mv (Has.t rfl)) rfl ?_
      refine stT rfl rfl (fun hg => have hg' := BP.t hg; OK1.mv (Has.t rfl)) rfl ?_
      refine stT rfl rfl (fun hg => have hg' := BP.t hg; OK1.mv (Has.t rfl)) rfl ?_
      refine stT rfl rfl (fun hg => have hg' := BP.t hg; OK1.invVB inv39_Less (Has.g rfl hg) (i := 0) rfl (lentK rc_len (i := 1) rfl rfl) (cls_Less hB2 (by omega) (by omega)) (.cons (HasB.of (Has.g rfl hg)) (.cons (HasB.of (Has.g rfl hg)) .nil))) rfl ?_
      refine st (OK1.pickAnd (Has.t rfl) (fun h => Has.g rfl h)) rfl ?_
      refine nl ?_
      refine At.thn (hK12 _ _ ?_); clear hK12
      refine Tri.cond (Has.t rfl) (fun hc2 => ?_) (fun hc2 => ?_)
      · have hc2 := BP.t hc2
        have HJ := hc2
        refine Tri.region ?_
        refine st (OK1.mv (Has.t rfl)) rfl ?_
        refine st (OK1.as (Has.t rfl)) rfl ?_
        refine nl ?_
        refine At.thn ?_
        refine hK10 (⟨2 * i + 2, by omega, by have := HJ.1; omega⟩) _ _ (Cv.mem (.cons (t := 9) (Has.t' rfl ?_) (.cons (t := 0) (Has.t rfl) (.cons (t := 1) (Has.t rfl) (.cons (t := 2) (Has.t rfl) (.cons (t := 6) (Has.t rfl) (.cons (t := 7) (Has.t rfl) (.cons (t := 12) (Has.t rfl) (.cons (t := 13) (Has.t rfl) (.cons (t := 14) (Has.t rfl) (.cons (t := 8) (Has.t rfl) (.cons (t := 15) (Has.t rfl) (.cons (t := 16) (Has.t rfl) (.cons (t := 17) (Has.t rfl) (.cons (t := 18) (Has.t rfl) (.cons (t := 19) (Has.t rfl) (.cons (t := 20) (Has.t rfl) (.cons (t := 21) (Has.t rfl) (.cons (t := 22) (Has.t rfl) .nil)))))))))))))))))) ?_)
        · rfl
        · rfl
      · have hc2 := BP.f hc2
        refine Tri.skip ?_
        refine At.thn ?_
        refine hK10 (⟨2 * i + 1, by omega, by omega⟩) _ _ (Cv.mem (.cons (t := 9) (Has.t' rfl ?_) (.cons (t := 0) (Has.t rfl) (.cons (t := 1) (Has.t rfl) (.cons (t := 2) (Has.t rfl) (.cons (t := 6) (Has.t rfl) (.cons (t := 7) (Has.t rfl) (.cons (t := 12) (Has.t rfl) (.cons (t := 13) (Has.t rfl) (.cons (t := 14) (Has.t rfl) (.cons (t := 8) (Has.t rfl) (.cons (t := 15) (Has.t rfl) (.cons (t := 16) (Has.t rfl) (.cons (t := 17) (Has.t rfl) (.cons (t := 18) (Has.t rfl) (.cons (t := 19) (Has.t rfl) (.cons (t := 20) (Has.t rfl) (.cons (t := 21) (Has.t rfl) (.cons (t := 22) (Has.t rfl) .nil)))))))))))))))))) ?_)
        · rfl
        · rfl
    rintro ⟨j, hj1, hj2⟩
    refine Tri.cv (Cv.wk (.cons (t := 9) (Has.t rfl) (.cons (t := 0) (Has.t rfl) (.cons (t := 1) (Has.t rfl) (.cons (t := 2) (Has.t rfl) (.cons (t := 6) (Has.t rfl) (.cons (t := 7) (Has.t rfl) (.cons (t := 12) (Has.t rfl) (.cons (t := 13) (Has.t rfl) (.cons (t := 14) (Has.t rfl) (.cons (t := 8) (Has.t rfl) (.cons (t := 15) (Has.t rfl) (.cons (t := 16) (Has.t rfl) (.cons (t := 17) (Has.t rfl) (.cons (t := 18) (Has.t rfl) (.cons (t := 19) (Has.t rfl) (.cons (t := 20) (Has.t rfl) (.cons (t := 21) (Has.t rfl) (.cons (t := 22) (Has.t rfl) .nil))))))))))))))))))) ?_
    refine Tri.memEq (M' := [(some b, cellM [isGr g (cs2).length]), grMK rc g (cs2)]) rfl ?_
    refine Tri.seq fun K13 hK13 => ?_
    refine Tri.seq fun K14 hK14 => ?_
    refine Tri.region ?_
    refine st (OK1.mv (Has.t rfl)) rfl ?_
    refine st (OK1.mv (Has.t rfl)) rfl ?_
    refine st (OK1.mv (Has.t rfl)) rfl ?_
    refine st (OK1.invVB inv39_Less (Has.t rfl) (i := 0) rfl (lentK rc_len (i := 1) rfl rfl) (cls_Less hB2 (by omega) (by omega)) (.cons (HasB.of (Has.t rfl)) (.cons (HasB.of (Has.t rfl)) .nil))) rfl ?_
    refine st (OK1.not (Has.t rfl)) rfl ?_
    refine nl ?_
    refine At.thn (hK14 _ _ ?_); clear hK14
    refine Tri.cond (Has.t rfl) (fun hc3 => ?_) (fun hc3 => ?_)
    · have hc3 := BP.t hc3
      refine Tri.exit ?_
      refine At.the ?_
      refine At.blm rfl ?_
      refine At.the ?_
      refine At.blh ?_
      refine At.thn (hK3 _ _ ?_); clear hK3
      refine Tri.cv (Cv.wk (.cons (t := 1) (Has.t rfl) (.cons (t := 6) (Has.t rfl) (.cons (t := 7) (Has.t rfl) .nil)))) ?_
      refine Tri.seq fun K15 hK15 => ?_
      refine Tri.region ?_
      refine st (OK1.mv (Has.t rfl)) rfl ?_
      refine st (OK1.mv (Has.t rfl)) rfl ?_
      refine st (OK1.gtI (Has.t rfl) (Has.t rfl)) rfl ?_
      refine st (OK1.as (Has.t rfl)) rfl ?_
      refine nl ?_
      refine At.thn (hK15 _ _ ?_); clear hK15
      refine Tri.cv (Cv.wk (.cons (t := 6) (Has.t rfl) .nil)) ?_
      refine Tri.ret ?_
      refine rtX1D (.cons_cons _ (.cons_cons _ .slnil)) (.inl rfl) Try.results37 rfl (.tmp (Has.t rfl) .nil) ?_
      exact ⟨_, cs2, rfl, rfl, hpm⟩
    · have hc3 := BP.f hc3
      refine Tri.skip ?_
      refine At.thn (hK13 _ _ ?_); clear hK13
      refine Tri.seq fun K16 hK16 => ?_
      refine Tri.region ?_
      refine st (OK1.mv (Has.t rfl)) rfl ?_
      refine st (OK1.mv (Has.t rfl)) rfl ?_
      refine st (OK1.mv (Has.t rfl)) rfl ?_
      refine Ops.invVX inv39_Swap (Has.t rfl) (i := 0) rfl (fun _ _ _ h => h) (cls_Swap (i := i) (k := j) (by omega) (by omega)) (List.Perm.swap _ _ _) (.cons (Has.t rfl) (.cons (Has.t rfl) .nil)) rfl ?_
      rintro _ _ ⟨rfl, rfl⟩
      refine Ops.memEq (M' := [grMK rc g (swC cs2 i j), (some b, cellM [isGr g cs2.length])]) rfl ?_
      refine nl ?_
      refine At.thn (hK16 _ _ ?_); clear hK16
      refine Tri.region ?_
      refine st (OK1.mv (Has.t rfl)) rfl ?_
      refine st (OK1.as (Has.t rfl)) rfl ?_
      refine nl ?_
      refine At.bln ?_
      refine At.thn ?_
      refine hK4 (⟨(j, swC cs2 i j), by show j ≤ 1000; omega, (swC_perm (by omega) (by omega)).trans hpm⟩) _ _ ?_ (Cv.trans (Cv.trans (Cv.perm (List.Perm.swap _ _ _)) (Cv.memEq (M' := [(some b, cellM [isGr g (swC cs2 i j).length]), grMK rc g (swC cs2 i j)]) (by rw [swC_len]))) (Cv.mem (.cons (t := 7) (Has.t' rfl ?_) (.cons (t := 0) (Has.t rfl) (.cons (t := 1) (Has.t rfl) (.cons (t := 2) (Has.t rfl) (.cons (t := 6) (Has.t rfl) .nil))))) ?_))
      · show 1001 - j < 1001 - i; omega
      · rfl
      · rfl
set_option maxHeartbeats 4000000 in
theorem heap_up {b : Nat} {g : Gr ((Bool × List Nat) × Bool × List Nat)} {cs : List ((Bool × List Nat) × Bool × List Nat)} (hB : CB 100000000 cs) (hl : cs.length ≤ 1000) {j0 : Nat} (hj0 : j0 < cs.length) : CtrX Try.prog 41 [isIf 39 (isPtr b 0), isI (j0 : Int)] ([(some b, cellM [isGr g (cs).length]), grMK rc g (cs)]) (fun S M => ∃ cs2, S = isTup [] ∧ M = [(some b, cellM [isGr g (cs2).length]), grMK rc g (cs2)] ∧ cs2.Perm cs) := by
  refine CtrX.intro Try.func41 rfl (by kernel_rfl) Try.ntmps41 rfl fun w0 F0 => ?_
  refine Tri.cv (Cv.wk (.cons (t := 0) (Has.t rfl) (.cons (t := 1) (Has.t rfl) .nil))) ?_
  refine Tri.fact (Has.rngI (Has.t (t := 1) rfl)) fun lt1 => ?_
  refine Tri.block ?_
  refine Tri.loopF [0] (fun (z : { z : Nat × List ((Bool × List Nat) × Bool × List Nat) // z.1 < cs.length ∧ z.2.Perm cs }) => match z with | ⟨(j, cs2), hI⟩ => [(1, isI (j : Int))]) (fun M => fun (z : { z : Nat × List ((Bool × List Nat) × Bool × List Nat) // z.1 < cs.length ∧ z.2.Perm cs }) => match z with | ⟨(j, cs2), hI⟩ => [(some b, cellM [isGr g (cs2).length]), grMK rc g (cs2)]) (fun (z : { z : Nat × List ((Bool × List Nat) × Bool × List Nat) // z.1 < cs.length ∧ z.2.Perm cs }) => match z with | ⟨(j, cs2), hI⟩ => j) (⟨(j0, cs), hj0, List.Perm.refl _⟩) (Cv.mem (.cons (t := 1) (Has.t' rfl ?_) (.cons (t := 0) (Has.t rfl) .nil)) ?_) ?_
  · rfl
  · rfl
  rintro ⟨⟨j, cs2⟩, hI⟩ K1 hK1
  refine Tri.cv (Cv.wk (.cons (t := 1) (Has.t rfl) (.cons (t := 0) (Has.t rfl) .nil))) ?_
  refine Tri.memEq (M' := [(some b, cellM [isGr g (cs2).length]), grMK rc g (cs2)]) rfl ?_
  simp only [] at hI
  obtain ⟨hj, hpm⟩ := hI
  have hB2 := hB.perm hpm
  have hll := hpm.length_eq
  refine Tri.block ?_
  refine Tri.seq fun K2 hK2 => ?_
  refine Tri.region ?_
  refine st (OK1.mv (Has.t rfl)) rfl ?_
  refine st (OK1.subI (Has.t rfl) (Has.cI 1 rfl) (by first | omega | assumption) (by first | omega | assumption)) rfl ?_
  refine st (OK1.eq (OK1.quoZ (Has.t rfl) (Has.cI 2 rfl) (by decide) (by rw [up_eq]; omega) (by rw [up_eq]; omega)) ((show isI _ = isI (((j - 1) / 2 : Nat) : Int) from isI_eq (up_eq j)))) rfl ?_
  refine st (OK1.as (Has.t rfl)) rfl ?_
  refine nl ?_
  refine At.thn (hK2 _ _ ?_); clear hK2
  refine Tri.seq fun K3 hK3 => ?_
  refine Tri.seq fun K4 hK4 => ?_
  refine Tri.region ?_
  refine st (OK1.mv (Has.t rfl)) rfl ?_
  refine st (OK1.mv (Has.t rfl)) rfl ?_
  refine st (OK1.eqI (Has.t rfl) (Has.t rfl)) rfl ?_
  refine st (OK1.mv (Has.t rfl)) rfl ?_
  refine stF rfl rfl (fun hg => have hg' := BP.t hg; OK1.mv (Has.t rfl)) rfl ?_
  refine stF rfl rfl (fun hg => have hg' := BP.t hg; OK1.mv (Has.t rfl)) rfl ?_
  refine stF rfl rfl (fun hg => have hg' := BP.t hg; OK1.mv (Has.t rfl)) rfl ?_
  refine stF rfl rfl (fun hg => have hg' := BP.t hg; OK1.invVB inv39_Less (Has.g rfl hg) (i := 0) rfl (lentK rc_len (i := 1) rfl rfl) (cls_Less hB2 (by omega) (by omega)) (.cons (HasB.of (Has.g rfl hg)) (.cons (HasB.of (Has.g rfl hg)) .nil))) rfl ?_
  refine stF rfl rfl (fun hg => have hg' := BP.t hg; OK1.not (Has.g rfl hg)) rfl ?_
  refine st (OK1.pickOr (Has.t rfl) (fun h => Has.g rfl (ng h))) rfl ?_
  refine nl ?_
  refine At.thn (hK4 _ _ ?_); clear hK4
  refine Tri.cond (Has.t rfl) (fun hc1 => ?_) (fun hc1 => ?_)
  · have hc1 := BP.t hc1
    refine Tri.exit ?_
    refine At.the ?_
    refine At.blm rfl ?_
    refine At.the ?_
    refine At.blh ?_
    refine rtX0D (.cons_cons _ (.cons_cons _ .slnil)) (.inr rfl) Try.results41 rfl ?_
    exact ⟨cs2, rfl, rfl, hpm⟩
  · have hc1 := BP.f hc1
    have HN := hc1.1
    refine Tri.skip ?_
    refine At.thn (hK3 _ _ ?_); clear hK3
    refine Tri.seq fun K5 hK5 => ?_
    refine Tri.region ?_
    refine st (OK1.mv (Has.t rfl)) rfl ?_
    refine st (OK1.mv (Has.t rfl)) rfl ?_
    refine st (OK1.mv (Has.t rfl)) rfl ?_
    refine Ops.invVX inv39_Swap (Has.t rfl) (i := 0) rfl (fun _ _ _ h => h) (cls_Swap (i := (j - 1) / 2) (k := j) (by omega) (by omega)) (List.Perm.swap _ _ _) (.cons (Has.t rfl) (.cons (Has.t rfl) .nil)) rfl ?_
    rintro _ _ ⟨rfl, rfl⟩
    refine Ops.memEq (M' := [grMK rc g (swC cs2 ((j - 1) / 2) j), (some b, cellM [isGr g cs2.length])]) rfl ?_
    refine nl ?_
    refine At.thn (hK5 _ _ ?_); clear hK5
    refine Tri.region ?_
    refine st (OK1.mv (Has.t rfl)) rfl ?_
    refine st (OK1.as (Has.t rfl)) rfl ?_
    refine nl ?_
    refine At.bln ?_
    refine At.thn ?_
    refine hK1 (⟨((j - 1) / 2, swC cs2 ((j - 1) / 2) j), by show (j - 1) / 2 < cs.length; omega, (swC_perm (by omega) (by omega)).trans hpm⟩) _ _ ?_ (Cv.trans (Cv.trans (Cv.perm (List.Perm.swap _ _ _)) (Cv.memEq (M' := [(some b, cellM [isGr g (swC cs2 ((j - 1) / 2) j).length]), grMK rc g (swC cs2 ((j - 1) / 2) j)]) (by rw [swC_len]))) (Cv.mem (.cons (t := 1) (Has.t' rfl ?_) (.cons (t := 0) (Has.t rfl) .nil)) ?_))
    · show (j - 1) / 2 < j; omega
    · rfl
    · rfl
theorem inv39_Len : InvV Try.prog 39 "Len" 18 := fun _ _ _ => by kernel_rfl
set_option maxHeartbeats 4000000 in
theorem heap_Init {b : Nat} {g : Gr ((Bool × List Nat) × Bool × List Nat)} {cs : List ((Bool × List Nat) × Bool × List Nat)} (hB : CB 100000000 cs) (hl : cs.length ≤ 1000) : CtrX Try.prog 17 [isIf 39 (isPtr b 0)] ([(some b, cellM [isGr g (cs).length]), grMK rc g (cs)]) (fun S M => ∃ cs2, S = isTup [] ∧ M = [(some b, cellM [isGr g (cs2).length]), grMK rc g (cs2)] ∧ cs2.Perm cs) := by
  refine CtrX.intro Try.func17 rfl (by kernel_rfl) Try.ntmps17 rfl fun w0 F0 => ?_
  refine Tri.cv (Cv.wk (.cons (t := 0) (Has.t rfl) .nil)) ?_
  refine Tri.seq fun K1 hK1 => ?_
  refine Tri.region ?_
  refine st (OK1.mv (Has.t rfl)) rfl ?_
  refine st (OK1.invVB inv39_Len (Has.t rfl) (i := 0) rfl (fun _ _ _ _ _ h => h) cls_Len .nil) rfl ?_
  refine st (OK1.as (Has.t rfl)) rfl ?_
  refine nl ?_
  refine At.thn (hK1 _ _ ?_); clear hK1
  refine Tri.seq fun K2 hK2 => ?_
  refine Tri.region ?_
  refine st (OK1.mv (Has.t rfl)) rfl ?_
  refine st (OK1.eq (OK1.quoI (Has.t rfl) (Has.cI 2 rfl) (by first | omega | assumption) (by first | omega | assumption) (by first | omega | assumption)) ((show isI _ = isI ((cs.length / 2 : Nat) : Int) from isI_eq rfl))) rfl ?_
  refine st (OK1.subI (Has.t rfl) (Has.cI 1 rfl) (by first | omega | assumption) (by first | omega | assumption)) rfl ?_
  refine st (OK1.as (Has.t rfl)) rfl ?_
  refine nl ?_
  refine At.thn (hK2 _ _ ?_); clear hK2
  refine Tri.cv (Cv.wk (.cons (t := 0) (Has.t rfl) (.cons (t := 2) (Has.t rfl) (.cons (t := 3) (Has.t rfl) .nil)))) ?_
  refine Tri.block ?_
  refine Tri.loopF [0, 2] (fun (z : { z : Nat × List ((Bool × List Nat) × Bool × List Nat) // z.1 ≤ cs.length / 2 ∧ z.2.Perm cs }) => match z with | ⟨(k, cs2), hI⟩ => [(3, isI ((k : Int) - 1))]) (fun M => fun (z : { z : Nat × List ((Bool × List Nat) × Bool × List Nat) // z.1 ≤ cs.length / 2 ∧ z.2.Perm cs }) => match z with | ⟨(k, cs2), hI⟩ => [(some b, cellM [isGr g (cs2).length]), grMK rc g (cs2)]) (fun (z : { z : Nat × List ((Bool × List Nat) × Bool × List Nat) // z.1 ≤ cs.length / 2 ∧ z.2.Perm cs }) => match z with | ⟨(k, cs2), hI⟩ => k) (⟨(cs.length / 2, cs), Nat.le_refl _, List.Perm.refl _⟩) (Cv.mem (.cons (t := 3) (Has.t' rfl ?_) (.cons (t := 0) (Has.t rfl) (.cons (t := 2) (Has.t rfl) .nil))) ?_) ?_
  · rfl
  · rfl
  rintro ⟨⟨k, cs2⟩, hI⟩ K3 hK3
  refine Tri.cv (Cv.wk (.cons (t := 3) (Has.t rfl) (.cons (t := 0) (Has.t rfl) (.cons (t := 2) (Has.t rfl) .nil)))) ?_
  refine Tri.memEq (M' := [(some b, cellM [isGr g (cs2).length]), grMK rc g (cs2)]) rfl ?_
  simp only [] at hI
  obtain ⟨hk, hpm⟩ := hI
  have hB2 := hB.perm hpm
  have hll := hpm.length_eq
  refine Tri.seq fun K4 hK4 => ?_
  refine Tri.seq fun K5 hK5 => ?_
  refine Tri.region ?_
  refine st (OK1.mv (Has.t rfl)) rfl ?_
  refine st (OK1.geI (Has.t rfl) (Has.cI 0 rfl)) rfl ?_
  refine nl ?_
  refine At.thn (hK5 _ _ ?_); clear hK5
  refine Tri.cond (Has.t rfl) (fun hc1 => ?_) (fun hc1 => ?_)
  · have hc1 := BP.t hc1
    refine Tri.skip ?_
    refine At.thn (hK4 _ _ ?_); clear hK4
    refine Tri.seq fun K6 hK6 => ?_
    refine Tri.block ?_
    refine Tri.region ?_
    refine st (OK1.mv (Has.t rfl)) rfl ?_
    refine st (OK1.eq (OK1.mv (Has.t rfl)) ((show isI _ = isI ((k - 1 : Nat) : Int) from isI_eq (by omega)))) rfl ?_
    refine st (OK1.mv (Has.t rfl)) rfl ?_
    refine Ops.callX (heap_down hB2 (by omega) (i0 := k - 1) (n := cs.length) (by omega) (by omega)) (List.Perm.refl _) (.cons (Has.t rfl) (.cons (Has.t rfl) (.cons (Has.t rfl) .nil))) rfl ?_
    rintro _ _ ⟨bb, cs3, rfl, rfl, hpm3⟩
    refine Ops.memEq (M' := [(some b, cellM [isGr g (cs3).length]), grMK rc g (cs3)]) rfl ?_
    refine nl ?_
    refine At.bln ?_
    refine At.thn (hK6 _ _ ?_); clear hK6
    refine Tri.region ?_
    refine st (OK1.mv (Has.t rfl)) rfl ?_
    refine st (OK1.subI (Has.t rfl) (Has.cI 1 rfl) (by first | omega | assumption) (by first | omega | assumption)) rfl ?_
    refine st (OK1.as (Has.t rfl)) rfl ?_
    refine nl ?_
    refine At.thn ?_
    refine hK3 (⟨(k - 1, cs3), by show k - 1 ≤ _; omega, hpm3.trans hpm⟩) _ _ ?_ (Cv.mem (.cons (t := 3) (Has.t' rfl ?_) (.cons (t := 0) (Has.t rfl) (.cons (t := 2) (Has.t rfl) .nil))) ?_)
    · show k - 1 < k; omega
    · exact isI_eq (by omega)
    · rfl
  · have hc1 := BP.f hc1
    refine Tri.exit ?_
    refine At.the ?_
    refine At.the ?_
    refine At.blh ?_
    refine rtX0D (.cons_cons _ (.cons_cons _ .slnil)) (.inr rfl) Try.results17 rfl ?_
    exact ⟨cs2, rfl, rfl, hpm⟩
theorem inv39_Push : InvP Try.prog 39 "Push" 106 := fun _ _ _ => by kernel_rfl
set_option maxHeartbeats 4000000 in
theorem heap_Push {b : Nat} {g : Gr ((Bool × List Nat) × Bool × List Nat)} {cs : List ((Bool × List Nat) × Bool × List Nat)} {c : ((Bool × List Nat) × Bool × List Nat)} (hB : CB 100000000 cs) (hl : cs.length < 1000) (hc : (List.length (words (val c.2.2))) ≤ 100000000) : CtrX Try.prog 21 [isIf 39 (isPtr b 0), isIf 41 (Flat (rc c))] ([(some b, cellM [isGr g (cs).length]), grMK rc g (cs)]) (fun S M => ∃ g2 cs2, S = isTup [] ∧ M = [(some b, cellM [isGr g2 (cs2).length]), grMK rc g2 (cs2)] ∧ cs2.Perm (cs ++ [c])) := by
  refine CtrX.intro Try.func21 rfl (by kernel_rfl) Try.ntmps21 rfl fun w0 F0 => ?_
  refine Tri.cv (Cv.wk (.cons (t := 0) (Has.t rfl) (.cons (t := 1) (Has.t rfl) .nil))) ?_
  have hal : (cs ++ [c]).length = cs.length + 1 := List.length_append
  refine Tri.seq fun K1 hK1 => ?_
  refine Tri.region ?_
  refine st (OK1.mv (Has.t rfl)) rfl ?_
  refine st (OK1.mv (Has.t rfl)) rfl ?_
  refine Ops.invPX inv39_Push (Has.t rfl) (cls_Push (by omega)) (List.Perm.refl _) (.cons (Has.t rfl) .nil) rfl ?_
  rintro _ _ ⟨g2, rfl, rfl⟩
  refine Ops.memEq (M' := [(some b, cellM [isGr g2 (cs ++ [c]).length]), grMK rc g2 (cs ++ [c])]) rfl ?_
  refine nl ?_
  refine At.thn (hK1 _ _ ?_); clear hK1
  refine Tri.region ?_
  refine st (OK1.mv (Has.t rfl)) rfl ?_
  refine st (OK1.mv (Has.t rfl)) rfl ?_
  refine st (OK1.invVB inv39_Len (Has.t rfl) (i := 0) rfl (fun _ _ _ _ _ h => h) cls_Len .nil) rfl ?_
  refine st (OK1.eq (OK1.subI (Has.t rfl) (Has.cI 1 rfl) (by first | omega | assumption) (by first | omega | assumption)) ((show isI _ = isI ((cs.length : Nat) : Int) from isI_eq (by omega)))) rfl ?_
  refine Ops.callX (heap_up (hB.add hc) (by omega) (j0 := cs.length) (by omega)) (List.Perm.refl _) (.cons (Has.t rfl) (.cons (Has.t rfl) .nil)) rfl ?_
  rintro _ _ ⟨cs3, rfl, rfl, hpm3⟩
  refine Ops.memEq (M' := [(some b, cellM [isGr g2 (cs3).length]), grMK rc g2 (cs3)]) rfl ?_
  refine nl ?_
  refine rtX0D (.cons_cons _ (.cons_cons _ .slnil)) (.inr rfl) Try.results21 rfl ?_
  exact ⟨g2, cs3, rfl, rfl, hpm3⟩
theorem inv39_Pop : InvP Try.prog 39 "Pop" 105 := fun _ _ _ => by kernel_rfl
set_option maxHeartbeats 4000000 in
theorem heap_Pop {b : Nat} {g : Gr ((Bool × List Nat) × Bool × List Nat)} {cs : List ((Bool × List Nat) × Bool × List Nat)} (hB : CB 100000000 cs) (hl : cs.length ≤ 1000) (h0 : 0 < cs.length) : CtrX Try.prog 38 [isIf 39 (isPtr b 0)] ([(some b, cellM [isGr g (cs).length]), grMK rc g (cs)]) (fun S M => ∃ g2 c cs2, S = isIf 41 (Flat (rc c)) ∧ M = [(some b, cellM [isGr g2 (cs2).length]), grMK rc g2 (cs2)] ∧ (cs2 ++ [c]).Perm cs) := by
  refine CtrX.intro Try.func38 rfl (by kernel_rfl) Try.ntmps38 rfl fun w0 F0 => ?_
  refine Tri.cv (Cv.wk (.cons (t := 0) (Has.t rfl) .nil)) ?_
  refine Tri.seq fun K1 hK1 => ?_
  refine Tri.region ?_
  refine st (OK1.as Has.cNil) rfl ?_
  refine nl ?_
  refine At.thn (hK1 _ _ ?_); clear hK1
  refine Tri.seq fun K2 hK2 => ?_
  refine Tri.region ?_
  refine st (OK1.mv (Has.t rfl)) rfl ?_
  refine st (OK1.invVB inv39_Len (Has.t rfl) (i := 0) rfl (fun _ _ _ _ _ h => h) cls_Len .nil) rfl ?_
  refine st (OK1.eq (OK1.subI (Has.t rfl) (Has.cI 1 rfl) (by first | omega | assumption) (by first | omega | assumption)) ((show isI _ = isI ((cs.length - 1 : Nat) : Int) from isI_eq (by omega)))) rfl ?_
  refine st (OK1.as (Has.t rfl)) rfl ?_
  refine nl ?_
  refine At.thn (hK2 _ _ ?_); clear hK2
  refine Tri.seq fun K3 hK3 => ?_
  refine Tri.region ?_
  refine st (OK1.mv (Has.t rfl)) rfl ?_
  refine st (OK1.mv (Has.t rfl)) rfl ?_
  refine Ops.invVX inv39_Swap (Has.t rfl) (i := 0) rfl (fun _ _ _ h => h) (cls_Swap (i := 0) (k := cs.length - 1) (by omega) (by omega)) (List.Perm.swap _ _ _) (.cons (Has.cI 0 rfl) (.cons (Has.t rfl) .nil)) rfl ?_
  rintro _ _ ⟨rfl, rfl⟩
  refine Ops.cv (Cv.perm (List.Perm.swap _ _ _)) ?_
  have hp1 := swC_perm (cs := cs) (i := 0) (k := cs.length - 1) (by omega) (by omega)
  have hl1 := swC_len cs 0 (cs.length - 1)
  refine Ops.memEq (M' := [(some b, cellM [isGr g (swC cs 0 (cs.length - 1)).length]), grMK rc g (swC cs 0 (cs.length - 1))]) (by rw [swC_len]) ?_
  refine nl ?_
  refine At.thn (hK3 _ _ ?_); clear hK3
  refine Tri.cv (Cv.wk (.cons (t := 0) (Has.t rfl) (.cons (t := 2) (Has.t rfl) (.cons (t := 3) (Has.t rfl) .nil)))) ?_
  refine Tri.seq fun K4 hK4 => ?_
  refine Tri.region ?_
  refine st (OK1.mv (Has.t rfl)) rfl ?_
  refine st (OK1.mv (Has.t rfl)) rfl ?_
  refine Ops.callX (heap_down (hB.perm hp1) (by omega) (i0 := 0) (n := cs.length - 1) (by omega) (by omega)) (List.Perm.refl _) (.cons (Has.t rfl) (.cons (Has.cI 0 rfl) (.cons (Has.t rfl) .nil))) rfl ?_
  rintro _ _ ⟨bb, cs3, rfl, rfl, hpm3⟩
  have hl3 := hpm3.length_eq
  refine Ops.memEq (M' := [(some b, cellM [isGr g (cs3).length]), grMK rc g (cs3)]) rfl ?_
  refine nl ?_
  refine At.thn (hK4 _ _ ?_); clear hK4
  refine Tri.seq fun K5 hK5 => ?_
  refine Tri.region ?_
  refine st (OK1.mv (Has.t rfl)) rfl ?_
  refine Ops.invPX inv39_Pop (Has.t rfl) (cls_Pop (by omega) (by omega)) (List.Perm.refl _) .nil rfl ?_
  rintro _ _ ⟨g2, rfl, rfl⟩
  refine Ops.memEq (M' := [(some b, cellM [isGr g2 (cs3.take (cs3.length - 1)).length]), grMK rc g2 (cs3.take (cs3.length - 1))]) rfl ?_
  refine st (OK1.as (Has.t rfl)) rfl ?_
  refine nl ?_
  refine At.thn (hK5 _ _ ?_); clear hK5
  refine Tri.cv (Cv.wk (.cons (t := 2) (Has.t rfl) .nil)) ?_
  refine Tri.ret ?_
  refine rtX1D (.cons_cons _ (.cons_cons _ .slnil)) (.inl rfl) Try.results38 rfl (.tmp (Has.t rfl) .nil) ?_
  exact ⟨g2, cs3.getD (cs3.length - 1) ce0, cs3.take (cs3.length - 1), rfl, rfl, by rw [take_last (by omega)]; exact hpm3.trans hp1⟩
theorem perm_b1 {α : Type} (a b c : α) : [a, b, c].Perm ([b, c] ++ [a]) := (List.Perm.swap b a [c]).trans (.cons b (.swap c a []))
theorem solid39 : solidB Try.prog 39 = true := by kernel_rfl
set_option maxHeartbeats 4000000 in
theorem modn_least {b : Nat} {g : Gr ((Bool × List Nat) × Bool × List Nat)} {cs : List ((Bool × List Nat) × Bool × List Nat)} (hB : CB 100000000 cs) (hl : cs.length ≤ 1000) (h0 : 0 < cs.length) : CtrX Try.prog 19 [isPtr b 0] ([(some b, cellM [isGr g (cs).length]), grMK rc g (cs)]) (fun S M => ∃ g2 c cs2, S = Flat (rc c) ∧ M = [(some b, cellM [isGr g2 (cs2).length]), grMK rc g2 (cs2)] ∧ (cs2 ++ [c]).Perm cs) := by
  refine CtrX.intro Try.func19 rfl (by kernel_rfl) Try.ntmps19 rfl fun w0 F0 => ?_
  refine Tri.cv (Cv.wk (.cons (t := 0) (Has.t rfl) .nil)) ?_
  refine Tri.seq fun K1 hK1 => ?_
  refine Tri.region ?_
  refine Ops.alloc [isB false, SlM isU [], isB false, SlM isU []] zero41 (fun _ _ => ⟨rfl, nilM _ _, rfl, nilM _ _, trivial⟩) rfl fun b1 => ?_
  refine nl ?_
  refine At.thn (hK1 _ _ ?_); clear hK1
  refine Tri.seq fun K2 hK2 => ?_
  refine Tri.region ?_
  refine st (OK1.mv (Has.t rfl)) rfl ?_
  refine st (OK1.mkIf solid39 (Has.t rfl)) rfl ?_
  refine Ops.callX (heap_Pop hB hl h0) (perm_b1 _ _ _) (.cons (Has.t rfl) .nil) rfl ?_
  rintro _ _ ⟨g2, c, cs2, rfl, rfl, hpm⟩
  refine Ops.memEq (M' := [(some b, cellM [isGr g2 cs2.length]), grMK rc g2 cs2, _]) rfl ?_
  refine st (OK1.tassert solid41 (Has.t rfl)) rfl ?_
  refine st (OK1.mv (Has.t rfl)) rfl ?_
  refine st (OK1.ext (Has.t rfl) rfl) rfl ?_
  refine st (OK1.ext (Has.t rfl) rfl) rfl ?_
  refine Ops.alloc [isB false, SlM isU [], isB false, SlM isU []] zero41 (fun _ _ => ⟨rfl, nilM _ _, rfl, nilM _ _, trivial⟩) rfl fun b2 => ?_
  refine Ops.store (Has.t rfl) (Has.t rfl) (i := 0) rfl ty41 rfl rfl (Ss' := [_, _, _, _]) rfl (M' := [(some _, cellM [_, _, _, _]), _, _, _]) rfl ?_
  refine st (OK1.as (Has.t rfl)) rfl ?_
  refine nl ?_
  refine At.thn (hK2 _ _ ?_); clear hK2
  refine Tri.cv (Cv.wk (.cons (t := 2) (Has.t rfl) (.cons (t := 3) (Has.t rfl) .nil))) ?_
  refine Tri.seq fun K3 hK3 => ?_
  refine Tri.region ?_
  refine st (OK1.load (Has.t rfl) (i := 0) rfl ty41 rfl (Ss' := [_, _, _, _]) rfl) rfl ?_
  refine Ops.store (Has.t rfl) (Has.t rfl) (i := 3) rfl ty41 rfl rfl (Ss' := [_, _, _, _]) rfl (M' := [_, _, _, (some _, cellM [_, _, _, _])]) rfl ?_
  refine nl ?_
  refine At.thn (hK3 _ _ ?_); clear hK3
  refine Tri.ret ?_
  refine rtX1D (.cons _ (.cons_cons _ (.cons_cons _ (.cons _ .slnil)))) (.inl rfl) Try.results19 rfl (.cell rfl (i := 3) rfl ty41 rfl rfl .nil) ?_
  exact ⟨g2, c, cs2, rfl, rfl, hpm⟩
end Go.Proofs.Ytbnhdbchoghkfaa
/- Classes of numbers: what two have in common; when many have. No program here. -/
namespace Go.Cr
open Go.Nt
abbrev G (a b : Int) : Int := ((Nat.gcd a.natAbs b.natAbs : Nat) : Int)
theorem G_left (a b : Int) : G a b ∣ a := Int.ofNat_dvd_left.2 (Nat.gcd_dvd_left _ _)
theorem G_right (a b : Int) : G a b ∣ b := Int.ofNat_dvd_left.2 (Nat.gcd_dvd_right _ _)
theorem G_pos {a b : Int} (h : 0 < a) : 0 < G a b := by
  have := Nat.gcd_pos_of_pos_left b.natAbs (show 0 < a.natAbs by omega)
  show 0 < ((Nat.gcd a.natAbs b.natAbs : Nat) : Int); omega
theorem xg_spec {A B : Int} (hB : 0 < B) : B ∣ G A B - xg A B * A := by
  obtain ⟨h1, h2, _⟩ := cof_all A B
  rw [h1] at h2
  obtain ⟨k, hk⟩ := h2
  have hk : G A B - (cof A B 1 0).2 * A = B * k := hk
  obtain ⟨u, hu⟩ := G_left A B
  obtain ⟨v, hv⟩ := G_right A B
  have hgp : 0 < G A B := by
    have := Nat.gcd_pos_of_pos_right A.natAbs (show 0 < B.natAbs by omega)
    show 0 < ((Nat.gcd A.natAbs B.natAbs : Nat) : Int); omega
  have hd : (B.natAbs : Int) / G A B = v := by
    rw [show (B.natAbs : Int) = B by omega, Int.ediv_eq_of_eq_mul_right (by omega) hv]
  have e : xg A B = (cof A B 1 0).2 % v := by
    unfold xg
    have : ((Nat.gcd A.natAbs B.natAbs : Nat) : Int) = G A B := rfl
    rw [this, hd]
  rw [e]
  generalize (cof A B 1 0).2 = c at *
  have hq := Int.mul_ediv_add_emod c v
  have e2 : c % v = c - v * (c / v) := by omega
  refine ⟨k + (c / v) * u, ?_⟩
  rw [e2]
  generalize c / v = w at *
  have hk' : G A B = B * k + c * A := by omega
  generalize hG : G A B = g at *
  rw [hk']
  have : v * w * A = B * (w * u) := by
    have e3 : B = g * v := hv
    have e4 : A = g * u := hu
    rw [e3]; conv => lhs; rw [e4]
    grind
  grind
/-- the numbers of both classes, as one -/
def mBy (m1 m2 : Int) : Int := m2.tdiv (G m1 m2)
def mM (m1 m2 : Int) : Int := m1 * mBy m1 m2
def mK (r1 m1 r2 m2 : Int) : Int := (r2 - r1).tdiv (G m1 m2) * xg m1 m2 % mBy m1 m2
def mR (r1 m1 r2 m2 : Int) : Int := (r1 + m1 * mK r1 m1 r2 m2) % mM m1 m2
theorem mBy_eq {m1 m2 : Int} (h1 : 0 < m1) : m2 = G m1 m2 * mBy m1 m2 := by
  obtain ⟨v, hv⟩ := G_right m1 m2
  have hg := G_pos (b := m2) h1
  unfold mBy
  have : m2.tdiv (G m1 m2) = v := by
    rw [congrArg (fun z => Int.tdiv z (G m1 m2)) hv]
    exact Int.mul_tdiv_cancel_left v (by omega)
  rw [this]; exact hv
theorem mBy_pos {m1 m2 : Int} (h1 : 0 < m1) (h2 : 0 < m2) : 0 < mBy m1 m2 := by
  have h := mBy_eq (m2 := m2) h1
  have hg := G_pos (b := m2) h1
  rcases Int.lt_or_le 0 (mBy m1 m2) with g | g
  · exact g
  · have := Int.mul_le_mul_of_nonneg_left g (show (0 : Int) ≤ G m1 m2 by omega)
    rw [Int.mul_zero] at this; omega
theorem mM_pos {m1 m2 : Int} (h1 : 0 < m1) (h2 : 0 < m2) : 0 < mM m1 m2 := Int.mul_pos h1 (mBy_pos h1 h2)
theorem mM_left (m1 m2 : Int) : m1 ∣ mM m1 m2 := ⟨_, rfl⟩
theorem mM_right {m1 m2 : Int} (h1 : 0 < m1) : m2 ∣ mM m1 m2 := by
  obtain ⟨u, hu⟩ := G_left m1 m2
  have h := mBy_eq (m2 := m2) h1
  refine ⟨u, ?_⟩
  unfold mM
  generalize mBy m1 m2 = v at *
  generalize G m1 m2 = g at *
  grind
theorem mM_least {m1 m2 L : Int} (h1 : 0 < m1) (h2 : 0 < m2) (k1 : m1 ∣ L) (k2 : m2 ∣ L) : mM m1 m2 ∣ L := by
  have h := mBy_eq (m2 := m2) h1
  have hg := G_pos (b := m2) h1
  have e : (mM m1 m2).natAbs = Nat.lcm m1.natAbs m2.natAbs := by
    have h3 : G m1 m2 * mM m1 m2 = m1 * m2 := by
      unfold mM
      generalize mBy m1 m2 = v at *
      generalize G m1 m2 = g at *
      grind
    have h4 : Nat.gcd m1.natAbs m2.natAbs * (mM m1 m2).natAbs = m1.natAbs * m2.natAbs := by
      have := congrArg Int.natAbs h3
      rwa [Int.natAbs_mul, Int.natAbs_mul, Int.natAbs_natCast] at this
    have h5 := Nat.gcd_mul_lcm m1.natAbs m2.natAbs
    have hgn : 0 < Nat.gcd m1.natAbs m2.natAbs := Nat.gcd_pos_of_pos_left _ (by omega)
    exact Nat.eq_of_mul_eq_mul_left hgn (h4.trans h5.symm)
  refine Int.natAbs_dvd_natAbs.1 ?_
  rw [e]
  exact Nat.lcm_dvd (Int.natAbs_dvd_natAbs.2 k1) (Int.natAbs_dvd_natAbs.2 k2)
theorem mR_spec {r1 m1 r2 m2 : Int} (h1 : 0 < m1) (h2 : 0 < m2) (hd : G m1 m2 ∣ r2 - r1) : 0 ≤ mR r1 m1 r2 m2 ∧ mR r1 m1 r2 m2 < mM m1 m2 ∧ m1 ∣ mR r1 m1 r2 m2 - r1 ∧ m2 ∣ mR r1 m1 r2 m2 - r2 := by
  have hM := mM_pos h1 h2
  refine ⟨Int.emod_nonneg _ (by omega), Int.emod_lt_of_pos _ hM, ?_, ?_⟩
  all_goals
    have hq := Int.mul_ediv_add_emod (r1 + m1 * mK r1 m1 r2 m2) (mM m1 m2)
    have e : mR r1 m1 r2 m2 = r1 + m1 * mK r1 m1 r2 m2 - mM m1 m2 * ((r1 + m1 * mK r1 m1 r2 m2) / mM m1 m2) := by unfold mR; omega
    rw [e]
    generalize (r1 + m1 * mK r1 m1 r2 m2) / mM m1 m2 = q
  · obtain ⟨u, hu⟩ := mM_left m1 m2
    refine ⟨mK r1 m1 r2 m2 - u * q, ?_⟩
    rw [hu]; grind
  · obtain ⟨s, hs⟩ := hd
    have hg := G_pos (b := m2) h1
    have hst : (r2 - r1).tdiv (G m1 m2) = s := by
      rw [hs]; exact Int.mul_tdiv_cancel_left s (by omega)
    obtain ⟨w, hw⟩ := xg_spec (A := m1) h2
    have hkq := Int.mul_ediv_add_emod (s * xg m1 m2) (mBy m1 m2)
    have hk : mK r1 m1 r2 m2 = s * xg m1 m2 - mBy m1 m2 * (s * xg m1 m2 / mBy m1 m2) := by
      unfold mK; rw [hst]; omega
    rw [hk]
    generalize s * xg m1 m2 / mBy m1 m2 = t
    obtain ⟨u, hu⟩ := mM_right (m2 := m2) h1
    have hMe : mM m1 m2 = m1 * mBy m1 m2 := rfl
    refine ⟨-(w * s) - u * t - u * q, ?_⟩
    generalize mBy m1 m2 = v at *
    generalize G m1 m2 = g at *
    generalize xg m1 m2 = x at *
    generalize mM m1 m2 = M at *
    grind
theorem meet_iff {r1 m1 r2 m2 : Int} (h1 : 0 < m1) (h2 : 0 < m2) (hd : G m1 m2 ∣ r2 - r1) (x : Int) : (m1 ∣ x - r1 ∧ m2 ∣ x - r2) ↔ mM m1 m2 ∣ x - mR r1 m1 r2 m2 := by
  obtain ⟨_, _, e1, e2⟩ := mR_spec h1 h2 hd
  constructor
  · rintro ⟨k1, k2⟩
    refine mM_least h1 h2 ?_ ?_
    · have := Int.dvd_sub k1 e1; rwa [show x - r1 - (mR r1 m1 r2 m2 - r1) = x - mR r1 m1 r2 m2 by omega] at this
    · have := Int.dvd_sub k2 e2; rwa [show x - r2 - (mR r1 m1 r2 m2 - r2) = x - mR r1 m1 r2 m2 by omega] at this
  · intro k
    have k1 := Int.dvd_add (Int.dvd_trans (mM_left m1 m2) k) e1
    have k2 := Int.dvd_add (Int.dvd_trans (mM_right (m2 := m2) h1) k) e2
    rw [show x - mR r1 m1 r2 m2 + (mR r1 m1 r2 m2 - r1) = x - r1 by omega] at k1
    rw [show x - mR r1 m1 r2 m2 + (mR r1 m1 r2 m2 - r2) = x - r2 by omega] at k2
    exact ⟨k1, k2⟩
theorem meet_no {r1 m1 r2 m2 : Int} (hd : ¬ G m1 m2 ∣ r2 - r1) (x : Int) : ¬ (m1 ∣ x - r1 ∧ m2 ∣ x - r2) := by
  rintro ⟨k1, k2⟩
  have a := Int.dvd_trans (G_left m1 m2) k1
  have b := Int.dvd_trans (G_right m1 m2) k2
  have := Int.dvd_sub a b
  rw [show x - r1 - (x - r2) = r2 - r1 by omega] at this
  exact hd this
/-! ### many -/
/-- what divides a number and a least common multiple divides the least common multiple of the greatest common divisors -/
theorem gcd_lcm_dvd (a b c : Nat) (hb : 0 < b) (hc : 0 < c) : Nat.gcd a (Nat.lcm b c) ∣ Nat.lcm (Nat.gcd a b) (Nat.gcd a c) := by
  obtain ⟨d, hd⟩ : ∃ d, d = Nat.gcd a (Nat.lcm b c) := ⟨_, rfl⟩
  rw [← hd]
  have hda : d ∣ a := hd ▸ Nat.gcd_dvd_left _ _
  have hdl : d ∣ Nat.lcm b c := hd ▸ Nat.gcd_dvd_right _ _
  have hd0 : 0 < d := Nat.pos_of_dvd_of_pos hdl (Nat.lcm_pos hb hc)
  obtain ⟨d1, h1⟩ : ∃ d1, d1 = Nat.gcd d b := ⟨_, rfl⟩
  obtain ⟨d2, h2⟩ : ∃ d2, d2 = Nat.gcd d c := ⟨_, rfl⟩
  have k1 : d1 ∣ Nat.gcd a b := Nat.dvd_gcd (Nat.dvd_trans (h1 ▸ Nat.gcd_dvd_left _ _) hda) (h1 ▸ Nat.gcd_dvd_right _ _)
  have k2 : d2 ∣ Nat.gcd a c := Nat.dvd_gcd (Nat.dvd_trans (h2 ▸ Nat.gcd_dvd_left _ _) hda) (h2 ▸ Nat.gcd_dvd_right _ _)
  have key : d ∣ Nat.lcm d1 d2 := by
    obtain ⟨e, he⟩ : ∃ e, e = Nat.lcm d1 d2 := ⟨_, rfl⟩
    have e1 : d1 ∣ e := he ▸ Nat.dvd_lcm_left _ _
    have e2 : d2 ∣ e := he ▸ Nat.dvd_lcm_right _ _
    have ed : e ∣ d := he ▸ Nat.lcm_dvd (h1 ▸ Nat.gcd_dvd_left _ _) (h2 ▸ Nat.gcd_dvd_left _ _)
    rw [← he]
    have hd1 : 0 < d1 := h1 ▸ Nat.gcd_pos_of_pos_left _ hd0
    have hd2 : 0 < d2 := h2 ▸ Nat.gcd_pos_of_pos_left _ hd0
    obtain ⟨x, hx⟩ := ed
    have he0 : 0 < e := Nat.pos_of_dvd_of_pos ⟨x, hx⟩ hd0
    -- x divides what is left of b and of c beside the other
    obtain ⟨g, hg⟩ : ∃ g, g = Nat.gcd b c := ⟨_, rfl⟩
    obtain ⟨b', hb'⟩ : g ∣ b := hg ▸ Nat.gcd_dvd_left _ _
    obtain ⟨c', hc'⟩ : g ∣ c := hg ▸ Nat.gcd_dvd_right _ _
    have hg0 : 0 < g := hg ▸ Nat.gcd_pos_of_pos_left _ hb
    have hcop : Nat.gcd b' c' = 1 := by
      have : Nat.gcd (g * b') (g * c') = g * 1 := by rw [← hb', ← hc', ← hg, Nat.mul_one]
      rw [Nat.gcd_mul_left] at this
      exact Nat.eq_of_mul_eq_mul_left hg0 this
    have hl : Nat.lcm b c = b * c' := by
      have := Nat.gcd_mul_lcm b c
      rw [← hg, show b * c = g * (b * c') by rw [hc']; exact Nat.mul_left_comm b g c'] at this
      exact Nat.eq_of_mul_eq_mul_left hg0 this
    have hl2 : Nat.lcm b c = c * b' := by rw [hl, hb', hc', Nat.mul_assoc, Nat.mul_assoc, Nat.mul_comm b' c']
    have part : ∀ (u v w : Nat), 0 < w → w = Nat.gcd d u → d ∣ u * v → d / w ∣ v := by
      intro u v w hw0 hw hduv
      obtain ⟨p, hp⟩ : w ∣ d := hw ▸ Nat.gcd_dvd_left _ _
      obtain ⟨q, hq⟩ : w ∣ u := hw ▸ Nat.gcd_dvd_right _ _
      have hpq : Nat.gcd p q = 1 := by
        have : Nat.gcd (w * p) (w * q) = w * 1 := by rw [← hp, ← hq, ← hw, Nat.mul_one]
        rw [Nat.gcd_mul_left] at this
        exact Nat.eq_of_mul_eq_mul_left hw0 this
      rw [hp, Nat.mul_div_cancel_left _ hw0]
      have : p ∣ q * v := by
        rw [hp, hq, Nat.mul_assoc] at hduv
        exact Nat.dvd_of_mul_dvd_mul_left hw0 hduv
      exact (Nat.Coprime.dvd_of_dvd_mul_left hpq this)
    have p1 := part b c' d1 hd1 h1 (hl ▸ hdl)
    have p2 := part c b' d2 hd2 h2 (hl2 ▸ hdl)
    have x1 : x ∣ d / d1 := by
      obtain ⟨y, hy⟩ := e1
      exact ⟨y, by rw [hx, hy, Nat.mul_assoc, Nat.mul_div_cancel_left _ hd1, Nat.mul_comm]⟩
    have x2 : x ∣ d / d2 := by
      obtain ⟨y, hy⟩ := e2
      exact ⟨y, by rw [hx, hy, Nat.mul_assoc, Nat.mul_div_cancel_left _ hd2, Nat.mul_comm]⟩
    have hx1 : x ∣ 1 := hcop ▸ Nat.dvd_gcd (Nat.dvd_trans x2 p2) (Nat.dvd_trans x1 p1)
    have : x = 1 := Nat.dvd_one.1 hx1
    rw [hx, this, Nat.mul_one]; exact Nat.dvd_refl _
  exact Nat.dvd_trans key (Nat.lcm_dvd (Nat.dvd_trans k1 (Nat.dvd_lcm_left _ _)) (Nat.dvd_trans k2 (Nat.dvd_lcm_right _ _)))
/-- rests that go together two by two go together -/
theorem crt_all (R M : Nat → Int) : ∀ n : Nat, (∀ i, i < n → 0 < M i) → (∀ i k, i < n → k < i → G (M i) (M k) ∣ R i - R k) → ∃ x m : Int, 0 < m ∧ (∀ i, i < n → M i ∣ x - R i ∧ M i ∣ m) ∧ ∀ y r : Int, 0 < y → (∀ i, i < n → G y (M i) ∣ r - R i) → G y m ∣ r - x
  | 0, _, _ => ⟨0, 1, by decide, fun i hi => absurd hi (Nat.not_lt_zero _), fun y r _ _ => by
    have : G y 1 = 1 := by show ((Nat.gcd y.natAbs (1 : Int).natAbs : Nat) : Int) = 1; simp
    rw [this]; exact Int.one_dvd _⟩
  | n + 1, hM, hP => by
    obtain ⟨x, m, hm, hx, hy⟩ := crt_all R M n (fun i hi => hM i (by omega)) (fun i k hi hk => hP i k (by omega) hk)
    have hMn := hM n (by omega)
    have hd : G (M n) m ∣ R n - x := hy (M n) (R n) hMn fun i hi => hP n i (by omega) hi
    have hd' : G m (M n) ∣ R n - x := by
      have : G m (M n) = G (M n) m := by show ((Nat.gcd _ _ : Nat) : Int) = ((Nat.gcd _ _ : Nat) : Int); rw [Nat.gcd_comm]
      rw [this]; exact hd
    have hi := meet_iff hm hMn hd'
    have h0 := (hi (mR x m (R n) (M n))).2 (by rw [Int.sub_self]; exact Int.dvd_zero _)
    refine ⟨mR x m (R n) (M n), mM m (M n), mM_pos hm hMn, fun i hi' => ?_, fun y r hy0 hr => ?_⟩
    · rcases Nat.lt_or_ge i n with h | h
      · obtain ⟨g1, g2⟩ := hx i h
        refine ⟨?_, Int.dvd_trans g2 (mM_left _ _)⟩
        have := Int.dvd_add (Int.dvd_trans g2 h0.1) g1
        rwa [show mR x m (R n) (M n) - x + (x - R i) = mR x m (R n) (M n) - R i by omega] at this
      · obtain rfl : i = n := by omega
        exact ⟨h0.2, mM_right hm⟩
    · -- y's part of both
      have a1 : G y m ∣ r - mR x m (R n) (M n) := by
        have := Int.dvd_sub (hy y r hy0 fun i hi' => hr i (by omega)) (Int.dvd_trans (G_right y m) h0.1)
        rwa [show r - x - (mR x m (R n) (M n) - x) = r - mR x m (R n) (M n) by omega] at this
      have a2 : G y (M n) ∣ r - mR x m (R n) (M n) := by
        have := Int.dvd_sub (hr n (by omega)) (Int.dvd_trans (G_right y (M n)) h0.2)
        rwa [show r - R n - (mR x m (R n) (M n) - R n) = r - mR x m (R n) (M n) by omega] at this
      have hMM : (mM m (M n)).natAbs = Nat.lcm m.natAbs (M n).natAbs := by
        apply Nat.dvd_antisymm
        · have := mM_least hm hMn (L := ((Nat.lcm m.natAbs (M n).natAbs : Nat) : Int)) (Int.natAbs_dvd.1 (Int.ofNat_dvd.2 (Nat.dvd_lcm_left _ _))) (Int.natAbs_dvd.1 (Int.ofNat_dvd.2 (Nat.dvd_lcm_right _ _)))
          have := Int.natAbs_dvd_natAbs.2 this
          rwa [Int.natAbs_natCast] at this
        · exact Nat.lcm_dvd (Int.natAbs_dvd_natAbs.2 (mM_left _ _)) (Int.natAbs_dvd_natAbs.2 (mM_right hm))
      have h3 := gcd_lcm_dvd y.natAbs m.natAbs (M n).natAbs (by omega) (by omega)
      have h4 : Nat.lcm (Nat.gcd y.natAbs m.natAbs) (Nat.gcd y.natAbs (M n).natAbs) ∣ (r - mR x m (R n) (M n)).natAbs := Nat.lcm_dvd (by have := Int.natAbs_dvd_natAbs.2 a1; rwa [Int.natAbs_natCast] at this) (by have := Int.natAbs_dvd_natAbs.2 a2; rwa [Int.natAbs_natCast] at this)
      refine Int.natAbs_dvd_natAbs.1 ?_
      show (((Nat.gcd y.natAbs (mM m (M n)).natAbs : Nat) : Int)).natAbs ∣ _
      rw [Int.natAbs_natCast, hMM]
      exact Nat.dvd_trans h3 h4
end Go.Cr
/- Contracts: the reference for naturals, digit by digit. -/
namespace Go.Proofs.Ytbnhdbchoghkfaa
open Go.En Go.RowKit
set_option linter.unusedVariables false
set_option maxRecDepth 10000
open Go.Nt
set_option maxHeartbeats 4000000 in
theorem ref01_Trim {xs : List Nat} (hx : OkD xs) : Ctr Try.prog 70 [SlM isN xs] (SlM isN (digs (dval xs))) := by
  refine Ctr.intro Try.func70 rfl (by kernel_rfl) Try.ntmps70 rfl fun w0 F0 => ?_
  refine Tri.cv (Cv.wk (.cons (t := 0) (Has.t rfl) .nil)) ?_
  refine Tri.fact (Has.lenLt (Has.t (t := 0) rfl)) fun lt0 => ?_
  refine Tri.seq fun K1 hK1 => ?_
  refine Tri.region ?_
  refine st (OK1.as (Has.cW (f := isI))) rfl ?_
  refine nl ?_
  refine At.thn (hK1 _ _ ?_); clear hK1
  refine Tri.seq fun K2 hK2 => ?_
  refine Tri.region ?_
  refine st (OK1.mv (Has.t rfl)) rfl ?_
  refine st (OK1.len sl52 (Has.t rfl)) rfl ?_
  refine st (OK1.as (Has.t rfl)) rfl ?_
  refine nl ?_
  refine At.thn (hK2 _ _ ?_); clear hK2
  refine Tri.seq fun K3 hK3 => ?_
  refine Tri.block ?_
  refine Tri.loopF [0, 2] (fun (z : { k : Nat // k ≤ xs.length ∧ ∀ i, k ≤ i → xs.getD i 0 = 0 }) => match z with | ⟨k, hI⟩ => [(3, isI (k : Int))]) (fun M => fun (z : { k : Nat // k ≤ xs.length ∧ ∀ i, k ≤ i → xs.getD i 0 = 0 }) => match z with | ⟨k, hI⟩ => M) (fun (z : { k : Nat // k ≤ xs.length ∧ ∀ i, k ≤ i → xs.getD i 0 = 0 }) => match z with | ⟨k, hI⟩ => k) (⟨xs.length, Nat.le_refl _, fun i hi => by simp [List.getD, List.getElem?_eq_none hi]⟩) (Cv.mem (.cons (t := 3) (Has.t' rfl ?_) (.cons (t := 0) (Has.t rfl) (.cons (t := 2) (Has.t rfl) .nil))) ?_) ?_
  · rfl
  · rfl
  rintro ⟨k, hk, hz⟩ K4 hK4
  refine Tri.cv (Cv.wk (.cons (t := 3) (Has.t rfl) (.cons (t := 0) (Has.t rfl) (.cons (t := 2) (Has.t rfl) .nil)))) ?_
  have ek : ((k : Int) - 1).toNat = k - 1 := by omega
  refine Tri.seq fun K5 hK5 => ?_
  refine Tri.seq fun K6 hK6 => ?_
  refine Tri.region ?_
  refine st (OK1.mv (Has.t rfl)) rfl ?_
  refine st (OK1.gtI (Has.t rfl) (Has.cI 0 rfl)) rfl ?_
  refine st (OK1.mv (Has.t rfl)) rfl ?_
  refine stT rfl rfl (fun hg => have hg' := BP.t hg; OK1.mv (Has.t rfl)) rfl ?_
  refine stT rfl rfl (fun hg => have hg' := BP.t hg; OK1.mv (Has.t rfl)) rfl ?_
  refine stT rfl rfl (fun hg => have hg' := BP.t hg; OK1.subI (Has.g rfl hg) (Has.cI 1 rfl) (by first | with_reducible assumption | omega | with_reducible exact d_words_ok _ | with_reducible exact d_wordsN_ok _ _ | (simp only [d_val_words]; omega)) (by first | with_reducible assumption | omega | with_reducible exact d_words_ok _ | with_reducible exact d_wordsN_ok _ _ | (simp only [d_val_words]; omega))) rfl ?_
  refine stT rfl rfl (fun hg => have hg' := BP.t hg; OK1.ixP sl52 ty3 (Has.g rfl hg) (Has.g rfl hg) ⟨by omega, by omega⟩ (getD_some (d := 0) (by first | omega | (simp only [Int.toNat_natCast, List.length_set]; omega)))) rfl ?_
  refine stT rfl rfl (fun hg => have hg' := BP.t hg; OK1.loadP1 (Has.g rfl hg) ty3) rfl ?_
  refine stT rfl rfl (fun hg => have hg' := BP.t hg; OK1.eqI (Has.g rfl hg) (Has.cI 0 rfl)) rfl ?_
  refine st (OK1.pickAnd (Has.t rfl) (fun h => Has.g rfl h)) rfl ?_
  refine nl ?_
  refine At.thn (hK6 _ _ ?_); clear hK6
  refine Tri.cond (Has.t rfl) (fun hc1 => ?_) (fun hc1 => ?_)
  · have hc1 := BP.t hc1
    refine Tri.skip ?_
    refine At.thn (hK5 _ _ ?_); clear hK5
    refine Tri.block ?_
    refine Tri.region ?_
    refine st (OK1.mv (Has.t rfl)) rfl ?_
    refine st (OK1.subI (Has.t rfl) (Has.cI 1 rfl) (by first | with_reducible assumption | omega | with_reducible exact d_words_ok _ | with_reducible exact d_wordsN_ok _ _ | (simp only [d_val_words]; omega)) (by first | with_reducible assumption | omega | with_reducible exact d_words_ok _ | with_reducible exact d_wordsN_ok _ _ | (simp only [d_val_words]; omega))) rfl ?_
    refine st (OK1.as (Has.t rfl)) rfl ?_
    refine nl ?_
    refine At.bln ?_
    refine At.thn ?_
    refine hK4 (⟨k - 1, by omega, fun i hi => by rcases Nat.lt_or_ge i k with h | h; (have e : i = k - 1 := by omega); (have := hc1.2; rw [e, ← ek]; omega); exact hz i h⟩) _ _ ?_ (Cv.mem (.cons (t := 3) (Has.t' rfl ?_) (.cons (t := 0) (Has.t rfl) (.cons (t := 2) (Has.t rfl) .nil))) ?_)
    · show k - 1 < k; omega
    · exact isI_eq (by omega)
    · rfl
  · have hc1 := BP.f hc1
    refine Tri.exit ?_
    refine At.the ?_
    refine At.the ?_
    refine At.blh ?_
    refine At.thn (hK3 _ _ ?_); clear hK3
    refine Tri.cv (Cv.wk (.cons (t := 0) (Has.t rfl) (.cons (t := 2) (Has.t rfl) (.cons (t := 3) (Has.t rfl) .nil)))) ?_
    refine Tri.seq fun K7 hK7 => ?_
    refine Tri.region ?_
    refine st (OK1.mv (Has.t rfl)) rfl ?_
    refine st (OK1.mv (Has.t rfl)) rfl ?_
    refine st (OK1.slHM sl52 ty3 (Has.t rfl) (Has.t rfl) ⟨by omega, by omega⟩) rfl ?_
    refine st (OK1.as (Has.t rfl)) rfl ?_
    refine nl ?_
    refine At.thn (hK7 _ _ ?_); clear hK7
    refine Tri.cv (Cv.wk (.cons (t := 2) (Has.t rfl) .nil)) ?_
    refine Tri.ret ?_
    refine rt1 (.inl rfl) Try.results70 rfl (.tmp (Has.t' rfl ?_) .nil)
    all_goals (exact SlM_eq (d_words_of_take hx hk hz (by rcases hc1 with h | h; left; omega; right; rw [ek] at h; exact fun e => h (congrArg (fun n : Nat => (n : Int)) e))))
set_option maxHeartbeats 4000000 in
theorem ref01_at {xs : List Nat} {i : Nat} : Ctr Try.prog 81 [SlM isN xs, isI (i : Int)] (isN (xs.getD i 0)) := by
  refine Ctr.intro Try.func81 rfl (by kernel_rfl) Try.ntmps81 rfl fun w0 F0 => ?_
  refine Tri.cv (Cv.wk (.cons (t := 0) (Has.t rfl) (.cons (t := 1) (Has.t rfl) .nil))) ?_
  refine Tri.fact (Has.lenLt (Has.t (t := 0) rfl)) fun lt0 => ?_
  refine Tri.fact (Has.rngI (Has.t (t := 1) rfl)) fun lt1 => ?_
  refine Tri.seq fun K1 hK1 => ?_
  refine Tri.region ?_
  refine st (OK1.as (Has.cI 0 rfl)) rfl ?_
  refine nl ?_
  refine At.thn (hK1 _ _ ?_); clear hK1
  refine Tri.seq fun K2 hK2 => ?_
  refine Tri.seq fun K3 hK3 => ?_
  refine Tri.region ?_
  refine st (OK1.mv (Has.t rfl)) rfl ?_
  refine st (OK1.mv (Has.t rfl)) rfl ?_
  refine st (OK1.len sl52 (Has.t rfl)) rfl ?_
  refine st (OK1.ltI (Has.t rfl) (Has.t rfl)) rfl ?_
  refine nl ?_
  refine At.thn (hK3 _ _ ?_); clear hK3
  refine Tri.cond (Has.t rfl) (fun hc1 => ?_) (fun hc1 => ?_)
  · have hc1 := BP.t hc1
    refine Tri.seq fun K4 hK4 => ?_
    refine Tri.region ?_
    refine st (OK1.mv (Has.t rfl)) rfl ?_
    refine st (OK1.mv (Has.t rfl)) rfl ?_
    refine st (OK1.ixP sl52 ty3 (Has.t rfl) (Has.t rfl) ⟨by omega, by omega⟩ (getD_some (d := 0) (by first | omega | (simp only [Int.toNat_natCast, List.length_set]; omega)))) rfl ?_
    refine st (OK1.loadP1 (Has.t rfl) ty3) rfl ?_
    refine st (OK1.as (Has.t rfl)) rfl ?_
    refine nl ?_
    refine At.thn (hK4 _ _ ?_); clear hK4
    refine Tri.cv (Cv.wk (.cons (t := 4) (Has.t rfl) .nil)) ?_
    refine Tri.ret ?_
    refine At.thr ?_
    refine rt1 (.inl rfl) Try.results81 rfl (.tmp (Has.t' rfl ?_) .nil)
    all_goals (exact isI_eq (by rw [Int.toNat_natCast]))
  · have hc1 := BP.f hc1
    refine Tri.skip ?_
    refine At.thn (hK2 _ _ ?_); clear hK2
    refine Tri.cv (Cv.wk (.cons (t := 4) (Has.t rfl) .nil)) ?_
    refine Tri.seq fun K5 hK5 => ?_
    refine Tri.region ?_
    refine st (OK1.as (Has.cI 0 rfl)) rfl ?_
    refine nl ?_
    refine At.thn (hK5 _ _ ?_); clear hK5
    refine Tri.ret ?_
    refine rt1 (.inl rfl) Try.results81 rfl (.tmp (Has.t' rfl ?_) .nil)
    all_goals (exact isI_eq (by rw [List.getD, List.getElem?_eq_none (by omega)]; rfl))
set_option maxHeartbeats 4000000 in
theorem ref01_From {xs : List Nat} (hx : xs.length ≤ 268435456) : Ctr Try.prog 49 [isWords xs] (SlM isN (digs (val xs))) := by
  refine Ctr.intro Try.func49 rfl (by kernel_rfl) Try.ntmps49 rfl fun w0 F0 => ?_
  refine Tri.cv (Cv.wk (.cons (t := 0) (Has.t rfl) .nil)) ?_
  refine Tri.fact (Has.lenLt (Has.t (t := 0) rfl)) fun lt0 => ?_
  refine Tri.fact (Has.okW (Has.t (t := 0) rfl)) fun ok0 => ?_
  refine Tri.seq fun K1 hK1 => ?_
  refine Tri.region ?_
  refine st (OK1.as (Has.cW (f := isN))) rfl ?_
  refine nl ?_
  refine At.thn (hK1 _ _ ?_); clear hK1
  refine Tri.seq fun K2 hK2 => ?_
  refine Tri.region ?_
  refine Ops.cv (Cv.grow0 (α := Nat) isN) ?_
  refine st (OK1.as (Has.cGr (α := Nat))) rfl ?_
  refine nl ?_
  refine At.thn (hK2 _ _ ?_); clear hK2
  refine Tri.seq fun K3 hK3 => ?_
  refine Tri.seq fun K4 hK4 => ?_
  refine Tri.region ?_
  refine st (OK1.as (Has.cI 0 rfl)) rfl ?_
  refine nl ?_
  refine At.thn (hK4 _ _ ?_); clear hK4
  refine Tri.block ?_
  refine Tri.loopF [0, 2] (fun (z : { z : Nat × Gr Nat // z.1 ≤ xs.length }) => match z with | ⟨(i, g), hI⟩ => [(4, isI (i : Int)), (3, isGr g (digsN (4 * i) (val xs)).length)]) (fun M => fun (z : { z : Nat × Gr Nat // z.1 ≤ xs.length }) => match z with | ⟨(i, g), hI⟩ => [grM isN g (digsN (4 * i) (val xs))]) (fun (z : { z : Nat × Gr Nat // z.1 ≤ xs.length }) => match z with | ⟨(i, g), hI⟩ => xs.length - i) (⟨(0, Gr.nil), Nat.zero_le _⟩) (Cv.mem (.cons (t := 4) (Has.t' rfl ?_) (.cons (t := 3) (Has.t' rfl ?_) (.cons (t := 0) (Has.t rfl) (.cons (t := 2) (Has.t rfl) .nil)))) ?_) ?_
  · rfl
  · rfl
  · rfl
  rintro ⟨⟨i, g⟩, hI⟩ K5 hK5
  refine Tri.cv (Cv.wk (.cons (t := 4) (Has.t rfl) (.cons (t := 3) (Has.t rfl) (.cons (t := 0) (Has.t rfl) (.cons (t := 2) (Has.t rfl) .nil))))) ?_
  refine Tri.memEq (M' := [grM isN g (digsN (4 * i) (val xs))]) rfl ?_
  simp only [] at hI
  refine Tri.seq fun K6 hK6 => ?_
  refine Tri.seq fun K7 hK7 => ?_
  refine Tri.region ?_
  refine st (OK1.mv (Has.t rfl)) rfl ?_
  refine st (OK1.mv (Has.t rfl)) rfl ?_
  refine st (OK1.len sl24 (Has.t rfl)) rfl ?_
  refine st (OK1.ltI (Has.t rfl) (Has.t rfl)) rfl ?_
  refine nl ?_
  refine At.thn (hK7 _ _ ?_); clear hK7
  refine Tri.cond (Has.t rfl) (fun hc1 => ?_) (fun hc1 => ?_)
  · have hc1 := BP.t hc1
    refine Tri.skip ?_
    refine At.thn (hK6 _ _ ?_); clear hK6
    refine Tri.seq fun K8 hK8 => ?_
    refine Tri.block ?_
    refine Tri.seq fun K9 hK9 => ?_
    refine Tri.region ?_
    refine st (OK1.mv (Has.t rfl)) rfl ?_
    refine st (OK1.mv (Has.t rfl)) rfl ?_
    refine st (OK1.ixP sl24 ty62 (Has.t rfl) (Has.t rfl) ⟨by omega, by omega⟩ (getD_some (d := 0) (by first | omega | (simp only [Int.toNat_natCast, List.length_set]; omega)))) rfl ?_
    refine st (OK1.eq (OK1.loadP1 (Has.t rfl) ty62) ((show isU _ = isU (dig (val xs) i) from isU_eq (by rw [Int.toNat_natCast]; exact getD_val ok0 i)))) rfl ?_
    refine st (OK1.as (Has.t rfl)) rfl ?_
    refine nl ?_
    refine At.thn (hK9 _ _ ?_); clear hK9
    refine Tri.seq fun K10 hK10 => ?_
    refine Tri.region ?_
    refine st (OK1.as (Has.cI 0 rfl)) rfl ?_
    refine nl ?_
    refine At.thn (hK10 _ _ ?_); clear hK10
    refine Tri.block ?_
    refine Tri.loopF [0, 2, 4, 7, 8, 9, 10, 13, 14, 15, 16] (fun (z : { z : Nat × Gr Nat // z.1 ≤ 4 }) => match z with | ⟨(k, g2), hk⟩ => [(6, isI (k : Int)), (5, isU (dig (val xs) i / D ^ k)), (3, isGr g2 (digsN (4 * i + k) (val xs)).length)]) (fun M => fun (z : { z : Nat × Gr Nat // z.1 ≤ 4 }) => match z with | ⟨(k, g2), hk⟩ => [grM isN g2 (digsN (4 * i + k) (val xs))]) (fun (z : { z : Nat × Gr Nat // z.1 ≤ 4 }) => match z with | ⟨(k, g2), hk⟩ => 4 - k) (⟨(0, g), Nat.zero_le _⟩) (Cv.mem (.cons (t := 6) (Has.t' rfl ?_) (.cons (t := 5) (Has.t' rfl ?_) (.cons (t := 3) (Has.t' rfl ?_) (.cons (t := 0) (Has.t rfl) (.cons (t := 2) (Has.t rfl) (.cons (t := 4) (Has.t rfl) (.cons (t := 7) (Has.t rfl) (.cons (t := 8) (Has.t rfl) (.cons (t := 9) (Has.t rfl) (.cons (t := 10) (Has.t rfl) (.cons (t := 13) (Has.t rfl) (.cons (t := 14) (Has.t rfl) (.cons (t := 15) (Has.t rfl) (.cons (t := 16) (Has.t rfl) .nil)))))))))))))) ?_) ?_
    · rfl
    · exact isU_eq (by rw [Nat.pow_zero, Nat.div_one])
    · rfl
    · rfl
    rintro ⟨⟨k, g2⟩, hk⟩ K11 hK11
    refine Tri.cv (Cv.wk (.cons (t := 6) (Has.t rfl) (.cons (t := 5) (Has.t rfl) (.cons (t := 3) (Has.t rfl) (.cons (t := 0) (Has.t rfl) (.cons (t := 2) (Has.t rfl) (.cons (t := 4) (Has.t rfl) (.cons (t := 7) (Has.t rfl) (.cons (t := 8) (Has.t rfl) (.cons (t := 9) (Has.t rfl) (.cons (t := 10) (Has.t rfl) (.cons (t := 13) (Has.t rfl) (.cons (t := 14) (Has.t rfl) (.cons (t := 15) (Has.t rfl) (.cons (t := 16) (Has.t rfl) .nil))))))))))))))) ?_
    refine Tri.memEq (M' := [grM isN g2 (digsN (4 * i + k) (val xs))]) rfl ?_
    simp only [] at hk
    have hdl2 := d_wordsN_len (4 * i + k) (val xs)
    have hdl := dig_div_lt (val xs) i k
    refine Tri.seq fun K12 hK12 => ?_
    refine Tri.seq fun K13 hK13 => ?_
    refine Tri.region ?_
    refine st (OK1.mv (Has.t rfl)) rfl ?_
    refine st (OK1.ltI (Has.t rfl) (Has.cI 4 rfl)) rfl ?_
    refine nl ?_
    refine At.thn (hK13 _ _ ?_); clear hK13
    refine Tri.cond (Has.t rfl) (fun hc2 => ?_) (fun hc2 => ?_)
    · have hc2 := BP.t hc2
      refine Tri.skip ?_
      refine At.thn (hK12 _ _ ?_); clear hK12
      refine Tri.seq fun K14 hK14 => ?_
      refine Tri.block ?_
      refine Tri.seq fun K15 hK15 => ?_
      refine Tri.region ?_
      refine st (OK1.mv (Has.t rfl)) rfl ?_
      refine st (OK1.mv (Has.t rfl)) rfl ?_
      refine st (OK1.remU (Has.t rfl) (Has.cU 65536 rfl) (by first | with_reducible assumption | omega | with_reducible exact d_words_ok _ | with_reducible exact d_wordsN_ok _ _ | (simp only [d_val_words]; omega)) (by first | with_reducible assumption | omega | with_reducible exact d_words_ok _ | with_reducible exact d_wordsN_ok _ _ | (simp only [d_val_words]; omega))) rfl ?_
      refine st (OK1.eq (OK1.convUI un62 un3 (Has.t rfl) (by first | with_reducible assumption | omega | with_reducible exact d_words_ok _ | with_reducible exact d_wordsN_ok _ _ | (simp only [d_val_words]; omega))) ((show isI _ = isN (dg (val xs) (4 * i + k)) from isI_eq (by rw [dig_dg _ _ _ (by omega)])))) rfl ?_
      refine st (OK1.buildS [isI 0] sl52 ty3 zero3 (fun _ _ => ⟨⟨rfl, by decide, by decide⟩, trivial⟩) rfl rfl (.cons (Has.t rfl) rfl rfl rfl .nil) rfl (S := SlM isN [_]) rfl) rfl ?_
      refine Ops.appendG (f := isN) (u := 0) sl52 ty3 zero3 (fun _ _ => ⟨⟨rfl, by decide, by decide⟩, trivial⟩) (fun _ => inferInstance) by3 (Has.t rfl) (i := 0) rfl (Has.t rfl) (by simp only [List.length_cons, List.length_nil]; omega) (by simp) rfl fun gr1 => ?_
      refine Ops.memEq (M' := [grM _ _ _]) rfl ?_
      refine st (OK1.as (Has.t rfl)) rfl ?_
      refine nl ?_
      refine At.thn (hK15 _ _ ?_); clear hK15
      refine Tri.region ?_
      refine st (OK1.mv (Has.t rfl)) rfl ?_
      refine st (OK1.quoU (Has.t rfl) (Has.cU 65536 rfl) (by first | with_reducible assumption | omega | with_reducible exact d_words_ok _ | with_reducible exact d_wordsN_ok _ _ | (simp only [d_val_words]; omega)) (by first | with_reducible assumption | omega | with_reducible exact d_words_ok _ | with_reducible exact d_wordsN_ok _ _ | (simp only [d_val_words]; omega))) rfl ?_
      refine st (OK1.as (Has.t rfl)) rfl ?_
      refine nl ?_
      refine At.bln ?_
      refine At.thn (hK14 _ _ ?_); clear hK14
      refine Tri.region ?_
      refine st (OK1.mv (Has.t rfl)) rfl ?_
      refine st (OK1.addI (Has.t rfl) (Has.cI 1 rfl) (by first | with_reducible assumption | omega | with_reducible exact d_words_ok _ | with_reducible exact d_wordsN_ok _ _ | (simp only [d_val_words]; omega)) (by first | with_reducible assumption | omega | with_reducible exact d_words_ok _ | with_reducible exact d_wordsN_ok _ _ | (simp only [d_val_words]; omega))) rfl ?_
      refine st (OK1.as (Has.t rfl)) rfl ?_
      refine nl ?_
      refine At.thn ?_
      refine hK11 (⟨(k + 1, gr1), by show k + 1 ≤ 4; omega⟩) _ _ ?_ (Cv.mem (.cons (t := 6) (Has.t' rfl ?_) (.cons (t := 5) (Has.t' rfl ?_) (.cons (t := 3) (Has.t' rfl ?_) (.cons (t := 0) (Has.t rfl) (.cons (t := 2) (Has.t rfl) (.cons (t := 4) (Has.t rfl) (.cons (t := 7) (Has.t rfl) (.cons (t := 8) (Has.t rfl) (.cons (t := 9) (Has.t rfl) (.cons (t := 10) (Has.t rfl) (.cons (t := 13) (Has.t rfl) (.cons (t := 14) (Has.t rfl) (.cons (t := 15) (Has.t rfl) (.cons (t := 16) (Has.t rfl) .nil)))))))))))))) ?_)
      · show 4 - (k + 1) < 4 - k; omega
      · rfl
      · exact isU_eq (by rw [Nat.pow_succ, Nat.div_div_eq_div_mul])
      · exact isGr_eq (by simp only [List.length_append, d_wordsN_len, wordsN_len, addL_len, List.length_cons, List.length_nil] <;> omega)
      · exact grM_eq (d_wordsN_succ _ _).symm
    · have hc2 := BP.f hc2
      refine Tri.exit ?_
      refine At.the ?_
      refine At.the ?_
      refine At.blh ?_
      refine At.bln ?_
      refine At.thn (hK8 _ _ ?_); clear hK8
      refine Tri.region ?_
      refine st (OK1.mv (Has.t rfl)) rfl ?_
      refine st (OK1.addI (Has.t rfl) (Has.cI 1 rfl) (by first | with_reducible assumption | omega | with_reducible exact d_words_ok _ | with_reducible exact d_wordsN_ok _ _ | (simp only [d_val_words]; omega)) (by first | with_reducible assumption | omega | with_reducible exact d_words_ok _ | with_reducible exact d_wordsN_ok _ _ | (simp only [d_val_words]; omega))) rfl ?_
      refine st (OK1.as (Has.t rfl)) rfl ?_
      refine nl ?_
      refine At.thn ?_
      obtain rfl : k = 4 := by omega
      refine hK5 (⟨(i + 1, g2), by show i + 1 ≤ _; omega⟩) _ _ ?_ (Cv.mem (.cons (t := 4) (Has.t' rfl ?_) (.cons (t := 3) (Has.t' rfl ?_) (.cons (t := 0) (Has.t rfl) (.cons (t := 2) (Has.t rfl) .nil)))) ?_)
      · show xs.length - (i + 1) < xs.length - i; omega
      · rfl
      · rfl
      · rfl
  · have hc1 := BP.f hc1
    refine Tri.exit ?_
    refine At.the ?_
    refine At.the ?_
    refine At.blh ?_
    refine At.thn (hK3 _ _ ?_); clear hK3
    refine Tri.cv (Cv.wk (.cons (t := 2) (Has.t rfl) (.cons (t := 3) (Has.t rfl) .nil))) ?_
    refine Tri.seq fun K16 hK16 => ?_
    refine Tri.cv (Cv.freezeG (t := 3) (i := 0) (ys := digsN (4 * i) (val xs)) rfl rfl rfl) ?_
    refine Tri.memEq (M' := []) rfl ?_
    refine Tri.cv (Cv.wk (.cons (t := 2) (Has.t rfl) (.cons (t := 3) (Has.t rfl) .nil))) ?_
    refine Tri.region ?_
    refine st (OK1.mv (Has.t rfl)) rfl ?_
    refine st (OK1.call (ref01_Trim (by first | with_reducible assumption | omega | with_reducible exact d_words_ok _ | with_reducible exact d_wordsN_ok _ _ | (simp only [d_val_words]; omega))) (.cons (Has.t rfl) .nil)) rfl ?_
    refine st (OK1.as (Has.t rfl)) rfl ?_
    refine nl ?_
    refine At.thn (hK16 _ _ ?_); clear hK16
    refine Tri.ret ?_
    refine rt1 (.inl rfl) Try.results49 rfl (.tmp (Has.t' rfl ?_) .nil)
    all_goals (exact SlM_eq (from_end ok0 (by omega)))
set_option maxHeartbeats 4000000 in
theorem ref01_Carried {ds : List Nat} (hd : ∀ x ∈ ds, x ≤ 1099511627776) (hl : ds.length ≤ 1073741824) : Ctr Try.prog 82 [SlM isN ds] (SlM isN (digs (dval ds))) := by
  refine Ctr.intro Try.func82 rfl (by kernel_rfl) Try.ntmps82 rfl fun w0 F0 => ?_
  refine Tri.cv (Cv.wk (.cons (t := 0) (Has.t rfl) .nil)) ?_
  refine Tri.fact (Has.lenLt (Has.t (t := 0) rfl)) fun lt0 => ?_
  refine Tri.seq fun K1 hK1 => ?_
  refine Tri.region ?_
  refine st (OK1.as (Has.cW (f := isN))) rfl ?_
  refine nl ?_
  refine At.thn (hK1 _ _ ?_); clear hK1
  refine Tri.seq fun K2 hK2 => ?_
  refine Tri.region ?_
  refine Ops.cv (Cv.grow0 (α := Nat) isN) ?_
  refine st (OK1.as (Has.cGr (α := Nat))) rfl ?_
  refine nl ?_
  refine At.thn (hK2 _ _ ?_); clear hK2
  refine Tri.seq fun K3 hK3 => ?_
  refine Tri.region ?_
  refine st (OK1.as (Has.cI 0 rfl)) rfl ?_
  refine nl ?_
  refine At.thn (hK3 _ _ ?_); clear hK3
  refine Tri.seq fun K4 hK4 => ?_
  refine Tri.seq fun K5 hK5 => ?_
  refine Tri.region ?_
  refine st (OK1.as (Has.cI 0 rfl)) rfl ?_
  refine nl ?_
  refine At.thn (hK5 _ _ ?_); clear hK5
  refine Tri.block ?_
  refine Tri.loopF [0, 2] (fun (z : { z : Nat × Nat × Gr Nat // z.2.1 + dval (ds.drop z.1) = dval ds / D ^ z.1 ∧ z.2.1 ≤ 1099511627776 ∧ z.1 ≤ ds.length + 4 }) => match z with | ⟨(i, c, g), hI⟩ => [(5, isI (i : Int)), (4, isN c), (3, isGr g (digsN i (dval ds)).length)]) (fun M => fun (z : { z : Nat × Nat × Gr Nat // z.2.1 + dval (ds.drop z.1) = dval ds / D ^ z.1 ∧ z.2.1 ≤ 1099511627776 ∧ z.1 ≤ ds.length + 4 }) => match z with | ⟨(i, c, g), hI⟩ => [grM isN g (digsN i (dval ds))]) (fun (z : { z : Nat × Nat × Gr Nat // z.2.1 + dval (ds.drop z.1) = dval ds / D ^ z.1 ∧ z.2.1 ≤ 1099511627776 ∧ z.1 ≤ ds.length + 4 }) => match z with | ⟨(i, c, g), hI⟩ => dval ds / D ^ i + (ds.length - i)) (⟨(0, 0, Gr.nil), by simp, by decide, Nat.zero_le _⟩) (Cv.mem (.cons (t := 5) (Has.t' rfl ?_) (.cons (t := 4) (Has.t' rfl ?_) (.cons (t := 3) (Has.t' rfl ?_) (.cons (t := 0) (Has.t rfl) (.cons (t := 2) (Has.t rfl) .nil))))) ?_) ?_
  · rfl
  · rfl
  · rfl
  · rfl
  rintro ⟨⟨i, c, g⟩, hI⟩ K6 hK6
  refine Tri.cv (Cv.wk (.cons (t := 5) (Has.t rfl) (.cons (t := 4) (Has.t rfl) (.cons (t := 3) (Has.t rfl) (.cons (t := 0) (Has.t rfl) (.cons (t := 2) (Has.t rfl) .nil)))))) ?_
  refine Tri.memEq (M' := [grM isN g (digsN i (dval ds))]) rfl ?_
  simp only [] at hI
  obtain ⟨h1, h2, h3⟩ := hI
  have hst := carry_step h1
  have hg := getD_le (i := i) hd
  have hdl := d_wordsN_len i (dval ds)
  refine Tri.seq fun K7 hK7 => ?_
  refine Tri.seq fun K8 hK8 => ?_
  refine Tri.region ?_
  refine st (OK1.mv (Has.t rfl)) rfl ?_
  refine st (OK1.mv (Has.t rfl)) rfl ?_
  refine st (OK1.len sl52 (Has.t rfl)) rfl ?_
  refine st (OK1.ltI (Has.t rfl) (Has.t rfl)) rfl ?_
  refine st (OK1.mv (Has.t rfl)) rfl ?_
  refine stF rfl rfl (fun hg => have hg' := BP.t hg; OK1.mv (Has.t rfl)) rfl ?_
  refine stF rfl rfl (fun hg => have hg' := BP.t hg; OK1.gtI (Has.g rfl hg) (Has.cI 0 rfl)) rfl ?_
  refine st (OK1.pickOr (Has.t rfl) (fun h => Has.g rfl (ng h))) rfl ?_
  refine nl ?_
  refine At.thn (hK8 _ _ ?_); clear hK8
  refine Tri.cond (Has.t rfl) (fun hc1 => ?_) (fun hc1 => ?_)
  · have hc1 := BP.t hc1
    have hlt2 : i < ds.length + 4 := by
      rcases Nat.lt_or_ge i (ds.length + 4) with h | h
      · exact h
      · have := carry_zero h1 hd h; omega
    refine Tri.skip ?_
    refine At.thn (hK7 _ _ ?_); clear hK7
    refine Tri.seq fun K9 hK9 => ?_
    refine Tri.block ?_
    refine Tri.seq fun K10 hK10 => ?_
    refine Tri.region ?_
    refine st (OK1.mv (Has.t rfl)) rfl ?_
    refine st (OK1.mv (Has.t rfl)) rfl ?_
    refine st (OK1.mv (Has.t rfl)) rfl ?_
    refine st (OK1.call (ref01_at) (.cons (Has.t rfl) (.cons (Has.t rfl) .nil))) rfl ?_
    refine st (OK1.eq (OK1.addI (Has.t rfl) (Has.t rfl) (by first | with_reducible assumption | omega | with_reducible exact d_wordsN_ok _ _) (by first | with_reducible assumption | omega | with_reducible exact d_wordsN_ok _ _)) ((show isI _ = isN (c + ds.getD i 0) from isI_eq (by omega)))) rfl ?_
    refine st (OK1.as (Has.t rfl)) rfl ?_
    refine nl ?_
    refine At.thn (hK10 _ _ ?_); clear hK10
    refine Tri.seq fun K11 hK11 => ?_
    refine Tri.region ?_
    refine st (OK1.mv (Has.t rfl)) rfl ?_
    refine st (OK1.mv (Has.t rfl)) rfl ?_
    refine st (OK1.eq (OK1.remI (Has.t rfl) (Has.cI 65536 rfl) (by first | with_reducible assumption | omega | with_reducible exact d_wordsN_ok _ _) (by first | with_reducible assumption | omega | with_reducible exact d_wordsN_ok _ _) (by first | with_reducible assumption | omega | with_reducible exact d_wordsN_ok _ _)) ((show isI _ = isN (dg (dval ds) i) from isI_eq (by have := hst.1; omega)))) rfl ?_
    refine st (OK1.buildS [isI 0] sl52 ty3 zero3 (fun _ _ => ⟨⟨rfl, by decide, by decide⟩, trivial⟩) rfl rfl (.cons (Has.t rfl) rfl rfl rfl .nil) rfl (S := SlM isN [_]) rfl) rfl ?_
    refine Ops.appendG (f := isN) (u := 0) sl52 ty3 zero3 (fun _ _ => ⟨⟨rfl, by decide, by decide⟩, trivial⟩) (fun _ => inferInstance) by3 (Has.t rfl) (i := 0) rfl (Has.t rfl) (by simp only [List.length_cons, List.length_nil]; omega) (by simp) rfl fun gr1 => ?_
    refine Ops.memEq (M' := [grM _ _ _]) rfl ?_
    refine st (OK1.as (Has.t rfl)) rfl ?_
    refine nl ?_
    refine At.thn (hK11 _ _ ?_); clear hK11
    refine Tri.region ?_
    refine st (OK1.mv (Has.t rfl)) rfl ?_
    refine st (OK1.eq (OK1.quoI (Has.t rfl) (Has.cI 65536 rfl) (by first | with_reducible assumption | omega | with_reducible exact d_wordsN_ok _ _) (by first | with_reducible assumption | omega | with_reducible exact d_wordsN_ok _ _) (by first | with_reducible assumption | omega | with_reducible exact d_wordsN_ok _ _)) ((show isI _ = isN ((c + ds.getD i 0) / 65536) from isI_eq (by omega)))) rfl ?_
    refine st (OK1.as (Has.t rfl)) rfl ?_
    refine nl ?_
    refine At.bln ?_
    refine At.thn (hK9 _ _ ?_); clear hK9
    refine Tri.region ?_
    refine st (OK1.mv (Has.t rfl)) rfl ?_
    refine st (OK1.addI (Has.t rfl) (Has.cI 1 rfl) (by first | with_reducible assumption | omega | with_reducible exact d_wordsN_ok _ _) (by first | with_reducible assumption | omega | with_reducible exact d_wordsN_ok _ _)) rfl ?_
    refine st (OK1.as (Has.t rfl)) rfl ?_
    refine nl ?_
    refine At.thn ?_
    have hlt : i < ds.length + 4 := by
      rcases Nat.lt_or_ge i (ds.length + 4) with h | h
      · exact h
      · have := carry_zero h1 hd h; omega
    refine hK6 (⟨(i + 1, (c + ds.getD i 0) / 65536, gr1), hst.2, by show (c + ds.getD i 0) / 65536 ≤ _; omega, by show i + 1 ≤ _; omega⟩) _ _ ?_ (Cv.mem (.cons (t := 5) (Has.t' rfl ?_) (.cons (t := 4) (Has.t' rfl ?_) (.cons (t := 3) (Has.t' rfl ?_) (.cons (t := 0) (Has.t rfl) (.cons (t := 2) (Has.t rfl) .nil))))) ?_)
    · exact carry_mu h1 (by omega)
    · rfl
    · rfl
    · exact isGr_eq (by simp only [List.length_append, d_wordsN_len, wordsN_len, addL_len, List.length_cons, List.length_nil] <;> omega)
    · exact grM_eq (d_wordsN_succ _ _).symm
  · have hc1 := BP.f hc1
    refine Tri.exit ?_
    refine At.the ?_
    refine At.the ?_
    refine At.blh ?_
    refine At.thn (hK4 _ _ ?_); clear hK4
    refine Tri.cv (Cv.wk (.cons (t := 2) (Has.t rfl) (.cons (t := 3) (Has.t rfl) .nil))) ?_
    refine Tri.seq fun K12 hK12 => ?_
    refine Tri.cv (Cv.freezeG (t := 3) (i := 0) (ys := digsN i (dval ds)) rfl rfl rfl) ?_
    refine Tri.memEq (M' := []) rfl ?_
    refine Tri.cv (Cv.wk (.cons (t := 2) (Has.t rfl) (.cons (t := 3) (Has.t rfl) .nil))) ?_
    refine Tri.region ?_
    refine st (OK1.mv (Has.t rfl)) rfl ?_
    refine st (OK1.call (ref01_Trim (by first | with_reducible assumption | omega | with_reducible exact d_wordsN_ok _ _)) (.cons (Has.t rfl) .nil)) rfl ?_
    refine st (OK1.as (Has.t rfl)) rfl ?_
    refine nl ?_
    refine At.thn (hK12 _ _ ?_); clear hK12
    refine Tri.ret ?_
    refine rt1 (.inl rfl) Try.results82 rfl (.tmp (Has.t' rfl ?_) .nil)
    all_goals (obtain rfl : c = 0 := (by omega); exact SlM_eq (carry_end h1 (by omega)))
set_option maxHeartbeats 4000000 in
theorem ref01_Add {m n : Nat} (hm : (List.length (digs m)) ≤ 536870912) (hn : (List.length (digs n)) ≤ 536870912) : Ctr Try.prog 66 [SlM isN (digs m), SlM isN (digs n)] (SlM isN (digs (m + n))) := by
  refine Ctr.intro Try.func66 rfl (by kernel_rfl) Try.ntmps66 rfl fun w0 F0 => ?_
  refine Tri.cv (Cv.wk (.cons (t := 0) (Has.t rfl) (.cons (t := 1) (Has.t rfl) .nil))) ?_
  refine Tri.fact (Has.lenLt (Has.t (t := 0) rfl)) fun lt0 => ?_
  refine Tri.fact (Has.lenLt (Has.t (t := 1) rfl)) fun lt1 => ?_
  refine Tri.seq fun K1 hK1 => ?_
  refine Tri.region ?_
  refine st (OK1.as (Has.cW (f := isN))) rfl ?_
  refine nl ?_
  refine At.thn (hK1 _ _ ?_); clear hK1
  refine Tri.seq fun K2 hK2 => ?_
  refine Tri.region ?_
  refine Ops.cv (Cv.grow0 (α := Nat) isN) ?_
  refine st (OK1.as (Has.cGr (α := Nat))) rfl ?_
  refine nl ?_
  refine At.thn (hK2 _ _ ?_); clear hK2
  refine Tri.seq fun K3 hK3 => ?_
  refine Tri.seq fun K4 hK4 => ?_
  refine Tri.region ?_
  refine st (OK1.as (Has.cI 0 rfl)) rfl ?_
  refine nl ?_
  refine At.thn (hK4 _ _ ?_); clear hK4
  refine Tri.block ?_
  refine Tri.loopF [0, 1, 4] (fun (z : { z : Nat × Gr Nat // z.1 ≤ max ((List.length (digs m))) ((List.length (digs n))) }) => match z with | ⟨(i, g), hI⟩ => [(6, isI (i : Int)), (5, isGr g (addL m n i).length)]) (fun M => fun (z : { z : Nat × Gr Nat // z.1 ≤ max ((List.length (digs m))) ((List.length (digs n))) }) => match z with | ⟨(i, g), hI⟩ => [grM isN g (addL m n i)]) (fun (z : { z : Nat × Gr Nat // z.1 ≤ max ((List.length (digs m))) ((List.length (digs n))) }) => match z with | ⟨(i, g), hI⟩ => max ((List.length (digs m))) ((List.length (digs n))) - i) (⟨(0, Gr.nil), Nat.zero_le _⟩) (Cv.mem (.cons (t := 6) (Has.t' rfl ?_) (.cons (t := 5) (Has.t' rfl ?_) (.cons (t := 0) (Has.t rfl) (.cons (t := 1) (Has.t rfl) (.cons (t := 4) (Has.t rfl) .nil))))) ?_) ?_
  · rfl
  · rfl
  · rfl
  rintro ⟨⟨i, g⟩, hI⟩ K5 hK5
  refine Tri.cv (Cv.wk (.cons (t := 6) (Has.t rfl) (.cons (t := 5) (Has.t rfl) (.cons (t := 0) (Has.t rfl) (.cons (t := 1) (Has.t rfl) (.cons (t := 4) (Has.t rfl) .nil)))))) ?_
  refine Tri.memEq (M' := [grM isN g (addL m n i)]) rfl ?_
  simp only [] at hI
  have hal := addL_len m n i
  have b1 := d_dig_lt m i
  have b2 := d_dig_lt n i
  unfold D at b1 b2
  refine Tri.seq fun K6 hK6 => ?_
  refine Tri.seq fun K7 hK7 => ?_
  refine Tri.region ?_
  refine st (OK1.mv (Has.t rfl)) rfl ?_
  refine st (OK1.mv (Has.t rfl)) rfl ?_
  refine st (OK1.len sl52 (Has.t rfl)) rfl ?_
  refine st (OK1.ltI (Has.t rfl) (Has.t rfl)) rfl ?_
  refine st (OK1.mv (Has.t rfl)) rfl ?_
  refine stF rfl rfl (fun hg => have hg' := BP.t hg; OK1.mv (Has.t rfl)) rfl ?_
  refine stF rfl rfl (fun hg => have hg' := BP.t hg; OK1.mv (Has.t rfl)) rfl ?_
  refine stF rfl rfl (fun hg => have hg' := BP.t hg; OK1.len sl52 (Has.g rfl hg)) rfl ?_
  refine stF rfl rfl (fun hg => have hg' := BP.t hg; OK1.ltI (Has.g rfl hg) (Has.g rfl hg)) rfl ?_
  refine st (OK1.pickOr (Has.t rfl) (fun h => Has.g rfl (ng h))) rfl ?_
  refine nl ?_
  refine At.thn (hK7 _ _ ?_); clear hK7
  refine Tri.cond (Has.t rfl) (fun hc1 => ?_) (fun hc1 => ?_)
  · have hc1 := BP.t hc1
    refine Tri.skip ?_
    refine At.thn (hK6 _ _ ?_); clear hK6
    refine Tri.seq fun K8 hK8 => ?_
    refine Tri.block ?_
    refine Tri.region ?_
    refine st (OK1.mv (Has.t rfl)) rfl ?_
    refine st (OK1.mv (Has.t rfl)) rfl ?_
    refine st (OK1.mv (Has.t rfl)) rfl ?_
    refine st (OK1.eq (OK1.call (ref01_at) (.cons (Has.t rfl) (.cons (Has.t rfl) .nil))) ((show isI _ = isN (dg m i) from isI_eq (by rw [d_getD_words])))) rfl ?_
    refine st (OK1.mv (Has.t rfl)) rfl ?_
    refine st (OK1.mv (Has.t rfl)) rfl ?_
    refine st (OK1.eq (OK1.call (ref01_at) (.cons (Has.t rfl) (.cons (Has.t rfl) .nil))) ((show isI _ = isN (dg n i) from isI_eq (by rw [d_getD_words])))) rfl ?_
    refine st (OK1.eq (OK1.addI (Has.t rfl) (Has.t rfl) (by first | with_reducible assumption | omega | with_reducible exact addL_le _ _ _ | (rw [addL_len]; omega)) (by first | with_reducible assumption | omega | with_reducible exact addL_le _ _ _ | (rw [addL_len]; omega))) ((show isI _ = isN (dg m i + dg n i) from isI_eq (by omega)))) rfl ?_
    refine st (OK1.buildS [isI 0] sl52 ty3 zero3 (fun _ _ => ⟨⟨rfl, by decide, by decide⟩, trivial⟩) rfl rfl (.cons (Has.t rfl) rfl rfl rfl .nil) rfl (S := SlM isN [_]) rfl) rfl ?_
    refine Ops.appendG (f := isN) (u := 0) sl52 ty3 zero3 (fun _ _ => ⟨⟨rfl, by decide, by decide⟩, trivial⟩) (fun _ => inferInstance) by3 (Has.t rfl) (i := 0) rfl (Has.t rfl) (by simp only [List.length_cons, List.length_nil]; omega) (by simp) rfl fun gr1 => ?_
    refine Ops.memEq (M' := [grM _ _ _]) rfl ?_
    refine st (OK1.as (Has.t rfl)) rfl ?_
    refine nl ?_
    refine At.bln ?_
    refine At.thn (hK8 _ _ ?_); clear hK8
    refine Tri.region ?_
    refine st (OK1.mv (Has.t rfl)) rfl ?_
    refine st (OK1.addI (Has.t rfl) (Has.cI 1 rfl) (by first | with_reducible assumption | omega | with_reducible exact addL_le _ _ _ | (rw [addL_len]; omega)) (by first | with_reducible assumption | omega | with_reducible exact addL_le _ _ _ | (rw [addL_len]; omega))) rfl ?_
    refine st (OK1.as (Has.t rfl)) rfl ?_
    refine nl ?_
    refine At.thn ?_
    refine hK5 (⟨(i + 1, gr1), by show i + 1 ≤ _; omega⟩) _ _ ?_ (Cv.mem (.cons (t := 6) (Has.t' rfl ?_) (.cons (t := 5) (Has.t' rfl ?_) (.cons (t := 0) (Has.t rfl) (.cons (t := 1) (Has.t rfl) (.cons (t := 4) (Has.t rfl) .nil))))) ?_)
    · show max ((List.length (digs m))) ((List.length (digs n))) - (i + 1) < max ((List.length (digs m))) ((List.length (digs n))) - i; omega
    · rfl
    · exact isGr_eq (by simp only [List.length_append, d_wordsN_len, wordsN_len, addL_len, List.length_cons, List.length_nil] <;> omega)
    · exact grM_eq (addL_succ _ _ _).symm
  · have hc1 := BP.f hc1
    refine Tri.exit ?_
    refine At.the ?_
    refine At.the ?_
    refine At.blh ?_
    refine At.thn (hK3 _ _ ?_); clear hK3
    refine Tri.cv (Cv.wk (.cons (t := 4) (Has.t rfl) (.cons (t := 5) (Has.t rfl) .nil))) ?_
    refine Tri.seq fun K9 hK9 => ?_
    refine Tri.cv (Cv.freezeG (t := 5) (i := 0) (ys := addL m n i) rfl rfl rfl) ?_
    refine Tri.memEq (M' := []) rfl ?_
    refine Tri.cv (Cv.wk (.cons (t := 4) (Has.t rfl) (.cons (t := 5) (Has.t rfl) .nil))) ?_
    refine Tri.region ?_
    refine st (OK1.mv (Has.t rfl)) rfl ?_
    refine st (OK1.call (ref01_Carried (by first | with_reducible assumption | omega | with_reducible exact addL_le _ _ _ | (rw [addL_len]; omega)) (by first | with_reducible assumption | omega | with_reducible exact addL_le _ _ _ | (rw [addL_len]; omega))) (.cons (Has.t rfl) .nil)) rfl ?_
    refine st (OK1.as (Has.t rfl)) rfl ?_
    refine nl ?_
    refine At.thn (hK9 _ _ ?_); clear hK9
    refine Tri.ret ?_
    refine rt1 (.inl rfl) Try.results66 rfl (.tmp (Has.t' rfl ?_) .nil)
    all_goals (exact SlM_eq (addL_end (by omega) (by omega)))
theorem bit_lt (n i k : Nat) : ((dg n i / 2 ^ k : Nat) : Int) < 9223372036854775808 := by
  have h1 := d_dig_lt n i
  have h2 := Nat.div_le_self (dg n i) (2 ^ k)
  unfold D at h1
  generalize dg n i / 2 ^ k = x at *
  omega
set_option maxHeartbeats 4000000 in
theorem ref01_Sub {m n : Nat} (hle : n ≤ m) (hm : (List.length (digs m)) ≤ 1073741824) : Ctr Try.prog 69 [SlM isN (digs m), SlM isN (digs n)] (SlM isN (digs (m - n))) := by
  refine Ctr.intro Try.func69 rfl (by kernel_rfl) Try.ntmps69 rfl fun w0 F0 => ?_
  refine Tri.cv (Cv.wk (.cons (t := 0) (Has.t rfl) (.cons (t := 1) (Has.t rfl) .nil))) ?_
  refine Tri.fact (Has.lenLt (Has.t (t := 0) rfl)) fun lt0 => ?_
  refine Tri.fact (Has.lenLt (Has.t (t := 1) rfl)) fun lt1 => ?_
  refine Tri.seq fun K1 hK1 => ?_
  refine Tri.region ?_
  refine st (OK1.as (Has.cW (f := isN))) rfl ?_
  refine nl ?_
  refine At.thn (hK1 _ _ ?_); clear hK1
  refine Tri.seq fun K2 hK2 => ?_
  refine Tri.region ?_
  refine Ops.cv (Cv.grow0 (α := Nat) isN) ?_
  refine st (OK1.as (Has.cGr (α := Nat))) rfl ?_
  refine nl ?_
  refine At.thn (hK2 _ _ ?_); clear hK2
  refine Tri.seq fun K3 hK3 => ?_
  refine Tri.region ?_
  refine st (OK1.as (Has.cI 0 rfl)) rfl ?_
  refine nl ?_
  refine At.thn (hK3 _ _ ?_); clear hK3
  refine Tri.seq fun K4 hK4 => ?_
  refine Tri.seq fun K5 hK5 => ?_
  refine Tri.region ?_
  refine st (OK1.as (Has.cI 0 rfl)) rfl ?_
  refine nl ?_
  refine At.thn (hK5 _ _ ?_); clear hK5
  refine Tri.block ?_
  refine Tri.loopF [0, 1, 4] (fun (z : { z : Nat × Gr Nat // z.1 ≤ (List.length (digs m)) }) => match z with | ⟨(i, g), hI⟩ => [(7, isI (i : Int)), (6, isN (dbor m n i)), (5, isGr g (digsN i (m - n)).length)]) (fun M => fun (z : { z : Nat × Gr Nat // z.1 ≤ (List.length (digs m)) }) => match z with | ⟨(i, g), hI⟩ => [grM isN g (digsN i (m - n))]) (fun (z : { z : Nat × Gr Nat // z.1 ≤ (List.length (digs m)) }) => match z with | ⟨(i, g), hI⟩ => (List.length (digs m)) - i) (⟨(0, Gr.nil), Nat.zero_le _⟩) (Cv.mem (.cons (t := 7) (Has.t' rfl ?_) (.cons (t := 6) (Has.t' rfl ?_) (.cons (t := 5) (Has.t' rfl ?_) (.cons (t := 0) (Has.t rfl) (.cons (t := 1) (Has.t rfl) (.cons (t := 4) (Has.t rfl) .nil)))))) ?_) ?_
  · rfl
  · exact isI_eq (by rw [← d_bor_zero]; rfl)
  · rfl
  · rfl
  rintro ⟨⟨i, g⟩, hI⟩ K6 hK6
  refine Tri.cv (Cv.wk (.cons (t := 7) (Has.t rfl) (.cons (t := 6) (Has.t rfl) (.cons (t := 5) (Has.t rfl) (.cons (t := 0) (Has.t rfl) (.cons (t := 1) (Has.t rfl) (.cons (t := 4) (Has.t rfl) .nil))))))) ?_
  refine Tri.memEq (M' := [grM isN g (digsN i (m - n))]) rfl ?_
  simp only [] at hI
  have hdl := d_wordsN_len i (m - n)
  have b1 := d_dig_lt m i
  have b2 := d_dig_lt n i
  have b3 := d_bor_le m n i
  have hsd := d_sub_dig hle i
  have hbs := dbor_eq m n i
  unfold D at b1 b2 hsd
  refine Tri.seq fun K7 hK7 => ?_
  refine Tri.seq fun K8 hK8 => ?_
  refine Tri.region ?_
  refine st (OK1.mv (Has.t rfl)) rfl ?_
  refine st (OK1.mv (Has.t rfl)) rfl ?_
  refine st (OK1.len sl52 (Has.t rfl)) rfl ?_
  refine st (OK1.ltI (Has.t rfl) (Has.t rfl)) rfl ?_
  refine nl ?_
  refine At.thn (hK8 _ _ ?_); clear hK8
  refine Tri.cond (Has.t rfl) (fun hc1 => ?_) (fun hc1 => ?_)
  · have hc1 := BP.t hc1
    refine Tri.skip ?_
    refine At.thn (hK7 _ _ ?_); clear hK7
    refine Tri.seq fun K9 hK9 => ?_
    refine Tri.block ?_
    refine Tri.seq fun K10 hK10 => ?_
    refine Tri.dr ?_
    refine DrG.st (i := 0) [] rfl rfl rfl (by kernel_rfl) (OKG.o rfl (OK1.mv (Has.t rfl))) ?_
    refine DrG.st (i := 1) [] rfl rfl rfl (by kernel_rfl) (OKG.o rfl (OK1.mv (Has.t rfl))) ?_
    refine DrG.st (i := 2) [15, 16] rfl rfl rfl (by kernel_rfl) (OKG.o rfl (OK1.ixP sl52 ty3 (Has.t rfl) (Has.t rfl) ⟨by omega, by omega⟩ (getD_some (d := 0) (by first | omega | (simp only [Int.toNat_natCast, List.length_set]; omega))))) ?_
    refine DrG.st (i := 3) [17] rfl rfl rfl (by kernel_rfl) (OKG.o rfl (OK1.eq (OK1.loadP1 (Has.t rfl) ty3) ((show isI _ = isN (dg m i) from isI_eq (by rw [Int.toNat_natCast, d_getD_words]))))) ?_
    refine DrG.st (i := 4) [] rfl rfl rfl (by kernel_rfl) (OKG.o rfl (OK1.mv (Has.t rfl))) ?_
    refine DrG.st (i := 5) [] rfl rfl rfl (by kernel_rfl) (OKG.o rfl (OK1.mv (Has.t rfl))) ?_
    refine DrG.st (i := 6) [19, 20] rfl rfl rfl (by kernel_rfl) (OKG.o rfl (OK1.eq (OK1.call (ref01_at) (.cons (Has.t rfl) (.cons (Has.t rfl) .nil))) ((show isI _ = isN (dg n i) from isI_eq (by rw [d_getD_words]))))) ?_
    refine DrG.st (i := 7) [18, 21] rfl rfl rfl (by kernel_rfl) (OKG.o rfl (OK1.subI (Has.t rfl) (Has.t rfl) (by first | with_reducible assumption | omega | with_reducible exact d_words_ok _ | with_reducible exact d_wordsN_ok _ _ | (simp only [d_val_words]; omega)) (by first | with_reducible assumption | omega | with_reducible exact d_words_ok _ | with_reducible exact d_wordsN_ok _ _ | (simp only [d_val_words]; omega)))) ?_
    refine DrG.st (i := 8) [] rfl rfl rfl (by kernel_rfl) (OKG.o rfl (OK1.mv (Has.t rfl))) ?_
    refine DrG.fin (n := 9) mixed (by kernel_rfl) (by kernel_rfl) (by kernel_rfl) ?_
    refine Ops.cv (Cv.wk (.cons (t := 0) (Has.t rfl) (.cons (t := 1) (Has.t rfl) (.cons (t := 4) (Has.t rfl) (.cons (t := 7) (Has.t rfl) (.cons (t := 6) (Has.t rfl) (.cons (t := 5) (Has.t rfl) (.cons (t := 9) (Has.t rfl) (.cons (t := 10) (Has.t rfl) (.cons (t := 11) (Has.t rfl) (.cons (t := 12) (Has.t rfl) (.cons (t := 15) (Has.t rfl) (.cons (t := 16) (Has.t rfl) (.cons (t := 17) (Has.t rfl) (.cons (t := 18) (Has.t rfl) (.cons (t := 19) (Has.t rfl) (.cons (t := 20) (Has.t rfl) (.cons (t := 21) (Has.t rfl) (.cons (t := 22) (Has.t rfl) (.cons (t := 23) (Has.t rfl) .nil)))))))))))))))))))) ?_
    refine st (OK1.subI (Has.t rfl) (Has.t rfl) (by first | with_reducible assumption | omega | with_reducible exact d_words_ok _ | with_reducible exact d_wordsN_ok _ _ | (simp only [d_val_words]; omega)) (by first | with_reducible assumption | omega | with_reducible exact d_words_ok _ | with_reducible exact d_wordsN_ok _ _ | (simp only [d_val_words]; omega))) rfl ?_
    refine st (OK1.as (Has.t rfl)) rfl ?_
    refine nl ?_
    refine At.thn (hK10 _ _ ?_); clear hK10
    refine Tri.seq fun K11 hK11 => ?_
    refine Tri.region ?_
    refine st (OK1.as (Has.cI 0 rfl)) rfl ?_
    refine nl ?_
    refine At.thn (hK11 _ _ ?_); clear hK11
    refine Tri.seq fun K12 hK12 => ?_
    refine Tri.seq fun K13 hK13 => ?_
    refine Tri.region ?_
    refine st (OK1.mv (Has.t rfl)) rfl ?_
    refine st (OK1.ltI (Has.t rfl) (Has.cI 0 rfl)) rfl ?_
    refine nl ?_
    refine At.thn (hK13 _ _ ?_); clear hK13
    refine Tri.cond (Has.t rfl) (fun hc2 => ?_) (fun hc2 => ?_)
    · have hc2 := BP.t hc2
      refine Tri.seq fun K14 hK14 => ?_
      refine Tri.region ?_
      refine st (OK1.mv (Has.t rfl)) rfl ?_
      refine st (OK1.addI (Has.t rfl) (Has.cI 65536 rfl) (by first | with_reducible assumption | omega | with_reducible exact d_words_ok _ | with_reducible exact d_wordsN_ok _ _ | (simp only [d_val_words]; omega)) (by first | with_reducible assumption | omega | with_reducible exact d_words_ok _ | with_reducible exact d_wordsN_ok _ _ | (simp only [d_val_words]; omega))) rfl ?_
      refine st (OK1.as (Has.t rfl)) rfl ?_
      refine nl ?_
      refine At.thn (hK14 _ _ ?_); clear hK14
      refine Tri.region ?_
      refine st (OK1.as (Has.cI 1 rfl)) rfl ?_
      refine nl ?_
      refine At.thn (hK12 _ _ ?_); clear hK12
      refine Tri.region ?_
      refine st (OK1.mv (Has.t rfl)) rfl ?_
      refine st (OK1.eq (OK1.mv (Has.t rfl)) ((show isI _ = isN (dg (m - n) i) from isI_eq (by omega)))) rfl ?_
      refine st (OK1.buildS [isI 0] sl52 ty3 zero3 (fun _ _ => ⟨⟨rfl, by decide, by decide⟩, trivial⟩) rfl rfl (.cons (Has.t rfl) rfl rfl rfl .nil) rfl (S := SlM isN [_]) rfl) rfl ?_
      refine Ops.appendG (f := isN) (u := 0) sl52 ty3 zero3 (fun _ _ => ⟨⟨rfl, by decide, by decide⟩, trivial⟩) (fun _ => inferInstance) by3 (Has.t rfl) (i := 0) rfl (Has.t rfl) (by simp only [List.length_cons, List.length_nil]; omega) (by simp) rfl fun gr1 => ?_
      refine Ops.memEq (M' := [grM _ _ _]) rfl ?_
      refine st (OK1.as (Has.t rfl)) rfl ?_
      refine nl ?_
      refine At.bln ?_
      refine At.thn (hK9 _ _ ?_); clear hK9
      refine Tri.region ?_
      refine st (OK1.mv (Has.t rfl)) rfl ?_
      refine st (OK1.addI (Has.t rfl) (Has.cI 1 rfl) (by first | with_reducible assumption | omega | with_reducible exact d_words_ok _ | with_reducible exact d_wordsN_ok _ _ | (simp only [d_val_words]; omega)) (by first | with_reducible assumption | omega | with_reducible exact d_words_ok _ | with_reducible exact d_wordsN_ok _ _ | (simp only [d_val_words]; omega))) rfl ?_
      refine st (OK1.as (Has.t rfl)) rfl ?_
      refine nl ?_
      refine At.thn ?_
      refine hK6 (⟨(i + 1, gr1), by show i + 1 ≤ _; omega⟩) _ _ ?_ (Cv.mem (.cons (t := 7) (Has.t' rfl ?_) (.cons (t := 6) (Has.t' rfl ?_) (.cons (t := 5) (Has.t' rfl ?_) (.cons (t := 0) (Has.t rfl) (.cons (t := 1) (Has.t rfl) (.cons (t := 4) (Has.t rfl) .nil)))))) ?_)
      · show (List.length (digs m)) - (i + 1) < (List.length (digs m)) - i; omega
      · rfl
      · exact isI_eq (by show _ = ((dbor m n (i + 1) : Nat) : Int); rw [hbs, if_pos (by omega)]; rfl)
      · exact isGr_eq (by simp only [List.length_append, d_wordsN_len, wordsN_len, addL_len, List.length_cons, List.length_nil] <;> omega)
      · exact grM_eq (d_wordsN_succ _ _).symm
    · have hc2 := BP.f hc2
      refine Tri.skip ?_
      refine At.thn (hK12 _ _ ?_); clear hK12
      refine Tri.region ?_
      refine st (OK1.mv (Has.t rfl)) rfl ?_
      refine st (OK1.eq (OK1.mv (Has.t rfl)) ((show isI _ = isN (dg (m - n) i) from isI_eq (by omega)))) rfl ?_
      refine st (OK1.buildS [isI 0] sl52 ty3 zero3 (fun _ _ => ⟨⟨rfl, by decide, by decide⟩, trivial⟩) rfl rfl (.cons (Has.t rfl) rfl rfl rfl .nil) rfl (S := SlM isN [_]) rfl) rfl ?_
      refine Ops.appendG (f := isN) (u := 0) sl52 ty3 zero3 (fun _ _ => ⟨⟨rfl, by decide, by decide⟩, trivial⟩) (fun _ => inferInstance) by3 (Has.t rfl) (i := 0) rfl (Has.t rfl) (by simp only [List.length_cons, List.length_nil]; omega) (by simp) rfl fun gr1 => ?_
      refine Ops.memEq (M' := [grM _ _ _]) rfl ?_
      refine st (OK1.as (Has.t rfl)) rfl ?_
      refine nl ?_
      refine At.bln ?_
      refine At.thn (hK9 _ _ ?_); clear hK9
      refine Tri.region ?_
      refine st (OK1.mv (Has.t rfl)) rfl ?_
      refine st (OK1.addI (Has.t rfl) (Has.cI 1 rfl) (by first | with_reducible assumption | omega | with_reducible exact d_words_ok _ | with_reducible exact d_wordsN_ok _ _ | (simp only [d_val_words]; omega)) (by first | with_reducible assumption | omega | with_reducible exact d_words_ok _ | with_reducible exact d_wordsN_ok _ _ | (simp only [d_val_words]; omega))) rfl ?_
      refine st (OK1.as (Has.t rfl)) rfl ?_
      refine nl ?_
      refine At.thn ?_
      refine hK6 (⟨(i + 1, gr1), by show i + 1 ≤ _; omega⟩) _ _ ?_ (Cv.mem (.cons (t := 7) (Has.t' rfl ?_) (.cons (t := 6) (Has.t' rfl ?_) (.cons (t := 5) (Has.t' rfl ?_) (.cons (t := 0) (Has.t rfl) (.cons (t := 1) (Has.t rfl) (.cons (t := 4) (Has.t rfl) .nil)))))) ?_)
      · show (List.length (digs m)) - (i + 1) < (List.length (digs m)) - i; omega
      · rfl
      · exact isI_eq (by show _ = ((dbor m n (i + 1) : Nat) : Int); rw [hbs, if_neg (by omega)]; rfl)
      · exact isGr_eq (by simp only [List.length_append, d_wordsN_len, wordsN_len, addL_len, List.length_cons, List.length_nil] <;> omega)
      · exact grM_eq (d_wordsN_succ _ _).symm
  · have hc1 := BP.f hc1
    refine Tri.exit ?_
    refine At.the ?_
    refine At.the ?_
    refine At.blh ?_
    refine At.thn (hK4 _ _ ?_); clear hK4
    refine Tri.cv (Cv.wk (.cons (t := 4) (Has.t rfl) (.cons (t := 5) (Has.t rfl) .nil))) ?_
    refine Tri.seq fun K15 hK15 => ?_
    refine Tri.cv (Cv.freezeG (t := 5) (i := 0) (ys := digsN i (m - n)) rfl rfl rfl) ?_
    refine Tri.memEq (M' := []) rfl ?_
    refine Tri.cv (Cv.wk (.cons (t := 4) (Has.t rfl) (.cons (t := 5) (Has.t rfl) .nil))) ?_
    refine Tri.region ?_
    refine st (OK1.mv (Has.t rfl)) rfl ?_
    refine st (OK1.call (ref01_Trim (by first | with_reducible assumption | omega | with_reducible exact d_words_ok _ | with_reducible exact d_wordsN_ok _ _ | (simp only [d_val_words]; omega))) (.cons (Has.t rfl) .nil)) rfl ?_
    refine st (OK1.as (Has.t rfl)) rfl ?_
    refine nl ?_
    refine At.thn (hK15 _ _ ?_); clear hK15
    refine Tri.ret ?_
    refine rt1 (.inl rfl) Try.results69 rfl (.tmp (Has.t' rfl ?_) .nil)
    all_goals (exact SlM_eq (sub_end (by omega)))
set_option maxHeartbeats 4000000 in
theorem ref01_Cmp {m n : Nat} (hm : (List.length (digs m)) ≤ 1073741824) (hn : (List.length (digs n)) ≤ 1073741824) : Ctr Try.prog 68 [SlM isN (digs m), SlM isN (digs n)] (isI (cmpN m n)) := by
  refine Ctr.intro Try.func68 rfl (by kernel_rfl) Try.ntmps68 rfl fun w0 F0 => ?_
  refine Tri.cv (Cv.wk (.cons (t := 0) (Has.t rfl) (.cons (t := 1) (Has.t rfl) .nil))) ?_
  refine Tri.fact (Has.lenLt (Has.t (t := 0) rfl)) fun lt0 => ?_
  refine Tri.fact (Has.lenLt (Has.t (t := 1) rfl)) fun lt1 => ?_
  refine Tri.seq fun K1 hK1 => ?_
  refine Tri.region ?_
  refine st (OK1.as (Has.cI 0 rfl)) rfl ?_
  refine nl ?_
  refine At.thn (hK1 _ _ ?_); clear hK1
  refine Tri.seq fun K2 hK2 => ?_
  refine Tri.region ?_
  refine st (OK1.mv (Has.t rfl)) rfl ?_
  refine st (OK1.eq (OK1.call (ref01_Trim (by first | with_reducible assumption | omega | with_reducible exact d_words_ok _ | with_reducible exact d_wordsN_ok _ _ | (simp only [d_val_words]; omega))) (.cons (Has.t rfl) .nil)) (by simp only [d_val_words]; rfl)) rfl ?_
  refine st (OK1.mv (Has.t rfl)) rfl ?_
  refine st (OK1.eq (OK1.call (ref01_Trim (by first | with_reducible assumption | omega | with_reducible exact d_words_ok _ | with_reducible exact d_wordsN_ok _ _ | (simp only [d_val_words]; omega))) (.cons (Has.t rfl) .nil)) (by simp only [d_val_words]; rfl)) rfl ?_
  refine st (OK1.as (Has.t rfl)) rfl ?_
  refine st (OK1.as (Has.t rfl)) rfl ?_
  refine nl ?_
  refine At.thn (hK2 _ _ ?_); clear hK2
  refine Tri.cv (Cv.wk (.cons (t := 4) (Has.t rfl) (.cons (t := 5) (Has.t rfl) (.cons (t := 6) (Has.t rfl) .nil)))) ?_
  refine Tri.seq fun K3 hK3 => ?_
  refine Tri.seq fun K4 hK4 => ?_
  refine Tri.region ?_
  refine st (OK1.mv (Has.t rfl)) rfl ?_
  refine st (OK1.len sl52 (Has.t rfl)) rfl ?_
  refine st (OK1.mv (Has.t rfl)) rfl ?_
  refine st (OK1.len sl52 (Has.t rfl)) rfl ?_
  refine st (OK1.neI (Has.t rfl) (Has.t rfl)) rfl ?_
  refine nl ?_
  refine At.thn (hK4 _ _ ?_); clear hK4
  refine Tri.cond (Has.t rfl) (fun hc1 => ?_) (fun hc1 => ?_)
  · have hc1 := BP.t hc1
    refine Tri.seq fun K5 hK5 => ?_
    refine Tri.seq fun K6 hK6 => ?_
    refine Tri.region ?_
    refine st (OK1.mv (Has.t rfl)) rfl ?_
    refine st (OK1.len sl52 (Has.t rfl)) rfl ?_
    refine st (OK1.mv (Has.t rfl)) rfl ?_
    refine st (OK1.len sl52 (Has.t rfl)) rfl ?_
    refine st (OK1.ltI (Has.t rfl) (Has.t rfl)) rfl ?_
    refine nl ?_
    refine At.thn (hK6 _ _ ?_); clear hK6
    refine Tri.cv (Cv.wk (.cons (t := 4) (Has.t rfl) (.cons (t := 5) (Has.t rfl) (.cons (t := 6) (Has.t rfl) (.cons (t := 21) (Has.t rfl) .nil))))) ?_
    refine Tri.cond (Has.t rfl) (fun hc2 => ?_) (fun hc2 => ?_)
    · have hc2 := BP.t hc2
      refine Tri.seq fun K7 hK7 => ?_
      refine Tri.region ?_
      refine st (OK1.as (Has.cI (-1) rfl)) rfl ?_
      refine nl ?_
      refine At.thn (hK7 _ _ ?_); clear hK7
      refine Tri.ret ?_
      refine At.thr ?_
      refine At.thr ?_
      refine rt1 (.inl rfl) Try.results68 rfl (.tmp (Has.t' rfl ?_) .nil)
      all_goals (exact isI_eq (d_cmp_len_lt (show (digs _).length < (digs _).length by omega)))
    · have hc2 := BP.f hc2
      refine Tri.skip ?_
      refine At.thn (hK5 _ _ ?_); clear hK5
      refine Tri.seq fun K8 hK8 => ?_
      refine Tri.region ?_
      refine st (OK1.as (Has.cI 1 rfl)) rfl ?_
      refine nl ?_
      refine At.thn (hK8 _ _ ?_); clear hK8
      refine Tri.ret ?_
      refine At.thr ?_
      refine rt1 (.inl rfl) Try.results68 rfl (.tmp (Has.t' rfl ?_) .nil)
      all_goals (exact isI_eq (d_cmp_len_gt (show (digs _).length < (digs _).length by omega)))
  · have hc1 := BP.f hc1
    refine Tri.skip ?_
    refine At.thn (hK3 _ _ ?_); clear hK3
    refine Tri.cv (Cv.wk (.cons (t := 4) (Has.t rfl) (.cons (t := 5) (Has.t rfl) (.cons (t := 6) (Has.t rfl) .nil)))) ?_
    refine Tri.seq fun K9 hK9 => ?_
    refine Tri.seq fun K10 hK10 => ?_
    refine Tri.region ?_
    refine st (OK1.mv (Has.t rfl)) rfl ?_
    refine st (OK1.len sl52 (Has.t rfl)) rfl ?_
    refine st (OK1.subI (Has.t rfl) (Has.cI 1 rfl) (by first | with_reducible assumption | omega | with_reducible exact d_words_ok _ | with_reducible exact d_wordsN_ok _ _ | (simp only [d_val_words]; omega)) (by first | with_reducible assumption | omega | with_reducible exact d_words_ok _ | with_reducible exact d_wordsN_ok _ _ | (simp only [d_val_words]; omega))) rfl ?_
    refine st (OK1.as (Has.t rfl)) rfl ?_
    refine nl ?_
    refine At.thn (hK10 _ _ ?_); clear hK10
    refine Tri.block ?_
    refine Tri.loopF [5, 6] (fun (z : { k : Nat // k ≤ (List.length (digs m)) ∧ m / D ^ k = n / D ^ k }) => match z with | ⟨k, hI⟩ => [(7, isI ((k : Int) - 1))]) (fun M => fun (z : { k : Nat // k ≤ (List.length (digs m)) ∧ m / D ^ k = n / D ^ k }) => match z with | ⟨k, hI⟩ => M) (fun (z : { k : Nat // k ≤ (List.length (digs m)) ∧ m / D ^ k = n / D ^ k }) => match z with | ⟨k, hI⟩ => k) (⟨(List.length (digs m)), Nat.le_refl _, d_cmp_start (show (digs _).length = (digs _).length by omega)⟩) (Cv.mem (.cons (t := 7) (Has.t' rfl ?_) (.cons (t := 5) (Has.t rfl) (.cons (t := 6) (Has.t rfl) .nil))) ?_) ?_
    · rfl
    · rfl
    rintro ⟨k, hk, he⟩ K11 hK11
    refine Tri.cv (Cv.wk (.cons (t := 7) (Has.t rfl) (.cons (t := 5) (Has.t rfl) (.cons (t := 6) (Has.t rfl) .nil)))) ?_
    have ek : ((k : Int) - 1).toNat = k - 1 := by omega
    refine Tri.seq fun K12 hK12 => ?_
    refine Tri.seq fun K13 hK13 => ?_
    refine Tri.region ?_
    refine st (OK1.mv (Has.t rfl)) rfl ?_
    refine st (OK1.geI (Has.t rfl) (Has.cI 0 rfl)) rfl ?_
    refine nl ?_
    refine At.thn (hK13 _ _ ?_); clear hK13
    refine Tri.cond (Has.t rfl) (fun hc3 => ?_) (fun hc3 => ?_)
    · have hc3 := BP.t hc3
      refine Tri.skip ?_
      refine At.thn (hK12 _ _ ?_); clear hK12
      refine Tri.seq fun K14 hK14 => ?_
      refine Tri.block ?_
      refine Tri.seq fun K15 hK15 => ?_
      refine Tri.seq fun K16 hK16 => ?_
      refine Tri.dr ?_
      refine DrG.st (i := 0) [] rfl rfl rfl (by kernel_rfl) (OKG.o rfl (OK1.mv (Has.t rfl))) ?_
      refine DrG.st (i := 1) [] rfl rfl rfl (by kernel_rfl) (OKG.o rfl (OK1.mv (Has.t rfl))) ?_
      refine DrG.st (i := 2) [29, 30] rfl rfl rfl (by kernel_rfl) (OKG.o rfl (OK1.ixP sl52 ty3 (Has.t rfl) (Has.t rfl) ⟨by omega, by omega⟩ (getD_some (d := 0) (by first | omega | (simp only [Int.toNat_natCast, List.length_set]; omega))))) ?_
      refine DrG.st (i := 3) [31] rfl rfl rfl (by kernel_rfl) (OKG.o rfl (OK1.loadP1 (Has.t rfl) ty3)) ?_
      refine DrG.st (i := 4) [] rfl rfl rfl (by kernel_rfl) (OKG.o rfl (OK1.mv (Has.t rfl))) ?_
      refine DrG.st (i := 5) [] rfl rfl rfl (by kernel_rfl) (OKG.o rfl (OK1.mv (Has.t rfl))) ?_
      refine DrG.st (i := 6) [33, 34] rfl rfl rfl (by kernel_rfl) (OKG.o rfl (OK1.ixP sl52 ty3 (Has.t rfl) (Has.t rfl) ⟨by omega, by omega⟩ (getD_some (d := 0) (by first | omega | (simp only [Int.toNat_natCast, List.length_set]; omega))))) ?_
      refine DrG.st (i := 7) [35] rfl rfl rfl (by kernel_rfl) (OKG.o rfl (OK1.loadP1 (Has.t rfl) ty3)) ?_
      refine DrG.fin (n := 8) mixed (by kernel_rfl) (by kernel_rfl) (by kernel_rfl) ?_
      refine Ops.cv (Cv.wk (.cons (t := 5) (Has.t rfl) (.cons (t := 6) (Has.t rfl) (.cons (t := 7) (Has.t rfl) (.cons (t := 25) (Has.t rfl) (.cons (t := 26) (Has.t rfl) (.cons (t := 29) (Has.t rfl) (.cons (t := 30) (Has.t rfl) (.cons (t := 31) (Has.t rfl) (.cons (t := 32) (Has.t rfl) (.cons (t := 33) (Has.t rfl) (.cons (t := 34) (Has.t rfl) (.cons (t := 35) (Has.t rfl) (.cons (t := 36) (Has.t rfl) .nil)))))))))))))) ?_
      refine st (OK1.ltI (Has.t rfl) (Has.t rfl)) rfl ?_
      refine nl ?_
      refine At.thn (hK16 _ _ ?_); clear hK16
      refine Tri.cond (Has.t rfl) (fun hc4 => ?_) (fun hc4 => ?_)
      · have hc4 := BP.t hc4
        have HL := hc4
        refine Tri.seq fun K17 hK17 => ?_
        refine Tri.region ?_
        refine st (OK1.as (Has.cI (-1) rfl)) rfl ?_
        refine nl ?_
        refine At.thn (hK17 _ _ ?_); clear hK17
        refine Tri.ret ?_
        refine At.thr ?_
        refine At.blr ?_
        refine At.thr ?_
        refine At.thr ?_
        refine At.blr ?_
        refine At.thr ?_
        refine rt1 (.inl rfl) Try.results68 rfl (.tmp (Has.t' rfl ?_) .nil)
        all_goals (rw [ek] at HL; exact isI_eq (d_cmp_lt (by omega) he (by omega)))
      · have hc4 := BP.f hc4
        have HL := hc4
        refine Tri.skip ?_
        refine At.thn (hK15 _ _ ?_); clear hK15
        refine Tri.seq fun K18 hK18 => ?_
        refine Tri.dr ?_
        refine DrG.st (i := 0) [] rfl rfl rfl (by kernel_rfl) (OKG.o rfl (OK1.mv (Has.t rfl))) ?_
        refine DrG.st (i := 1) [] rfl rfl rfl (by kernel_rfl) (OKG.o rfl (OK1.mv (Has.t rfl))) ?_
        refine DrG.st (i := 2) [38, 39] rfl rfl rfl (by kernel_rfl) (OKG.o rfl (OK1.ixP sl52 ty3 (Has.t rfl) (Has.t rfl) ⟨by omega, by omega⟩ (getD_some (d := 0) (by first | omega | (simp only [Int.toNat_natCast, List.length_set]; omega))))) ?_
        refine DrG.st (i := 3) [40] rfl rfl rfl (by kernel_rfl) (OKG.o rfl (OK1.loadP1 (Has.t rfl) ty3)) ?_
        refine DrG.st (i := 4) [] rfl rfl rfl (by kernel_rfl) (OKG.o rfl (OK1.mv (Has.t rfl))) ?_
        refine DrG.st (i := 5) [] rfl rfl rfl (by kernel_rfl) (OKG.o rfl (OK1.mv (Has.t rfl))) ?_
        refine DrG.st (i := 6) [42, 43] rfl rfl rfl (by kernel_rfl) (OKG.o rfl (OK1.ixP sl52 ty3 (Has.t rfl) (Has.t rfl) ⟨by omega, by omega⟩ (getD_some (d := 0) (by first | omega | (simp only [Int.toNat_natCast, List.length_set]; omega))))) ?_
        refine DrG.st (i := 7) [44] rfl rfl rfl (by kernel_rfl) (OKG.o rfl (OK1.loadP1 (Has.t rfl) ty3)) ?_
        refine DrG.fin (n := 8) mixed (by kernel_rfl) (by kernel_rfl) (by kernel_rfl) ?_
        refine Ops.cv (Cv.wk (.cons (t := 5) (Has.t rfl) (.cons (t := 6) (Has.t rfl) (.cons (t := 7) (Has.t rfl) (.cons (t := 25) (Has.t rfl) (.cons (t := 26) (Has.t rfl) (.cons (t := 29) (Has.t rfl) (.cons (t := 30) (Has.t rfl) (.cons (t := 31) (Has.t rfl) (.cons (t := 32) (Has.t rfl) (.cons (t := 33) (Has.t rfl) (.cons (t := 34) (Has.t rfl) (.cons (t := 35) (Has.t rfl) (.cons (t := 36) (Has.t rfl) (.cons (t := 37) (Has.t rfl) (.cons (t := 38) (Has.t rfl) (.cons (t := 39) (Has.t rfl) (.cons (t := 40) (Has.t rfl) (.cons (t := 41) (Has.t rfl) (.cons (t := 42) (Has.t rfl) (.cons (t := 43) (Has.t rfl) (.cons (t := 44) (Has.t rfl) (.cons (t := 45) (Has.t rfl) .nil))))))))))))))))))))))) ?_
        refine st (OK1.gtI (Has.t rfl) (Has.t rfl)) rfl ?_
        refine nl ?_
        refine At.thn (hK18 _ _ ?_); clear hK18
        refine Tri.cond (Has.t rfl) (fun hc5 => ?_) (fun hc5 => ?_)
        · have hc5 := BP.t hc5
          have HG := hc5
          refine Tri.seq fun K19 hK19 => ?_
          refine Tri.region ?_
          refine st (OK1.as (Has.cI 1 rfl)) rfl ?_
          refine nl ?_
          refine At.thn (hK19 _ _ ?_); clear hK19
          refine Tri.ret ?_
          refine At.blr ?_
          refine At.thr ?_
          refine At.thr ?_
          refine At.blr ?_
          refine At.thr ?_
          refine rt1 (.inl rfl) Try.results68 rfl (.tmp (Has.t' rfl ?_) .nil)
          all_goals (rw [ek] at HG; exact isI_eq (d_cmp_gt (by omega) he (by omega)))
        · have hc5 := BP.f hc5
          have HG := hc5
          refine Tri.skip ?_
          refine At.bln ?_
          refine At.thn (hK14 _ _ ?_); clear hK14
          refine Tri.region ?_
          refine st (OK1.mv (Has.t rfl)) rfl ?_
          refine st (OK1.subI (Has.t rfl) (Has.cI 1 rfl) (by first | with_reducible assumption | omega | with_reducible exact d_words_ok _ | with_reducible exact d_wordsN_ok _ _ | (simp only [d_val_words]; omega)) (by first | with_reducible assumption | omega | with_reducible exact d_words_ok _ | with_reducible exact d_wordsN_ok _ _ | (simp only [d_val_words]; omega))) rfl ?_
          refine st (OK1.as (Has.t rfl)) rfl ?_
          refine nl ?_
          refine At.thn ?_
          refine hK11 (⟨k - 1, by omega, d_cmp_step (by omega) he (by rw [ek] at HL HG; omega)⟩) _ _ ?_ (Cv.mem (.cons (t := 7) (Has.t' rfl ?_) (.cons (t := 5) (Has.t rfl) (.cons (t := 6) (Has.t rfl) .nil))) ?_)
          · show k - 1 < k; omega
          · exact isI_eq (by show _ = ((k - 1 : Nat) : Int) - 1; omega)
          · rfl
    · have hc3 := BP.f hc3
      refine Tri.exit ?_
      refine At.the ?_
      refine At.the ?_
      refine At.blh ?_
      refine At.thn (hK9 _ _ ?_); clear hK9
      refine Tri.cv (Cv.wk .nil) ?_
      refine Tri.seq fun K20 hK20 => ?_
      refine Tri.region ?_
      refine st (OK1.as (Has.cI 0 rfl)) rfl ?_
      refine nl ?_
      refine At.thn (hK20 _ _ ?_); clear hK20
      refine Tri.ret ?_
      refine rt1 (.inl rfl) Try.results68 rfl (.tmp (Has.t' rfl ?_) .nil)
      all_goals (exact isI_eq (d_cmp_eq he (by omega)))
set_option maxHeartbeats 4000000 in
theorem ref03_bit {n i : Nat} (hi : i < 16 * (List.length (digs n))) : Ctr Try.prog 67 [SlM isN (digs n), isI (i : Int)] (isN (n / 2 ^ i % 2)) := by
  refine Ctr.intro Try.func67 rfl (by kernel_rfl) Try.ntmps67 rfl fun w0 F0 => ?_
  refine Tri.cv (Cv.wk (.cons (t := 0) (Has.t rfl) (.cons (t := 1) (Has.t rfl) .nil))) ?_
  refine Tri.fact (Has.lenLt (Has.t (t := 0) rfl)) fun lt0 => ?_
  refine Tri.fact (Has.rngI (Has.t (t := 1) rfl)) fun lt1 => ?_
  have hdb := d_dig_lt n (i / 16)
  unfold D at hdb
  refine Tri.seq fun K1 hK1 => ?_
  refine Tri.region ?_
  refine st (OK1.as (Has.cI 0 rfl)) rfl ?_
  refine nl ?_
  refine At.thn (hK1 _ _ ?_); clear hK1
  refine Tri.seq fun K2 hK2 => ?_
  refine Tri.region ?_
  refine st (OK1.mv (Has.t rfl)) rfl ?_
  refine st (OK1.mv (Has.t rfl)) rfl ?_
  refine st (OK1.eq (OK1.quoI (Has.t rfl) (Has.cI 16 rfl) (by first | with_reducible assumption | omega | with_reducible exact d_words_ok _ | with_reducible exact d_wordsN_ok _ _ | (simp only [d_val_words]; omega)) (by first | with_reducible assumption | omega | with_reducible exact d_words_ok _ | with_reducible exact d_wordsN_ok _ _ | (simp only [d_val_words]; omega)) (by first | with_reducible assumption | omega | with_reducible exact d_words_ok _ | with_reducible exact d_wordsN_ok _ _ | (simp only [d_val_words]; omega))) ((show isI _ = isI ((i / 16 : Nat) : Int) from isI_eq (by omega)))) rfl ?_
  refine st (OK1.ixP sl52 ty3 (Has.t rfl) (Has.t rfl) ⟨by omega, by omega⟩ (getD_some (d := 0) (by first | omega | (simp only [Int.toNat_natCast, List.length_set]; omega)))) rfl ?_
  refine st (OK1.eq (OK1.loadP1 (Has.t rfl) ty3) ((show isI _ = isN (dg n (i / 16)) from isI_eq (by rw [Int.toNat_natCast, d_getD_words])))) rfl ?_
  refine st (OK1.as (Has.t rfl)) rfl ?_
  refine nl ?_
  refine At.thn (hK2 _ _ ?_); clear hK2
  refine Tri.cv (Cv.wk (.cons (t := 1) (Has.t rfl) (.cons (t := 4) (Has.t rfl) (.cons (t := 5) (Has.t rfl) .nil)))) ?_
  refine Tri.seq fun K3 hK3 => ?_
  refine Tri.seq fun K4 hK4 => ?_
  refine Tri.region ?_
  refine st (OK1.as (Has.cI 0 rfl)) rfl ?_
  refine nl ?_
  refine At.thn (hK4 _ _ ?_); clear hK4
  refine Tri.block ?_
  refine Tri.loopF [1, 4] (fun (z : { k : Nat // k ≤ i % 16 }) => match z with | ⟨k, hk⟩ => [(6, isI (k : Int)), (5, isN (dg n (i / 16) / 2 ^ k))]) (fun M => fun (z : { k : Nat // k ≤ i % 16 }) => match z with | ⟨k, hk⟩ => M) (fun (z : { k : Nat // k ≤ i % 16 }) => match z with | ⟨k, hk⟩ => i % 16 - k) (⟨0, Nat.zero_le _⟩) (Cv.mem (.cons (t := 6) (Has.t' rfl ?_) (.cons (t := 5) (Has.t' rfl ?_) (.cons (t := 1) (Has.t rfl) (.cons (t := 4) (Has.t rfl) .nil)))) ?_) ?_
  · rfl
  · exact isI_eq (by rw [Nat.pow_zero, Nat.div_one])
  · rfl
  rintro ⟨k, hk⟩ K5 hK5
  refine Tri.cv (Cv.wk (.cons (t := 6) (Has.t rfl) (.cons (t := 5) (Has.t rfl) (.cons (t := 1) (Has.t rfl) (.cons (t := 4) (Has.t rfl) .nil))))) ?_
  have hle := Nat.div_le_self (dg n (i / 16)) (2 ^ k)
  refine Tri.seq fun K6 hK6 => ?_
  refine Tri.seq fun K7 hK7 => ?_
  refine Tri.region ?_
  refine st (OK1.mv (Has.t rfl)) rfl ?_
  refine st (OK1.mv (Has.t rfl)) rfl ?_
  refine st (OK1.eq (OK1.remI (Has.t rfl) (Has.cI 16 rfl) (by first | with_reducible assumption | omega | with_reducible exact d_words_ok _ | with_reducible exact d_wordsN_ok _ _ | (simp only [d_val_words]; omega)) (by first | with_reducible assumption | omega | with_reducible exact d_words_ok _ | with_reducible exact d_wordsN_ok _ _ | (simp only [d_val_words]; omega)) (by first | with_reducible assumption | omega | with_reducible exact d_words_ok _ | with_reducible exact d_wordsN_ok _ _ | (simp only [d_val_words]; omega))) ((show isI _ = isI ((i % 16 : Nat) : Int) from isI_eq (by omega)))) rfl ?_
  refine st (OK1.ltI (Has.t rfl) (Has.t rfl)) rfl ?_
  refine nl ?_
  refine At.thn (hK7 _ _ ?_); clear hK7
  refine Tri.cond (Has.t rfl) (fun hc1 => ?_) (fun hc1 => ?_)
  · have hc1 := BP.t hc1
    refine Tri.skip ?_
    refine At.thn (hK6 _ _ ?_); clear hK6
    refine Tri.seq fun K8 hK8 => ?_
    refine Tri.block ?_
    refine Tri.region ?_
    refine st (OK1.mv (Has.t rfl)) rfl ?_
    refine st (OK1.eq (OK1.quoI (Has.t rfl) (Has.cI 2 rfl) (by first | with_reducible exact bit_lt _ _ _ | with_reducible exact Int.natCast_nonneg _ | decide | omega) (by first | with_reducible exact bit_lt _ _ _ | with_reducible exact Int.natCast_nonneg _ | decide | omega) (by first | with_reducible exact bit_lt _ _ _ | with_reducible exact Int.natCast_nonneg _ | decide | omega)) ((show isI _ = isN (dg n (i / 16) / 2 ^ k / 2) from isI_eq (by omega)))) rfl ?_
    refine st (OK1.as (Has.t rfl)) rfl ?_
    refine nl ?_
    refine At.bln ?_
    refine At.thn (hK8 _ _ ?_); clear hK8
    refine Tri.region ?_
    refine st (OK1.mv (Has.t rfl)) rfl ?_
    refine st (OK1.addI (Has.t rfl) (Has.cI 1 rfl) (by first | with_reducible assumption | omega | with_reducible exact d_words_ok _ | with_reducible exact d_wordsN_ok _ _ | (simp only [d_val_words]; omega)) (by first | with_reducible assumption | omega | with_reducible exact d_words_ok _ | with_reducible exact d_wordsN_ok _ _ | (simp only [d_val_words]; omega))) rfl ?_
    refine st (OK1.as (Has.t rfl)) rfl ?_
    refine nl ?_
    refine At.thn ?_
    refine hK5 (⟨k + 1, by omega⟩) _ _ ?_ (Cv.mem (.cons (t := 6) (Has.t' rfl ?_) (.cons (t := 5) (Has.t' rfl ?_) (.cons (t := 1) (Has.t rfl) (.cons (t := 4) (Has.t rfl) .nil)))) ?_)
    · show i % 16 - (k + 1) < i % 16 - k; omega
    · rfl
    · exact isI_eq (by rw [Nat.pow_succ, ← Nat.div_div_eq_div_mul])
    · rfl
  · have hc1 := BP.f hc1
    refine Tri.exit ?_
    refine At.the ?_
    refine At.the ?_
    refine At.blh ?_
    refine At.thn (hK3 _ _ ?_); clear hK3
    refine Tri.cv (Cv.wk (.cons (t := 4) (Has.t rfl) (.cons (t := 5) (Has.t rfl) .nil))) ?_
    refine Tri.seq fun K9 hK9 => ?_
    refine Tri.region ?_
    refine st (OK1.mv (Has.t rfl)) rfl ?_
    refine st (OK1.eq (OK1.remI (Has.t rfl) (Has.cI 2 rfl) (by first | with_reducible exact bit_lt _ _ _ | with_reducible exact Int.natCast_nonneg _ | decide | omega) (by first | with_reducible exact bit_lt _ _ _ | with_reducible exact Int.natCast_nonneg _ | decide | omega) (by first | with_reducible exact bit_lt _ _ _ | with_reducible exact Int.natCast_nonneg _ | decide | omega)) ((show isI _ = isN (dg n (i / 16) / 2 ^ k % 2) from isI_eq (by omega)))) rfl ?_
    refine st (OK1.as (Has.t rfl)) rfl ?_
    refine nl ?_
    refine At.thn (hK9 _ _ ?_); clear hK9
    refine Tri.ret ?_
    refine rt1 (.inl rfl) Try.results67 rfl (.tmp (Has.t' rfl ?_) .nil)
    all_goals (obtain rfl : k = i % 16 := (by omega); exact isI_eq (by rw [bit_dg]))
theorem ref_dm {a b s t r2 : Nat} (hb : 0 < b) (ht : t = a / 2 ^ s % 2) (hr : r2 = a / 2 ^ (s + 1) % b + a / 2 ^ (s + 1) % b + t) :
    (b ≤ r2 → a / 2 ^ (s + 1) / b + a / 2 ^ (s + 1) / b + 1 = a / 2 ^ s / b ∧ r2 - b = a / 2 ^ s % b) ∧ (r2 < b → a / 2 ^ (s + 1) / b + a / 2 ^ (s + 1) / b = a / 2 ^ s / b ∧ r2 = a / 2 ^ s % b) := by
  have es := bit_step a s
  rw [← ht] at es
  have hd := dm_step (A := a / 2 ^ (s + 1)) (t := t) hb (by omega)
  rw [← es] at hd
  constructor
  · intro h
    have := hd.1 (by omega)
    omega
  · intro h
    have := hd.2 (by omega)
    omega
set_option maxHeartbeats 4000000 in
theorem ref03_DivMod {a b : Nat} (hb : 0 < b) (ha : (List.length (digs a)) ≤ 16777216) (hb2 : (List.length (digs b)) ≤ 16777216) : Ctr Try.prog 44 [SlM isN (digs a), SlM isN (digs b)] (isTup [SlM isN (digs (a / b)), SlM isN (digs (a % b))]) := by
  refine Ctr.intro Try.func44 rfl (by kernel_rfl) Try.ntmps44 rfl fun w0 F0 => ?_
  refine Tri.cv (Cv.wk (.cons (t := 0) (Has.t rfl) (.cons (t := 1) (Has.t rfl) .nil))) ?_
  refine Tri.fact (Has.lenLt (Has.t (t := 0) rfl)) fun lt0 => ?_
  refine Tri.fact (Has.lenLt (Has.t (t := 1) rfl)) fun lt1 => ?_
  refine Tri.seq fun K1 hK1 => ?_
  refine Tri.region ?_
  refine st (OK1.as (Has.cW (f := isN))) rfl ?_
  refine st (OK1.as (Has.cW (f := isN))) rfl ?_
  refine nl ?_
  refine At.thn (hK1 _ _ ?_); clear hK1
  refine Tri.seq fun K2 hK2 => ?_
  refine Tri.region ?_
  refine st (OK1.as (Has.cW (f := isN))) rfl ?_
  refine st (OK1.as (Has.cW (f := isN))) rfl ?_
  refine nl ?_
  refine At.thn (hK2 _ _ ?_); clear hK2
  refine Tri.seq fun K3 hK3 => ?_
  refine Tri.seq fun K4 hK4 => ?_
  refine Tri.region ?_
  refine st (OK1.mv (Has.t rfl)) rfl ?_
  refine st (OK1.len sl52 (Has.t rfl)) rfl ?_
  refine st (OK1.mulI (Has.cI 16 rfl) (Has.t rfl) (by first | with_reducible assumption | omega | with_reducible exact d_words_ok _ | with_reducible exact d_wordsN_ok _ _ | (simp only [d_val_words]; omega)) (by first | with_reducible assumption | omega | with_reducible exact d_words_ok _ | with_reducible exact d_wordsN_ok _ _ | (simp only [d_val_words]; omega))) rfl ?_
  refine st (OK1.subI (Has.t rfl) (Has.cI 1 rfl) (by first | with_reducible assumption | omega | with_reducible exact d_words_ok _ | with_reducible exact d_wordsN_ok _ _ | (simp only [d_val_words]; omega)) (by first | with_reducible assumption | omega | with_reducible exact d_words_ok _ | with_reducible exact d_wordsN_ok _ _ | (simp only [d_val_words]; omega))) rfl ?_
  refine st (OK1.as (Has.t rfl)) rfl ?_
  refine nl ?_
  refine At.thn (hK4 _ _ ?_); clear hK4
  refine Tri.block ?_
  refine Tri.loopF [0, 1, 4, 5] (fun (z : { t : Nat // t ≤ 16 * (List.length (digs a)) }) => match z with | ⟨t, ht⟩ => [(8, isI ((t : Int) - 1)), (6, SlM isN (digs (a / 2 ^ t / b))), (7, SlM isN (digs (a / 2 ^ t % b)))]) (fun M => fun (z : { t : Nat // t ≤ 16 * (List.length (digs a)) }) => match z with | ⟨t, ht⟩ => M) (fun (z : { t : Nat // t ≤ 16 * (List.length (digs a)) }) => match z with | ⟨t, ht⟩ => t) (⟨16 * (List.length (digs a)), Nat.le_refl _⟩) (Cv.mem (.cons (t := 8) (Has.t' rfl ?_) (.cons (t := 6) (Has.t' rfl ?_) (.cons (t := 7) (Has.t' rfl ?_) (.cons (t := 0) (Has.t rfl) (.cons (t := 1) (Has.t rfl) (.cons (t := 4) (Has.t rfl) (.cons (t := 5) (Has.t rfl) .nil))))))) ?_) ?_
  · exact isI_eq (by omega)
  · exact SlM_eq (by rw [dm_top, Nat.zero_div, d_words_zero])
  · exact SlM_eq (by rw [dm_top, Nat.zero_mod, d_words_zero])
  · rfl
  rintro ⟨t, ht⟩ K5 hK5
  refine Tri.cv (Cv.wk (.cons (t := 8) (Has.t rfl) (.cons (t := 6) (Has.t rfl) (.cons (t := 7) (Has.t rfl) (.cons (t := 0) (Has.t rfl) (.cons (t := 1) (Has.t rfl) (.cons (t := 4) (Has.t rfl) (.cons (t := 5) (Has.t rfl) .nil)))))))) ?_
  refine Tri.seq fun K6 hK6 => ?_
  refine Tri.seq fun K7 hK7 => ?_
  refine Tri.region ?_
  refine st (OK1.mv (Has.t rfl)) rfl ?_
  refine st (OK1.geI (Has.t rfl) (Has.cI 0 rfl)) rfl ?_
  refine nl ?_
  refine At.thn (hK7 _ _ ?_); clear hK7
  refine Tri.cond (Has.t rfl) (fun hc1 => ?_) (fun hc1 => ?_)
  · have hc1 := BP.t hc1
    obtain ⟨s, rfl⟩ : ∃ s, t = s + 1 := ⟨t - 1, by omega⟩
    have f1 : (List.length (digs (a / 2 ^ (s + 1) / b))) ≤ (List.length (digs a)) := d_nw_mono (Nat.le_trans (Nat.div_le_self _ _) (Nat.div_le_self _ _))
    have f2 : (List.length (digs (a / 2 ^ (s + 1) % b))) ≤ (List.length (digs b)) := d_nw_mono (Nat.le_of_lt (Nat.mod_lt _ hb))
    have f3 : (List.length (digs (a / 2 ^ (s + 1) / b + a / 2 ^ (s + 1) / b))) ≤ (List.length (digs (a / 2 ^ (s + 1) / b))) + 1 := nd_double (by omega)
    have f4 : (List.length (digs (a / 2 ^ (s + 1) % b + a / 2 ^ (s + 1) % b))) ≤ (List.length (digs (a / 2 ^ (s + 1) % b))) + 1 := nd_double (by omega)
    have f5 : (List.length (digs (a / 2 ^ (s + 1) % b + a / 2 ^ (s + 1) % b + 1))) ≤ (List.length (digs (a / 2 ^ (s + 1) % b))) + 1 := nd_double (by omega)
    have f6 : (List.length (digs 1)) = 1 := by rw [one_digs]; rfl
    refine Tri.skip ?_
    refine At.thn (hK6 _ _ ?_); clear hK6
    refine Tri.seq fun K8 hK8 => ?_
    refine Tri.block ?_
    refine Tri.seq fun K9 hK9 => ?_
    refine Tri.region ?_
    refine st (OK1.mv (Has.t rfl)) rfl ?_
    refine st (OK1.mv (Has.t rfl)) rfl ?_
    refine st (OK1.call (ref01_Add (by first | with_reducible assumption | omega | with_reducible exact d_words_ok _ | with_reducible exact d_wordsN_ok _ _ | (simp only [d_val_words]; omega)) (by first | with_reducible assumption | omega | with_reducible exact d_words_ok _ | with_reducible exact d_wordsN_ok _ _ | (simp only [d_val_words]; omega))) (.cons (Has.t rfl) (.cons (Has.t rfl) .nil))) rfl ?_
    refine st (OK1.as (Has.t rfl)) rfl ?_
    refine nl ?_
    refine At.thn (hK9 _ _ ?_); clear hK9
    refine Tri.seq fun K10 hK10 => ?_
    refine Tri.region ?_
    refine st (OK1.mv (Has.t rfl)) rfl ?_
    refine st (OK1.mv (Has.t rfl)) rfl ?_
    refine st (OK1.call (ref01_Add (by first | with_reducible assumption | omega | with_reducible exact d_words_ok _ | with_reducible exact d_wordsN_ok _ _ | (simp only [d_val_words]; omega)) (by first | with_reducible assumption | omega | with_reducible exact d_words_ok _ | with_reducible exact d_wordsN_ok _ _ | (simp only [d_val_words]; omega))) (.cons (Has.t rfl) (.cons (Has.t rfl) .nil))) rfl ?_
    refine st (OK1.as (Has.t rfl)) rfl ?_
    refine nl ?_
    refine At.thn (hK10 _ _ ?_); clear hK10
    refine Tri.seq fun K11 hK11 => ?_
    refine Tri.seq fun K12 hK12 => ?_
    refine Tri.region ?_
    refine st (OK1.mv (Has.t rfl)) rfl ?_
    refine st (OK1.eq (OK1.mv (Has.t rfl)) ((show isI _ = isI (s : Int) from isI_eq (by omega)))) rfl ?_
    refine st (OK1.call (ref03_bit (by first | with_reducible assumption | omega | with_reducible exact d_words_ok _ | with_reducible exact d_wordsN_ok _ _ | (simp only [d_val_words]; omega))) (.cons (Has.t rfl) (.cons (Has.t rfl) .nil))) rfl ?_
    refine st (OK1.eqI (Has.t rfl) (Has.cI 1 rfl)) rfl ?_
    refine nl ?_
    refine At.thn (hK12 _ _ ?_); clear hK12
    refine Tri.cond (Has.t rfl) (fun hc2 => ?_) (fun hc2 => ?_)
    · have hc2 := BP.t hc2
      have HB := hc2
      refine Tri.region ?_
      refine st (OK1.mv (Has.t rfl)) rfl ?_
      refine st (OK1.eq (OK1.buildS [isI 0] sl52 ty3 zero3 (fun _ _ => ⟨⟨rfl, by decide, by decide⟩, trivial⟩) rfl rfl (.cons (Has.cI 1 rfl) rfl rfl rfl .nil) rfl (S := SlM isN [1]) rfl) ((show SlM isN [1] = SlM isN (digs 1) from SlM_eq one_digs.symm))) rfl ?_
      refine st (OK1.call (ref01_Add (by first | with_reducible assumption | omega | with_reducible exact d_words_ok _ | with_reducible exact d_wordsN_ok _ _ | (simp only [d_val_words]; omega)) (by first | with_reducible assumption | omega | with_reducible exact d_words_ok _ | with_reducible exact d_wordsN_ok _ _ | (simp only [d_val_words]; omega))) (.cons (Has.t rfl) (.cons (Has.t rfl) .nil))) rfl ?_
      refine st (OK1.as (Has.t rfl)) rfl ?_
      refine nl ?_
      refine At.thn (hK11 _ _ ?_); clear hK11
      refine Tri.seq fun K13 hK13 => ?_
      refine Tri.region ?_
      refine st (OK1.mv (Has.t rfl)) rfl ?_
      refine st (OK1.mv (Has.t rfl)) rfl ?_
      refine st (OK1.call (ref01_Cmp (by first | with_reducible assumption | omega | with_reducible exact d_words_ok _ | with_reducible exact d_wordsN_ok _ _ | (simp only [d_val_words]; omega)) (by first | with_reducible assumption | omega | with_reducible exact d_words_ok _ | with_reducible exact d_wordsN_ok _ _ | (simp only [d_val_words]; omega))) (.cons (Has.t rfl) (.cons (Has.t rfl) .nil))) rfl ?_
      refine st (OK1.geI (Has.t rfl) (Has.cI 0 rfl)) rfl ?_
      refine nl ?_
      refine At.thn (hK13 _ _ ?_); clear hK13
      refine Tri.cond (Has.t rfl) (fun hc3 => ?_) (fun hc3 => ?_)
      · have hc3 := BP.t hc3
        have HG := hc3
        have hge := cmpN_nn HG
        refine Tri.seq fun K14 hK14 => ?_
        refine Tri.region ?_
        refine st (OK1.mv (Has.t rfl)) rfl ?_
        refine st (OK1.mv (Has.t rfl)) rfl ?_
        refine st (OK1.call (ref01_Sub (by first | with_reducible assumption | omega | with_reducible exact d_words_ok _ | with_reducible exact d_wordsN_ok _ _ | (simp only [d_val_words]; omega)) (by first | with_reducible assumption | omega | with_reducible exact d_words_ok _ | with_reducible exact d_wordsN_ok _ _ | (simp only [d_val_words]; omega))) (.cons (Has.t rfl) (.cons (Has.t rfl) .nil))) rfl ?_
        refine st (OK1.as (Has.t rfl)) rfl ?_
        refine nl ?_
        refine At.thn (hK14 _ _ ?_); clear hK14
        refine Tri.region ?_
        refine st (OK1.mv (Has.t rfl)) rfl ?_
        refine st (OK1.eq (OK1.buildS [isI 0] sl52 ty3 zero3 (fun _ _ => ⟨⟨rfl, by decide, by decide⟩, trivial⟩) rfl rfl (.cons (Has.cI 1 rfl) rfl rfl rfl .nil) rfl (S := SlM isN [1]) rfl) ((show SlM isN [1] = SlM isN (digs 1) from SlM_eq one_digs.symm))) rfl ?_
        refine st (OK1.call (ref01_Add (by first | with_reducible assumption | omega | with_reducible exact d_words_ok _ | with_reducible exact d_wordsN_ok _ _ | (simp only [d_val_words]; omega)) (by first | with_reducible assumption | omega | with_reducible exact d_words_ok _ | with_reducible exact d_wordsN_ok _ _ | (simp only [d_val_words]; omega))) (.cons (Has.t rfl) (.cons (Has.t rfl) .nil))) rfl ?_
        refine st (OK1.as (Has.t rfl)) rfl ?_
        refine nl ?_
        refine At.bln ?_
        refine At.thn (hK8 _ _ ?_); clear hK8
        refine Tri.region ?_
        refine st (OK1.mv (Has.t rfl)) rfl ?_
        refine st (OK1.subI (Has.t rfl) (Has.cI 1 rfl) (by first | with_reducible assumption | omega | with_reducible exact d_words_ok _ | with_reducible exact d_wordsN_ok _ _ | (simp only [d_val_words]; omega)) (by first | with_reducible assumption | omega | with_reducible exact d_words_ok _ | with_reducible exact d_wordsN_ok _ _ | (simp only [d_val_words]; omega))) rfl ?_
        refine st (OK1.as (Has.t rfl)) rfl ?_
        refine nl ?_
        refine At.thn ?_
        refine hK5 (⟨s, by omega⟩) _ _ ?_ (Cv.mem (.cons (t := 8) (Has.t' rfl ?_) (.cons (t := 6) (Has.t' rfl ?_) (.cons (t := 7) (Has.t' rfl ?_) (.cons (t := 0) (Has.t rfl) (.cons (t := 1) (Has.t rfl) (.cons (t := 4) (Has.t rfl) (.cons (t := 5) (Has.t rfl) .nil))))))) ?_)
        · show s < s + 1; omega
        · exact isI_eq (by omega)
        · exact SlM_eq (congrArg digs ((ref_dm (t := 1) hb (by omega) rfl).1 (cmpN_nn HG)).1)
        · exact SlM_eq (congrArg digs ((ref_dm (t := 1) hb (by omega) rfl).1 (cmpN_nn HG)).2)
        · rfl
      · have hc3 := BP.f hc3
        have HG := hc3
        refine Tri.skip ?_
        refine At.bln ?_
        refine At.thn (hK8 _ _ ?_); clear hK8
        refine Tri.region ?_
        refine st (OK1.mv (Has.t rfl)) rfl ?_
        refine st (OK1.subI (Has.t rfl) (Has.cI 1 rfl) (by first | with_reducible assumption | omega | with_reducible exact d_words_ok _ | with_reducible exact d_wordsN_ok _ _ | (simp only [d_val_words]; omega)) (by first | with_reducible assumption | omega | with_reducible exact d_words_ok _ | with_reducible exact d_wordsN_ok _ _ | (simp only [d_val_words]; omega))) rfl ?_
        refine st (OK1.as (Has.t rfl)) rfl ?_
        refine nl ?_
        refine At.thn ?_
        refine hK5 (⟨s, by omega⟩) _ _ ?_ (Cv.mem (.cons (t := 8) (Has.t' rfl ?_) (.cons (t := 6) (Has.t' rfl ?_) (.cons (t := 7) (Has.t' rfl ?_) (.cons (t := 0) (Has.t rfl) (.cons (t := 1) (Has.t rfl) (.cons (t := 4) (Has.t rfl) (.cons (t := 5) (Has.t rfl) .nil))))))) ?_)
        · show s < s + 1; omega
        · exact isI_eq (by omega)
        · exact SlM_eq (congrArg digs ((ref_dm (t := 1) hb (by omega) rfl).2 (cmpN_neg.1 HG)).1)
        · exact SlM_eq (congrArg digs ((ref_dm (t := 1) hb (by omega) rfl).2 (cmpN_neg.1 HG)).2)
        · rfl
    · have hc2 := BP.f hc2
      have HB := hc2
      have hbit := Nat.mod_lt (a / 2 ^ s) (show 0 < 2 by decide)
      refine Tri.skip ?_
      refine At.thn (hK11 _ _ ?_); clear hK11
      refine Tri.seq fun K15 hK15 => ?_
      refine Tri.region ?_
      refine st (OK1.mv (Has.t rfl)) rfl ?_
      refine st (OK1.mv (Has.t rfl)) rfl ?_
      refine st (OK1.call (ref01_Cmp (by first | with_reducible assumption | omega | with_reducible exact d_words_ok _ | with_reducible exact d_wordsN_ok _ _ | (simp only [d_val_words]; omega)) (by first | with_reducible assumption | omega | with_reducible exact d_words_ok _ | with_reducible exact d_wordsN_ok _ _ | (simp only [d_val_words]; omega))) (.cons (Has.t rfl) (.cons (Has.t rfl) .nil))) rfl ?_
      refine st (OK1.geI (Has.t rfl) (Has.cI 0 rfl)) rfl ?_
      refine nl ?_
      refine At.thn (hK15 _ _ ?_); clear hK15
      refine Tri.cond (Has.t rfl) (fun hc4 => ?_) (fun hc4 => ?_)
      · have hc4 := BP.t hc4
        have HG := hc4
        have hge := cmpN_nn HG
        refine Tri.seq fun K16 hK16 => ?_
        refine Tri.region ?_
        refine st (OK1.mv (Has.t rfl)) rfl ?_
        refine st (OK1.mv (Has.t rfl)) rfl ?_
        refine st (OK1.call (ref01_Sub (by first | with_reducible assumption | omega | with_reducible exact d_words_ok _ | with_reducible exact d_wordsN_ok _ _ | (simp only [d_val_words]; omega)) (by first | with_reducible assumption | omega | with_reducible exact d_words_ok _ | with_reducible exact d_wordsN_ok _ _ | (simp only [d_val_words]; omega))) (.cons (Has.t rfl) (.cons (Has.t rfl) .nil))) rfl ?_
        refine st (OK1.as (Has.t rfl)) rfl ?_
        refine nl ?_
        refine At.thn (hK16 _ _ ?_); clear hK16
        refine Tri.region ?_
        refine st (OK1.mv (Has.t rfl)) rfl ?_
        refine st (OK1.eq (OK1.buildS [isI 0] sl52 ty3 zero3 (fun _ _ => ⟨⟨rfl, by decide, by decide⟩, trivial⟩) rfl rfl (.cons (Has.cI 1 rfl) rfl rfl rfl .nil) rfl (S := SlM isN [1]) rfl) ((show SlM isN [1] = SlM isN (digs 1) from SlM_eq one_digs.symm))) rfl ?_
        refine st (OK1.call (ref01_Add (by first | with_reducible assumption | omega | with_reducible exact d_words_ok _ | with_reducible exact d_wordsN_ok _ _ | (simp only [d_val_words]; omega)) (by first | with_reducible assumption | omega | with_reducible exact d_words_ok _ | with_reducible exact d_wordsN_ok _ _ | (simp only [d_val_words]; omega))) (.cons (Has.t rfl) (.cons (Has.t rfl) .nil))) rfl ?_
        refine st (OK1.as (Has.t rfl)) rfl ?_
        refine nl ?_
        refine At.bln ?_
        refine At.thn (hK8 _ _ ?_); clear hK8
        refine Tri.region ?_
        refine st (OK1.mv (Has.t rfl)) rfl ?_
        refine st (OK1.subI (Has.t rfl) (Has.cI 1 rfl) (by first | with_reducible assumption | omega | with_reducible exact d_words_ok _ | with_reducible exact d_wordsN_ok _ _ | (simp only [d_val_words]; omega)) (by first | with_reducible assumption | omega | with_reducible exact d_words_ok _ | with_reducible exact d_wordsN_ok _ _ | (simp only [d_val_words]; omega))) rfl ?_
        refine st (OK1.as (Has.t rfl)) rfl ?_
        refine nl ?_
        refine At.thn ?_
        refine hK5 (⟨s, by omega⟩) _ _ ?_ (Cv.mem (.cons (t := 8) (Has.t' rfl ?_) (.cons (t := 6) (Has.t' rfl ?_) (.cons (t := 7) (Has.t' rfl ?_) (.cons (t := 0) (Has.t rfl) (.cons (t := 1) (Has.t rfl) (.cons (t := 4) (Has.t rfl) (.cons (t := 5) (Has.t rfl) .nil))))))) ?_)
        · show s < s + 1; omega
        · exact isI_eq (by omega)
        · exact SlM_eq (congrArg digs ((ref_dm (t := 0) hb (by omega) rfl).1 (cmpN_nn HG)).1)
        · exact SlM_eq (congrArg digs ((ref_dm (t := 0) hb (by omega) rfl).1 (cmpN_nn HG)).2)
        · rfl
      · have hc4 := BP.f hc4
        have HG := hc4
        refine Tri.skip ?_
        refine At.bln ?_
        refine At.thn (hK8 _ _ ?_); clear hK8
        refine Tri.region ?_
        refine st (OK1.mv (Has.t rfl)) rfl ?_
        refine st (OK1.subI (Has.t rfl) (Has.cI 1 rfl) (by first | with_reducible assumption | omega | with_reducible exact d_words_ok _ | with_reducible exact d_wordsN_ok _ _ | (simp only [d_val_words]; omega)) (by first | with_reducible assumption | omega | with_reducible exact d_words_ok _ | with_reducible exact d_wordsN_ok _ _ | (simp only [d_val_words]; omega))) rfl ?_
        refine st (OK1.as (Has.t rfl)) rfl ?_
        refine nl ?_
        refine At.thn ?_
        refine hK5 (⟨s, by omega⟩) _ _ ?_ (Cv.mem (.cons (t := 8) (Has.t' rfl ?_) (.cons (t := 6) (Has.t' rfl ?_) (.cons (t := 7) (Has.t' rfl ?_) (.cons (t := 0) (Has.t rfl) (.cons (t := 1) (Has.t rfl) (.cons (t := 4) (Has.t rfl) (.cons (t := 5) (Has.t rfl) .nil))))))) ?_)
        · show s < s + 1; omega
        · exact isI_eq (by omega)
        · exact SlM_eq (congrArg digs ((ref_dm (t := 0) hb (by omega) rfl).2 (cmpN_neg.1 HG)).1)
        · exact SlM_eq (congrArg digs ((ref_dm (t := 0) hb (by omega) rfl).2 (cmpN_neg.1 HG)).2)
        · rfl
  · have hc1 := BP.f hc1
    refine Tri.exit ?_
    refine At.the ?_
    refine At.the ?_
    refine At.blh ?_
    refine At.thn (hK3 _ _ ?_); clear hK3
    refine Tri.cv (Cv.wk (.cons (t := 4) (Has.t rfl) (.cons (t := 5) (Has.t rfl) (.cons (t := 6) (Has.t rfl) (.cons (t := 7) (Has.t rfl) .nil))))) ?_
    refine Tri.seq fun K17 hK17 => ?_
    refine Tri.region ?_
    refine st (OK1.mv (Has.t rfl)) rfl ?_
    refine st (OK1.mv (Has.t rfl)) rfl ?_
    refine st (OK1.as (Has.t rfl)) rfl ?_
    refine st (OK1.as (Has.t rfl)) rfl ?_
    refine nl ?_
    refine At.thn (hK17 _ _ ?_); clear hK17
    refine Tri.ret ?_
    refine rtN (.inl rfl) Try.results44 rfl rfl (.tmp (Has.t' rfl ?_) (.tmp (Has.t' rfl ?_) .nil))
    · obtain rfl : t = 0 := (by omega); exact SlM_eq (by rw [Nat.pow_zero, Nat.div_one])
    · obtain rfl : t = 0 := (by omega); exact SlM_eq (by rw [Nat.pow_zero, Nat.div_one])
end Go.Proofs.Ytbnhdbchoghkfaa
/- Contracts: the reference for products, and for whole numbers. -/
namespace Go.Proofs.Ytbnhdbchoghkfaa
open Go.En Go.RowKit
set_option linter.unusedVariables false
set_option maxRecDepth 10000
open Go.Nt
set_option maxHeartbeats 4000000 in
theorem ref01_Mul {a b : Nat} (ha : (List.length (digs a)) ≤ 134217728) (hb : (List.length (digs b)) ≤ 134217728) : Ctr Try.prog 71 [SlM isN (digs a), SlM isN (digs b)] (SlM isN (digs (a * b))) := by
  refine Ctr.intro Try.func71 rfl (by kernel_rfl) Try.ntmps71 rfl fun w0 F0 => ?_
  refine Tri.cv (Cv.wk (.cons (t := 0) (Has.t rfl) (.cons (t := 1) (Has.t rfl) .nil))) ?_
  refine Tri.fact (Has.lenLt (Has.t (t := 0) rfl)) fun lt0 => ?_
  refine Tri.fact (Has.lenLt (Has.t (t := 1) rfl)) fun lt1 => ?_
  refine Tri.seq fun K1 hK1 => ?_
  refine Tri.region ?_
  refine st (OK1.as (Has.cW (f := isN))) rfl ?_
  refine nl ?_
  refine At.thn (hK1 _ _ ?_); clear hK1
  refine Tri.seq fun K2 hK2 => ?_
  refine Tri.region ?_
  refine st (OK1.as (Has.cW (f := isN))) rfl ?_
  refine nl ?_
  refine At.thn (hK2 _ _ ?_); clear hK2
  refine Tri.seq fun K3 hK3 => ?_
  refine Tri.seq fun K4 hK4 => ?_
  refine Tri.region ?_
  refine st (OK1.as (Has.cI 0 rfl)) rfl ?_
  refine nl ?_
  refine At.thn (hK4 _ _ ?_); clear hK4
  refine Tri.block ?_
  refine Tri.loopF [0, 1, 4] (fun (z : { i : Nat // i ≤ (List.length (digs b)) }) => match z with | ⟨i, hi⟩ => [(6, isI (i : Int)), (5, SlM isN (digs (a * (b % D ^ i))))]) (fun M => fun (z : { i : Nat // i ≤ (List.length (digs b)) }) => match z with | ⟨i, hi⟩ => []) (fun (z : { i : Nat // i ≤ (List.length (digs b)) }) => match z with | ⟨i, hi⟩ => (List.length (digs b)) - i) (⟨0, Nat.zero_le _⟩) (Cv.mem (.cons (t := 6) (Has.t' rfl ?_) (.cons (t := 5) (Has.t' rfl ?_) (.cons (t := 0) (Has.t rfl) (.cons (t := 1) (Has.t rfl) (.cons (t := 4) (Has.t rfl) .nil))))) ?_) ?_
  · rfl
  · exact SlM_eq (by rw [Nat.pow_zero, Nat.mod_one, Nat.mul_zero, d_words_zero])
  · rfl
  rintro ⟨i, hi⟩ K5 hK5
  refine Tri.cv (Cv.wk (.cons (t := 6) (Has.t rfl) (.cons (t := 5) (Has.t rfl) (.cons (t := 0) (Has.t rfl) (.cons (t := 1) (Has.t rfl) (.cons (t := 4) (Has.t rfl) .nil)))))) ?_
  refine Tri.memEq (M' := []) rfl ?_
  have hmp := mul_part a b i
  refine Tri.seq fun K6 hK6 => ?_
  refine Tri.seq fun K7 hK7 => ?_
  refine Tri.region ?_
  refine st (OK1.mv (Has.t rfl)) rfl ?_
  refine st (OK1.mv (Has.t rfl)) rfl ?_
  refine st (OK1.len sl52 (Has.t rfl)) rfl ?_
  refine st (OK1.ltI (Has.t rfl) (Has.t rfl)) rfl ?_
  refine nl ?_
  refine At.thn (hK7 _ _ ?_); clear hK7
  refine Tri.cond (Has.t rfl) (fun hc1 => ?_) (fun hc1 => ?_)
  · have hc1 := BP.t hc1
    refine Tri.skip ?_
    refine At.thn (hK6 _ _ ?_); clear hK6
    refine Tri.seq fun K8 hK8 => ?_
    refine Tri.block ?_
    refine Tri.seq fun K9 hK9 => ?_
    refine Tri.region ?_
    refine Ops.cv (Cv.grow0 (α := Nat) isN) ?_
    refine st (OK1.as (Has.cGr (α := Nat))) rfl ?_
    refine nl ?_
    refine At.thn (hK9 _ _ ?_); clear hK9
    refine Tri.seq fun K10 hK10 => ?_
    refine Tri.seq fun K11 hK11 => ?_
    refine Tri.region ?_
    refine st (OK1.as (Has.cI 0 rfl)) rfl ?_
    refine nl ?_
    refine At.thn (hK11 _ _ ?_); clear hK11
    refine Tri.block ?_
    refine Tri.loopF [0, 1, 4, 6, 5, 10, 11, 12, 13] (fun (z : { z : Nat × Gr Nat // z.1 ≤ i }) => match z with | ⟨(j, g), hj⟩ => [(8, isI (j : Int)), (7, isGr g (List.replicate j 0).length)]) (fun M => fun (z : { z : Nat × Gr Nat // z.1 ≤ i }) => match z with | ⟨(j, g), hj⟩ => [grM isN g (List.replicate j 0)]) (fun (z : { z : Nat × Gr Nat // z.1 ≤ i }) => match z with | ⟨(j, g), hj⟩ => i - j) (⟨(0, Gr.nil), Nat.zero_le _⟩) (Cv.mem (.cons (t := 8) (Has.t' rfl ?_) (.cons (t := 7) (Has.t' rfl ?_) (.cons (t := 0) (Has.t rfl) (.cons (t := 1) (Has.t rfl) (.cons (t := 4) (Has.t rfl) (.cons (t := 6) (Has.t rfl) (.cons (t := 5) (Has.t rfl) (.cons (t := 10) (Has.t rfl) (.cons (t := 11) (Has.t rfl) (.cons (t := 12) (Has.t rfl) (.cons (t := 13) (Has.t rfl) .nil))))))))))) ?_) ?_
    · rfl
    · rfl
    · rfl
    rintro ⟨⟨j, g⟩, hj⟩ K12 hK12
    refine Tri.cv (Cv.wk (.cons (t := 8) (Has.t rfl) (.cons (t := 7) (Has.t rfl) (.cons (t := 0) (Has.t rfl) (.cons (t := 1) (Has.t rfl) (.cons (t := 4) (Has.t rfl) (.cons (t := 6) (Has.t rfl) (.cons (t := 5) (Has.t rfl) (.cons (t := 10) (Has.t rfl) (.cons (t := 11) (Has.t rfl) (.cons (t := 12) (Has.t rfl) (.cons (t := 13) (Has.t rfl) .nil)))))))))))) ?_
    refine Tri.memEq (M' := [grM isN g (List.replicate j 0)]) rfl ?_
    simp only [] at hj
    have hrl : (List.replicate j 0).length = j := List.length_replicate
    refine Tri.seq fun K13 hK13 => ?_
    refine Tri.seq fun K14 hK14 => ?_
    refine Tri.region ?_
    refine st (OK1.mv (Has.t rfl)) rfl ?_
    refine st (OK1.mv (Has.t rfl)) rfl ?_
    refine st (OK1.ltI (Has.t rfl) (Has.t rfl)) rfl ?_
    refine nl ?_
    refine At.thn (hK14 _ _ ?_); clear hK14
    refine Tri.cond (Has.t rfl) (fun hc2 => ?_) (fun hc2 => ?_)
    · have hc2 := BP.t hc2
      refine Tri.skip ?_
      refine At.thn (hK13 _ _ ?_); clear hK13
      refine Tri.seq fun K15 hK15 => ?_
      refine Tri.block ?_
      refine Tri.region ?_
      refine st (OK1.mv (Has.t rfl)) rfl ?_
      refine st (OK1.buildS [isI 0] sl52 ty3 zero3 (fun _ _ => ⟨⟨rfl, by decide, by decide⟩, trivial⟩) rfl rfl (.cons (Has.cI 0 rfl) rfl rfl rfl .nil) rfl (S := SlM isN [0]) rfl) rfl ?_
      refine Ops.appendG (f := isN) (u := 0) sl52 ty3 zero3 (fun _ _ => ⟨⟨rfl, by decide, by decide⟩, trivial⟩) (fun _ => inferInstance) by3 (Has.t rfl) (i := 0) rfl (Has.t rfl) (by simp only [List.length_cons, List.length_nil]; omega) (by simp) rfl fun gr1 => ?_
      refine Ops.memEq (M' := [grM _ _ _]) rfl ?_
      refine st (OK1.as (Has.t rfl)) rfl ?_
      refine nl ?_
      refine At.bln ?_
      refine At.thn (hK15 _ _ ?_); clear hK15
      refine Tri.region ?_
      refine st (OK1.mv (Has.t rfl)) rfl ?_
      refine st (OK1.addI (Has.t rfl) (Has.cI 1 rfl) (by first | with_reducible assumption | omega | with_reducible exact d_words_ok _ | with_reducible exact lineL_le _ _ _ _ | (simp only [dv_abs, d_val_words, dval_line]; omega) | (rw [lineL_len]; omega)) (by first | with_reducible assumption | omega | with_reducible exact d_words_ok _ | with_reducible exact lineL_le _ _ _ _ | (simp only [dv_abs, d_val_words, dval_line]; omega) | (rw [lineL_len]; omega))) rfl ?_
      refine st (OK1.as (Has.t rfl)) rfl ?_
      refine nl ?_
      refine At.thn ?_
      refine hK12 (⟨(j + 1, gr1), by show j + 1 ≤ i; omega⟩) _ _ ?_ (Cv.mem (.cons (t := 8) (Has.t' rfl ?_) (.cons (t := 7) (Has.t' rfl ?_) (.cons (t := 0) (Has.t rfl) (.cons (t := 1) (Has.t rfl) (.cons (t := 4) (Has.t rfl) (.cons (t := 6) (Has.t rfl) (.cons (t := 5) (Has.t rfl) (.cons (t := 10) (Has.t rfl) (.cons (t := 11) (Has.t rfl) (.cons (t := 12) (Has.t rfl) (.cons (t := 13) (Has.t rfl) .nil))))))))))) ?_)
      · show i - (j + 1) < i - j; omega
      · rfl
      · exact isGr_eq (by simp only [List.length_append, List.length_replicate, lineL_len, List.length_cons, List.length_nil] <;> omega)
      · exact grM_eq (rep_succ _).symm
    · have hc2 := BP.f hc2
      refine Tri.exit ?_
      refine At.the ?_
      refine At.the ?_
      refine At.blh ?_
      refine At.thn (hK10 _ _ ?_); clear hK10
      refine Tri.seq fun K16 hK16 => ?_
      refine Tri.seq fun K17 hK17 => ?_
      refine Tri.region ?_
      refine st (OK1.as (Has.cI 0 rfl)) rfl ?_
      refine nl ?_
      refine At.thn (hK17 _ _ ?_); clear hK17
      refine Tri.block ?_
      obtain rfl : i = j := by omega
      refine Tri.loopF [0, 1, 4, 6, 5, 10, 11, 12, 13, 8, 16, 17, 18] (fun (z : { z : Nat × Gr Nat // z.1 ≤ (List.length (digs a)) }) => match z with | ⟨(k, g2), hk⟩ => [(9, isI (k : Int)), (7, isGr g2 (lineL a b i k).length)]) (fun M => fun (z : { z : Nat × Gr Nat // z.1 ≤ (List.length (digs a)) }) => match z with | ⟨(k, g2), hk⟩ => [grM isN g2 (lineL a b i k)]) (fun (z : { z : Nat × Gr Nat // z.1 ≤ (List.length (digs a)) }) => match z with | ⟨(k, g2), hk⟩ => (List.length (digs a)) - k) (⟨(0, g), Nat.zero_le _⟩) (Cv.mem (.cons (t := 9) (Has.t' rfl ?_) (.cons (t := 7) (Has.t' rfl ?_) (.cons (t := 0) (Has.t rfl) (.cons (t := 1) (Has.t rfl) (.cons (t := 4) (Has.t rfl) (.cons (t := 6) (Has.t rfl) (.cons (t := 5) (Has.t rfl) (.cons (t := 10) (Has.t rfl) (.cons (t := 11) (Has.t rfl) (.cons (t := 12) (Has.t rfl) (.cons (t := 13) (Has.t rfl) (.cons (t := 8) (Has.t rfl) (.cons (t := 16) (Has.t rfl) (.cons (t := 17) (Has.t rfl) (.cons (t := 18) (Has.t rfl) .nil))))))))))))))) ?_) ?_
      · rfl
      · exact isGr_eq (by rw [lineL_zero])
      · exact grM_eq (lineL_zero _ _ _).symm
      rintro ⟨⟨k, g2⟩, hk⟩ K18 hK18
      refine Tri.cv (Cv.wk (.cons (t := 9) (Has.t rfl) (.cons (t := 7) (Has.t rfl) (.cons (t := 0) (Has.t rfl) (.cons (t := 1) (Has.t rfl) (.cons (t := 4) (Has.t rfl) (.cons (t := 6) (Has.t rfl) (.cons (t := 5) (Has.t rfl) (.cons (t := 10) (Has.t rfl) (.cons (t := 11) (Has.t rfl) (.cons (t := 12) (Has.t rfl) (.cons (t := 13) (Has.t rfl) (.cons (t := 8) (Has.t rfl) (.cons (t := 16) (Has.t rfl) (.cons (t := 17) (Has.t rfl) (.cons (t := 18) (Has.t rfl) .nil)))))))))))))))) ?_
      refine Tri.memEq (M' := [grM isN g2 (lineL a b i k)]) rfl ?_
      simp only [] at hk
      have hln := lineL_nd a b i k
      have hll := lineL_len a b i k
      have b1 := d_dig_lt a k
      have b2 := d_dig_lt b i
      have b3 := Nat.mul_le_mul (Nat.le_of_lt b1) (Nat.le_of_lt b2)
      unfold D at b1 b2 b3
      refine Tri.seq fun K19 hK19 => ?_
      refine Tri.seq fun K20 hK20 => ?_
      refine Tri.region ?_
      refine st (OK1.mv (Has.t rfl)) rfl ?_
      refine st (OK1.mv (Has.t rfl)) rfl ?_
      refine st (OK1.len sl52 (Has.t rfl)) rfl ?_
      refine st (OK1.ltI (Has.t rfl) (Has.t rfl)) rfl ?_
      refine nl ?_
      refine At.thn (hK20 _ _ ?_); clear hK20
      refine Tri.cond (Has.t rfl) (fun hc3 => ?_) (fun hc3 => ?_)
      · have hc3 := BP.t hc3
        refine Tri.skip ?_
        refine At.thn (hK19 _ _ ?_); clear hK19
        refine Tri.seq fun K21 hK21 => ?_
        refine Tri.block ?_
        refine Tri.dr ?_
        refine DrG.st (i := 0) [] rfl rfl rfl (by kernel_rfl) (OKG.o rfl (OK1.mv (Has.t rfl))) ?_
        refine DrG.st (i := 1) [] rfl rfl rfl (by kernel_rfl) (OKG.o rfl (OK1.mv (Has.t rfl))) ?_
        refine DrG.st (i := 2) [] rfl rfl rfl (by kernel_rfl) (OKG.o rfl (OK1.mv (Has.t rfl))) ?_
        refine DrG.st (i := 3) [31, 32] rfl rfl rfl (by kernel_rfl) (OKG.o rfl (OK1.ixP sl52 ty3 (Has.t rfl) (Has.t rfl) ⟨by omega, by omega⟩ (getD_some (d := 0) (by first | omega | (simp only [Int.toNat_natCast, List.length_set]; omega))))) ?_
        refine DrG.st (i := 4) [33] rfl rfl rfl (by kernel_rfl) (OKG.o rfl (OK1.eq (OK1.loadP1 (Has.t rfl) ty3) ((show isI _ = isN (dg a k) from isI_eq (by rw [Int.toNat_natCast, d_getD_words]))))) ?_
        refine DrG.st (i := 5) [] rfl rfl rfl (by kernel_rfl) (OKG.o rfl (OK1.mv (Has.t rfl))) ?_
        refine DrG.st (i := 6) [] rfl rfl rfl (by kernel_rfl) (OKG.o rfl (OK1.mv (Has.t rfl))) ?_
        refine DrG.st (i := 7) [35, 36] rfl rfl rfl (by kernel_rfl) (OKG.o rfl (OK1.ixP sl52 ty3 (Has.t rfl) (Has.t rfl) ⟨by omega, by omega⟩ (getD_some (d := 0) (by first | omega | (simp only [Int.toNat_natCast, List.length_set]; omega))))) ?_
        refine DrG.st (i := 8) [37] rfl rfl rfl (by kernel_rfl) (OKG.o rfl (OK1.eq (OK1.loadP1 (Has.t rfl) ty3) ((show isI _ = isN (dg b i) from isI_eq (by rw [Int.toNat_natCast, d_getD_words]))))) ?_
        refine DrG.st (i := 9) [34, 38] rfl rfl rfl (by kernel_rfl) (OKG.o rfl (OK1.eq (OK1.mulI (Has.t rfl) (Has.t rfl) (by first | with_reducible assumption | omega | with_reducible exact d_words_ok _ | with_reducible exact lineL_le _ _ _ _ | (simp only [dv_abs, d_val_words, dval_line]; omega) | (rw [lineL_len]; omega)) (by first | with_reducible assumption | omega | with_reducible exact d_words_ok _ | with_reducible exact lineL_le _ _ _ _ | (simp only [dv_abs, d_val_words, dval_line]; omega) | (rw [lineL_len]; omega))) ((show isI _ = isN (dg a k * dg b i) from isI_eq (by rw [Int.natCast_mul]))))) ?_
        refine DrG.st (i := 10) [39] rfl rfl rfl (by kernel_rfl) (OKG.o rfl (OK1.buildS [isI 0] sl52 ty3 zero3 (fun _ _ => ⟨⟨rfl, by decide, by decide⟩, trivial⟩) rfl rfl (.cons (Has.t rfl) rfl rfl rfl .nil) rfl (S := SlM isN [_]) rfl)) ?_
        refine DrG.fin (n := 11) mixed (by kernel_rfl) (by kernel_rfl) (by kernel_rfl) ?_
        refine Ops.cv (Cv.wk (.cons (t := 0) (Has.t rfl) (.cons (t := 1) (Has.t rfl) (.cons (t := 4) (Has.t rfl) (.cons (t := 6) (Has.t rfl) (.cons (t := 5) (Has.t rfl) (.cons (t := 10) (Has.t rfl) (.cons (t := 11) (Has.t rfl) (.cons (t := 12) (Has.t rfl) (.cons (t := 13) (Has.t rfl) (.cons (t := 8) (Has.t rfl) (.cons (t := 16) (Has.t rfl) (.cons (t := 17) (Has.t rfl) (.cons (t := 18) (Has.t rfl) (.cons (t := 9) (Has.t rfl) (.cons (t := 7) (Has.t rfl) (.cons (t := 24) (Has.t rfl) (.cons (t := 25) (Has.t rfl) (.cons (t := 26) (Has.t rfl) (.cons (t := 27) (Has.t rfl) (.cons (t := 30) (Has.t rfl) (.cons (t := 31) (Has.t rfl) (.cons (t := 32) (Has.t rfl) (.cons (t := 33) (Has.t rfl) (.cons (t := 34) (Has.t rfl) (.cons (t := 35) (Has.t rfl) (.cons (t := 36) (Has.t rfl) (.cons (t := 37) (Has.t rfl) (.cons (t := 38) (Has.t rfl) (.cons (t := 39) (Has.t rfl) (.cons (t := 40) (Has.t rfl) .nil))))))))))))))))))))))))))))))) ?_
        refine Ops.appendG (f := isN) (u := 0) sl52 ty3 zero3 (fun _ _ => ⟨⟨rfl, by decide, by decide⟩, trivial⟩) (fun _ => inferInstance) by3 (Has.t rfl) (i := 0) rfl (Has.t rfl) (by simp only [List.length_cons, List.length_nil]; omega) (by simp) rfl fun gr1 => ?_
        refine Ops.memEq (M' := [grM _ _ _]) rfl ?_
        refine st (OK1.as (Has.t rfl)) rfl ?_
        refine nl ?_
        refine At.bln ?_
        refine At.thn (hK21 _ _ ?_); clear hK21
        refine Tri.region ?_
        refine st (OK1.mv (Has.t rfl)) rfl ?_
        refine st (OK1.addI (Has.t rfl) (Has.cI 1 rfl) (by first | with_reducible assumption | omega | with_reducible exact d_words_ok _ | with_reducible exact lineL_le _ _ _ _ | (simp only [dv_abs, d_val_words, dval_line]; omega) | (rw [lineL_len]; omega)) (by first | with_reducible assumption | omega | with_reducible exact d_words_ok _ | with_reducible exact lineL_le _ _ _ _ | (simp only [dv_abs, d_val_words, dval_line]; omega) | (rw [lineL_len]; omega))) rfl ?_
        refine st (OK1.as (Has.t rfl)) rfl ?_
        refine nl ?_
        refine At.thn ?_
        refine hK18 (⟨(k + 1, gr1), by show k + 1 ≤ _; omega⟩) _ _ ?_ (Cv.mem (.cons (t := 9) (Has.t' rfl ?_) (.cons (t := 7) (Has.t' rfl ?_) (.cons (t := 0) (Has.t rfl) (.cons (t := 1) (Has.t rfl) (.cons (t := 4) (Has.t rfl) (.cons (t := 6) (Has.t rfl) (.cons (t := 5) (Has.t rfl) (.cons (t := 10) (Has.t rfl) (.cons (t := 11) (Has.t rfl) (.cons (t := 12) (Has.t rfl) (.cons (t := 13) (Has.t rfl) (.cons (t := 8) (Has.t rfl) (.cons (t := 16) (Has.t rfl) (.cons (t := 17) (Has.t rfl) (.cons (t := 18) (Has.t rfl) .nil))))))))))))))) ?_)
        · show (List.length (digs a)) - (k + 1) < (List.length (digs a)) - k; omega
        · rfl
        · exact isGr_eq (by simp only [List.length_append, List.length_replicate, lineL_len, List.length_cons, List.length_nil] <;> omega)
        · exact grM_eq (lineL_succ _ _ _ _).symm
      · have hc3 := BP.f hc3
        refine Tri.exit ?_
        refine At.the ?_
        refine At.the ?_
        refine At.blh ?_
        refine At.thn (hK16 _ _ ?_); clear hK16
        refine Tri.cv (Cv.freezeG (t := 7) (i := 0) (ys := _) rfl rfl rfl) ?_
        refine Tri.memEq (M' := []) rfl ?_
        refine Tri.cv (Cv.wk (.cons (t := 0) (Has.t rfl) (.cons (t := 1) (Has.t rfl) (.cons (t := 4) (Has.t rfl) (.cons (t := 6) (Has.t rfl) (.cons (t := 5) (Has.t rfl) (.cons (t := 10) (Has.t rfl) (.cons (t := 11) (Has.t rfl) (.cons (t := 12) (Has.t rfl) (.cons (t := 13) (Has.t rfl) (.cons (t := 8) (Has.t rfl) (.cons (t := 16) (Has.t rfl) (.cons (t := 17) (Has.t rfl) (.cons (t := 18) (Has.t rfl) (.cons (t := 9) (Has.t rfl) (.cons (t := 7) (Has.t rfl) (.cons (t := 24) (Has.t rfl) (.cons (t := 25) (Has.t rfl) (.cons (t := 26) (Has.t rfl) (.cons (t := 27) (Has.t rfl) .nil)))))))))))))))))))) ?_
        refine Tri.region ?_
        refine st (OK1.mv (Has.t rfl)) rfl ?_
        refine st (OK1.mv (Has.t rfl)) rfl ?_
        refine st (OK1.call (ref01_Carried (by first | with_reducible assumption | omega | with_reducible exact d_words_ok _ | with_reducible exact lineL_le _ _ _ _ | (simp only [dv_abs, d_val_words, dval_line]; omega) | (rw [lineL_len]; omega)) (by first | with_reducible assumption | omega | with_reducible exact d_words_ok _ | with_reducible exact lineL_le _ _ _ _ | (simp only [dv_abs, d_val_words, dval_line]; omega) | (rw [lineL_len]; omega))) (.cons (Has.t rfl) .nil)) rfl ?_
        refine st (OK1.call (ref01_Add (by first | with_reducible assumption | omega | with_reducible exact d_words_ok _ | with_reducible exact lineL_le _ _ _ _ | (simp only [dv_abs, d_val_words, dval_line]; omega) | (rw [lineL_len]; omega)) (by first | with_reducible assumption | omega | with_reducible exact d_words_ok _ | with_reducible exact lineL_le _ _ _ _ | (simp only [dv_abs, d_val_words, dval_line]; omega) | (rw [lineL_len]; omega))) (.cons (Has.t rfl) (.cons (Has.t rfl) .nil))) rfl ?_
        refine st (OK1.as (Has.t rfl)) rfl ?_
        refine nl ?_
        refine At.bln ?_
        refine At.thn (hK8 _ _ ?_); clear hK8
        refine Tri.region ?_
        refine st (OK1.mv (Has.t rfl)) rfl ?_
        refine st (OK1.addI (Has.t rfl) (Has.cI 1 rfl) (by first | with_reducible assumption | omega | with_reducible exact d_words_ok _ | with_reducible exact lineL_le _ _ _ _ | (simp only [dv_abs, d_val_words, dval_line]; omega) | (rw [lineL_len]; omega)) (by first | with_reducible assumption | omega | with_reducible exact d_words_ok _ | with_reducible exact lineL_le _ _ _ _ | (simp only [dv_abs, d_val_words, dval_line]; omega) | (rw [lineL_len]; omega))) rfl ?_
        refine st (OK1.as (Has.t rfl)) rfl ?_
        refine nl ?_
        refine At.thn ?_
        have hkk : k = (List.length (digs a)) := by omega
        refine hK5 (⟨i + 1, by omega⟩) _ _ ?_ (Cv.mem (.cons (t := 6) (Has.t' rfl ?_) (.cons (t := 5) (Has.t' rfl ?_) (.cons (t := 0) (Has.t rfl) (.cons (t := 1) (Has.t rfl) (.cons (t := 4) (Has.t rfl) .nil))))) ?_)
        · show (List.length (digs b)) - (i + 1) < (List.length (digs b)) - i; omega
        · rfl
        · exact SlM_eq (congrArg digs (line_sum (by omega)))
        · rfl
  · have hc1 := BP.f hc1
    refine Tri.exit ?_
    refine At.the ?_
    refine At.the ?_
    refine At.blh ?_
    refine At.thn (hK3 _ _ ?_); clear hK3
    refine Tri.cv (Cv.wk (.cons (t := 4) (Has.t rfl) (.cons (t := 5) (Has.t rfl) .nil))) ?_
    refine Tri.seq fun K22 hK22 => ?_
    refine Tri.region ?_
    refine st (OK1.mv (Has.t rfl)) rfl ?_
    refine st (OK1.as (Has.t rfl)) rfl ?_
    refine nl ?_
    refine At.thn (hK22 _ _ ?_); clear hK22
    refine Tri.ret ?_
    refine rt1 (.inl rfl) Try.results71 rfl (.tmp (Has.t' rfl ?_) .nil)
    all_goals (obtain rfl : i = (List.length (digs b)) := (by omega); exact SlM_eq (congrArg digs (mul_end (Nat.le_refl _))))
set_option maxHeartbeats 4000000 in
theorem ref05_norm {m : Bool} {ds : List Nat} (hx : OkD ds) : Ctr Try.prog 45 [Flat [isB m, SlM isN ds]] (isR (dv m ds)) := by
  refine Ctr.intro Try.func45 rfl (by kernel_rfl) Try.ntmps45 rfl fun w0 F0 => ?_
  refine Tri.cv (Cv.wk (.cons (t := 0) (Has.t rfl) .nil)) ?_
  refine Tri.seq fun K1 hK1 => ?_
  refine Tri.region ?_
  refine Ops.box (Has.t rfl) rfl fun b1 => ?_
  refine Ops.alloc [isB false, nilS] zero54 (fun _ _ => ⟨rfl, rfl, trivial⟩) rfl fun b2 => ?_
  refine nl ?_
  refine At.thn (hK1 _ _ ?_); clear hK1
  refine Tri.seq fun K2 hK2 => ?_
  refine Tri.region ?_
  refine st (OK1.fieldAddr (Has.t rfl) fld54_1 ty52) rfl ?_
  refine st (OK1.load1 (Has.t rfl) (i := 1) rfl ty52 rfl) rfl ?_
  refine st (OK1.call (ref01_Trim (by first | with_reducible assumption | omega | with_reducible exact d_words_ok _ | with_reducible exact lineL_le _ _ _ _ | (simp only [dv_abs, d_val_words, dval_line]; omega) | (rw [lineL_len]; omega))) (.cons (Has.t rfl) .nil)) rfl ?_
  refine st (OK1.as (Has.t rfl)) rfl ?_
  refine nl ?_
  refine At.thn (hK2 _ _ ?_); clear hK2
  refine Tri.seq fun K3 hK3 => ?_
  refine Tri.region ?_
  refine st (OK1.fieldAddr (Has.t rfl) fld54_0 ty4) rfl ?_
  refine st (OK1.load1 (Has.t rfl) (i := 1) rfl ty4 rfl) rfl ?_
  refine st (OK1.mv (Has.t rfl)) rfl ?_
  refine stT rfl rfl (fun hg => have hg' := BP.t hg; OK1.mv (Has.t rfl)) rfl ?_
  refine stT rfl rfl (fun hg => have hg' := BP.t hg; OK1.len sl52 (Has.g rfl hg)) rfl ?_
  refine stT rfl rfl (fun hg => have hg' := BP.t hg; OK1.gtI (Has.g rfl hg) (Has.cI 0 rfl)) rfl ?_
  refine st (OK1.pickAnd (Has.t rfl) (fun h => Has.g rfl h)) rfl ?_
  refine st (OK1.mv (Has.t rfl)) rfl ?_
  refine st (OK1.build [isB false, nilS] pl54 zero54 (fun _ _ => ⟨rfl, rfl, trivial⟩) (.cons (Has.t rfl) rfl rfl rfl (.cons (Has.t rfl) rfl rfl rfl .nil)) (Z'' := [_, _]) rfl) rfl ?_
  refine Ops.store (Has.t rfl) (Has.t rfl) (i := 0) rfl ty54 rfl rfl (Ss' := [_, _]) rfl (M' := [(some _, cellM [_, _]), _]) rfl ?_
  refine nl ?_
  refine At.thn (hK3 _ _ ?_); clear hK3
  refine Tri.cv (Cv.wk (.cons (t := 2) (Has.t rfl) .nil)) ?_
  refine Tri.ret ?_
  refine rt1 (.inl rfl) Try.results45 rfl (.cell rfl (i := 0) rfl ty54 rfl ?_ .nil)
  · exact isR_of (norm_neg m ds) (by rw [dv_abs])
set_option maxHeartbeats 4000000 in
theorem ref05_From {m : Bool} {xs : List Nat} (hx : xs.length ≤ 268435456) : Ctr Try.prog 25 [Flat [isB m, SlM isU xs]] (isR (zv m xs)) := by
  refine Ctr.intro Try.func25 rfl (by kernel_rfl) Try.ntmps25 rfl fun w0 F0 => ?_
  refine Tri.cv (Cv.wk (.cons (t := 0) (Has.t rfl) .nil)) ?_
  refine Tri.fact (Has.okZ (Has.t (t := 0) rfl)) fun okz0 => ?_
  refine Tri.seq fun K1 hK1 => ?_
  refine Tri.region ?_
  refine Ops.box (Has.t rfl) rfl fun b1 => ?_
  refine Ops.alloc [isB false, nilS] zero54 (fun _ _ => ⟨rfl, rfl, trivial⟩) rfl fun b2 => ?_
  refine nl ?_
  refine At.thn (hK1 _ _ ?_); clear hK1
  refine Tri.seq fun K2 hK2 => ?_
  refine Tri.dr ?_
  refine DrG.st (i := 0) [] rfl rfl rfl (by kernel_rfl) (OKG.o rfl (OK1.fieldAddr (Has.t rfl) fld27_0 ty4)) ?_
  refine DrG.st (i := 1) [3] rfl rfl rfl (by kernel_rfl) (OKG.o rfl (OK1.load1 (Has.t rfl) (i := 1) rfl ty4 rfl)) ?_
  refine DrG.st (i := 2) [] rfl rfl rfl (by kernel_rfl) (OKG.o rfl (OK1.fieldAddr (Has.t rfl) fld27_1 ty25)) ?_
  refine DrG.st (i := 3) [5] rfl rfl rfl (by kernel_rfl) (OKG.o rfl (OK1.load1 (Has.t rfl) (i := 1) rfl ty25 rfl)) ?_
  refine DrG.st (i := 4) [6] rfl rfl rfl (by kernel_rfl) (OKG.o rfl (OK1.call (ref01_From (by first | with_reducible assumption | omega | with_reducible exact d_words_ok _ | with_reducible exact lineL_le _ _ _ _ | (simp only [dv_abs, d_val_words, dval_line]; omega) | (rw [lineL_len]; omega))) (.cons (Has.t rfl) .nil))) ?_
  refine DrG.fin (n := 5) mixed (by kernel_rfl) (by kernel_rfl) (by kernel_rfl) ?_
  refine Ops.cv (Cv.wk (.cons (t := 2) (Has.t rfl) (.cons (t := 4) (Has.t rfl) (.cons (t := 7) (Has.t rfl) .nil)))) ?_
  refine st (OK1.build [isB false, nilS] pl54 zero54 (fun _ _ => ⟨rfl, rfl, trivial⟩) (.cons (Has.t rfl) rfl rfl rfl (.cons (Has.t rfl) rfl rfl rfl .nil)) (Z'' := [_, _]) rfl) rfl ?_
  refine st (OK1.call (ref05_norm (by first | with_reducible assumption | omega | with_reducible exact d_words_ok _ | with_reducible exact lineL_le _ _ _ _ | (simp only [dv_abs, d_val_words, dval_line]; omega) | (rw [lineL_len]; omega))) (.cons (Has.t rfl) .nil)) rfl ?_
  refine Ops.store (Has.t rfl) (Has.t rfl) (i := 0) rfl ty54 rfl rfl (Ss' := [_, _]) rfl (M' := [(some _, cellM [_, _]), _]) rfl ?_
  refine nl ?_
  refine At.thn (hK2 _ _ ?_); clear hK2
  refine Tri.ret ?_
  refine rt1 (.inl rfl) Try.results25 rfl (.cell rfl (i := 0) rfl ty54 rfl ?_ .nil)
  · exact isR_eq (by rw [dv_digs]; rfl)
set_option maxHeartbeats 4000000 in
theorem ref05_Sign {x : Int} (hx : (List.length (digs x.natAbs)) ≤ 1000000) : Ctr Try.prog 26 [isR x] (isI (sgn x)) := by
  refine Ctr.intro Try.func26 rfl (by kernel_rfl) Try.ntmps26 rfl fun w0 F0 => ?_
  refine Tri.cv (Cv.wk (.cons (t := 0) (Has.t rfl) .nil)) ?_
  refine Tri.seq fun K1 hK1 => ?_
  refine Tri.region ?_
  refine Ops.box (Has.t rfl) rfl fun b1 => ?_
  refine st (OK1.as (Has.cI 0 rfl)) rfl ?_
  refine nl ?_
  refine At.thn (hK1 _ _ ?_); clear hK1
  refine Tri.seq fun K2 hK2 => ?_
  refine Tri.seq fun K3 hK3 => ?_
  refine Tri.region ?_
  refine st (OK1.fieldAddr (Has.t rfl) fld54_1 ty52) rfl ?_
  refine st (OK1.load1 (Has.t rfl) (i := 0) rfl ty52 rfl) rfl ?_
  refine st (OK1.len sl52 (Has.t rfl)) rfl ?_
  refine st (OK1.eqI (Has.t rfl) (Has.cI 0 rfl)) rfl ?_
  refine nl ?_
  refine At.thn (hK3 _ _ ?_); clear hK3
  refine Tri.cond (Has.t rfl) (fun hc1 => ?_) (fun hc1 => ?_)
  · have hc1 := BP.t hc1
    refine Tri.seq fun K4 hK4 => ?_
    refine Tri.region ?_
    refine st (OK1.as (Has.cI 0 rfl)) rfl ?_
    refine nl ?_
    refine At.thn (hK4 _ _ ?_); clear hK4
    refine Tri.cv (Cv.wk (.cons (t := 1) (Has.t rfl) (.cons (t := 2) (Has.t rfl) .nil))) ?_
    refine Tri.ret ?_
    refine At.thr ?_
    refine rt1 (.inl rfl) Try.results26 rfl (.tmp (Has.t' rfl ?_) .nil)
    all_goals (exact isI_eq (dsgn0 hc1))
  · have hc1 := BP.f hc1
    have hn := dsgn1 hc1
    refine Tri.skip ?_
    refine At.thn (hK2 _ _ ?_); clear hK2
    refine Tri.cv (Cv.wk (.cons (t := 1) (Has.t rfl) (.cons (t := 2) (Has.t rfl) .nil))) ?_
    refine Tri.seq fun K5 hK5 => ?_
    refine Tri.seq fun K6 hK6 => ?_
    refine Tri.region ?_
    refine st (OK1.fieldAddr (Has.t rfl) fld54_0 ty4) rfl ?_
    refine st (OK1.load1 (Has.t rfl) (i := 0) rfl ty4 rfl) rfl ?_
    refine nl ?_
    refine At.thn (hK6 _ _ ?_); clear hK6
    refine Tri.cond (Has.t rfl) (fun hc2 => ?_) (fun hc2 => ?_)
    · have hc2 := BP.t hc2
      have HM : x < 0 := (by simpa using hc2)
      refine Tri.seq fun K7 hK7 => ?_
      refine Tri.region ?_
      refine st (OK1.as (Has.cI (-1) rfl)) rfl ?_
      refine nl ?_
      refine At.thn (hK7 _ _ ?_); clear hK7
      refine Tri.ret ?_
      refine At.thr ?_
      refine rt1 (.inl rfl) Try.results26 rfl (.tmp (Has.t' rfl ?_) .nil)
      all_goals (exact isI_eq (by unfold sgn; rw [if_neg hn, if_pos HM]))
    · have hc2 := BP.f hc2
      have HM : ¬ x < 0 := (by simpa using hc2)
      refine Tri.skip ?_
      refine At.thn (hK5 _ _ ?_); clear hK5
      refine Tri.seq fun K8 hK8 => ?_
      refine Tri.region ?_
      refine st (OK1.as (Has.cI 1 rfl)) rfl ?_
      refine nl ?_
      refine At.thn (hK8 _ _ ?_); clear hK8
      refine Tri.ret ?_
      refine rt1 (.inl rfl) Try.results26 rfl (.tmp (Has.t' rfl ?_) .nil)
      all_goals (exact isI_eq (by unfold sgn; rw [if_neg hn, if_neg HM]))
set_option maxHeartbeats 4000000 in
theorem ref05_Neg {x : Int} (hx : (List.length (digs x.natAbs)) ≤ 1000000) : Ctr Try.prog 48 [isR x] (isR (-x)) := by
  refine Ctr.intro Try.func48 rfl (by kernel_rfl) Try.ntmps48 rfl fun w0 F0 => ?_
  refine Tri.cv (Cv.wk (.cons (t := 0) (Has.t rfl) .nil)) ?_
  refine Tri.seq fun K1 hK1 => ?_
  refine Tri.region ?_
  refine Ops.box (Has.t rfl) rfl fun b1 => ?_
  refine Ops.alloc [isB false, nilS] zero54 (fun _ _ => ⟨rfl, rfl, trivial⟩) rfl fun b2 => ?_
  refine nl ?_
  refine At.thn (hK1 _ _ ?_); clear hK1
  refine Tri.seq fun K2 hK2 => ?_
  refine Tri.region ?_
  refine st (OK1.fieldAddr (Has.t rfl) fld54_0 ty4) rfl ?_
  refine st (OK1.load1 (Has.t rfl) (i := 1) rfl ty4 rfl) rfl ?_
  refine st (OK1.not (Has.t rfl)) rfl ?_
  refine st (OK1.fieldAddr (Has.t rfl) fld54_1 ty52) rfl ?_
  refine st (OK1.load1 (Has.t rfl) (i := 1) rfl ty52 rfl) rfl ?_
  refine st (OK1.build [isB false, nilS] pl54 zero54 (fun _ _ => ⟨rfl, rfl, trivial⟩) (.cons (Has.t rfl) rfl rfl rfl (.cons (Has.t rfl) rfl rfl rfl .nil)) (Z'' := [_, _]) rfl) rfl ?_
  refine st (OK1.call (ref05_norm (by first | with_reducible assumption | omega | with_reducible exact d_words_ok _ | with_reducible exact lineL_le _ _ _ _ | (simp only [dv_abs, d_val_words, dval_line]; omega) | (rw [lineL_len]; omega))) (.cons (Has.t rfl) .nil)) rfl ?_
  refine Ops.store (Has.t rfl) (Has.t rfl) (i := 0) rfl ty54 rfl rfl (Ss' := [_, _]) rfl (M' := [(some _, cellM [_, _]), _]) rfl ?_
  refine nl ?_
  refine At.thn (hK2 _ _ ?_); clear hK2
  refine Tri.cv (Cv.wk (.cons (t := 2) (Has.t rfl) .nil)) ?_
  refine Tri.ret ?_
  refine rt1 (.inl rfl) Try.results48 rfl (.cell rfl (i := 0) rfl ty54 rfl ?_ .nil)
  · exact isR_eq (dv_not x)
set_option maxHeartbeats 4000000 in
theorem ref05_Add {x y : Int} (hx : (List.length (digs x.natAbs)) ≤ 1000000) (hy : (List.length (digs y.natAbs)) ≤ 1000000) : Ctr Try.prog 47 [isR x, isR y] (isR (x + y)) := by
  refine Ctr.intro Try.func47 rfl (by kernel_rfl) Try.ntmps47 rfl fun w0 F0 => ?_
  refine Tri.cv (Cv.wk (.cons (t := 0) (Has.t rfl) (.cons (t := 1) (Has.t rfl) .nil))) ?_
  refine Tri.seq fun K1 hK1 => ?_
  refine Tri.region ?_
  refine Ops.box (Has.t rfl) rfl fun b1 => ?_
  refine Ops.box (Has.t rfl) rfl fun b2 => ?_
  refine Ops.alloc [isB false, nilS] zero54 (fun _ _ => ⟨rfl, rfl, trivial⟩) rfl fun b3 => ?_
  refine nl ?_
  refine At.thn (hK1 _ _ ?_); clear hK1
  refine Tri.seq fun K2 hK2 => ?_
  refine Tri.seq fun K3 hK3 => ?_
  refine Tri.region ?_
  refine st (OK1.fieldAddr (Has.t rfl) fld54_0 ty4) rfl ?_
  refine st (OK1.load1 (Has.t rfl) (i := 2) rfl ty4 rfl) rfl ?_
  refine st (OK1.fieldAddr (Has.t rfl) fld54_0 ty4) rfl ?_
  refine st (OK1.load1 (Has.t rfl) (i := 1) rfl ty4 rfl) rfl ?_
  refine st (OK1.eqB (du := un4) rfl (Has.t rfl) (Has.t rfl)) rfl ?_
  refine nl ?_
  refine At.thn (hK3 _ _ ?_); clear hK3
  refine Tri.cv (Cv.wk (.cons (t := 2) (Has.t rfl) (.cons (t := 3) (Has.t rfl) (.cons (t := 4) (Has.t rfl) (.cons (t := 9) (Has.t rfl) .nil))))) ?_
  refine Tri.cond (Has.t rfl) (fun hc1 => ?_) (fun hc1 => ?_)
  · have hc1 := BP.t hc1
    have HM : (decide (x < 0) == decide (y < 0)) = true := hc1
    refine Tri.seq fun K4 hK4 => ?_
    refine Tri.dr ?_
    refine DrG.st (i := 0) [] rfl rfl rfl (by kernel_rfl) (OKG.o rfl (OK1.fieldAddr (Has.t rfl) fld54_0 ty4)) ?_
    refine DrG.st (i := 1) [10] rfl rfl rfl (by kernel_rfl) (OKG.o rfl (OK1.load1 (Has.t rfl) (i := 2) rfl ty4 rfl)) ?_
    refine DrG.st (i := 2) [] rfl rfl rfl (by kernel_rfl) (OKG.o rfl (OK1.fieldAddr (Has.t rfl) fld54_1 ty52)) ?_
    refine DrG.st (i := 3) [12] rfl rfl rfl (by kernel_rfl) (OKG.o rfl (OK1.load1 (Has.t rfl) (i := 2) rfl ty52 rfl)) ?_
    refine DrG.st (i := 4) [] rfl rfl rfl (by kernel_rfl) (OKG.o rfl (OK1.fieldAddr (Has.t rfl) fld54_1 ty52)) ?_
    refine DrG.st (i := 5) [14] rfl rfl rfl (by kernel_rfl) (OKG.o rfl (OK1.load1 (Has.t rfl) (i := 1) rfl ty52 rfl)) ?_
    refine DrG.st (i := 6) [13, 15] rfl rfl rfl (by kernel_rfl) (OKG.o rfl (OK1.call (ref01_Add (by first | with_reducible assumption | omega | with_reducible exact d_words_ok _ | with_reducible exact lineL_le _ _ _ _ | (simp only [dv_abs, d_val_words, dval_line]; omega) | (rw [lineL_len]; omega)) (by first | with_reducible assumption | omega | with_reducible exact d_words_ok _ | with_reducible exact lineL_le _ _ _ _ | (simp only [dv_abs, d_val_words, dval_line]; omega) | (rw [lineL_len]; omega))) (.cons (Has.t rfl) (.cons (Has.t rfl) .nil)))) ?_
    refine DrG.fin (n := 7) mixed (by kernel_rfl) (by kernel_rfl) (by kernel_rfl) ?_
    refine Ops.cv (Cv.wk (.cons (t := 2) (Has.t rfl) (.cons (t := 3) (Has.t rfl) (.cons (t := 4) (Has.t rfl) (.cons (t := 11) (Has.t rfl) (.cons (t := 16) (Has.t rfl) .nil)))))) ?_
    refine st (OK1.build [isB false, nilS] pl54 zero54 (fun _ _ => ⟨rfl, rfl, trivial⟩) (.cons (Has.t rfl) rfl rfl rfl (.cons (Has.t rfl) rfl rfl rfl .nil)) (Z'' := [_, _]) rfl) rfl ?_
    refine st (OK1.call (ref05_norm (by first | with_reducible assumption | omega | with_reducible exact d_words_ok _ | with_reducible exact lineL_le _ _ _ _ | (simp only [dv_abs, d_val_words, dval_line]; omega) | (rw [lineL_len]; omega))) (.cons (Has.t rfl) .nil)) rfl ?_
    refine Ops.store (Has.t rfl) (Has.t rfl) (i := 0) rfl ty54 rfl rfl (Ss' := [_, _]) rfl (M' := [(some _, cellM [_, _]), _, _]) rfl ?_
    refine nl ?_
    refine At.thn (hK4 _ _ ?_); clear hK4
    refine Tri.ret ?_
    refine At.thr ?_
    refine rt1 (.inl rfl) Try.results47 rfl (.cell rfl (i := 0) rfl ty54 rfl ?_ .nil)
    · exact isR_eq (dv_add_same HM)
  · have hc1 := BP.f hc1
    have HM : (decide (x < 0) == decide (y < 0)) = false := (by simpa using hc1)
    refine Tri.skip ?_
    refine At.thn (hK2 _ _ ?_); clear hK2
    refine Tri.seq fun K5 hK5 => ?_
    refine Tri.seq fun K6 hK6 => ?_
    refine Tri.region ?_
    refine st (OK1.fieldAddr (Has.t rfl) fld54_1 ty52) rfl ?_
    refine st (OK1.load1 (Has.t rfl) (i := 2) rfl ty52 rfl) rfl ?_
    refine st (OK1.fieldAddr (Has.t rfl) fld54_1 ty52) rfl ?_
    refine st (OK1.load1 (Has.t rfl) (i := 1) rfl ty52 rfl) rfl ?_
    refine st (OK1.call (ref01_Cmp (by first | with_reducible assumption | omega | with_reducible exact d_words_ok _ | with_reducible exact lineL_le _ _ _ _ | (simp only [dv_abs, d_val_words, dval_line]; omega) | (rw [lineL_len]; omega)) (by first | with_reducible assumption | omega | with_reducible exact d_words_ok _ | with_reducible exact lineL_le _ _ _ _ | (simp only [dv_abs, d_val_words, dval_line]; omega) | (rw [lineL_len]; omega))) (.cons (Has.t rfl) (.cons (Has.t rfl) .nil))) rfl ?_
    refine st (OK1.geI (Has.t rfl) (Has.cI 0 rfl)) rfl ?_
    refine nl ?_
    refine At.thn (hK6 _ _ ?_); clear hK6
    refine Tri.cv (Cv.wk (.cons (t := 2) (Has.t rfl) (.cons (t := 3) (Has.t rfl) (.cons (t := 4) (Has.t rfl) (.cons (t := 24) (Has.t rfl) .nil))))) ?_
    refine Tri.cond (Has.t rfl) (fun hc2 => ?_) (fun hc2 => ?_)
    · have hc2 := BP.t hc2
      have HL := cmpN_nn hc2
      refine Tri.seq fun K7 hK7 => ?_
      refine Tri.dr ?_
      refine DrG.st (i := 0) [] rfl rfl rfl (by kernel_rfl) (OKG.o rfl (OK1.fieldAddr (Has.t rfl) fld54_0 ty4)) ?_
      refine DrG.st (i := 1) [25] rfl rfl rfl (by kernel_rfl) (OKG.o rfl (OK1.load1 (Has.t rfl) (i := 2) rfl ty4 rfl)) ?_
      refine DrG.st (i := 2) [] rfl rfl rfl (by kernel_rfl) (OKG.o rfl (OK1.fieldAddr (Has.t rfl) fld54_1 ty52)) ?_
      refine DrG.st (i := 3) [27] rfl rfl rfl (by kernel_rfl) (OKG.o rfl (OK1.load1 (Has.t rfl) (i := 2) rfl ty52 rfl)) ?_
      refine DrG.st (i := 4) [] rfl rfl rfl (by kernel_rfl) (OKG.o rfl (OK1.fieldAddr (Has.t rfl) fld54_1 ty52)) ?_
      refine DrG.st (i := 5) [29] rfl rfl rfl (by kernel_rfl) (OKG.o rfl (OK1.load1 (Has.t rfl) (i := 1) rfl ty52 rfl)) ?_
      refine DrG.st (i := 6) [28, 30] rfl rfl rfl (by kernel_rfl) (OKG.o rfl (OK1.call (ref01_Sub (by first | with_reducible assumption | omega | with_reducible exact d_words_ok _ | with_reducible exact lineL_le _ _ _ _ | (simp only [dv_abs, d_val_words, dval_line]; omega) | (rw [lineL_len]; omega)) (by first | with_reducible assumption | omega | with_reducible exact d_words_ok _ | with_reducible exact lineL_le _ _ _ _ | (simp only [dv_abs, d_val_words, dval_line]; omega) | (rw [lineL_len]; omega))) (.cons (Has.t rfl) (.cons (Has.t rfl) .nil)))) ?_
      refine DrG.fin (n := 7) mixed (by kernel_rfl) (by kernel_rfl) (by kernel_rfl) ?_
      refine Ops.cv (Cv.wk (.cons (t := 2) (Has.t rfl) (.cons (t := 3) (Has.t rfl) (.cons (t := 4) (Has.t rfl) (.cons (t := 26) (Has.t rfl) (.cons (t := 31) (Has.t rfl) .nil)))))) ?_
      refine st (OK1.build [isB false, nilS] pl54 zero54 (fun _ _ => ⟨rfl, rfl, trivial⟩) (.cons (Has.t rfl) rfl rfl rfl (.cons (Has.t rfl) rfl rfl rfl .nil)) (Z'' := [_, _]) rfl) rfl ?_
      refine st (OK1.call (ref05_norm (by first | with_reducible assumption | omega | with_reducible exact d_words_ok _ | with_reducible exact lineL_le _ _ _ _ | (simp only [dv_abs, d_val_words, dval_line]; omega) | (rw [lineL_len]; omega))) (.cons (Has.t rfl) .nil)) rfl ?_
      refine Ops.store (Has.t rfl) (Has.t rfl) (i := 0) rfl ty54 rfl rfl (Ss' := [_, _]) rfl (M' := [(some _, cellM [_, _]), _, _]) rfl ?_
      refine nl ?_
      refine At.thn (hK7 _ _ ?_); clear hK7
      refine Tri.ret ?_
      refine At.thr ?_
      refine rt1 (.inl rfl) Try.results47 rfl (.cell rfl (i := 0) rfl ty54 rfl ?_ .nil)
      · exact isR_eq (dv_add_sub HM HL)
    · have hc2 := BP.f hc2
      have HL := cmpN_neg.1 hc2
      refine Tri.skip ?_
      refine At.thn (hK5 _ _ ?_); clear hK5
      refine Tri.seq fun K8 hK8 => ?_
      refine Tri.dr ?_
      refine DrG.st (i := 0) [] rfl rfl rfl (by kernel_rfl) (OKG.o rfl (OK1.fieldAddr (Has.t rfl) fld54_0 ty4)) ?_
      refine DrG.st (i := 1) [34] rfl rfl rfl (by kernel_rfl) (OKG.o rfl (OK1.load1 (Has.t rfl) (i := 1) rfl ty4 rfl)) ?_
      refine DrG.st (i := 2) [] rfl rfl rfl (by kernel_rfl) (OKG.o rfl (OK1.fieldAddr (Has.t rfl) fld54_1 ty52)) ?_
      refine DrG.st (i := 3) [36] rfl rfl rfl (by kernel_rfl) (OKG.o rfl (OK1.load1 (Has.t rfl) (i := 1) rfl ty52 rfl)) ?_
      refine DrG.st (i := 4) [] rfl rfl rfl (by kernel_rfl) (OKG.o rfl (OK1.fieldAddr (Has.t rfl) fld54_1 ty52)) ?_
      refine DrG.st (i := 5) [38] rfl rfl rfl (by kernel_rfl) (OKG.o rfl (OK1.load1 (Has.t rfl) (i := 2) rfl ty52 rfl)) ?_
      refine DrG.st (i := 6) [37, 39] rfl rfl rfl (by kernel_rfl) (OKG.o rfl (OK1.call (ref01_Sub (by first | with_reducible assumption | omega | with_reducible exact d_words_ok _ | with_reducible exact lineL_le _ _ _ _ | (simp only [dv_abs, d_val_words, dval_line]; omega) | (rw [lineL_len]; omega)) (by first | with_reducible assumption | omega | with_reducible exact d_words_ok _ | with_reducible exact lineL_le _ _ _ _ | (simp only [dv_abs, d_val_words, dval_line]; omega) | (rw [lineL_len]; omega))) (.cons (Has.t rfl) (.cons (Has.t rfl) .nil)))) ?_
      refine DrG.fin (n := 7) mixed (by kernel_rfl) (by kernel_rfl) (by kernel_rfl) ?_
      refine Ops.cv (Cv.wk (.cons (t := 4) (Has.t rfl) (.cons (t := 35) (Has.t rfl) (.cons (t := 40) (Has.t rfl) .nil)))) ?_
      refine st (OK1.build [isB false, nilS] pl54 zero54 (fun _ _ => ⟨rfl, rfl, trivial⟩) (.cons (Has.t rfl) rfl rfl rfl (.cons (Has.t rfl) rfl rfl rfl .nil)) (Z'' := [_, _]) rfl) rfl ?_
      refine st (OK1.call (ref05_norm (by first | with_reducible assumption | omega | with_reducible exact d_words_ok _ | with_reducible exact lineL_le _ _ _ _ | (simp only [dv_abs, d_val_words, dval_line]; omega) | (rw [lineL_len]; omega))) (.cons (Has.t rfl) .nil)) rfl ?_
      refine Ops.store (Has.t rfl) (Has.t rfl) (i := 0) rfl ty54 rfl rfl (Ss' := [_, _]) rfl (M' := [(some _, cellM [_, _]), _, _]) rfl ?_
      refine nl ?_
      refine At.thn (hK8 _ _ ?_); clear hK8
      refine Tri.ret ?_
      refine rt1 (.inl rfl) Try.results47 rfl (.cell rfl (i := 0) rfl ty54 rfl ?_ .nil)
      · exact isR_eq (by rw [Int.add_comm]; exact dv_add_sub (by rw [Bool.beq_comm]; exact HM) (by omega))
set_option maxHeartbeats 4000000 in
theorem ref05_Sub {x y : Int} (hx : (List.length (digs x.natAbs)) ≤ 1000000) (hy : (List.length (digs y.natAbs)) ≤ 1000000) : Ctr Try.prog 24 [isR x, isR y] (isR (x - y)) := by
  refine Ctr.intro Try.func24 rfl (by kernel_rfl) Try.ntmps24 rfl fun w0 F0 => ?_
  refine Tri.cv (Cv.wk (.cons (t := 0) (Has.t rfl) (.cons (t := 1) (Has.t rfl) .nil))) ?_
  refine Tri.seq fun K1 hK1 => ?_
  refine Tri.region ?_
  refine Ops.box (Has.t rfl) rfl fun b1 => ?_
  refine Ops.box (Has.t rfl) rfl fun b2 => ?_
  refine Ops.alloc [isB false, nilS] zero54 (fun _ _ => ⟨rfl, rfl, trivial⟩) rfl fun b3 => ?_
  refine nl ?_
  refine At.thn (hK1 _ _ ?_); clear hK1
  refine Tri.seq fun K2 hK2 => ?_
  refine Tri.dr ?_
  refine DrG.st (i := 0) [] rfl rfl rfl (by kernel_rfl) (OKG.o rfl (OK1.load (Has.t rfl) (i := 2) rfl ty54 rfl (Ss' := [_, _]) rfl)) ?_
  refine DrG.st (i := 1) [] rfl rfl rfl (by kernel_rfl) (OKG.o rfl (OK1.load (Has.t rfl) (i := 1) rfl ty54 rfl (Ss' := [_, _]) rfl)) ?_
  refine DrG.st (i := 2) [6] rfl rfl rfl (by kernel_rfl) (OKG.o rfl (OK1.call (ref05_Neg (by first | with_reducible assumption | omega | (rw [Int.natAbs_neg]; omega))) (.cons (Has.t rfl) .nil))) ?_
  refine DrG.fin (n := 3) mixed (by kernel_rfl) (by kernel_rfl) (by kernel_rfl) ?_
  refine Ops.cv (Cv.wk (.cons (t := 4) (Has.t rfl) (.cons (t := 5) (Has.t rfl) (.cons (t := 7) (Has.t rfl) .nil)))) ?_
  refine st (OK1.call (ref05_Add (by first | with_reducible assumption | omega | (rw [Int.natAbs_neg]; omega)) (by first | with_reducible assumption | omega | (rw [Int.natAbs_neg]; omega))) (.cons (Has.t rfl) (.cons (Has.t rfl) .nil))) rfl ?_
  refine Ops.store (Has.t rfl) (Has.t rfl) (i := 0) rfl ty54 rfl rfl (Ss' := [_, _]) rfl (M' := [(some _, cellM [_, _]), _, _]) rfl ?_
  refine nl ?_
  refine At.thn (hK2 _ _ ?_); clear hK2
  refine Tri.ret ?_
  refine rt1 (.inl rfl) Try.results24 rfl (.cell rfl (i := 0) rfl ty54 rfl ?_ .nil)
  · exact isR_eq (by omega)
set_option maxHeartbeats 4000000 in
theorem ref05_Mul {x y : Int} (hx : (List.length (digs x.natAbs)) ≤ 1000000) (hy : (List.length (digs y.natAbs)) ≤ 1000000) : Ctr Try.prog 46 [isR x, isR y] (isR (x * y)) := by
  refine Ctr.intro Try.func46 rfl (by kernel_rfl) Try.ntmps46 rfl fun w0 F0 => ?_
  refine Tri.cv (Cv.wk (.cons (t := 0) (Has.t rfl) (.cons (t := 1) (Has.t rfl) .nil))) ?_
  refine Tri.seq fun K1 hK1 => ?_
  refine Tri.region ?_
  refine Ops.box (Has.t rfl) rfl fun b1 => ?_
  refine Ops.box (Has.t rfl) rfl fun b2 => ?_
  refine Ops.alloc [isB false, nilS] zero54 (fun _ _ => ⟨rfl, rfl, trivial⟩) rfl fun b3 => ?_
  refine nl ?_
  refine At.thn (hK1 _ _ ?_); clear hK1
  refine Tri.seq fun K2 hK2 => ?_
  refine Tri.dr ?_
  refine DrG.st (i := 0) [] rfl rfl rfl (by kernel_rfl) (OKG.o rfl (OK1.fieldAddr (Has.t rfl) fld54_0 ty4)) ?_
  refine DrG.st (i := 1) [5] rfl rfl rfl (by kernel_rfl) (OKG.o rfl (OK1.load1 (Has.t rfl) (i := 2) rfl ty4 rfl)) ?_
  refine DrG.st (i := 2) [] rfl rfl rfl (by kernel_rfl) (OKG.o rfl (OK1.fieldAddr (Has.t rfl) fld54_0 ty4)) ?_
  refine DrG.st (i := 3) [7] rfl rfl rfl (by kernel_rfl) (OKG.o rfl (OK1.load1 (Has.t rfl) (i := 1) rfl ty4 rfl)) ?_
  refine DrG.st (i := 4) [6, 8] rfl rfl rfl (by kernel_rfl) (OKG.o rfl (OK1.neB (du := un4) rfl (Has.t rfl) (Has.t rfl))) ?_
  refine DrG.st (i := 5) [] rfl rfl rfl (by kernel_rfl) (OKG.o rfl (OK1.fieldAddr (Has.t rfl) fld54_1 ty52)) ?_
  refine DrG.st (i := 6) [10] rfl rfl rfl (by kernel_rfl) (OKG.o rfl (OK1.load1 (Has.t rfl) (i := 2) rfl ty52 rfl)) ?_
  refine DrG.st (i := 7) [] rfl rfl rfl (by kernel_rfl) (OKG.o rfl (OK1.fieldAddr (Has.t rfl) fld54_1 ty52)) ?_
  refine DrG.st (i := 8) [12] rfl rfl rfl (by kernel_rfl) (OKG.o rfl (OK1.load1 (Has.t rfl) (i := 1) rfl ty52 rfl)) ?_
  refine DrG.st (i := 9) [11, 13] rfl rfl rfl (by kernel_rfl) (OKG.o rfl (OK1.call (ref01_Mul (by first | with_reducible assumption | omega | with_reducible exact d_words_ok _ | with_reducible exact lineL_le _ _ _ _ | (simp only [dv_abs, d_val_words, dval_line]; omega) | (rw [lineL_len]; omega)) (by first | with_reducible assumption | omega | with_reducible exact d_words_ok _ | with_reducible exact lineL_le _ _ _ _ | (simp only [dv_abs, d_val_words, dval_line]; omega) | (rw [lineL_len]; omega))) (.cons (Has.t rfl) (.cons (Has.t rfl) .nil)))) ?_
  refine DrG.fin (n := 10) mixed (by kernel_rfl) (by kernel_rfl) (by kernel_rfl) ?_
  refine Ops.cv (Cv.wk (.cons (t := 4) (Has.t rfl) (.cons (t := 9) (Has.t rfl) (.cons (t := 14) (Has.t rfl) .nil)))) ?_
  refine st (OK1.build [isB false, nilS] pl54 zero54 (fun _ _ => ⟨rfl, rfl, trivial⟩) (.cons (Has.t rfl) rfl rfl rfl (.cons (Has.t rfl) rfl rfl rfl .nil)) (Z'' := [_, _]) rfl) rfl ?_
  refine st (OK1.call (ref05_norm (by first | with_reducible assumption | omega | with_reducible exact d_words_ok _ | with_reducible exact lineL_le _ _ _ _ | (simp only [dv_abs, d_val_words, dval_line]; omega) | (rw [lineL_len]; omega))) (.cons (Has.t rfl) .nil)) rfl ?_
  refine Ops.store (Has.t rfl) (Has.t rfl) (i := 0) rfl ty54 rfl rfl (Ss' := [_, _]) rfl (M' := [(some _, cellM [_, _]), _, _]) rfl ?_
  refine nl ?_
  refine At.thn (hK2 _ _ ?_); clear hK2
  refine Tri.ret ?_
  refine rt1 (.inl rfl) Try.results46 rfl (.cell rfl (i := 0) rfl ty54 rfl ?_ .nil)
  · exact isR_eq (dv_mul x y)
set_option maxHeartbeats 4000000 in
theorem ref05_Cmp {x y : Int} (hx : (List.length (digs x.natAbs)) ≤ 100000) (hy : (List.length (digs y.natAbs)) ≤ 100000) : Ctr Try.prog 32 [isR x, isR y] (isI (sgn (x - y))) := by
  refine Ctr.intro Try.func32 rfl (by kernel_rfl) Try.ntmps32 rfl fun w0 F0 => ?_
  refine Tri.cv (Cv.wk (.cons (t := 0) (Has.t rfl) (.cons (t := 1) (Has.t rfl) .nil))) ?_
  have h1 := zd_sub x y
  refine Tri.seq fun K1 hK1 => ?_
  refine Tri.region ?_
  refine Ops.box (Has.t rfl) rfl fun b1 => ?_
  refine Ops.box (Has.t rfl) rfl fun b2 => ?_
  refine st (OK1.as (Has.cI 0 rfl)) rfl ?_
  refine nl ?_
  refine At.thn (hK1 _ _ ?_); clear hK1
  refine Tri.seq fun K2 hK2 => ?_
  refine Tri.region ?_
  refine st (OK1.load (Has.t rfl) (i := 1) rfl ty54 rfl (Ss' := [_, _]) rfl) rfl ?_
  refine st (OK1.load (Has.t rfl) (i := 0) rfl ty54 rfl (Ss' := [_, _]) rfl) rfl ?_
  refine st (OK1.call (ref05_Sub (by first | with_reducible assumption | omega | with_reducible exact d_words_ok _ | with_reducible exact lineL_le _ _ _ _ | (simp only [dv_abs, d_val_words, dval_line]; omega) | (rw [lineL_len]; omega)) (by first | with_reducible assumption | omega | with_reducible exact d_words_ok _ | with_reducible exact lineL_le _ _ _ _ | (simp only [dv_abs, d_val_words, dval_line]; omega) | (rw [lineL_len]; omega))) (.cons (Has.t rfl) (.cons (Has.t rfl) .nil))) rfl ?_
  refine st (OK1.call (ref05_Sign (by first | with_reducible assumption | omega | with_reducible exact d_words_ok _ | with_reducible exact lineL_le _ _ _ _ | (simp only [dv_abs, d_val_words, dval_line]; omega) | (rw [lineL_len]; omega))) (.cons (Has.t rfl) .nil)) rfl ?_
  refine st (OK1.as (Has.t rfl)) rfl ?_
  refine nl ?_
  refine At.thn (hK2 _ _ ?_); clear hK2
  refine Tri.cv (Cv.wk (.cons (t := 4) (Has.t rfl) .nil)) ?_
  refine Tri.ret ?_
  refine rt1 (.inl rfl) Try.results32 rfl (.tmp (Has.t' rfl ?_) .nil)
  all_goals (rfl)
theorem flo_t {x y : Int} (hy : 0 < y) (h : dv (!(decide (x < 0) == decide (y < 0))) (digs (x.natAbs / y.natAbs)) < 0 ∨ (decide (x < 0) == decide (y < 0)) = false) : (decide (x < 0) == decide (y < 0)) = false := by
  cases hE : (decide (x < 0) == decide (y < 0)) with
  | false => rfl
  | true =>
    rcases h with h | h
    · exact absurd h (flo_sign hy hE)
    · rw [hE] at h; simp at h
theorem zd_val {xs : List Nat} (m : Bool) (h : ∀ y ∈ xs, y < 18446744073709551616) : (List.length (digs (zv m xs).natAbs)) ≤ 4 * xs.length := by
  rw [zv_abs]; exact d_nw_le (by rw [Nat.pow_mul, ← D4]; exact val_lt h)
theorem zd_mod (x : Int) {y : Int} (h : 0 < y) : (List.length (digs (x % y).natAbs)) ≤ (List.length (digs y.natAbs)) := d_nw_mono (by have := Int.emod_nonneg x (show y ≠ 0 by omega); have := Int.emod_lt_of_pos x h; omega)
theorem within_eq (x y : Int) : (decide (0 ≤ sgn x) && decide (sgn (x - y) < 0)) = decide (0 ≤ x ∧ x < y) := by
  rw [← Bool.decide_and]
  apply decide_eq_decide.2
  rw [sgn_nn, sgn_lt]; omega
set_option maxHeartbeats 4000000 in
theorem ref05_Floor {x y : Int} (hp : 0 < y) (hx : (List.length (digs x.natAbs)) ≤ 100000) (hy : (List.length (digs y.natAbs)) ≤ 100000) : Ctr Try.prog 23 [isR x, isR y] (isTup [isR (x / y), isR (x % y)]) := by
  refine Ctr.intro Try.func23 rfl (by kernel_rfl) Try.ntmps23 rfl fun w0 F0 => ?_
  refine Tri.cv (Cv.wk (.cons (t := 0) (Has.t rfl) (.cons (t := 1) (Has.t rfl) .nil))) ?_
  have hq := d_nw_mono (Nat.div_le_self x.natAbs y.natAbs)
  have hr := d_nw_mono (Nat.mod_le x.natAbs y.natAbs)
  obtain ⟨q, hqe⟩ : ∃ q, q = dv (!(decide (x < 0) == decide (y < 0))) (digs (x.natAbs / y.natAbs)) := ⟨_, rfl⟩
  have hqa : (List.length (digs q.natAbs)) ≤ 100000 := by rw [hqe, dv_abs, d_val_words]; omega
  have h1 := zd_one
  have hq1 := zd_sub q 1
  have hm := zd_mul q y
  have hm1 := zd_mul (q - 1) y
  refine Tri.seq fun K1 hK1 => ?_
  refine Tri.region ?_
  refine Ops.box (Has.t rfl) rfl fun b1 => ?_
  refine Ops.box (Has.t rfl) rfl fun b2 => ?_
  refine Ops.alloc [isB false, nilS] zero54 (fun _ _ => ⟨rfl, rfl, trivial⟩) rfl fun b3 => ?_
  refine Ops.alloc [isB false, nilS] zero54 (fun _ _ => ⟨rfl, rfl, trivial⟩) rfl fun b4 => ?_
  refine nl ?_
  refine At.thn (hK1 _ _ ?_); clear hK1
  refine Tri.seq fun K2 hK2 => ?_
  refine Tri.region ?_
  refine st (OK1.fieldAddr (Has.t rfl) fld54_1 ty52) rfl ?_
  refine st (OK1.load1 (Has.t rfl) (i := 3) rfl ty52 rfl) rfl ?_
  refine st (OK1.fieldAddr (Has.t rfl) fld54_1 ty52) rfl ?_
  refine st (OK1.load1 (Has.t rfl) (i := 2) rfl ty52 rfl) rfl ?_
  refine st (OK1.call (ref03_DivMod (by first | with_reducible assumption | omega | with_reducible exact d_words_ok _ | (simp only [dv_abs, d_val_words]; omega)) (by first | with_reducible assumption | omega | with_reducible exact d_words_ok _ | (simp only [dv_abs, d_val_words]; omega)) (by first | with_reducible assumption | omega | with_reducible exact d_words_ok _ | (simp only [dv_abs, d_val_words]; omega))) (.cons (Has.t rfl) (.cons (Has.t rfl) .nil))) rfl ?_
  refine st (OK1.mv (Has.t rfl)) rfl ?_
  refine st (OK1.ext (Has.t rfl) rfl) rfl ?_
  refine st (OK1.ext (Has.t rfl) rfl) rfl ?_
  refine st (OK1.as (Has.t rfl)) rfl ?_
  refine st (OK1.as (Has.t rfl)) rfl ?_
  refine nl ?_
  refine At.thn (hK2 _ _ ?_); clear hK2
  refine Tri.cv (Cv.wk (.cons (t := 2) (Has.t rfl) (.cons (t := 3) (Has.t rfl) (.cons (t := 4) (Has.t rfl) (.cons (t := 5) (Has.t rfl) (.cons (t := 6) (Has.t rfl) (.cons (t := 7) (Has.t rfl) .nil))))))) ?_
  refine Tri.seq fun K3 hK3 => ?_
  refine Tri.region ?_
  refine st (OK1.fieldAddr (Has.t rfl) fld54_0 ty4) rfl ?_
  refine st (OK1.load1 (Has.t rfl) (i := 3) rfl ty4 rfl) rfl ?_
  refine st (OK1.fieldAddr (Has.t rfl) fld54_0 ty4) rfl ?_
  refine st (OK1.load1 (Has.t rfl) (i := 2) rfl ty4 rfl) rfl ?_
  refine st (OK1.neB (du := un4) rfl (Has.t rfl) (Has.t rfl)) rfl ?_
  refine st (OK1.mv (Has.t rfl)) rfl ?_
  refine st (OK1.build [isB false, nilS] pl54 zero54 (fun _ _ => ⟨rfl, rfl, trivial⟩) (.cons (Has.t rfl) rfl rfl rfl (.cons (Has.t rfl) rfl rfl rfl .nil)) (Z'' := [_, _]) rfl) rfl ?_
  refine st (OK1.eq (OK1.call (ref05_norm (by first | with_reducible assumption | omega | with_reducible exact d_words_ok _ | (simp only [dv_abs, d_val_words]; omega))) (.cons (Has.t rfl) .nil)) ((show isR _ = isR q from isR_eq hqe.symm))) rfl ?_
  refine Ops.alloc [isB false, nilS] zero54 (fun _ _ => ⟨rfl, rfl, trivial⟩) rfl fun b5 => ?_
  refine Ops.store (Has.t rfl) (Has.t rfl) (i := 0) rfl ty54 rfl rfl (Ss' := [_, _]) rfl (M' := [(some _, cellM [_, _]), _, _, _, _]) rfl ?_
  refine nl ?_
  refine At.thn (hK3 _ _ ?_); clear hK3
  refine Tri.cv (Cv.wk (.cons (t := 2) (Has.t rfl) (.cons (t := 3) (Has.t rfl) (.cons (t := 4) (Has.t rfl) (.cons (t := 5) (Has.t rfl) (.cons (t := 7) (Has.t rfl) (.cons (t := 8) (Has.t rfl) .nil))))))) ?_
  refine Tri.seq fun K4 hK4 => ?_
  refine Tri.seq fun K5 hK5 => ?_
  refine Tri.region ?_
  refine st (OK1.fieldAddr (Has.t rfl) fld54_0 ty4) rfl ?_
  refine st (OK1.load1 (Has.t rfl) (i := 0) rfl ty4 rfl) rfl ?_
  refine st (OK1.mv (Has.t rfl)) rfl ?_
  refine stF rfl rfl (fun hg => have hg' := BP.t hg; OK1.fieldAddr (Has.t rfl) fld54_0 ty4) rfl ?_
  refine stF rfl rfl (fun hg => have hg' := BP.t hg; OK1.load1 (Has.g rfl hg) (i := 4) rfl ty4 rfl) rfl ?_
  refine stF rfl rfl (fun hg => have hg' := BP.t hg; OK1.fieldAddr (Has.t rfl) fld54_0 ty4) rfl ?_
  refine stF rfl rfl (fun hg => have hg' := BP.t hg; OK1.load1 (Has.g rfl hg) (i := 3) rfl ty4 rfl) rfl ?_
  refine stF rfl rfl (fun hg => have hg' := BP.t hg; OK1.neB (du := un4) rfl (Has.g rfl hg) (Has.g rfl hg)) rfl ?_
  refine st (OK1.pickOr (Has.t rfl) (fun h => Has.g rfl (ng h))) rfl ?_
  refine nl ?_
  refine At.thn (hK5 _ _ ?_); clear hK5
  refine Tri.cv (Cv.wk (.cons (t := 2) (Has.t rfl) (.cons (t := 3) (Has.t rfl) (.cons (t := 4) (Has.t rfl) (.cons (t := 5) (Has.t rfl) (.cons (t := 7) (Has.t rfl) (.cons (t := 8) (Has.t rfl) (.cons (t := 33) (Has.t rfl) .nil)))))))) ?_
  refine Tri.cond (Has.t rfl) (fun hc1 => ?_) (fun hc1 => ?_)
  · have hc1 := BP.t hc1
    have hs : (decide (x < 0) == decide (y < 0)) = false := flo_t hp (by rw [← hqe]; exact hc1)
    refine Tri.seq fun K6 hK6 => ?_
    refine Tri.region ?_
    refine st (OK1.mv (Has.t rfl)) rfl ?_
    refine st (OK1.len sl52 (Has.t rfl)) rfl ?_
    refine st (OK1.gtI (Has.t rfl) (Has.cI 0 rfl)) rfl ?_
    refine nl ?_
    refine At.thn (hK6 _ _ ?_); clear hK6
    refine Tri.cond (Has.t rfl) (fun hc2 => ?_) (fun hc2 => ?_)
    · have hc2 := BP.t hc2
      have h0 := nd_rest1 hc2
      refine Tri.region ?_
      refine st (OK1.load (Has.t rfl) (i := 0) rfl ty54 rfl (Ss' := [_, _]) rfl) rfl ?_
      refine st (OK1.eq (OK1.buildS [isI 0] sl52 ty3 zero3 (fun _ _ => ⟨⟨rfl, by decide, by decide⟩, trivial⟩) rfl rfl (.cons (Has.cI 1 rfl) rfl rfl rfl .nil) rfl (S := SlM isN [1]) rfl) ((show SlM isN [1] = SlM isN (digs 1) from SlM_eq one_digs.symm))) rfl ?_
      refine st (OK1.eq (OK1.build [isB false, nilS] pl54 zero54 (fun _ _ => ⟨rfl, rfl, trivial⟩) (.cons (Has.t rfl) rfl rfl rfl .nil) (Z'' := [_, _]) rfl) ((show Flat [isB false, SlM isN (digs 1)] = isR 1 from isR_of (by decide) rfl))) rfl ?_
      refine st (OK1.call (ref05_Sub (by first | with_reducible assumption | omega | with_reducible exact d_words_ok _ | (simp only [dv_abs, d_val_words]; omega)) (by first | with_reducible assumption | omega | with_reducible exact d_words_ok _ | (simp only [dv_abs, d_val_words]; omega))) (.cons (Has.t rfl) (.cons (Has.t rfl) .nil))) rfl ?_
      refine Ops.store (Has.t rfl) (Has.t rfl) (i := 0) rfl ty54 rfl rfl (Ss' := [_, _]) rfl (M' := [(some _, cellM [_, _]), _, _, _, _]) rfl ?_
      refine nl ?_
      refine At.thn (hK4 _ _ ?_); clear hK4
      refine Tri.cv (Cv.wk (.cons (t := 2) (Has.t rfl) (.cons (t := 3) (Has.t rfl) (.cons (t := 4) (Has.t rfl) (.cons (t := 5) (Has.t rfl) (.cons (t := 8) (Has.t rfl) .nil)))))) ?_
      refine Tri.seq fun K7 hK7 => ?_
      refine Tri.dr ?_
      refine DrG.st (i := 0) [] rfl rfl rfl (by kernel_rfl) (OKG.o rfl (OK1.load (Has.t rfl) (i := 0) rfl ty54 rfl (Ss' := [_, _]) rfl)) ?_
      refine DrG.st (i := 1) [] rfl rfl rfl (by kernel_rfl) (OKG.o rfl (OK1.load (Has.t rfl) (i := 4) rfl ty54 rfl (Ss' := [_, _]) rfl)) ?_
      refine DrG.st (i := 2) [] rfl rfl rfl (by kernel_rfl) (OKG.o rfl (OK1.load (Has.t rfl) (i := 0) rfl ty54 rfl (Ss' := [_, _]) rfl)) ?_
      refine DrG.st (i := 3) [] rfl rfl rfl (by kernel_rfl) (OKG.o rfl (OK1.load (Has.t rfl) (i := 3) rfl ty54 rfl (Ss' := [_, _]) rfl)) ?_
      refine DrG.st (i := 4) [43, 44] rfl rfl rfl (by kernel_rfl) (OKG.o rfl (OK1.call (ref05_Mul (by first | with_reducible assumption | omega | with_reducible exact d_words_ok _ | (simp only [dv_abs, d_val_words]; omega)) (by first | with_reducible assumption | omega | with_reducible exact d_words_ok _ | (simp only [dv_abs, d_val_words]; omega))) (.cons (Has.t rfl) (.cons (Has.t rfl) .nil)))) ?_
      refine DrG.st (i := 5) [42, 45] rfl rfl rfl (by kernel_rfl) (OKG.o rfl (OK1.call (ref05_Sub (by first | with_reducible assumption | omega | with_reducible exact d_words_ok _ | (simp only [dv_abs, d_val_words]; omega)) (by first | with_reducible assumption | omega | with_reducible exact d_words_ok _ | (simp only [dv_abs, d_val_words]; omega))) (.cons (Has.t rfl) (.cons (Has.t rfl) .nil)))) ?_
      refine DrG.fin (n := 6) mixed (by kernel_rfl) (by kernel_rfl) (by kernel_rfl) ?_
      refine Ops.cv (Cv.wk (.cons (t := 4) (Has.t rfl) (.cons (t := 5) (Has.t rfl) (.cons (t := 41) (Has.t rfl) (.cons (t := 46) (Has.t rfl) .nil))))) ?_
      refine Ops.store (Has.t rfl) (Has.t rfl) (i := 2) rfl ty54 rfl rfl (Ss' := [_, _]) rfl (M' := [_, _, (some _, cellM [_, _]), _, _]) rfl ?_
      refine Ops.store (Has.t rfl) (Has.t rfl) (i := 1) rfl ty54 rfl rfl (Ss' := [_, _]) rfl (M' := [_, (some _, cellM [_, _]), _, _, _]) rfl ?_
      refine nl ?_
      refine At.thn (hK7 _ _ ?_); clear hK7
      refine Tri.ret ?_
      refine rtN (.inl rfl) Try.results23 rfl rfl (.cell rfl (i := 2) rfl ty54 rfl ?_ (.cell rfl (i := 1) rfl ty54 rfl ?_ .nil))
      · exact isR_eq (by rw [hqe, flo2 hp hs h0])
      · exact isR_eq (by rw [hqe, flo2 hp hs h0, flo_rest])
    · have hc2 := BP.f hc2
      have h0 := nd_rest0 hc2
      refine Tri.skip ?_
      refine At.thn (hK4 _ _ ?_); clear hK4
      refine Tri.cv (Cv.wk (.cons (t := 2) (Has.t rfl) (.cons (t := 3) (Has.t rfl) (.cons (t := 4) (Has.t rfl) (.cons (t := 5) (Has.t rfl) (.cons (t := 8) (Has.t rfl) .nil)))))) ?_
      refine Tri.seq fun K8 hK8 => ?_
      refine Tri.dr ?_
      refine DrG.st (i := 0) [] rfl rfl rfl (by kernel_rfl) (OKG.o rfl (OK1.load (Has.t rfl) (i := 0) rfl ty54 rfl (Ss' := [_, _]) rfl)) ?_
      refine DrG.st (i := 1) [] rfl rfl rfl (by kernel_rfl) (OKG.o rfl (OK1.load (Has.t rfl) (i := 4) rfl ty54 rfl (Ss' := [_, _]) rfl)) ?_
      refine DrG.st (i := 2) [] rfl rfl rfl (by kernel_rfl) (OKG.o rfl (OK1.load (Has.t rfl) (i := 0) rfl ty54 rfl (Ss' := [_, _]) rfl)) ?_
      refine DrG.st (i := 3) [] rfl rfl rfl (by kernel_rfl) (OKG.o rfl (OK1.load (Has.t rfl) (i := 3) rfl ty54 rfl (Ss' := [_, _]) rfl)) ?_
      refine DrG.st (i := 4) [43, 44] rfl rfl rfl (by kernel_rfl) (OKG.o rfl (OK1.call (ref05_Mul (by first | with_reducible assumption | omega | with_reducible exact d_words_ok _ | (simp only [dv_abs, d_val_words]; omega)) (by first | with_reducible assumption | omega | with_reducible exact d_words_ok _ | (simp only [dv_abs, d_val_words]; omega))) (.cons (Has.t rfl) (.cons (Has.t rfl) .nil)))) ?_
      refine DrG.st (i := 5) [42, 45] rfl rfl rfl (by kernel_rfl) (OKG.o rfl (OK1.call (ref05_Sub (by first | with_reducible assumption | omega | with_reducible exact d_words_ok _ | (simp only [dv_abs, d_val_words]; omega)) (by first | with_reducible assumption | omega | with_reducible exact d_words_ok _ | (simp only [dv_abs, d_val_words]; omega))) (.cons (Has.t rfl) (.cons (Has.t rfl) .nil)))) ?_
      refine DrG.fin (n := 6) mixed (by kernel_rfl) (by kernel_rfl) (by kernel_rfl) ?_
      refine Ops.cv (Cv.wk (.cons (t := 4) (Has.t rfl) (.cons (t := 5) (Has.t rfl) (.cons (t := 41) (Has.t rfl) (.cons (t := 46) (Has.t rfl) .nil))))) ?_
      refine Ops.store (Has.t rfl) (Has.t rfl) (i := 2) rfl ty54 rfl rfl (Ss' := [_, _]) rfl (M' := [_, _, (some _, cellM [_, _]), _, _]) rfl ?_
      refine Ops.store (Has.t rfl) (Has.t rfl) (i := 1) rfl ty54 rfl rfl (Ss' := [_, _]) rfl (M' := [_, (some _, cellM [_, _]), _, _, _]) rfl ?_
      refine nl ?_
      refine At.thn (hK8 _ _ ?_); clear hK8
      refine Tri.ret ?_
      refine rtN (.inl rfl) Try.results23 rfl rfl (.cell rfl (i := 2) rfl ty54 rfl ?_ (.cell rfl (i := 1) rfl ty54 rfl ?_ .nil))
      · exact isR_eq (hqe.trans (flo1 hp hs h0))
      · exact isR_eq (by rw [hqe, flo1 hp hs h0, flo_rest])
  · have hc1 := BP.f hc1
    have hs : (decide (x < 0) == decide (y < 0)) = true := (by simpa using hc1.2)
    refine Tri.skip ?_
    refine At.thn (hK4 _ _ ?_); clear hK4
    refine Tri.seq fun K9 hK9 => ?_
    refine Tri.dr ?_
    refine DrG.st (i := 0) [] rfl rfl rfl (by kernel_rfl) (OKG.o rfl (OK1.load (Has.t rfl) (i := 0) rfl ty54 rfl (Ss' := [_, _]) rfl)) ?_
    refine DrG.st (i := 1) [] rfl rfl rfl (by kernel_rfl) (OKG.o rfl (OK1.load (Has.t rfl) (i := 4) rfl ty54 rfl (Ss' := [_, _]) rfl)) ?_
    refine DrG.st (i := 2) [] rfl rfl rfl (by kernel_rfl) (OKG.o rfl (OK1.load (Has.t rfl) (i := 0) rfl ty54 rfl (Ss' := [_, _]) rfl)) ?_
    refine DrG.st (i := 3) [] rfl rfl rfl (by kernel_rfl) (OKG.o rfl (OK1.load (Has.t rfl) (i := 3) rfl ty54 rfl (Ss' := [_, _]) rfl)) ?_
    refine DrG.st (i := 4) [43, 44] rfl rfl rfl (by kernel_rfl) (OKG.o rfl (OK1.call (ref05_Mul (by first | with_reducible assumption | omega | with_reducible exact d_words_ok _ | (simp only [dv_abs, d_val_words]; omega)) (by first | with_reducible assumption | omega | with_reducible exact d_words_ok _ | (simp only [dv_abs, d_val_words]; omega))) (.cons (Has.t rfl) (.cons (Has.t rfl) .nil)))) ?_
    refine DrG.st (i := 5) [42, 45] rfl rfl rfl (by kernel_rfl) (OKG.o rfl (OK1.call (ref05_Sub (by first | with_reducible assumption | omega | with_reducible exact d_words_ok _ | (simp only [dv_abs, d_val_words]; omega)) (by first | with_reducible assumption | omega | with_reducible exact d_words_ok _ | (simp only [dv_abs, d_val_words]; omega))) (.cons (Has.t rfl) (.cons (Has.t rfl) .nil)))) ?_
    refine DrG.fin (n := 6) mixed (by kernel_rfl) (by kernel_rfl) (by kernel_rfl) ?_
    refine Ops.cv (Cv.wk (.cons (t := 4) (Has.t rfl) (.cons (t := 5) (Has.t rfl) (.cons (t := 41) (Has.t rfl) (.cons (t := 46) (Has.t rfl) .nil))))) ?_
    refine Ops.store (Has.t rfl) (Has.t rfl) (i := 2) rfl ty54 rfl rfl (Ss' := [_, _]) rfl (M' := [_, _, (some _, cellM [_, _]), _, _]) rfl ?_
    refine Ops.store (Has.t rfl) (Has.t rfl) (i := 1) rfl ty54 rfl rfl (Ss' := [_, _]) rfl (M' := [_, (some _, cellM [_, _]), _, _, _]) rfl ?_
    refine nl ?_
    refine At.thn (hK9 _ _ ?_); clear hK9
    refine Tri.ret ?_
    refine rtN (.inl rfl) Try.results23 rfl rfl (.cell rfl (i := 2) rfl ty54 rfl ?_ (.cell rfl (i := 1) rfl ty54 rfl ?_ .nil))
    · exact isR_eq (hqe.trans (flo0 hp hs))
    · exact isR_eq (by rw [hqe, flo0 hp hs, flo_rest])
set_option maxHeartbeats 4000000 in
theorem ref06_Congruent {m n k : Bool} {xs ys zs : List Nat} (hx : xs.length ≤ 10000) (hy : ys.length ≤ 10000) (hz : zs.length ≤ 10000) (hp : 0 < zv k zs) : Ctr Try.prog 7 [Flat [isB m, isWords xs], Flat [isB n, isWords ys], Flat [isB k, isWords zs]] (isB (decide (zv k zs ∣ zv m xs - zv n ys))) := by
  refine Ctr.intro Try.func7 rfl (by kernel_rfl) Try.ntmps7 rfl fun w0 F0 => ?_
  refine Tri.cv (Cv.wk (.cons (t := 0) (Has.t rfl) (.cons (t := 1) (Has.t rfl) (.cons (t := 2) (Has.t rfl) .nil)))) ?_
  refine Tri.fact (Has.okZ (Has.t (t := 0) rfl)) fun okz0 => ?_
  refine Tri.fact (Has.okZ (Has.t (t := 1) rfl)) fun okz1 => ?_
  refine Tri.fact (Has.okZ (Has.t (t := 2) rfl)) fun okz2 => ?_
  have ex := zd_val m okz0.1
  have ey := zd_val n okz1.1
  have ez := zd_val k okz2.1
  have hs := zd_sub (zv m xs) (zv n ys)
  have hr := zd_mod (zv m xs - zv n ys) hp
  refine Tri.seq fun K1 hK1 => ?_
  refine Tri.region ?_
  refine Ops.box (Has.t rfl) rfl fun b1 => ?_
  refine Ops.box (Has.t rfl) rfl fun b2 => ?_
  refine Ops.box (Has.t rfl) rfl fun b3 => ?_
  refine st (OK1.as (Has.cB false)) rfl ?_
  refine nl ?_
  refine At.thn (hK1 _ _ ?_); clear hK1
  refine Tri.seq fun K2 hK2 => ?_
  refine Tri.drh [true, true, true] (Ms := [_, _, _]) rfl ?_
  refine DrH.st (i := 0) [] rfl rfl rfl (by kernel_rfl) (OKG.o rfl (OK1.load (Has.t rfl) (i := 2) rfl ty27 rfl (Ss' := [_, _]) rfl)) ?_
  refine DrH.st (i := 1) [10] rfl rfl rfl (by kernel_rfl) (OKG.o rfl (OK1.call (ref05_From (by first | with_reducible assumption | omega | with_reducible exact d_words_ok _ | with_reducible exact lineL_le _ _ _ _ | (simp only [dv_abs, d_val_words, dval_line]; omega) | (rw [lineL_len]; omega))) (.cons (Has.t rfl) .nil))) ?_
  refine DrH.st (i := 2) [] rfl rfl rfl (by kernel_rfl) (OKG.o rfl (OK1.load (Has.t rfl) (i := 1) rfl ty27 rfl (Ss' := [_, _]) rfl)) ?_
  refine DrH.st (i := 3) [12] rfl rfl rfl (by kernel_rfl) (OKG.o rfl (OK1.call (ref05_From (by first | with_reducible assumption | omega | with_reducible exact d_words_ok _ | with_reducible exact lineL_le _ _ _ _ | (simp only [dv_abs, d_val_words, dval_line]; omega) | (rw [lineL_len]; omega))) (.cons (Has.t rfl) .nil))) ?_
  refine DrH.st (i := 4) [11, 13] rfl rfl rfl (by kernel_rfl) (OKG.o rfl (OK1.call (ref05_Sub (by first | with_reducible assumption | omega | with_reducible exact d_words_ok _ | with_reducible exact lineL_le _ _ _ _ | (simp only [dv_abs, d_val_words, dval_line]; omega) | (rw [lineL_len]; omega)) (by first | with_reducible assumption | omega | with_reducible exact d_words_ok _ | with_reducible exact lineL_le _ _ _ _ | (simp only [dv_abs, d_val_words, dval_line]; omega) | (rw [lineL_len]; omega))) (.cons (Has.t rfl) (.cons (Has.t rfl) .nil)))) ?_
  refine DrH.st (i := 5) [] rfl rfl rfl (by kernel_rfl) (OKG.o rfl (OK1.load (Has.t rfl) (i := 0) rfl ty27 rfl (Ss' := [_, _]) rfl)) ?_
  refine DrH.st (i := 6) [15] rfl rfl rfl (by kernel_rfl) (OKG.o rfl (OK1.call (ref05_From (by first | with_reducible assumption | omega | with_reducible exact d_words_ok _ | with_reducible exact lineL_le _ _ _ _ | (simp only [dv_abs, d_val_words, dval_line]; omega) | (rw [lineL_len]; omega))) (.cons (Has.t rfl) .nil))) ?_
  refine DrH.st (i := 7) [14, 16] rfl rfl rfl (by kernel_rfl) (OKG.o rfl (OK1.call (ref05_Floor (by first | with_reducible assumption | omega | with_reducible exact d_words_ok _ | with_reducible exact lineL_le _ _ _ _ | (simp only [dv_abs, d_val_words, dval_line]; omega) | (rw [lineL_len]; omega)) (by first | with_reducible assumption | omega | with_reducible exact d_words_ok _ | with_reducible exact lineL_le _ _ _ _ | (simp only [dv_abs, d_val_words, dval_line]; omega) | (rw [lineL_len]; omega)) (by first | with_reducible assumption | omega | with_reducible exact d_words_ok _ | with_reducible exact lineL_le _ _ _ _ | (simp only [dv_abs, d_val_words, dval_line]; omega) | (rw [lineL_len]; omega))) (.cons (Has.t rfl) (.cons (Has.t rfl) .nil)))) ?_
  refine DrH.st (i := 8) [17] rfl rfl rfl (by kernel_rfl) (OKG.o rfl (OK1.mv (Has.t rfl))) ?_
  refine DrH.st (i := 9) [9] rfl rfl rfl (by kernel_rfl) (OKG.o rfl (OK1.ext (Has.t rfl) rfl)) ?_
  refine DrH.st (i := 10) [9] rfl rfl rfl (by kernel_rfl) (OKG.o rfl (OK1.ext (Has.t rfl) rfl)) ?_
  refine DrH.als2 (n1 := 13) (ds := [7, 8]) (zs := [[isB false, nilS], [isB false, nilS]]) rfl (.cons rfl rfl zero54 (fun _ _ => ⟨rfl, rfl, trivial⟩) (.cons rfl rfl zero54 (fun _ _ => ⟨rfl, rfl, trivial⟩) .nil)) (.cons_cons _ (.cons_cons _ (.cons_cons _ .slnil))) (Cs := [_, _]) rfl ?_
  refine DrN2.new [18] 0 (Ss' := [_, _]) (Cs' := [cellM [_, _], _]) rfl (by kernel_rfl) (by kernel_rfl) rfl rfl rfl (by kernel_rfl) rfl (Has.t rfl) ty54 rfl rfl rfl rfl ?_
  refine DrN2.fin (n := 14) mixed rfl (by kernel_rfl) (by kernel_rfl) (by kernel_rfl) (fun bs hbs => ?_)
  obtain ⟨b4, b5, rfl⟩ := len2 hbs
  refine Ops.memEq (M' := [_, _, _, _, _]) rfl ?_
  refine Ops.cv (Cv.wk (.cons (t := 6) (Has.t rfl) (.cons (t := 19) (Has.t rfl) (.cons (t := 8) (Has.op rfl) .nil)))) ?_
  refine Ops.store (Has.t rfl) (Has.t rfl) (i := 1) rfl ty54 rfl rfl (Ss' := [_, _]) rfl (M' := [_, (some _, cellM [_, _]), _, _, _]) rfl ?_
  refine nl ?_
  refine At.thn (hK2 _ _ ?_); clear hK2
  refine Tri.seq fun K3 hK3 => ?_
  refine Tri.region ?_
  refine st (OK1.load (Has.t rfl) (i := 1) rfl ty54 rfl (Ss' := [_, _]) rfl) rfl ?_
  refine st (OK1.call (ref05_Sign (by first | with_reducible assumption | omega | with_reducible exact d_words_ok _ | with_reducible exact lineL_le _ _ _ _ | (simp only [dv_abs, d_val_words, dval_line]; omega) | (rw [lineL_len]; omega))) (.cons (Has.t rfl) .nil)) rfl ?_
  refine st (OK1.eqI (Has.t rfl) (Has.cI 0 rfl)) rfl ?_
  refine st (OK1.as (Has.t rfl)) rfl ?_
  refine nl ?_
  refine At.thn (hK3 _ _ ?_); clear hK3
  refine Tri.cv (Cv.wk (.cons (t := 6) (Has.t rfl) .nil)) ?_
  refine Tri.ret ?_
  refine rt1 (.inl rfl) Try.results7 rfl (.tmp (Has.t' rfl ?_) .nil)
  all_goals (exact isB_eq (decide_eq_decide.2 (by rw [sgn_eq0]; exact (Int.dvd_iff_emod_eq_zero ..).symm)))
set_option maxHeartbeats 4000000 in
theorem ref06_Within {m n : Bool} {xs ys : List Nat} (hx : xs.length ≤ 10000) (hy : ys.length ≤ 10000) : Ctr Try.prog 13 [Flat [isB m, isWords xs], Flat [isB n, isWords ys]] (isB (decide (0 ≤ zv m xs ∧ zv m xs < zv n ys))) := by
  refine Ctr.intro Try.func13 rfl (by kernel_rfl) Try.ntmps13 rfl fun w0 F0 => ?_
  refine Tri.cv (Cv.wk (.cons (t := 0) (Has.t rfl) (.cons (t := 1) (Has.t rfl) .nil))) ?_
  refine Tri.fact (Has.okZ (Has.t (t := 0) rfl)) fun okz0 => ?_
  refine Tri.fact (Has.okZ (Has.t (t := 1) rfl)) fun okz1 => ?_
  have ex := zd_val m okz0.1
  have ey := zd_val n okz1.1
  refine Tri.seq fun K1 hK1 => ?_
  refine Tri.region ?_
  refine Ops.box (Has.t rfl) rfl fun b1 => ?_
  refine Ops.box (Has.t rfl) rfl fun b2 => ?_
  refine st (OK1.as (Has.cB false)) rfl ?_
  refine nl ?_
  refine At.thn (hK1 _ _ ?_); clear hK1
  refine Tri.seq fun K2 hK2 => ?_
  refine Tri.region ?_
  refine st (OK1.load (Has.t rfl) (i := 1) rfl ty27 rfl (Ss' := [_, _]) rfl) rfl ?_
  refine st (OK1.call (ref05_From (by first | with_reducible assumption | omega | with_reducible exact d_words_ok _ | with_reducible exact lineL_le _ _ _ _ | (simp only [dv_abs, d_val_words, dval_line]; omega) | (rw [lineL_len]; omega))) (.cons (Has.t rfl) .nil)) rfl ?_
  refine Ops.alloc [isB false, nilS] zero54 (fun _ _ => ⟨rfl, rfl, trivial⟩) rfl fun b3 => ?_
  refine Ops.store (Has.t rfl) (Has.t rfl) (i := 0) rfl ty54 rfl rfl (Ss' := [_, _]) rfl (M' := [(some _, cellM [_, _]), _, _]) rfl ?_
  refine nl ?_
  refine At.thn (hK2 _ _ ?_); clear hK2
  refine Tri.cv (Cv.wk (.cons (t := 3) (Has.t rfl) (.cons (t := 4) (Has.t rfl) (.cons (t := 5) (Has.t rfl) .nil)))) ?_
  refine Tri.seq fun K3 hK3 => ?_
  refine Tri.dr ?_
  refine DrG.st (i := 0) [] rfl rfl rfl (by kernel_rfl) (OKG.o rfl (OK1.load (Has.t rfl) (i := 0) rfl ty54 rfl (Ss' := [_, _]) rfl)) ?_
  refine DrG.st (i := 1) [8] rfl rfl rfl (by kernel_rfl) (OKG.o rfl (OK1.call (ref05_Sign (by first | with_reducible assumption | omega | with_reducible exact d_words_ok _ | with_reducible exact lineL_le _ _ _ _ | (simp only [dv_abs, d_val_words, dval_line]; omega) | (rw [lineL_len]; omega))) (.cons (Has.t rfl) .nil))) ?_
  refine DrG.st (i := 2) [9] rfl rfl rfl (by kernel_rfl) (OKG.o rfl (OK1.geI (Has.t rfl) (Has.cI 0 rfl))) ?_
  refine DrG.st (i := 3) [10] rfl rfl rfl (by kernel_rfl) (OKG.o rfl (OK1.mv (Has.t rfl))) ?_
  refine DrG.st (i := 4) [11] rfl rfl rfl (by kernel_rfl) (OKG.T rfl rfl rfl (fun hg => have hg' := BP.t hg; OK1.load (Has.t rfl) (i := 0) rfl ty54 rfl (Ss' := [_, _]) rfl)) ?_
  refine DrG.st (i := 5) [11] rfl rfl rfl (by kernel_rfl) (OKG.T rfl rfl rfl (fun hg => have hg' := BP.t hg; OK1.load (Has.t rfl) (i := 1) rfl ty27 rfl (Ss' := [_, _]) rfl)) ?_
  refine DrG.st (i := 6) [11, 13] rfl rfl rfl (by kernel_rfl) (OKG.T rfl rfl rfl (fun hg => have hg' := BP.t hg; OK1.call (ref05_From (by first | with_reducible assumption | omega | with_reducible exact d_words_ok _ | with_reducible exact lineL_le _ _ _ _ | (simp only [dv_abs, d_val_words, dval_line]; omega) | (rw [lineL_len]; omega))) (.cons (Has.g rfl hg) .nil))) ?_
  refine DrG.fin (n := 7) mixed (by kernel_rfl) (by kernel_rfl) (by kernel_rfl) ?_
  refine Ops.cv (Cv.wk (.cons (t := 4) (Has.t rfl) (.cons (t := 11) (Has.t rfl) (.cons (t := 12) (Has.t rfl) (.cons (t := 14) (Has.t rfl) .nil))))) ?_
  refine stT rfl rfl (fun hg => have hg' := BP.t hg; OK1.call (ref05_Cmp (by first | with_reducible assumption | omega | with_reducible exact d_words_ok _ | with_reducible exact lineL_le _ _ _ _ | (simp only [dv_abs, d_val_words, dval_line]; omega) | (rw [lineL_len]; omega)) (by first | with_reducible assumption | omega | with_reducible exact d_words_ok _ | with_reducible exact lineL_le _ _ _ _ | (simp only [dv_abs, d_val_words, dval_line]; omega) | (rw [lineL_len]; omega))) (.cons (Has.g rfl hg) (.cons (Has.g rfl hg) .nil))) rfl ?_
  refine stT rfl rfl (fun hg => have hg' := BP.t hg; OK1.ltI (Has.g rfl hg) (Has.cI 0 rfl)) rfl ?_
  refine st (OK1.pickAnd (Has.t rfl) (fun h => Has.g rfl h)) rfl ?_
  refine st (OK1.as (Has.t rfl)) rfl ?_
  refine nl ?_
  refine At.thn (hK3 _ _ ?_); clear hK3
  refine Tri.cv (Cv.wk (.cons (t := 4) (Has.t rfl) .nil)) ?_
  refine Tri.ret ?_
  refine rt1 (.inl rfl) Try.results13 rfl (.tmp (Has.t' rfl ?_) .nil)
  all_goals (exact isB_eq (within_eq _ _))
end Go.Proofs.Ytbnhdbchoghkfaa
