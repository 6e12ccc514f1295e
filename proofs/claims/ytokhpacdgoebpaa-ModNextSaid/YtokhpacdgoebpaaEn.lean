/- A small program logic over the given model: predicates on values that stay true while the memory they read stays as it is; one rule for each operation; drawn regions in any order. -/
import Derived.WalkKit
import Derived.Deep.LoopGhost
import Derived.Orders
namespace Go.En
open Go.RowKit
set_option linter.unusedVariables false

abbrev Blk := Nat → Prop

/-- a predicate on values that reads memory in the blocks F alone -/
structure VP where
  h : World → Blk → Value → Prop
  mono : ∀ (w w' : World) (F F' : Blk) (v : Value), h w F v → (∀ b, F b → w'.heap[b]? = w.heap[b]?) → (∀ b, F b → F' b) → h w' F' v

abbrev Ctx := List (Nat × VP)

def look : Ctx → Nat → Option VP
  | [], _ => none
  | (k, S) :: r, t => match Nat.beq k t with
    | true => some S
    | false => look r t

/-- an object's predicate -/
structure MP where
  h : World → Blk → Obj → Prop
  mono : ∀ (w w' : World) (F F' : Blk) (o : Obj), h w F o → (∀ b, F b → w'.heap[b]? = w.heap[b]?) → (∀ b, F b → F' b) → h w' F' o

abbrev Mem := List (Option Nat × MP)

/-- what was there below stays, but for the blocks W -/
structure Keep (W : List Nat) (w w' : World) : Prop where
  os : w'.os = w.os
  tape : w'.tape = w.tape
  output : w'.output = w.output
  size : w.heap.size ≤ w'.heap.size
  block : ∀ k, k < w.heap.size → k ∉ W → w'.heap[k]? = w.heap[k]?

theorem Keep.refl (W : List Nat) (w : World) : Keep W w w := ⟨rfl, rfl, rfl, Nat.le_refl _, fun _ _ _ => rfl⟩
theorem Keep.trans {W : List Nat} {a b c : World} (h : Keep W a b) (k : Keep W b c) : Keep W a c :=
  ⟨k.os.trans h.os, k.tape.trans h.tape, k.output.trans h.output, Nat.le_trans h.size k.size,
   fun i hi hw => (k.block i (Nat.lt_of_lt_of_le hi h.size) hw).trans (h.block i hi hw)⟩
theorem Keep.below {w w' : World} (h : Keep [] w w') : Below w.heap.size w w' :=
  ⟨h.os, h.tape, h.output, h.size, fun k hk => h.block k hk (by simp)⟩
theorem Keep.wide {W W' : List Nat} {w w' : World} (h : Keep W w w') (hs : ∀ b, b ∈ W → b ∈ W') : Keep W' w w' :=
  ⟨h.os, h.tape, h.output, h.size, fun k hk hn => h.block k hk (fun hb => hn (hs k hb))⟩
theorem Keep.drew (W : List Nat) (w : World) : Keep W w { w with drawn := w.drawn + 1 } := ⟨rfl, rfl, rfl, Nat.le_refl _, fun _ _ _ => rfl⟩
theorem Keep.alloc (W : List Nat) (w : World) (o : Obj) : Keep W w { w with heap := w.heap.push o } :=
  ⟨rfl, rfl, rfl, by simp, fun k hk _ => by simp [Array.getElem?_push, Nat.ne_of_lt hk]⟩

def fresh (F : Blk) (w w' : World) : Blk := fun b => F b ∨ (w.heap.size ≤ b ∧ b < w'.heap.size)

def All2 : List VP → World → Blk → List Value → Prop
  | [], _, _, [] => True
  | S :: Ss, w, F, v :: vs => S.h w F v ∧ All2 Ss w F vs
  | _, _, _, _ => False

theorem All2.mono {w w' : World} {F F' : Blk} (hb : ∀ b, F b → w'.heap[b]? = w.heap[b]?) (hf : ∀ b, F b → F' b) :
    ∀ (Ss : List VP) (vs : List Value), All2 Ss w F vs → All2 Ss w' F' vs
  | [], [], _ => trivial
  | S :: Ss, v :: vs, h => ⟨S.mono _ _ _ _ _ h.1 hb hf, All2.mono hb hf Ss vs h.2⟩
  | [], _ :: _, h => h.elim
  | _ :: _, [], h => h.elim
theorem All2.len : ∀ {Ss : List VP} {w : World} {F : Blk} {vs : List Value}, All2 Ss w F vs → Ss.length = vs.length
  | [], _, _, [], _ => rfl
  | _ :: _, _, _, _ :: _, h => congrArg (· + 1) (All2.len h.2)
  | [], _, _, _ :: _, h => h.elim
  | _ :: _, _, _, [], h => h.elim
theorem All2.get : ∀ {Ss : List VP} {w : World} {F : Blk} {vs : List Value}, All2 Ss w F vs → ∀ (i : Nat) (S : VP), Ss[i]? = some S → ∃ v, vs[i]? = some v ∧ S.h w F v
  | [], _, _, [], _, i, S, hi => by simp at hi
  | S0 :: Ss, _, _, v :: vs, h, 0, S, hi => by simp at hi; subst hi; exact ⟨v, rfl, h.1⟩
  | S0 :: Ss, _, _, v :: vs, h, i + 1, S, hi => by simpa using All2.get h.2 i S (by simpa using hi)
  | [], _, _, _ :: _, h, _, _, _ => h.elim
  | _ :: _, _, _, [], h, _, _, _ => h.elim

/-- the frame of a call's proof -/
structure Env where
  w0 : World
  F0 : Blk
  W : List Nat
  n : Nat

structure MemOK (E : Env) (M : Mem) (w : World) (F : Blk) : Prop where
  apart : M.Pairwise (fun x y => x.1 = none ∨ x.1 ≠ y.1)
  each : ∀ (b : Nat) (C : MP), (some b, C) ∈ M → (E.w0.heap.size ≤ b ∨ b ∈ E.W) ∧ b < w.heap.size ∧ ¬ F b ∧ ∃ o, w.heap[b]? = some o ∧ C.h w F o

structure Sat (E : Env) (Γ : Ctx) (M : Mem) (a : Act) (w : World) (F : Blk) : Prop where
  defers : a.defers = []
  size : a.tmps.size = E.n
  keep : Keep E.W E.w0 w
  f0 : ∀ b, E.F0 b → F b
  fnew : ∀ b, F b → E.F0 b ∨ (E.w0.heap.size ≤ b ∧ b < w.heap.size)
  flt : ∀ b, F b → b < w.heap.size
  slots : ∀ t S, look Γ t = some S → S.h w F (a.tmps.getD t undef)
  mem : MemOK E M w F

/-- steps that write nothing that was there -/
structure Adv (w : World) (F : Blk) (w' : World) (F' : Blk) : Prop where
  keep : Keep [] w w'
  sub : ∀ b, F b → F' b
  new : ∀ b, F' b → F b ∨ (w.heap.size ≤ b ∧ b < w'.heap.size)

theorem Adv.refl (w : World) (F : Blk) : Adv w F w F := ⟨Keep.refl _ _, fun _ h => h, fun _ h => .inl h⟩
theorem Adv.drew (w : World) (F : Blk) : Adv w F { w with drawn := w.drawn + 1 } F := ⟨Keep.drew _ _, fun _ h => h, fun _ h => .inl h⟩
theorem Adv.trans {w w' w'' : World} {F F' F'' : Blk} (h : Adv w F w' F') (k : Adv w' F' w'' F'') : Adv w F w'' F'' :=
  ⟨h.keep.trans k.keep, fun b hb => k.sub b (h.sub b hb), fun b hb => by
    rcases k.new b hb with h1 | h1
    · rcases h.new b h1 with h2 | h2
      · exact .inl h2
      · exact .inr ⟨h2.1, Nat.lt_of_lt_of_le h2.2 k.keep.size⟩
    · exact .inr ⟨Nat.le_trans h.keep.size h1.1, h1.2⟩⟩
theorem Adv.same {w w' : World} {F F' : Blk} (h : Adv w F w' F') (flt : ∀ b, F b → b < w.heap.size) : ∀ b, F b → w'.heap[b]? = w.heap[b]? :=
  fun b hb => h.keep.block b (flt b hb) (by simp)

theorem MemOK.adv {E : Env} {M : Mem} {w w' : World} {F F' : Blk} (h : MemOK E M w F) (ad : Adv w F w' F') (flt : ∀ b, F b → b < w.heap.size) : MemOK E M w' F' :=
  ⟨h.apart, fun b C hb => by
    obtain ⟨h1, h2, h3, o, h4, h5⟩ := h.each b C hb
    refine ⟨h1, Nat.lt_of_lt_of_le h2 ad.keep.size, fun hF => ?_, o, (ad.keep.block b h2 (by simp)).trans h4, C.mono _ _ _ _ _ h5 (ad.same flt) ad.sub⟩
    rcases ad.new b hF with h6 | h6
    · exact h3 h6
    · omega⟩

theorem Sat.adv {E : Env} {Γ : Ctx} {M : Mem} {a : Act} {w w' : World} {F F' : Blk} (s : Sat E Γ M a w F) (ad : Adv w F w' F') : Sat E Γ M a w' F' :=
  { defers := s.defers, size := s.size, keep := s.keep.trans (ad.keep.wide (by simp)), f0 := fun b h => ad.sub b (s.f0 b h),
    fnew := fun b h => by
      rcases ad.new b h with h1 | h1
      · rcases s.fnew b h1 with h2 | h2
        · exact .inl h2
        · exact .inr ⟨h2.1, Nat.lt_of_lt_of_le h2.2 ad.keep.size⟩
      · exact .inr ⟨Nat.le_trans s.keep.size h1.1, h1.2⟩
    flt := fun b h => by
      rcases ad.new b h with h1 | h1
      · exact Nat.lt_of_lt_of_le (s.flt b h1) ad.keep.size
      · exact h1.2
    slots := fun t S h => S.mono _ _ _ _ _ (s.slots t S h) (ad.same s.flt) ad.sub
    mem := s.mem.adv ad s.flt }

theorem getD_put {a : Act} {d t : Nat} {v : Value} (hd : d < a.tmps.size) : (a.put (some d) v).tmps.getD t undef = if d = t then v else a.tmps.getD t undef := by
  simp only [Act.put, Array.getD_eq_getD_getElem?, Array.getElem?_setIfInBounds]
  by_cases h : d = t
  · subst h; simp [hd]
  · simp [h]

theorem Sat.put {E : Env} {Γ : Ctx} {M : Mem} {a : Act} {w : World} {F : Blk} (s : Sat E Γ M a w F) {d : Nat} (hd : d < E.n) {v : Value} {S : VP} (hv : S.h w F v) :
    Sat E ((d, S) :: Γ) M (a.put (some d) v) w F :=
  { defers := s.defers, size := by simp [Act.put, s.size], keep := s.keep, f0 := s.f0, fnew := s.fnew, flt := s.flt, mem := s.mem,
    slots := fun t S' h => by
      rw [getD_put (by rw [s.size]; exact hd)]
      simp only [look] at h
      cases hb : Nat.beq d t with
      | true => rw [hb] at h; simp at h; subst h; rw [if_pos (Nat.eq_of_beq_eq_true hb)]; exact hv
      | false => rw [hb] at h; simp at h; rw [if_neg (Nat.ne_of_beq_eq_false hb)]; exact s.slots t S' h }

def Has (E : Env) (Γ : Ctx) (M : Mem) (x : Operand) (S : VP) : Prop := ∀ a w F, Sat E Γ M a w F → S.h w F (a.eval x)

section
variable {E : Env} {P : Program} {Γ : Ctx} {M : Mem}

theorem Has.t {t : Nat} {S : VP} (h : look Γ t = some S) : Has E Γ M (.tmp t) S := fun _ _ _ s => s.slots t S h
theorem Has.t' {t : Nat} {S S' : VP} (h : look Γ t = some S) (e : S = S') : Has E Γ M (.tmp t) S' := e ▸ Has.t h

/-- one operation: what it yields -/
def OK1 (E : Env) (P : Program) (Γ : Ctx) (M : Mem) (o : Oper) (S : VP) : Prop :=
  ∀ a w F, Sat E Γ M a w F → ∀ (K : Act → World → Prop) (Q : Exit → Act → World → Prop),
    (∀ v w' F', Adv w F w' F' → S.h w' F' v → K (a.put o.dst v) w') → o.wp P a w K Q

theorem OK1.run {o : Oper} {S : VP} (h : ∀ a w F, Sat E Γ M a w F → ∃ v, (execOp a.eval o).run P w = .ok (.value v) w ∧ S.h w F v) : OK1 E P Γ M o S := by
  intro a w F s K Q hK
  obtain ⟨v, hr, hv⟩ := h a w F s
  unfold Oper.wp
  rw [hr]
  exact hK v w F (Adv.refl _ _) hv

/-- a list of operations -/
def Ops (E : Env) (P : Program) (ops : Array Oper) (Q : Exit → Act → World → Prop) (rest : List Oper) (Γ : Ctx) (M : Mem) : Prop :=
  ∀ a w F, Sat E Γ M a w F → wpList P ops Q rest a w

def At (E : Env) (Γ : Ctx) (M : Mem) (Q : Exit → Act → World → Prop) (e : Exit) : Prop := ∀ a w F, Sat E Γ M a w F → Q e a w
def Cont (E : Env) (Γ : Ctx) (M : Mem) (K : Act → World → Prop) : Prop := ∀ a w F, Sat E Γ M a w F → K a w
def Tri (E : Env) (P : Program) (c : Code) (Γ : Ctx) (M : Mem) (Q : Exit → Act → World → Prop) : Prop := ∀ a w F, Sat E Γ M a w F → c.wp P Q a w

variable {ops : Array Oper} {Q : Exit → Act → World → Prop} {rest : List Oper}

theorem st {d : Nat} {op : Op} {ty : TypeId} {pos : String} {after : Array Edge} {S : VP}
    (h : OK1 E P Γ M ⟨some d, op, ty, pos, after, none⟩ S) (hd : Nat.blt d E.n = true) (k : Ops E P ops Q rest ((d, S) :: Γ) M) :
    Ops E P ops Q (⟨some d, op, ty, pos, after, none⟩ :: rest) Γ M := by
  intro a w F s
  refine wpList_plain rfl fun K hK => h a w F s K Q ?_
  intro v w' F' ad hv
  have hd' : d < E.n := by simpa [Nat.blt_eq] using hd
  exact hK _ _ (k _ _ _ ((s.adv ad).put hd' hv))

theorem nl (h : At E Γ M Q .normal) : Ops E P ops Q [] Γ M := fun a w F s => wpList_nil (h a w F s)

theorem Tri.region {id : Nat} {l : List Oper} (h : Ops E P l.toArray Q l Γ M) : Tri E P (.region id l.toArray false) Γ M Q :=
  fun a w F s => wp_region_lit (h a w F s)
theorem Tri.seq {x y : Code} (h : ∀ K : Act → World → Prop, (∀ Γ' M', Tri E P y Γ' M' Q → Cont E Γ' M' K) → Tri E P x Γ M (Exit.then K Q)) : Tri E P (.seq x y) Γ M Q :=
  fun a w F s => wp_seq_k fun K hK => h K (fun Γ' M' ht a w F s => hK a w (ht a w F s)) a w F s
theorem Tri.block {id : Nat} {c : Code} (h : Tri E P c Γ M (Exit.inBlock id Q)) : Tri E P (.block id c) Γ M Q := fun a w F s => wp_block (h a w F s)
theorem Tri.ret (h : At E Γ M Q .ret) : Tri E P .ret Γ M Q := fun a w F s => wp_ret (h a w F s)
theorem Tri.skip (h : At E Γ M Q .normal) : Tri E P .skip Γ M Q := fun a w F s => wp_skip (h a w F s)
theorem Tri.exit {id : Nat} (h : At E Γ M Q (.exit id)) : Tri E P (.exit id) Γ M Q := fun a w F s => wp_exit (h a w F s)

theorem At.thn {K : Act → World → Prop} (h : Cont E Γ M K) : At E Γ M (Exit.then K Q) .normal := h
theorem At.thr {K : Act → World → Prop} (h : At E Γ M Q .ret) : At E Γ M (Exit.then K Q) .ret := h
theorem At.the {K : Act → World → Prop} {id : Nat} (h : At E Γ M Q (.exit id)) : At E Γ M (Exit.then K Q) (.exit id) := h
theorem At.bln {id : Nat} (h : At E Γ M Q .normal) : At E Γ M (Exit.inBlock id Q) .normal := h
theorem At.blr {id : Nat} (h : At E Γ M Q .ret) : At E Γ M (Exit.inBlock id Q) .ret := h
theorem At.blh {id : Nat} (h : At E Γ M Q .normal) : At E Γ M (Exit.inBlock id Q) (.exit id) := fun a w F s => by simp only [Exit.inBlock, if_true]; exact h a w F s
theorem At.blm {id id' : Nat} (hne : Nat.beq id' id = false) (h : At E Γ M Q (.exit id')) : At E Γ M (Exit.inBlock id Q) (.exit id') := fun a w F s => by
  simp only [Exit.inBlock, if_neg (Nat.ne_of_beq_eq_false hne)]; exact h a w F s

/-- values that read no memory -/
def VP.pure (p : Value → Prop) : VP := ⟨fun _ _ v => p v, fun _ _ _ _ _ h _ _ => h⟩
abbrev rng (k : IntKind) (z : Int) : Prop := k.min ≤ z ∧ z ≤ k.max
def isK (k : IntKind) (z : Int) : VP := .pure fun v => v = .int k z ∧ rng k z
def isU (n : Nat) : VP := .pure fun v => v = .int .u64 (n : Int) ∧ n < 2 ^ 64
def isI (z : Int) : VP := .pure fun v => v = .int .i64 z ∧ -2 ^ 63 ≤ z ∧ z < 2 ^ 63
def isB (b : Bool) : VP := .pure fun v => v = .bool b
def isUndef : VP := .pure fun v => v = undef
/-- under a guard -/
def G (g : Bool) (S : VP) : VP := ⟨fun w F v => if g = true then S.h w F v else v = undef, fun w w' F F' v h h1 h2 => by
  by_cases hg : g = true
  · rw [if_pos hg] at *; exact S.mono _ _ _ _ _ h h1 h2
  · rw [if_neg hg] at *; exact h⟩
theorem Has.g {t : Nat} {S : VP} {g : Bool} (h : look Γ t = some (G g S)) (hg : g = true) : Has E Γ M (.tmp t) S := fun a w F s => by
  have h1 := s.slots t _ h
  have h2 : (G g S).h w F (a.tmps.getD t undef) = S.h w F (a.tmps.getD t undef) := by show (if g = true then _ else _) = _; rw [if_pos hg]
  exact h2 ▸ h1

theorem Has.cU (n : Nat) (h : Nat.blt n 18446744073709551616 = true) : Has E Γ M (.const (.int .u64 (n : Int))) (isU n) := fun _ _ _ _ => ⟨rfl, by simpa [Nat.blt_eq] using h⟩
theorem Has.cI (z : Int) (h : decide (-2 ^ 63 ≤ z ∧ z < 2 ^ 63) = true) : Has E Γ M (.const (.int .i64 z)) (isI z) := fun _ _ _ _ => ⟨rfl, of_decide_eq_true h⟩
theorem Has.cK (k : IntKind) (z : Int) (h : decide (k.min ≤ z ∧ z ≤ k.max) = true) : Has E Γ M (.const (.int k z)) (isK k z) := fun _ _ _ _ => ⟨rfl, of_decide_eq_true h⟩
theorem Has.cB (b : Bool) : Has E Γ M (.const (.bool b)) (isB b) := fun _ _ _ _ => rfl

theorem Tri.cond {c : Operand} {x y : Code} {b : Bool} (hc : Has E Γ M c (isB b)) (h1 : b = true → Tri E P x Γ M Q) (h2 : b = false → Tri E P y Γ M Q) : Tri E P (.cond c x y) Γ M Q :=
  fun a w F s => wp_cond_split (hc a w F s) (fun hb => h1 hb a w F s) (fun hb => h2 hb a w F s)
/-- facts about what a slot holds, brought into the context -/
theorem Tri.fact {c : Code} {p : Prop} (hp : ∀ a w F, Sat E Γ M a w F → p) (h : p → Tri E P c Γ M Q) : Tri E P c Γ M Q := fun a w F s => h (hp a w F s) a w F s
theorem Ops.fact {p : Prop} (hp : ∀ a w F, Sat E Γ M a w F → p) (h : p → Ops E P ops Q rest Γ M) : Ops E P ops Q rest Γ M := fun a w F s => h (hp a w F s) a w F s
theorem Has.ltU {x : Operand} {n : Nat} (h : Has E Γ M x (isU n)) : ∀ a w F, Sat E Γ M a w F → n < 18446744073709551616 := fun a w F s => (h a w F s).2
theorem Has.rngI {x : Operand} {z : Int} (h : Has E Γ M x (isI z)) : ∀ a w F, Sat E Γ M a w F → -9223372036854775808 ≤ z ∧ z < 9223372036854775808 := fun a w F s => (h a w F s).2

theorem Has.rngK {x : Operand} {k : IntKind} {z : Int} (h : Has E Γ M x (isK k z)) : ∀ a w F, Sat E Γ M a w F → k.min ≤ z ∧ z ≤ k.max := fun a w F s => (h a w F s).2

/-- what a test says -/
class BP (b : Bool) (T F : outParam Prop) : Prop where
  t : b = true → T
  f : b = false → F
instance (priority := 50) {b : Bool} : BP b (b = true) (b = false) := ⟨id, id⟩
instance (priority := 100) {p : Prop} {i : Decidable p} : BP (@decide p i) p (¬ p) := ⟨of_decide_eq_true, of_decide_eq_false⟩
instance {m n : Nat} {i : Decidable (m < n)} : BP (@decide (m < n) i) (m < n) (n ≤ m) := ⟨of_decide_eq_true, fun h => Nat.le_of_not_lt (of_decide_eq_false h)⟩
instance {m n : Nat} {i : Decidable (m ≤ n)} : BP (@decide (m ≤ n) i) (m ≤ n) (n < m) := ⟨of_decide_eq_true, fun h => Nat.lt_of_not_le (of_decide_eq_false h)⟩
instance {m n : Int} {i : Decidable (m < n)} : BP (@decide (m < n) i) (m < n) (n ≤ m) := ⟨of_decide_eq_true, fun h => Int.not_lt.1 (of_decide_eq_false h)⟩
instance {m n : Int} {i : Decidable (m ≤ n)} : BP (@decide (m ≤ n) i) (m ≤ n) (n < m) := ⟨of_decide_eq_true, fun h => Int.not_le.1 (of_decide_eq_false h)⟩
instance {b : Bool} {T F : Prop} [h : BP b T F] : BP (!b) F T := ⟨fun e => h.f (by cases b <;> simp_all), fun e => h.t (by cases b <;> simp_all)⟩
instance {b c : Bool} {T F T' F' : Prop} [h : BP b T F] [k : BP c T' F'] : BP (b && c) (T ∧ T') (F ∨ F') :=
  ⟨fun e => by rw [Bool.and_eq_true] at e; exact ⟨h.t e.1, k.t e.2⟩, fun e => by rw [Bool.and_eq_false_iff] at e; exact e.imp h.f k.f⟩
instance {b c : Bool} {T F T' F' : Prop} [h : BP b T F] [k : BP c T' F'] : BP (b || c) (T ∨ T') (F ∧ F') :=
  ⟨fun e => by rw [Bool.or_eq_true] at e; exact e.imp h.t k.t, fun e => by rw [Bool.or_eq_false_iff] at e; exact ⟨h.f e.1, k.f e.2⟩⟩
instance (priority := 2000) {b : Bool} {T F : Prop} [h : BP b T F] : BP (true && b) T F := ⟨fun e => h.t (by simpa using e), fun e => h.f (by simpa using e)⟩
instance (priority := 2000) {b : Bool} {T F : Prop} [h : BP b T F] : BP (false || b) T F := ⟨fun e => h.t (by simpa using e), fun e => h.f (by simpa using e)⟩
instance (priority := 2000) {b : Bool} {T F : Prop} [h : BP b T F] : BP ((!true) || b) T F := ⟨fun e => h.t (by simpa using e), fun e => h.f (by simpa using e)⟩

/-- changes of the assertion with no step -/
def Cv (E : Env) (Γ : Ctx) (M : Mem) (Γ' : Ctx) (M' : Mem) : Prop := ∀ a w F, Sat E Γ M a w F → ∃ F', Sat E Γ' M' a w F'
theorem Tri.cv {c : Code} {Γ' : Ctx} {M' : Mem} (h : Cv E Γ M Γ' M') (k : Tri E P c Γ' M' Q) : Tri E P c Γ M Q := fun a w F s => let ⟨F', s'⟩ := h a w F s; k a w F' s'
theorem Ops.cv {Γ' : Ctx} {M' : Mem} (h : Cv E Γ M Γ' M') (k : Ops E P ops Q rest Γ' M') : Ops E P ops Q rest Γ M := fun a w F s => let ⟨F', s'⟩ := h a w F s; k a w F' s'
theorem At.cv {Γ' : Ctx} {M' : Mem} {e : Exit} (h : Cv E Γ M Γ' M') (k : At E Γ' M' Q e) : At E Γ M Q e := fun a w F s => let ⟨F', s'⟩ := h a w F s; k a w F' s'

inductive Wk (E : Env) (Γ : Ctx) (M : Mem) : Ctx → Prop
  | nil : Wk E Γ M []
  | cons {t : Nat} {S : VP} {r : Ctx} : Has E Γ M (.tmp t) S → Wk E Γ M r → Wk E Γ M ((t, S) :: r)
theorem Wk.has {Γ' : Ctx} (h : Wk E Γ M Γ') : ∀ t S, look Γ' t = some S → Has E Γ M (.tmp t) S := by
  induction h with
  | nil => intro t S h; simp [look] at h
  | @cons t0 S0 r h0 _ ih =>
    intro t S h
    simp only [look] at h
    cases hb : Nat.beq t0 t with
    | true => rw [hb] at h; simp at h; subst h; rw [← Nat.eq_of_beq_eq_true hb]; exact h0
    | false => rw [hb] at h; exact ih t S h
theorem Cv.wk {Γ' : Ctx} (h : Wk E Γ M Γ') : Cv E Γ M Γ' M := fun a w F s =>
  ⟨F, { defers := s.defers, size := s.size, keep := s.keep, f0 := s.f0, fnew := s.fnew, flt := s.flt, mem := s.mem, slots := fun t S ht => h.has t S ht a w F s }⟩
/-- memory of the call's own that is no more needed -/
theorem Cv.drop {M' : Mem} (h : M'.Sublist M) : Cv E Γ M Γ M' := fun a w F s =>
  ⟨F, { defers := s.defers, size := s.size, keep := s.keep, f0 := s.f0, fnew := s.fnew, flt := s.flt, slots := s.slots,
        mem := ⟨s.mem.apart.sublist h, fun b C hb => s.mem.each b C (h.subset hb)⟩ }⟩
theorem Cv.trans {Γ' Γ'' : Ctx} {M' M'' : Mem} (h : Cv E Γ M Γ' M') (k : Cv E Γ' M' Γ'' M'') : Cv E Γ M Γ'' M'' := fun a w F s =>
  let ⟨F', s'⟩ := h a w F s; k a w F' s'
theorem Cv.refl : Cv E Γ M Γ M := fun _ _ F s => ⟨F, s⟩

theorem Tri.loop {τ : Type} {c : Code} (I : τ → Ctx) (J : τ → Mem) (μ : τ → Nat) (x0 : τ) (h0 : Cv E Γ M (I x0) (J x0))
    (round : ∀ x, ∀ K : Act → World → Prop, (∀ y Γ' M', μ y < μ x → Cv E Γ' M' (I y) (J y) → Cont E Γ' M' K) → Tri E P c (I x) (J x) (Exit.then K Q)) : Tri E P (.loop c) Γ M Q := by
  intro a w F s
  obtain ⟨F', s'⟩ := h0 a w F s
  refine wp_loop_ghost (fun n a w => ∃ x F, μ x = n ∧ Sat E (I x) (J x) a w F) (μ x0) ⟨x0, F', rfl, s'⟩ ?_
  rintro n a w ⟨x, F, rfl, s⟩
  refine round x _ ?_ a w F s
  intro y Γ' M' hlt hcv a w F s
  obtain ⟨F', s'⟩ := hcv a w F s
  exact ⟨μ y, hlt, y, F', rfl, s'⟩

/-- two statements, an assertion between them -/
theorem Tri.cut {τ : Type} {x y : Code} (I : τ → Ctx) (J : τ → Mem)
    (h1 : ∀ K : Act → World → Prop, (∀ y Γ' M', Cv E Γ' M' (I y) (J y) → Cont E Γ' M' K) → Tri E P x Γ M (Exit.then K Q))
    (h2 : ∀ z, Tri E P y (I z) (J z) Q) : Tri E P (.seq x y) Γ M Q := by
  intro a w F s
  refine wp_seq_k fun K hK => h1 K ?_ a w F s
  intro z Γ' M' hcv a w F s
  obtain ⟨F', s'⟩ := hcv a w F s
  exact hK a w (h2 z a w F' s')

/-- the slots ts as they stand -/
def keepc : List Nat → Ctx → Ctx
  | [], _ => []
  | t :: ts, Γ => match look Γ t with
    | some S => (t, S) :: keepc ts Γ
    | none => keepc ts Γ
/-- other contents of a block -/
def setAt (M : Mem) (i : Nat) (C : MP) : Mem := match M, i with
  | [], _ => []
  | (k, _) :: r, 0 => (k, C) :: r
  | x :: r, i + 1 => x :: setAt r i C
def setAtK (M : Mem) (i : Nat) (k : Option Nat) (C : MP) : Mem := M.set i (k, C)
/-- a loop; the slots ts hold the same all the time -/
theorem Tri.loopF {τ : Type} {c : Code} (ts : List Nat) (I : τ → Ctx) (J : Mem → τ → Mem) (μ : τ → Nat) (x0 : τ) (h0 : Cv E Γ M (I x0 ++ keepc ts Γ) (J M x0))
    (round : ∀ x, ∀ K : Act → World → Prop, (∀ y Γ' M', μ y < μ x → Cv E Γ' M' (I y ++ keepc ts Γ) (J M y) → Cont E Γ' M' K) → Tri E P c (I x ++ keepc ts Γ) (J M x) (Exit.then K Q)) : Tri E P (.loop c) Γ M Q :=
  Tri.loop (fun x => I x ++ keepc ts Γ) (J M) μ x0 h0 round
theorem Tri.cutF {τ : Type} {x y : Code} (ts : List Nat) (I : τ → Ctx) (J : Mem → τ → Mem)
    (h1 : ∀ K : Act → World → Prop, (∀ z Γ' M', Cv E Γ' M' (I z ++ keepc ts Γ) (J M z) → Cont E Γ' M' K) → Tri E P x Γ M (Exit.then K Q))
    (h2 : ∀ z, Tri E P y (I z ++ keepc ts Γ) (J M z) Q) : Tri E P (.seq x y) Γ M Q := Tri.cut _ _ h1 h2

/-- contracts -/
def Ret (w : World) (F : Blk) (R : VP) : Ending → World → Prop := fun e w' => ∃ v, e = .returned v ∧ Keep [] w w' ∧ R.h w' (fresh F w w') v
def Enters (P : Program) (f : FuncId) : Prop := ∃ fn, P.funcs[f]? = some fn ∧ fn.body.isSome = true ∧ (fn.name == "runtime.NumGoroutine") = false
def Ctr (P : Program) (f : FuncId) (Ss : List VP) (R : VP) : Prop :=
  Enters P f ∧ ∀ (w : World) (F : Blk) (vs : List Value), (∀ b, F b → b < w.heap.size) → All2 Ss w F vs → Calls P f vs.toArray w (Ret w F R)

def argsCtx : Nat → List VP → Ctx
  | _, [] => []
  | i, S :: Ss => (i, S) :: argsCtx (i + 1) Ss

theorem look_args : ∀ (Ss : List VP) (i t : Nat) (S : VP), look (argsCtx i Ss) t = some S → i ≤ t ∧ Ss[t - i]? = some S
  | [], i, t, S, h => by simp [argsCtx, look] at h
  | S0 :: Ss, i, t, S, h => by
    simp only [argsCtx, look] at h
    cases hb : Nat.beq i t with
    | true => rw [hb] at h; have := Nat.eq_of_beq_eq_true hb; subst this; simpa using h
    | false =>
      rw [hb] at h
      have hne := Nat.ne_of_beq_eq_false hb
      obtain ⟨h1, h2⟩ := look_args Ss (i + 1) t S h
      refine ⟨by omega, ?_⟩
      rw [show t - i = (t - (i + 1)) + 1 by omega]
      simpa using h2

theorem Ctr.intro {f : FuncId} {fn : Func} {c : Code} {Ss : List VP} {R : VP} (hf : P.funcs[f]? = some fn) (hb : fn.body = some c) (hn : (fn.name == "runtime.NumGoroutine") = false) {nt : Nat} (hnt : fn.ntmps = nt)
    (hsz : Nat.ble Ss.length nt = true)
    (h : ∀ w F, Tri ⟨w, F, [], nt⟩ P c (argsCtx 0 Ss) [] (bodyPost P fn (Ret w F R))) : Ctr P f Ss R := by
  subst hnt
  refine ⟨⟨fn, hf, by simp [hb], hn⟩, fun w F vs hF hargs => ?_⟩
  have hlen := hargs.len
  have hsz' : Ss.length ≤ fn.ntmps := by simpa using Nat.le_of_ble_eq_true hsz
  refine calls_of_wp hf hb (h w F _ w F ?_)
  refine { defers := rfl, size := ?_, keep := Keep.refl _ _, f0 := fun _ h => h, fnew := fun _ h => .inl h, flt := hF, slots := ?_, mem := ⟨List.Pairwise.nil, by simp⟩ }
  · simp; omega
  · intro t S ht
    obtain ⟨_, h2⟩ := look_args Ss 0 t S ht
    obtain ⟨v, hv, hS⟩ := hargs.get t S (by simpa using h2)
    have : (vs.toArray ++ Array.replicate (fn.ntmps - vs.toArray.size) undef).getD t undef = v := by
      have hlt : t < vs.length := by
        rcases Nat.lt_or_ge t vs.length with h | h
        · exact h
        · simp [List.getElem?_eq_none h] at hv
      have e : vs[t] = v := by rw [List.getElem?_eq_getElem hlt] at hv; exact Option.some.inj hv
      simp [Array.getElem?_append, hlt, e]
    rw [this]; exact hS

/-- the end of a function -/
theorem ret1 {fn : Func} {R S : VP} {e : Exit} {t : Nat} (he : e = .ret ∨ e = .normal) (hr : fn.results = #[.tmp t]) (hw : E.W = []) (h : Has E Γ M (.tmp t) R) :
    At E Γ M (bodyPost P fn (Ret E.w0 E.F0 R)) e := by
  intro a w F s
  have hv := h a w F s
  have hk := s.keep
  rw [hw] at hk
  have hb : a.defers = [] ∧ ∃ v, (results fn a.tmps).run P w = .ok v w ∧ Ret E.w0 E.F0 R (.returned v) w :=
    ⟨s.defers, _, results_tmp hr _ _ _, _, rfl, hk, R.mono _ _ _ _ _ hv (fun _ _ => rfl) (fun b hb => by
      rcases s.fnew b hb with h1 | h1
      · exact .inl h1
      · exact .inr h1)⟩
  rcases he with rfl | rfl <;> exact hb

end
end Go.En
