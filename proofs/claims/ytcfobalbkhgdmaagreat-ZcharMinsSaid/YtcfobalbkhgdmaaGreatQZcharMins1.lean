/- Rules and contracts, part 1 of 6. -/
import Derived.WalkKit
import Derived.Deep.LoopGhost
import Derived.Orders
import Derived.KernelRfl
import Derived.ProofKit
import Derived.OpenShut
import Derived.ChangeOld
import Derived.Carry
import Derived.Laws.CopyRow
import Derived.Laws.MathBits
import Derived.ChangeSlices
import Derived.Test.YtcfobalbkhgdmaaGreatProg
namespace Go.En
open Go.RowKit
abbrev Blk := Nat → Prop
structure VP where
 h : World → Blk → Value → Prop
 mono : ∀ (w w' : World) (F F' : Blk) (v : Value), h w F v → (∀ b, F b → w'.heap[b]? = w.heap[b]?) → (∀ b, F b → F' b) → h w' F' v
abbrev Ctx := List (Nat × VP)
def look : Ctx → Nat → Option VP
  | [], _ => none
  | (k, S) :: r, t => match Nat.beq k t with
    | true => some S
    | false => look r t
structure MP where
 h : World → Blk → Obj → Prop
 mono : ∀ (w w' : World) (F F' : Blk) (o : Obj), h w F o → (∀ b, F b → w'.heap[b]? = w.heap[b]?) → (∀ b, F b → F' b) → h w' F' o
abbrev Mem := List (Option Nat × MP)
structure Keep (W : List Nat) (w w' : World) : Prop where
 os : w'.os = w.os
 tape : w'.tape = w.tape
 output : w'.output = w.output
 size : w.heap.size ≤ w'.heap.size
 block : ∀ k, k < w.heap.size → k ∉ W → w'.heap[k]? = w.heap[k]?
theorem Keep.refl (W : List Nat) (w : World) : Keep W w w := ⟨rfl, rfl, rfl, Nat.le_refl _, fun _ _ _ => rfl⟩
theorem Keep.trans {W : List Nat} {a b c : World} (h : Keep W a b) (k : Keep W b c) : Keep W a c :=
 ⟨k.os.trans h.os, k.tape.trans h.tape, k.output.trans h.output, Nat.le_trans h.size k.size,
 fun i hi hw => (k.block i (Nat.lt_of_lt_of_le hi h.size) hw).trans (h.block i hi hw)⟩
theorem Keep.below {w w' : World} (h : Keep [] w w') : Below w.heap.size w w' :=
 ⟨h.os, h.tape, h.output, h.size, fun k hk => h.block k hk (by simp)⟩
theorem Keep.wide {W W' : List Nat} {w w' : World} (h : Keep W w w') (hs : ∀ b, b ∈ W → b ∈ W') : Keep W' w w' :=
 ⟨h.os, h.tape, h.output, h.size, fun k hk hn => h.block k hk (fun hb => hn (hs k hb))⟩
theorem Keep.drew (W : List Nat) (w : World) : Keep W w { w with drawn := w.drawn + 1 } := ⟨rfl, rfl, rfl, Nat.le_refl _, fun _ _ _ => rfl⟩
theorem Keep.alloc (W : List Nat) (w : World) (o : Obj) : Keep W w { w with heap := w.heap.push o } :=
 ⟨rfl, rfl, rfl, by simp, fun k hk _ => by simp [Array.getElem?_push, Nat.ne_of_lt hk]⟩
def fresh (F : Blk) (w w' : World) : Blk := fun b => F b ∨ (w.heap.size ≤ b ∧ b < w'.heap.size)
def All2 : List VP → World → Blk → List Value → Prop
 | [], _, _, [] => True
 | S :: Ss, w, F, v :: vs => S.h w F v ∧ All2 Ss w F vs
 | _, _, _, _ => False
theorem All2.mono {w w' : World} {F F' : Blk} (hb : ∀ b, F b → w'.heap[b]? = w.heap[b]?) (hf : ∀ b, F b → F' b) :
  ∀ (Ss : List VP) (vs : List Value), All2 Ss w F vs → All2 Ss w' F' vs
 | [], [], _ => trivial
 | S :: Ss, v :: vs, h => ⟨S.mono _ _ _ _ _ h.1 hb hf, All2.mono hb hf Ss vs h.2⟩
 | [], _ :: _, h => h.elim
 | _ :: _, [], h => h.elim
theorem All2.len : ∀ {Ss : List VP} {w : World} {F : Blk} {vs : List Value}, All2 Ss w F vs → Ss.length = vs.length
 | [], _, _, [], _ => rfl
 | _ :: _, _, _, _ :: _, h => congrArg (· + 1) (All2.len h.2)
 | [], _, _, _ :: _, h => h.elim
 | _ :: _, _, _, [], h => h.elim
theorem All2.get : ∀ {Ss : List VP} {w : World} {F : Blk} {vs : List Value}, All2 Ss w F vs → ∀ (i : Nat) (S : VP), Ss[i]? = some S → ∃ v, vs[i]? = some v ∧ S.h w F v
 | [], _, _, [], _, i, S, hi => by simp at hi
 | S0 :: Ss, _, _, v :: vs, h, 0, S, hi => by simp at hi; subst hi; exact ⟨v, rfl, h.1⟩
 | S0 :: Ss, _, _, v :: vs, h, i + 1, S, hi => by simpa using All2.get h.2 i S (by simpa using hi)
 | [], _, _, _ :: _, h, _, _, _ => h.elim
 | _ :: _, _, _, [], h, _, _, _ => h.elim
structure Env where
 w0 : World
 F0 : Blk
 W : List Nat
 n : Nat
structure MemOK (E : Env) (M : Mem) (w : World) (F : Blk) : Prop where
 apart : M.Pairwise (fun x y => x.1 = none ∨ x.1 ≠ y.1)
 each : ∀ (b : Nat) (C : MP), (some b, C) ∈ M → (E.w0.heap.size ≤ b ∨ b ∈ E.W) ∧ b < w.heap.size ∧ ¬ F b ∧ ∃ o, w.heap[b]? = some o ∧ C.h w F o
structure Sat (E : Env) (Γ : Ctx) (M : Mem) (a : Act) (w : World) (F : Blk) : Prop where
 defers : a.defers = []
 size : a.tmps.size = E.n
 keep : Keep E.W E.w0 w
 f0 : ∀ b, E.F0 b → F b
 fnew : ∀ b, F b → E.F0 b ∨ (E.w0.heap.size ≤ b ∧ b < w.heap.size)
 flt : ∀ b, F b → b < w.heap.size
 slots : ∀ t S, look Γ t = some S → S.h w F (a.tmps.getD t undef)
 mem : MemOK E M w F
structure Adv (w : World) (F : Blk) (w' : World) (F' : Blk) : Prop where
 keep : Keep [] w w'
 sub : ∀ b, F b → F' b
 new : ∀ b, F' b → F b ∨ (w.heap.size ≤ b ∧ b < w'.heap.size)
theorem Adv.refl (w : World) (F : Blk) : Adv w F w F := ⟨Keep.refl _ _, fun _ h => h, fun _ h => .inl h⟩
theorem Adv.drew (w : World) (F : Blk) : Adv w F { w with drawn := w.drawn + 1 } F := ⟨Keep.drew _ _, fun _ h => h, fun _ h => .inl h⟩
theorem Adv.trans {w w' w'' : World} {F F' F'' : Blk} (h : Adv w F w' F') (k : Adv w' F' w'' F'') : Adv w F w'' F'' :=
 ⟨h.keep.trans k.keep, fun b hb => k.sub b (h.sub b hb), fun b hb => by
  rcases k.new b hb with h1 | h1
  ·rcases h.new b h1 with h2 | h2
   ·exact .inl h2
   ·exact .inr ⟨h2.1, Nat.lt_of_lt_of_le h2.2 k.keep.size⟩
  ·exact .inr ⟨Nat.le_trans h.keep.size h1.1, h1.2⟩⟩
theorem Adv.same {w w' : World} {F F' : Blk} (h : Adv w F w' F') (flt : ∀ b, F b → b < w.heap.size) : ∀ b, F b → w'.heap[b]? = w.heap[b]? :=
 fun b hb => h.keep.block b (flt b hb) (by simp)
theorem MemOK.adv {E : Env} {M : Mem} {w w' : World} {F F' : Blk} (h : MemOK E M w F) (ad : Adv w F w' F') (flt : ∀ b, F b → b < w.heap.size) : MemOK E M w' F' :=
 ⟨h.apart, fun b C hb => by
  obtain ⟨h1, h2, h3, o, h4, h5⟩ := h.each b C hb
  refine ⟨h1, Nat.lt_of_lt_of_le h2 ad.keep.size, fun hF => ?_, o, (ad.keep.block b h2 (by simp)).trans h4, C.mono _ _ _ _ _ h5 (ad.same flt) ad.sub⟩
  rcases ad.new b hF with h6 | h6
  ·exact h3 h6
  ·omega⟩
theorem Sat.adv {E : Env} {Γ : Ctx} {M : Mem} {a : Act} {w w' : World} {F F' : Blk} (s : Sat E Γ M a w F) (ad : Adv w F w' F') : Sat E Γ M a w' F' :=
 {defers := s.defers, size := s.size, keep := s.keep.trans (ad.keep.wide (by simp)), f0 := fun b h => ad.sub b (s.f0 b h),
  fnew := fun b h => by
   rcases ad.new b h with h1 | h1
   ·rcases s.fnew b h1 with h2 | h2
    ·exact .inl h2
    ·exact .inr ⟨h2.1, Nat.lt_of_lt_of_le h2.2 ad.keep.size⟩
   ·exact .inr ⟨Nat.le_trans s.keep.size h1.1, h1.2⟩
  flt := fun b h => by
   rcases ad.new b h with h1 | h1
   ·exact Nat.lt_of_lt_of_le (s.flt b h1) ad.keep.size
   ·exact h1.2
  slots := fun t S h => S.mono _ _ _ _ _ (s.slots t S h) (ad.same s.flt) ad.sub
  mem := s.mem.adv ad s.flt }
theorem getD_put {a : Act} {d t : Nat} {v : Value} (hd : d < a.tmps.size) : (a.put (some d) v).tmps.getD t undef = if d = t then v else a.tmps.getD t undef := by
 simp only [Act.put, Array.getD_eq_getD_getElem?, Array.getElem?_setIfInBounds]
 by_cases h : d = t
 ·subst h; simp [hd]
 ·simp [h]
theorem Sat.put {E : Env} {Γ : Ctx} {M : Mem} {a : Act} {w : World} {F : Blk} (s : Sat E Γ M a w F) {d : Nat} (hd : d < E.n) {v : Value} {S : VP} (hv : S.h w F v) :
  Sat E ((d, S) :: Γ) M (a.put (some d) v) w F :=
 {defers := s.defers, size := by simp [Act.put, s.size], keep := s.keep, f0 := s.f0, fnew := s.fnew, flt := s.flt, mem := s.mem,
  slots := fun t S' h => by
   rw [getD_put (by rw [s.size]; exact hd)]
   simp only [look] at h
   cases hb : Nat.beq d t with
   | true => rw [hb] at h; simp at h; subst h; rw [if_pos (Nat.eq_of_beq_eq_true hb)]; exact hv
   | false => rw [hb] at h; simp at h; rw [if_neg (Nat.ne_of_beq_eq_false hb)]; exact s.slots t S' h }
def Has (E : Env) (Γ : Ctx) (M : Mem) (x : Operand) (S : VP) : Prop := ∀ a w F, Sat E Γ M a w F → S.h w F (a.eval x)
section
variable {E : Env} {P : Program} {Γ : Ctx} {M : Mem}
theorem Has.t {t : Nat} {S : VP} (h : look Γ t = some S) : Has E Γ M (.tmp t) S := fun _ _ _ s => s.slots t S h
theorem Has.t' {t : Nat} {S S' : VP} (h : look Γ t = some S) (e : S = S') : Has E Γ M (.tmp t) S' := e ▸ Has.t h
def OK1 (E : Env) (P : Program) (Γ : Ctx) (M : Mem) (o : Oper) (S : VP) : Prop :=
  ∀ a w F, Sat E Γ M a w F → ∀ (K : Act → World → Prop) (Q : Exit → Act → World → Prop),
    (∀ v w' F', Adv w F w' F' → S.h w' F' v → K (a.put o.dst v) w') → o.wp P a w K Q
theorem OK1.run {o : Oper} {S : VP} (h : ∀ a w F, Sat E Γ M a w F → ∃ v, (execOp a.eval o).run P w = .ok (.value v) w ∧ S.h w F v) : OK1 E P Γ M o S := by
 intro a w F s K Q hK
 obtain ⟨v, hr, hv⟩ := h a w F s
 unfold Oper.wp
 rw [hr]
 exact hK v w F (Adv.refl _ _) hv
def Ops (E : Env) (P : Program) (ops : Array Oper) (Q : Exit → Act → World → Prop) (rest : List Oper) (Γ : Ctx) (M : Mem) : Prop :=
 ∀ a w F, Sat E Γ M a w F → wpList P ops Q rest a w
def At (E : Env) (Γ : Ctx) (M : Mem) (Q : Exit → Act → World → Prop) (e : Exit) : Prop := ∀ a w F, Sat E Γ M a w F → Q e a w
def Cont (E : Env) (Γ : Ctx) (M : Mem) (K : Act → World → Prop) : Prop := ∀ a w F, Sat E Γ M a w F → K a w
def Tri (E : Env) (P : Program) (c : Code) (Γ : Ctx) (M : Mem) (Q : Exit → Act → World → Prop) : Prop := ∀ a w F, Sat E Γ M a w F → c.wp P Q a w
variable {ops : Array Oper} {Q : Exit → Act → World → Prop} {rest : List Oper}
theorem st {d : Nat} {op : Op} {ty : TypeId} {pos : String} {after : Array Edge} {S : VP}
  (h : OK1 E P Γ M ⟨some d, op, ty, pos, after, none⟩ S) (hd : Nat.blt d E.n = true) (k : Ops E P ops Q rest ((d, S) :: Γ) M) :
  Ops E P ops Q (⟨some d, op, ty, pos, after, none⟩ :: rest) Γ M := by
 intro a w F s
 refine wpList_plain rfl fun K hK => h a w F s K Q ?_
 intro v w' F' ad hv
 have hd' : d < E.n := by simpa [Nat.blt_eq] using hd
 exact hK _ _ (k _ _ _ ((s.adv ad).put hd' hv))
theorem nl (h : At E Γ M Q .normal) : Ops E P ops Q [] Γ M := fun a w F s => wpList_nil (h a w F s)
theorem Tri.region {id : Nat} {l : List Oper} (h : Ops E P l.toArray Q l Γ M) : Tri E P (.region id l.toArray false) Γ M Q :=
 fun a w F s => wp_region_lit (h a w F s)
theorem Tri.seq {x y : Code} (h : ∀ K : Act → World → Prop, (∀ Γ' M', Tri E P y Γ' M' Q → Cont E Γ' M' K) → Tri E P x Γ M (Exit.then K Q)) : Tri E P (.seq x y) Γ M Q :=
 fun a w F s => wp_seq_k fun K hK => h K (fun Γ' M' ht a w F s => hK a w (ht a w F s)) a w F s
theorem Tri.block {id : Nat} {c : Code} (h : Tri E P c Γ M (Exit.inBlock id Q)) : Tri E P (.block id c) Γ M Q := fun a w F s => wp_block (h a w F s)
theorem Tri.ret (h : At E Γ M Q .ret) : Tri E P .ret Γ M Q := fun a w F s => wp_ret (h a w F s)
theorem Tri.skip (h : At E Γ M Q .normal) : Tri E P .skip Γ M Q := fun a w F s => wp_skip (h a w F s)
theorem Tri.exit {id : Nat} (h : At E Γ M Q (.exit id)) : Tri E P (.exit id) Γ M Q := fun a w F s => wp_exit (h a w F s)
theorem At.thn {K : Act → World → Prop} (h : Cont E Γ M K) : At E Γ M (Exit.then K Q) .normal := h
theorem At.thr {K : Act → World → Prop} (h : At E Γ M Q .ret) : At E Γ M (Exit.then K Q) .ret := h
theorem At.the {K : Act → World → Prop} {id : Nat} (h : At E Γ M Q (.exit id)) : At E Γ M (Exit.then K Q) (.exit id) := h
theorem At.bln {id : Nat} (h : At E Γ M Q .normal) : At E Γ M (Exit.inBlock id Q) .normal := h
theorem At.blr {id : Nat} (h : At E Γ M Q .ret) : At E Γ M (Exit.inBlock id Q) .ret := h
theorem At.blh {id : Nat} (h : At E Γ M Q .normal) : At E Γ M (Exit.inBlock id Q) (.exit id) := fun a w F s => by simp only [Exit.inBlock, if_true]; exact h a w F s
theorem At.blm {id id' : Nat} (hne : Nat.beq id' id = false) (h : At E Γ M Q (.exit id')) : At E Γ M (Exit.inBlock id Q) (.exit id') := fun a w F s => by
 simp only [Exit.inBlock, if_neg (Nat.ne_of_beq_eq_false hne)]; exact h a w F s
def VP.pure (p : Value → Prop) : VP := ⟨fun _ _ v => p v, fun _ _ _ _ _ h _ _ => h⟩
abbrev rng (k : IntKind) (z : Int) : Prop := k.min ≤ z ∧ z ≤ k.max
def isK (k : IntKind) (z : Int) : VP := .pure fun v => v = .int k z ∧ rng k z
def isU (n : Nat) : VP := .pure fun v => v = .int .u64 (n : Int) ∧ n < 2 ^ 64
def isI (z : Int) : VP := .pure fun v => v = .int .i64 z ∧ -2 ^ 63 ≤ z ∧ z < 2 ^ 63
def isB (b : Bool) : VP := .pure fun v => v = .bool b
def G (g : Bool) (S : VP) : VP := ⟨fun w F v => if g = true then S.h w F v else v = undef, fun w w' F F' v h h1 h2 => by
 by_cases hg : g = true
 ·rw [if_pos hg] at *; exact S.mono _ _ _ _ _ h h1 h2
 ·rw [if_neg hg] at *; exact h⟩
theorem Has.g {t : Nat} {S : VP} {g : Bool} (h : look Γ t = some (G g S)) (hg : g = true) : Has E Γ M (.tmp t) S := fun a w F s => by
 have h1 := s.slots t _ h
 have h2 : (G g S).h w F (a.tmps.getD t undef) = S.h w F (a.tmps.getD t undef) := by show (if g = true then _ else _) = _; rw [if_pos hg]
 exact h2 ▸ h1
theorem Has.cU (n : Nat) (h : Nat.blt n 18446744073709551616 = true) : Has E Γ M (.const (.int .u64 (n : Int))) (isU n) := fun _ _ _ _ => ⟨rfl, by simpa [Nat.blt_eq] using h⟩
theorem Has.cI (z : Int) (h : decide (-2 ^ 63 ≤ z ∧ z < 2 ^ 63) = true) : Has E Γ M (.const (.int .i64 z)) (isI z) := fun _ _ _ _ => ⟨rfl, of_decide_eq_true h⟩
theorem Has.cK (k : IntKind) (z : Int) (h : decide (k.min ≤ z ∧ z ≤ k.max) = true) : Has E Γ M (.const (.int k z)) (isK k z) := fun _ _ _ _ => ⟨rfl, of_decide_eq_true h⟩
theorem Has.cB (b : Bool) : Has E Γ M (.const (.bool b)) (isB b) := fun _ _ _ _ => rfl
theorem Tri.cond {c : Operand} {x y : Code} {b : Bool} (hc : Has E Γ M c (isB b)) (h1 : b = true → Tri E P x Γ M Q) (h2 : b = false → Tri E P y Γ M Q) : Tri E P (.cond c x y) Γ M Q :=
 fun a w F s => wp_cond_split (hc a w F s) (fun hb => h1 hb a w F s) (fun hb => h2 hb a w F s)
theorem Tri.fact {c : Code} {p : Prop} (hp : ∀ a w F, Sat E Γ M a w F → p) (h : p → Tri E P c Γ M Q) : Tri E P c Γ M Q := fun a w F s => h (hp a w F s) a w F s
theorem Ops.fact {p : Prop} (hp : ∀ a w F, Sat E Γ M a w F → p) (h : p → Ops E P ops Q rest Γ M) : Ops E P ops Q rest Γ M := fun a w F s => h (hp a w F s) a w F s
theorem Has.ltU {x : Operand} {n : Nat} (h : Has E Γ M x (isU n)) : ∀ a w F, Sat E Γ M a w F → n < 18446744073709551616 := fun a w F s => (h a w F s).2
theorem Has.rngI {x : Operand} {z : Int} (h : Has E Γ M x (isI z)) : ∀ a w F, Sat E Γ M a w F → -9223372036854775808 ≤ z ∧ z < 9223372036854775808 := fun a w F s => (h a w F s).2
class BP (b : Bool) (T F : outParam Prop) : Prop where
 t : b = true → T
 f : b = false → F
instance (priority := 50) {b : Bool} : BP b (b = true) (b = false) := ⟨id, id⟩
instance (priority := 100) {p : Prop} {i : Decidable p} : BP (@decide p i) p (¬ p) := ⟨of_decide_eq_true, of_decide_eq_false⟩
instance {m n : Nat} {i : Decidable (m < n)} : BP (@decide (m < n) i) (m < n) (n ≤ m) := ⟨of_decide_eq_true, fun h => Nat.le_of_not_lt (of_decide_eq_false h)⟩
instance {m n : Nat} {i : Decidable (m ≤ n)} : BP (@decide (m ≤ n) i) (m ≤ n) (n < m) := ⟨of_decide_eq_true, fun h => Nat.lt_of_not_le (of_decide_eq_false h)⟩
instance {m n : Int} {i : Decidable (m < n)} : BP (@decide (m < n) i) (m < n) (n ≤ m) := ⟨of_decide_eq_true, fun h => Int.not_lt.1 (of_decide_eq_false h)⟩
instance {m n : Int} {i : Decidable (m ≤ n)} : BP (@decide (m ≤ n) i) (m ≤ n) (n < m) := ⟨of_decide_eq_true, fun h => Int.not_le.1 (of_decide_eq_false h)⟩
instance {b : Bool} {T F : Prop} [h : BP b T F] : BP (!b) F T := ⟨fun e => h.f (by cases b <;> simp_all), fun e => h.t (by cases b <;> simp_all)⟩
instance {b c : Bool} {T F T' F' : Prop} [h : BP b T F] [k : BP c T' F'] : BP (b && c) (T ∧ T') (F ∨ F') :=
 ⟨fun e => by rw [Bool.and_eq_true] at e; exact ⟨h.t e.1, k.t e.2⟩, fun e => by rw [Bool.and_eq_false_iff] at e; exact e.imp h.f k.f⟩
instance {b c : Bool} {T F T' F' : Prop} [h : BP b T F] [k : BP c T' F'] : BP (b || c) (T ∨ T') (F ∧ F') :=
 ⟨fun e => by rw [Bool.or_eq_true] at e; exact e.imp h.t k.t, fun e => by rw [Bool.or_eq_false_iff] at e; exact ⟨h.f e.1, k.f e.2⟩⟩
instance (priority := 2000) {b : Bool} {T F : Prop} [h : BP b T F] : BP (true && b) T F := ⟨fun e => h.t (by simpa using e), fun e => h.f (by simpa using e)⟩
instance (priority := 2000) {b : Bool} {T F : Prop} [h : BP b T F] : BP (false || b) T F := ⟨fun e => h.t (by simpa using e), fun e => h.f (by simpa using e)⟩
instance (priority := 2000) {b : Bool} {T F : Prop} [h : BP b T F] : BP ((!true) || b) T F := ⟨fun e => h.t (by simpa using e), fun e => h.f (by simpa using e)⟩
def Cv (E : Env) (Γ : Ctx) (M : Mem) (Γ' : Ctx) (M' : Mem) : Prop := ∀ a w F, Sat E Γ M a w F → ∃ F', Sat E Γ' M' a w F'
theorem Tri.cv {c : Code} {Γ' : Ctx} {M' : Mem} (h : Cv E Γ M Γ' M') (k : Tri E P c Γ' M' Q) : Tri E P c Γ M Q := fun a w F s => let ⟨F', s'⟩ := h a w F s; k a w F' s'
theorem Ops.cv {Γ' : Ctx} {M' : Mem} (h : Cv E Γ M Γ' M') (k : Ops E P ops Q rest Γ' M') : Ops E P ops Q rest Γ M := fun a w F s => let ⟨F', s'⟩ := h a w F s; k a w F' s'
theorem At.cv {Γ' : Ctx} {M' : Mem} {e : Exit} (h : Cv E Γ M Γ' M') (k : At E Γ' M' Q e) : At E Γ M Q e := fun a w F s => let ⟨F', s'⟩ := h a w F s; k a w F' s'
inductive Wk (E : Env) (Γ : Ctx) (M : Mem) : Ctx → Prop
 | nil : Wk E Γ M []
 | cons {t : Nat} {S : VP} {r : Ctx} : Has E Γ M (.tmp t) S → Wk E Γ M r → Wk E Γ M ((t, S) :: r)
theorem Wk.k {E : Env} {Γ Γ' : Ctx} {M : Mem} {S : VP} (t : Nat) (h : look Γ t = some S) (w : Wk E Γ M Γ') : Wk E Γ M ((t, S) :: Γ') := .cons (Has.t h) w
def keepl (Γ : Ctx) : List Nat → Option Ctx
  | [] => some []
  | t :: ts => match look Γ t with
    | none => none
    | some S => match keepl Γ ts with
      | none => none
      | some r => some ((t, S) :: r)
theorem Wk.l {E : Env} {Γ : Ctx} {M : Mem} : ∀ (ts : List Nat) {Γ' : Ctx}, keepl Γ ts = some Γ' → Wk E Γ M Γ'
  | [], Γ', h => by cases h; exact .nil
  | t :: ts, Γ', h => by
    unfold keepl at h
    split at h
    · cases h
    · next S hS =>
      split at h
      · cases h
      · next r hr => cases h; exact .cons (Has.t hS) (Wk.l ts hr)
theorem Wk.c {E : Env} {Γ Γ' : Ctx} {M : Mem} {S S' : VP} (t : Nat) (h : look Γ t = some S) (e : S = S') (w : Wk E Γ M Γ') : Wk E Γ M ((t, S') :: Γ') := .cons (Has.t' h e) w
theorem Wk.has {Γ' : Ctx} (h : Wk E Γ M Γ') : ∀ t S, look Γ' t = some S → Has E Γ M (.tmp t) S := by
  induction h with
  | nil => intro t S h; simp [look] at h
  | @cons t0 S0 r h0 _ ih =>
    intro t S h
    simp only [look] at h
    cases hb : Nat.beq t0 t with
    | true => rw [hb] at h; simp at h; subst h; rw [← Nat.eq_of_beq_eq_true hb]; exact h0
    | false => rw [hb] at h; exact ih t S h
theorem Cv.wk {Γ' : Ctx} (h : Wk E Γ M Γ') : Cv E Γ M Γ' M := fun a w F s =>
 ⟨F, { defers := s.defers, size := s.size, keep := s.keep, f0 := s.f0, fnew := s.fnew, flt := s.flt, mem := s.mem, slots := fun t S ht => h.has t S ht a w F s }⟩
theorem Cv.drop {M' : Mem} (h : M'.Sublist M) : Cv E Γ M Γ M' := fun a w F s =>
  ⟨F, { defers := s.defers, size := s.size, keep := s.keep, f0 := s.f0, fnew := s.fnew, flt := s.flt, slots := s.slots,
        mem := ⟨s.mem.apart.sublist h, fun b C hb => s.mem.each b C (h.subset hb)⟩ }⟩
theorem Cv.trans {Γ' Γ'' : Ctx} {M' M'' : Mem} (h : Cv E Γ M Γ' M') (k : Cv E Γ' M' Γ'' M'') : Cv E Γ M Γ'' M'' := fun a w F s =>
 let ⟨F', s'⟩ := h a w F s; k a w F' s'
theorem Cv.refl : Cv E Γ M Γ M := fun _ _ F s => ⟨F, s⟩
theorem Tri.loop {τ : Type} {c : Code} (I : τ → Ctx) (J : τ → Mem) (μ : τ → Nat) (x0 : τ) (h0 : Cv E Γ M (I x0) (J x0))
  (round : ∀ x, ∀ K : Act → World → Prop, (∀ y Γ' M', μ y < μ x → Cv E Γ' M' (I y) (J y) → Cont E Γ' M' K) → Tri E P c (I x) (J x) (Exit.then K Q)) : Tri E P (.loop c) Γ M Q := by
 intro a w F s
 obtain ⟨F', s'⟩ := h0 a w F s
 refine wp_loop_ghost (fun n a w => ∃ x F, μ x = n ∧ Sat E (I x) (J x) a w F) (μ x0) ⟨x0, F', rfl, s'⟩ ?_
 rintro n a w ⟨x, F, rfl, s⟩
 refine round x _ ?_ a w F s
 intro y Γ' M' hlt hcv a w F s
 obtain ⟨F', s'⟩ := hcv a w F s
 exact ⟨μ y, hlt, y, F', rfl, s'⟩
theorem Tri.cut {τ : Type} {x y : Code} (I : τ → Ctx) (J : τ → Mem)
  (h1 : ∀ K : Act → World → Prop, (∀ y Γ' M', Cv E Γ' M' (I y) (J y) → Cont E Γ' M' K) → Tri E P x Γ M (Exit.then K Q))
  (h2 : ∀ z, Tri E P y (I z) (J z) Q) : Tri E P (.seq x y) Γ M Q := by
 intro a w F s
 refine wp_seq_k fun K hK => h1 K ?_ a w F s
 intro z Γ' M' hcv a w F s
 obtain ⟨F', s'⟩ := hcv a w F s
 exact hK a w (h2 z a w F' s')
def keepc : List Nat → Ctx → Ctx
  | [], _ => []
  | t :: ts, Γ => match look Γ t with
    | some S => (t, S) :: keepc ts Γ
    | none => keepc ts Γ
def setAt (M : Mem) (i : Nat) (C : MP) : Mem := match M, i with
 | [], _ => []
 | (k, _) :: r, 0 => (k, C) :: r
 | x :: r, i + 1 => x :: setAt r i C
theorem Tri.loopF {τ : Type} {c : Code} (ts : List Nat) (I : τ → Ctx) (J : Mem → τ → Mem) (μ : τ → Nat) (x0 : τ) (h0 : Cv E Γ M (I x0 ++ keepc ts Γ) (J M x0))
  (round : ∀ x, ∀ K : Act → World → Prop, (∀ y Γ' M', μ y < μ x → Cv E Γ' M' (I y ++ keepc ts Γ) (J M y) → Cont E Γ' M' K) → Tri E P c (I x ++ keepc ts Γ) (J M x) (Exit.then K Q)) : Tri E P (.loop c) Γ M Q :=
 Tri.loop (fun x => I x ++ keepc ts Γ) (J M) μ x0 h0 round
theorem Tri.cutF {τ : Type} {x y : Code} (ts : List Nat) (I : τ → Ctx) (J : Mem → τ → Mem)
  (h1 : ∀ K : Act → World → Prop, (∀ z Γ' M', Cv E Γ' M' (I z ++ keepc ts Γ) (J M z) → Cont E Γ' M' K) → Tri E P x Γ M (Exit.then K Q))
  (h2 : ∀ z, Tri E P y (I z ++ keepc ts Γ) (J M z) Q) : Tri E P (.seq x y) Γ M Q := Tri.cut _ _ h1 h2
def Ret (w : World) (F : Blk) (R : VP) : Ending → World → Prop := fun e w' => ∃ v, e = .returned v ∧ Keep [] w w' ∧ R.h w' (fresh F w w') v
def Enters (P : Program) (f : FuncId) : Prop := ∃ fn, P.funcs[f]? = some fn ∧ fn.body.isSome = true ∧ (fn.name == "runtime.NumGoroutine") = false
def Ctr (P : Program) (f : FuncId) (Ss : List VP) (R : VP) : Prop :=
 Enters P f ∧ ∀ (w : World) (F : Blk) (vs : List Value), (∀ b, F b → b < w.heap.size) → All2 Ss w F vs → Calls P f vs.toArray w (Ret w F R)
def argsCtx : Nat → List VP → Ctx
 | _, [] => []
 | i, S :: Ss => (i, S) :: argsCtx (i + 1) Ss
theorem look_args : ∀ (Ss : List VP) (i t : Nat) (S : VP), look (argsCtx i Ss) t = some S → i ≤ t ∧ Ss[t - i]? = some S
  | [], i, t, S, h => by simp [argsCtx, look] at h
  | S0 :: Ss, i, t, S, h => by
    simp only [argsCtx, look] at h
    cases hb : Nat.beq i t with
    | true => rw [hb] at h; have := Nat.eq_of_beq_eq_true hb; subst this; simpa using h
    | false =>
      rw [hb] at h
      have hne := Nat.ne_of_beq_eq_false hb
      obtain ⟨h1, h2⟩ := look_args Ss (i + 1) t S h
      refine ⟨by omega, ?_⟩
      rw [show t - i = (t - (i + 1)) + 1 by omega]
      simpa using h2
theorem Ctr.intro {f : FuncId} {fn : Func} {c : Code} {Ss : List VP} {R : VP} (hf : P.funcs[f]? = some fn) (hb : fn.body = some c) (hn : (fn.name == "runtime.NumGoroutine") = false) {nt : Nat} (hnt : fn.ntmps = nt)
  (hsz : Nat.ble Ss.length nt = true)
  (h : ∀ w F, Tri ⟨w, F, [], nt⟩ P c (argsCtx 0 Ss) [] (bodyPost P fn (Ret w F R))) : Ctr P f Ss R := by
 subst hnt
 refine ⟨⟨fn, hf, by simp [hb], hn⟩, fun w F vs hF hargs => ?_⟩
 have hlen := hargs.len
 have hsz' : Ss.length ≤ fn.ntmps := by simpa using Nat.le_of_ble_eq_true hsz
 refine calls_of_wp hf hb (h w F _ w F ?_)
 refine { defers := rfl, size := ?_, keep := Keep.refl _ _, f0 := fun _ h => h, fnew := fun _ h => .inl h, flt := hF, slots := ?_, mem := ⟨List.Pairwise.nil, by simp⟩ }
 ·simp; omega
 ·intro t S ht
  obtain ⟨_, h2⟩ := look_args Ss 0 t S ht
  obtain ⟨v, hv, hS⟩ := hargs.get t S (by simpa using h2)
  have : (vs.toArray ++ Array.replicate (fn.ntmps - vs.toArray.size) undef).getD t undef = v := by
   have hlt : t < vs.length := by
    rcases Nat.lt_or_ge t vs.length with h | h
    ·exact h
    ·simp [List.getElem?_eq_none h] at hv
   have e : vs[t] = v := by rw [List.getElem?_eq_getElem hlt] at hv; exact Option.some.inj hv
   simp [Array.getElem?_append, hlt, e]
  rw [this]; exact hS
end
end Go.En
namespace Go.En
open Go.RowKit
section
variable {E : Env} {P : Program} {Γ : Ctx} {M : Mem} {d : Option Tmp} {ty : TypeId} {pos : String} {after : Array Edge} {gd : Option (Nat × Bool)}
theorem OK1.mv {x : Operand} {S : VP} (h : Has E Γ M x S) : OK1 E P Γ M ⟨d, .move x, ty, pos, after, gd⟩ S :=
 .run fun a w F s => ⟨_, rfl, h a w F s⟩
theorem OK1.as {x : Operand} {S : VP} (h : Has E Γ M x S) : OK1 E P Γ M ⟨d, .assign x, ty, pos, after, gd⟩ S :=
 .run fun a w F s => ⟨_, rfl, h a w F s⟩
theorem wrap_in {k : IntKind} {z : Int} (h : rng k z) : k.wrap z = z := by
 obtain ⟨h1, h2⟩ := h
 cases k <;> simp [IntKind.wrap, IntKind.min, IntKind.max, IntKind.signed, IntKind.bits] at * <;> (try split) <;> omega
theorem wrap_u64 (z : Int) : IntKind.u64.wrap z = z % 18446744073709551616 := by simp [IntKind.wrap, IntKind.signed, IntKind.bits]
theorem wrap_i64 {z : Int} (h : -9223372036854775808 ≤ z) (h' : z < 9223372036854775808) : IntKind.i64.wrap z = z :=
 wrap_in (k := .i64) ⟨by simp [IntKind.min, IntKind.signed, IntKind.bits]; omega, by simp [IntKind.max, IntKind.signed, IntKind.bits]; omega⟩
theorem OK1.bin {op : BinOp} {T T' : TypeId} {x y : Operand} {k : IntKind} {m n : Int} {v : Value} {S : VP}
  (hx : ∀ a w F, Sat E Γ M a w F → a.eval x = .int k m) (hy : ∀ a w F, Sat E Γ M a w F → a.eval y = .int k n)
  (hr : ∀ w, (binOp op T (.int k m) (.int k n)).run P w = .ok v w) (hS : ∀ w F, S.h w F v) : OK1 E P Γ M ⟨d, .binOp op T x y T', ty, pos, after, gd⟩ S :=
 .run fun a w F s => ⟨v, by
  have h1 := hx a w F s
  have h2 := hy a w F s
  have h3 := hr w
  simp only [execOp, h1, h2]
  simp [go_sem, h3], hS w F⟩
theorem evU {x : Operand} {n : Nat} (h : Has E Γ M x (isU n)) : ∀ a w F, Sat E Γ M a w F → a.eval x = .int .u64 n := fun a w F s => (h a w F s).1
theorem evI {x : Operand} {n : Int} (h : Has E Γ M x (isI n)) : ∀ a w F, Sat E Γ M a w F → a.eval x = .int .i64 n := fun a w F s => (h a w F s).1
theorem evK {k : IntKind} {x : Operand} {n : Int} (h : Has E Γ M x (isK k n)) : ∀ a w F, Sat E Γ M a w F → a.eval x = .int k n := fun a w F s => (h a w F s).1
theorem isU_of {n : Nat} {z : Int} (h : z = (n : Int)) (h2 : n < 18446744073709551616) (w : World) (F : Blk) : (isU n).h w F (.int .u64 z) := ⟨by rw [h], h2⟩
theorem isI_of {z : Int} (h1 : -9223372036854775808 ≤ z) (h2 : z < 9223372036854775808) (w : World) (F : Blk) : (isI z).h w F (.int .i64 z) := ⟨rfl, h1, h2⟩
section
variable {T T' : TypeId} {x y : Operand} {m n : Nat} {i j : Int}
theorem run_add (k : IntKind) (m n : Int) (w : World) : (binOp .add T (.int k m) (.int k n)).run P w = .ok (.int k (k.wrap (m + n))) w := by simp [binOp, Op.intArith, go_sem]
theorem run_sub (k : IntKind) (m n : Int) (w : World) : (binOp .sub T (.int k m) (.int k n)).run P w = .ok (.int k (k.wrap (m - n))) w := by simp [binOp, Op.intArith, go_sem]
theorem run_mul (k : IntKind) (m n : Int) (w : World) : (binOp .mul T (.int k m) (.int k n)).run P w = .ok (.int k (k.wrap (m * n))) w := by simp [binOp, Op.intArith, go_sem]
theorem run_quo (k : IntKind) (m n : Int) (h : n ≠ 0) (w : World) : (binOp .quo T (.int k m) (.int k n)).run P w = .ok (.int k (k.wrap (m.tdiv n))) w := by simp [binOp, Op.intDiv, go_sem, h]
theorem run_rem (k : IntKind) (m n : Int) (h : n ≠ 0) (w : World) : (binOp .rem T (.int k m) (.int k n)).run P w = .ok (.int k (m.tmod n)) w := by simp [binOp, Op.intDiv, go_sem, h]
theorem OK1.addU (hx : Has E Γ M x (isU m)) (hy : Has E Γ M y (isU n)) : OK1 E P Γ M ⟨d, .binOp .add T x y T', ty, pos, after, gd⟩ (isU ((m + n) % 18446744073709551616)) :=
 .bin (evU hx) (evU hy) (run_add _ _ _) (fun w F => isU_of (by rw [wrap_u64]; omega) (by omega) w F)
theorem OK1.addU' (hx : Has E Γ M x (isU m)) (hy : Has E Γ M y (isU n)) (h : m + n < 18446744073709551616) : OK1 E P Γ M ⟨d, .binOp .add T x y T', ty, pos, after, gd⟩ (isU (m + n)) :=
 .bin (evU hx) (evU hy) (run_add _ _ _) (fun w F => isU_of (by rw [wrap_u64]; omega) (by omega) w F)
theorem OK1.subU (hx : Has E Γ M x (isU m)) (hy : Has E Γ M y (isU n)) (hn : n < 18446744073709551616) : OK1 E P Γ M ⟨d, .binOp .sub T x y T', ty, pos, after, gd⟩ (isU ((m + (18446744073709551616 - n)) % 18446744073709551616)) :=
 .bin (evU hx) (evU hy) (run_sub _ _ _) (fun w F => isU_of (by rw [wrap_u64]; omega) (by omega) w F)
theorem OK1.subU' (hx : Has E Γ M x (isU m)) (hy : Has E Γ M y (isU n)) (h : n ≤ m) (h2 : m < 18446744073709551616) : OK1 E P Γ M ⟨d, .binOp .sub T x y T', ty, pos, after, gd⟩ (isU (m - n)) :=
 .bin (evU hx) (evU hy) (run_sub _ _ _) (fun w F => isU_of (by rw [wrap_u64]; omega) (by omega) w F)
theorem OK1.mulU (hx : Has E Γ M x (isU m)) (hy : Has E Γ M y (isU n)) : OK1 E P Γ M ⟨d, .binOp .mul T x y T', ty, pos, after, gd⟩ (isU (m * n % 18446744073709551616)) :=
 .bin (evU hx) (evU hy) (run_mul _ _ _) (fun w F => isU_of (by rw [wrap_u64, ← Int.natCast_mul]; rfl) (Nat.mod_lt _ (by decide)) w F)
theorem OK1.mulU' (hx : Has E Γ M x (isU m)) (hy : Has E Γ M y (isU n)) (h : m * n < 18446744073709551616) : OK1 E P Γ M ⟨d, .binOp .mul T x y T', ty, pos, after, gd⟩ (isU (m * n)) :=
 .bin (evU hx) (evU hy) (run_mul _ _ _) (fun w F => isU_of (by rw [wrap_u64, ← Int.natCast_mul]; omega) h w F)
theorem OK1.quoU (hx : Has E Γ M x (isU m)) (hy : Has E Γ M y (isU n)) (h : n ≠ 0) (h2 : m < 18446744073709551616) : OK1 E P Γ M ⟨d, .binOp .quo T x y T', ty, pos, after, gd⟩ (isU (m / n)) :=
 have hlt : m / n < 18446744073709551616 := Nat.lt_of_le_of_lt (Nat.div_le_self _ _) h2
 .bin (evU hx) (evU hy) (run_quo _ _ _ (by omega)) (fun w F => isU_of (by
  rw [wrap_u64, Int.tdiv_eq_ediv_of_nonneg (by omega), ← Int.natCast_ediv]; generalize m / n = q at *; omega) hlt w F)
theorem OK1.remU (hx : Has E Γ M x (isU m)) (hy : Has E Γ M y (isU n)) (h : n ≠ 0) (h2 : m < 18446744073709551616) : OK1 E P Γ M ⟨d, .binOp .rem T x y T', ty, pos, after, gd⟩ (isU (m % n)) :=
 have hlt : m % n < 18446744073709551616 := Nat.lt_of_le_of_lt (Nat.mod_le _ _) h2
 .bin (evU hx) (evU hy) (run_rem _ _ _ (by omega)) (fun w F => isU_of (by
  rw [Int.tmod_eq_emod_of_nonneg (by omega), ← Int.natCast_emod]) hlt w F)
theorem OK1.addI (hx : Has E Γ M x (isI i)) (hy : Has E Γ M y (isI j)) (h1 : -9223372036854775808 ≤ i + j) (h2 : i + j < 9223372036854775808) : OK1 E P Γ M ⟨d, .binOp .add T x y T', ty, pos, after, gd⟩ (isI (i + j)) :=
 .bin (evI hx) (evI hy) (run_add _ _ _) (fun w F => by rw [wrap_i64 h1 h2]; exact isI_of h1 h2 w F)
theorem OK1.subI (hx : Has E Γ M x (isI i)) (hy : Has E Γ M y (isI j)) (h1 : -9223372036854775808 ≤ i - j) (h2 : i - j < 9223372036854775808) : OK1 E P Γ M ⟨d, .binOp .sub T x y T', ty, pos, after, gd⟩ (isI (i - j)) :=
 .bin (evI hx) (evI hy) (run_sub _ _ _) (fun w F => by rw [wrap_i64 h1 h2]; exact isI_of h1 h2 w F)
theorem OK1.mulI (hx : Has E Γ M x (isI i)) (hy : Has E Γ M y (isI j)) (h1 : -9223372036854775808 ≤ i * j) (h2 : i * j < 9223372036854775808) : OK1 E P Γ M ⟨d, .binOp .mul T x y T', ty, pos, after, gd⟩ (isI (i * j)) :=
 .bin (evI hx) (evI hy) (run_mul _ _ _) (fun w F => by rw [wrap_i64 h1 h2]; exact isI_of h1 h2 w F)
theorem OK1.quoI (hx : Has E Γ M x (isI i)) (hy : Has E Γ M y (isI j)) (h : 0 ≤ i) (h' : 0 < j) (h2 : i < 9223372036854775808) : OK1 E P Γ M ⟨d, .binOp .quo T x y T', ty, pos, after, gd⟩ (isI (i / j)) :=
 have h3 : i / j ≤ i := Int.ediv_le_self _ h
 have h4 : 0 ≤ i / j := Int.ediv_nonneg h (by omega)
 .bin (evI hx) (evI hy) (run_quo _ _ _ (by omega)) (fun w F => by rw [Int.tdiv_eq_ediv_of_nonneg h, wrap_i64 (by omega) (by omega)]; exact isI_of (by omega) (by omega) w F)
theorem OK1.remI (hx : Has E Γ M x (isI i)) (hy : Has E Γ M y (isI j)) (h : 0 ≤ i) (h' : 0 < j) (h2 : i < 9223372036854775808) : OK1 E P Γ M ⟨d, .binOp .rem T x y T', ty, pos, after, gd⟩ (isI (i % j)) :=
 have h3 : 0 ≤ i % j := Int.emod_nonneg _ (by omega)
 have h4 : i % j ≤ i := by have := Int.emod_add_mul_ediv i j; have : 0 ≤ j * (i / j) := Int.mul_nonneg (by omega) (Int.ediv_nonneg h (by omega)); omega
 .bin (evI hx) (evI hy) (run_rem _ _ _ (by omega)) (fun w F => by rw [Int.tmod_eq_emod_of_nonneg h]; exact isI_of (by omega) (by omega) w F)
def cmpOf (op : BinOp) (m n : Int) : Bool := match op with | .eql => m == n | .neq => m != n | .lss => m < n | .leq => m ≤ n | .gtr => m > n | _ => m ≥ n
theorem run_cmp (op : BinOp) (k : IntKind) (m n : Int) (b : Bool) (hop : cmpOf op m n = b) (hne : op = .eql ∨ op = .neq ∨ op = .lss ∨ op = .leq ∨ op = .gtr ∨ op = .geq) (w : World) :
  (binOp op T (.int k m) (.int k n)).run P w = .ok (.bool b) w := by
 rcases hne with rfl | rfl | rfl | rfl | rfl | rfl <;> simp only [cmpOf] at hop <;> simp [binOp, Op.intCmp, go_sem] <;> exact hop
theorem OK1.ltU (hx : Has E Γ M x (isU m)) (hy : Has E Γ M y (isU n)) : OK1 E P Γ M ⟨d, .binOp .lss T x y T', ty, pos, after, gd⟩ (isB (decide (m < n))) :=
 .bin (evU hx) (evU hy) (run_cmp .lss _ _ _ _ (by simp [cmpOf]) (by simp)) (fun w F => rfl)
theorem OK1.leU (hx : Has E Γ M x (isU m)) (hy : Has E Γ M y (isU n)) : OK1 E P Γ M ⟨d, .binOp .leq T x y T', ty, pos, after, gd⟩ (isB (decide (m ≤ n))) :=
 .bin (evU hx) (evU hy) (run_cmp .leq _ _ _ _ (by simp [cmpOf]) (by simp)) (fun w F => rfl)
theorem OK1.gtU (hx : Has E Γ M x (isU m)) (hy : Has E Γ M y (isU n)) : OK1 E P Γ M ⟨d, .binOp .gtr T x y T', ty, pos, after, gd⟩ (isB (decide (n < m))) :=
 .bin (evU hx) (evU hy) (run_cmp .gtr _ _ _ _ (by simp [cmpOf]) (by simp)) (fun w F => rfl)
theorem OK1.geU (hx : Has E Γ M x (isU m)) (hy : Has E Γ M y (isU n)) : OK1 E P Γ M ⟨d, .binOp .geq T x y T', ty, pos, after, gd⟩ (isB (decide (n ≤ m))) :=
 .bin (evU hx) (evU hy) (run_cmp .geq _ _ _ _ (by simp [cmpOf]) (by simp)) (fun w F => rfl)
theorem beq_nat (m n : Nat) : ((m : Int) == (n : Int)) = decide (m = n) := by
 by_cases h : m = n
 ·subst h; simp
 ·have : ¬ ((m : Int) = n) := by omega
  simp [h, this]
theorem OK1.eqU (hx : Has E Γ M x (isU m)) (hy : Has E Γ M y (isU n)) : OK1 E P Γ M ⟨d, .binOp .eql T x y T', ty, pos, after, gd⟩ (isB (decide (m = n))) :=
 .bin (evU hx) (evU hy) (run_cmp .eql _ _ _ _ (by simp only [cmpOf, beq_nat]) (by simp)) (fun w F => rfl)
theorem OK1.neU (hx : Has E Γ M x (isU m)) (hy : Has E Γ M y (isU n)) : OK1 E P Γ M ⟨d, .binOp .neq T x y T', ty, pos, after, gd⟩ (isB (!decide (m = n))) :=
 .bin (evU hx) (evU hy) (run_cmp .neq _ _ _ _ (by simp only [cmpOf, bne, beq_nat]) (by simp)) (fun w F => rfl)
theorem OK1.ltI (hx : Has E Γ M x (isI i)) (hy : Has E Γ M y (isI j)) : OK1 E P Γ M ⟨d, .binOp .lss T x y T', ty, pos, after, gd⟩ (isB (decide (i < j))) :=
 .bin (evI hx) (evI hy) (run_cmp .lss _ _ _ _ rfl (by simp)) (fun w F => rfl)
theorem OK1.leI (hx : Has E Γ M x (isI i)) (hy : Has E Γ M y (isI j)) : OK1 E P Γ M ⟨d, .binOp .leq T x y T', ty, pos, after, gd⟩ (isB (decide (i ≤ j))) :=
 .bin (evI hx) (evI hy) (run_cmp .leq _ _ _ _ rfl (by simp)) (fun w F => rfl)
theorem OK1.gtI (hx : Has E Γ M x (isI i)) (hy : Has E Γ M y (isI j)) : OK1 E P Γ M ⟨d, .binOp .gtr T x y T', ty, pos, after, gd⟩ (isB (decide (j < i))) :=
 .bin (evI hx) (evI hy) (run_cmp .gtr _ _ _ _ rfl (by simp)) (fun w F => rfl)
theorem OK1.geI (hx : Has E Γ M x (isI i)) (hy : Has E Γ M y (isI j)) : OK1 E P Γ M ⟨d, .binOp .geq T x y T', ty, pos, after, gd⟩ (isB (decide (j ≤ i))) :=
 .bin (evI hx) (evI hy) (run_cmp .geq _ _ _ _ rfl (by simp)) (fun w F => rfl)
theorem OK1.eqI (hx : Has E Γ M x (isI i)) (hy : Has E Γ M y (isI j)) : OK1 E P Γ M ⟨d, .binOp .eql T x y T', ty, pos, after, gd⟩ (isB (decide (i = j))) :=
 .bin (evI hx) (evI hy) (run_cmp .eql _ _ _ _ rfl (by simp)) (fun w F => rfl)
theorem OK1.neI (hx : Has E Γ M x (isI i)) (hy : Has E Γ M y (isI j)) : OK1 E P Γ M ⟨d, .binOp .neq T x y T', ty, pos, after, gd⟩ (isB (!decide (i = j))) :=
 .bin (evI hx) (evI hy) (run_cmp .neq _ _ _ _ rfl (by simp)) (fun w F => rfl)
theorem OK1.not {b : Bool} (hx : Has E Γ M x (isB b)) : OK1 E P Γ M ⟨d, .unOp .not T x, ty, pos, after, gd⟩ (isB (!b)) :=
 .run fun a w F s => ⟨.bool (!b), by
  have h1 : a.eval x = .bool b := hx a w F s
  simp only [execOp, h1]; simp [Op.unary, go_sem], rfl⟩
theorem OK1.pickAnd {c : Operand} {b e : Bool} (hc : Has E Γ M c (isB b)) (hx : b = true → Has E Γ M x (isB e)) : OK1 E P Γ M ⟨d, .pick c x (.const (.bool false)), ty, pos, after, gd⟩ (isB (b && e)) :=
 .run fun a w F s => ⟨.bool (b && e), by
  have h1 : a.eval c = .bool b := hc a w F s
  simp only [execOp, h1]
  cases hb : b with
  | true => have h2 : a.eval x = .bool e := hx hb a w F s; rw [h2]; simp [asBool, go_sem]
  | false => simp [asBool, go_sem, Act.eval], rfl⟩
theorem OK1.pickOr {c : Operand} {b e : Bool} (hc : Has E Γ M c (isB b)) (hx : b = false → Has E Γ M x (isB e)) : OK1 E P Γ M ⟨d, .pick c (.const (.bool true)) x, ty, pos, after, gd⟩ (isB (b || e)) :=
 .run fun a w F s => ⟨.bool (b || e), by
  have h1 : a.eval c = .bool b := hc a w F s
  simp only [execOp, h1]
  cases hb : b with
  | false => have h2 : a.eval x = .bool e := hx hb a w F s; rw [h2]; simp [asBool, go_sem]
  | true => simp [asBool, go_sem, Act.eval], rfl⟩
end
def isTup (Ss : List VP) : VP := ⟨fun w F v => ∃ vs, v = .tuple (List.toArray vs) ∧ All2 Ss w F vs, fun w w' F F' v h h1 h2 => by
 obtain ⟨vs, e, h⟩ := h; exact ⟨vs, e, All2.mono h1 h2 _ _ h⟩⟩
def Flat (Ss : List VP) : VP := ⟨fun w F v => ∃ vs, v = .agg (List.toArray vs) ∧ All2 Ss w F vs, fun w w' F F' v h h1 h2 => by
 obtain ⟨vs, e, h⟩ := h; exact ⟨vs, e, All2.mono h1 h2 _ _ h⟩⟩
theorem OK1.ext {x : Operand} {Ss : List VP} {S : VP} {i : Nat} (hx : Has E Γ M x (isTup Ss)) (hi : Ss[i]? = some S) : OK1 E P Γ M ⟨d, .extract x i, ty, pos, after, gd⟩ S :=
 .run fun a w F s => by
  obtain ⟨vs, e, h⟩ := hx a w F s
  obtain ⟨v, hv, hS⟩ := h.get i S hi
  exact ⟨v, by simp only [execOp, e]; simp [Instr.extract, hv, go_sem], hS⟩
inductive HasL (E : Env) (Γ : Ctx) (M : Mem) : List Operand → List VP → Prop
 | nil : HasL E Γ M [] []
 | cons {x : Operand} {S : VP} {xs : List Operand} {Ss : List VP} : Has E Γ M x S → HasL E Γ M xs Ss → HasL E Γ M (x :: xs) (S :: Ss)
theorem HasL.all {xs : List Operand} {Ss : List VP} (h : HasL E Γ M xs Ss) {a : Act} {w : World} {F : Blk} (s : Sat E Γ M a w F) : All2 Ss w F (xs.map a.eval) := by
 induction h with
 | nil => trivial
 | cons h1 _ ih => exact ⟨h1 a w F s, ih⟩
theorem run_enter {f : FuncId} (hf : Enters P f) (args : Array Value) (w : World) : (callFunc f args).run P w = .ok (.enter f args) w := by
 obtain ⟨fn, h1, h2, h3⟩ := hf
 have h3' : ¬ fn.name = "runtime.NumGoroutine" := by simpa using h3
 have h4 : ¬ fn.body = none := by intro hb; simp [hb] at h2
 simp [callFunc, go_sem, h1, h3', h4]
theorem OK1.call {f : FuncId} {xs : List Operand} {ts : Array TypeId} {Ss : List VP} {R : VP} (hf : Ctr P f Ss R) (hx : HasL E Γ M xs Ss) :
  OK1 E P Γ M ⟨d, .call ⟨.value (.func f), xs.toArray, ts⟩, ty, pos, after, gd⟩ R := by
 intro a w F s K Q hK
 unfold Oper.wp
 have hr : (execOp a.eval (⟨d, .call ⟨.value (.func f), xs.toArray, ts⟩, ty, pos, after, gd⟩ : Oper)).run P w = .ok (.enter f (xs.map a.eval).toArray) w := by
  have := run_enter hf.1 (xs.map a.eval).toArray w
  simpa [go_sem] using this
 rw [hr]
 refine (hf.2 w F _ s.flt (hx.all s)).mono ?_
 rintro e w' ⟨v, rfl, hk, hv⟩
 exact hK v w' _ ⟨hk, fun b hb => .inl hb, fun b hb => hb⟩ hv
end
end Go.En
namespace Go.En
open Go.RowKit
class One (S : VP) : Prop where
 one : ∀ w F v, S.h w F v → v.oneCell' = true
class Ones (Ss : List VP) : Prop where
 ones : ∀ S ∈ Ss, One S
instance : Ones [] := ⟨by simp⟩
instance {S : VP} {Ss : List VP} [a : One S] [b : Ones Ss] : Ones (S :: Ss) := ⟨fun x hx => by
 rcases List.mem_cons.1 hx with rfl | h
 ·exact a
 ·exact b.ones x h⟩
instance {k : IntKind} {z : Int} : One (isK k z) := ⟨fun w F v h => by rw [h.1]; rfl⟩
instance {n : Nat} : One (isU n) := ⟨fun w F v h => by rw [h.1]; rfl⟩
instance {z : Int} : One (isI z) := ⟨fun w F v h => by rw [h.1]; rfl⟩
instance {b : Bool} : One (isB b) := ⟨fun w F v h => by rw [show v = .bool b from h]; rfl⟩
theorem All2.one : ∀ {Ss : List VP} {w : World} {F : Blk} {vs : List Value}, All2 Ss w F vs → (∀ S ∈ Ss, One S) → ∀ v ∈ vs, v.oneCell' = true
  | [], _, _, [], _, _, v, hv => by simp at hv
  | S :: Ss, _, _, u :: vs, h, ho, v, hv => by
    rcases List.mem_cons.1 hv with rfl | hv
    · exact (ho S (by simp)).one _ _ _ h.1
    · exact All2.one h.2 (fun x hx => ho x (by simp [hx])) v hv
  | [], _, _, _ :: _, h, _, _, _ => h.elim
  | _ :: _, _, _, [], h, _, _, _ => h.elim
class Shape (S : VP) (Ss : outParam (List VP)) : Prop where
 cells : ∀ w F v, S.h w F v → All2 Ss w F v.cells.toList
instance {Ss : List VP} : Shape (Flat Ss) Ss := ⟨fun w F v ⟨vs, e, h⟩ => by subst e; simpa [Value.cells] using h⟩
theorem Shape.of_one {S : VP} (h : One S) : Shape S [S] := ⟨fun w F v hv => by
 have := h.one w F v hv
 cases v <;> simp [Value.oneCell'] at this <;> exact ⟨hv, trivial⟩⟩
instance {k : IntKind} {z : Int} : Shape (isK k z) [isK k z] := .of_one inferInstance
instance {n : Nat} : Shape (isU n) [isU n] := .of_one inferInstance
instance {z : Int} : Shape (isI z) [isI z] := .of_one inferInstance
instance {b : Bool} : Shape (isB b) [isB b] := .of_one inferInstance
def isPtr (b off : Nat) : VP := .pure fun v => v = .pointer (some ⟨b, off, none⟩)
instance {b o : Nat} : One (isPtr b o) := ⟨fun w F v h => by rw [show v = _ from h]; rfl⟩
instance {b o : Nat} : Shape (isPtr b o) [isPtr b o] := .of_one inferInstance
def cellM (Ss : List VP) : MP := ⟨fun w F o => ∃ vs ty, o = .cells (List.toArray vs) ty (0, 0) ∧ All2 Ss w F vs, fun w w' F F' o h h1 h2 => by
 obtain ⟨vs, ty, e, h⟩ := h; exact ⟨vs, ty, e, All2.mono h1 h2 _ _ h⟩⟩
def tyB (P : Program) (T : TypeId) : Option (Nat × Bool) :=
 (P.info? T).bind fun i => (P.underlying T).map fun d => (i.size, match d with | .struct _ | .array _ _ => true | _ => false)
def zeroB (P : Program) (T : TypeId) : Option Value := (P.info? T).bind (·.zero)
def fldB (P : Program) (T : TypeId) (i : Nat) : Option (Nat × TypeId) := (P.underlying T).bind fun d => match d with
 | .struct fs => (fs[i]?).map fun f => (f.offset, f.type)
 | _ => none
def slB (P : Program) (T : TypeId) : Option TypeId := (P.underlying T).bind fun d => match d with
 | .slice e => some e
 | _ => none
section
variable {P : Program} {T : TypeId} {n : Nat} {w : World}
theorem run_size {g : Bool} (h : tyB P T = some (n, g)) : (sizeOf T).run P w = .ok n w := by
  unfold tyB at h
  cases hi : P.info? T with
  | none => simp [hi] at h
  | some i =>
    cases hu : P.underlying T with
    | none => simp [hi, hu] at h
    | some dd => simp [hi, hu] at h; simp [sizeOf, typeInfo, go_sem, hi, h.1]
theorem run_isAgg {g : Bool} (h : tyB P T = some (n, g)) : (isAgg T).run P w = .ok g w := by
  unfold tyB at h
  cases hi : P.info? T with
  | none => simp [hi] at h
  | some i =>
    cases hu : P.underlying T with
    | none => simp [hi, hu] at h
    | some dd =>
      simp only [hi, hu, Option.bind_some, Option.map_some, Option.some.injEq, Prod.mk.injEq] at h
      obtain ⟨_, h2⟩ := h
      have hr : (underlying T).run P w = .ok dd w := by simp [underlying, go_sem, hu]
      simp only [isAgg, Sem.run_bind, hr, Result.andThen_ok]
      rw [← h2]
      cases dd <;> simp [go_sem]
theorem run_zero {z : Value} (h : zeroB P T = some z) : (zeroValue T).run P w = .ok z w := by
 unfold zeroB at h
 cases hi : P.info? T with
 | none => simp [hi] at h
 | some i => simp [hi] at h; simp [zeroValue, typeInfo, go_sem, hi, h]
theorem run_under {dd : TypeDesc} (h : P.underlying T = some dd) : (underlying T).run P w = .ok dd w := by simp [underlying, go_sem, h]
end
section
variable {E : Env} {P : Program} {Γ : Ctx} {M : Mem} {ty : TypeId} {pos : String} {after : Array Edge} {gd : Option (Nat × Bool)}
 {ops : Array Oper} {Q : Exit → Act → World → Prop} {rest : List Oper}
theorem Sat.alloc {a : Act} {w : World} {F : Blk} (s : Sat E Γ M a w F) {cells : List Value} {T : TypeId} {Ss : List VP} (h : All2 Ss w F cells) :
  Sat E Γ ((some w.heap.size, cellM Ss) :: M) a { w with heap := w.heap.push (.cells cells.toArray T) } F :=
 have ad : Adv w F { w with heap := w.heap.push (.cells cells.toArray T) } F := ⟨Keep.alloc _ _ _, fun _ h => h, fun _ h => .inl h⟩
 have s' := s.adv ad
 {s' with mem := ⟨by
   refine List.Pairwise.cons ?_ s'.mem.apart
   intro x hx
   obtain ⟨k, C⟩ := x
   cases k with
   | none => exact .inr (by simp)
   | some k => exact .inr (by have := (s.mem.each k C hx).2.1; simp; omega), by
   intro b C hb
   rcases List.mem_cons.1 hb with e | hb
   ·obtain ⟨rfl, rfl⟩ : b = w.heap.size ∧ C = cellM Ss := by simpa using e
    refine ⟨.inl s.keep.size, by simp, fun hF => absurd (s.flt _ hF) (by omega), _, by simp, cells, T, rfl, All2.mono (fun b hb => ad.same s.flt b hb) (fun _ h => h) _ _ h⟩
   ·exact s'.mem.each b C hb⟩ }
theorem Ops.box {d : Nat} {T : TypeId} {x : Operand} {S : VP} {Ss : List VP} [sh : Shape S Ss] (hx : Has E Γ M x S) (hd : Nat.blt d E.n = true)
  (k : ∀ b, Ops E P ops Q rest ((d, isPtr b 0) :: Γ) ((some b, cellM Ss) :: M)) : Ops E P ops Q (⟨some d, .box T x, ty, pos, after, none⟩ :: rest) Γ M := by
 intro a w F s
 refine wpList_plain rfl fun K hK => ?_
 unfold Oper.wp
 have hr : (execOp a.eval (⟨some d, .box T x, ty, pos, after, none⟩ : Oper)).run P w = .ok (.value (.pointer (some ⟨w.heap.size, 0, none⟩))) { w with heap := w.heap.push (.cells (a.eval x).cells T) } := by
  simp [execOp, Instr.box, newVar, newRow, newObj, go_sem]; rfl
 rw [hr]
 have s1 := s.alloc (T := T) (sh.cells _ _ _ (hx a w F s))
 have hd' : d < E.n := by simpa [Nat.blt_eq] using hd
 exact hK _ _ (k w.heap.size _ _ F (s1.put hd' rfl))
theorem Ops.alloc {d : Nat} {T : TypeId} {z : Value} (Ss : List VP) (hz : zeroB P T = some z) (hs : ∀ w F, All2 Ss w F z.cells.toList) (hd : Nat.blt d E.n = true)
  (k : ∀ b, Ops E P ops Q rest ((d, isPtr b 0) :: Γ) ((some b, cellM Ss) :: M)) : Ops E P ops Q (⟨some d, .alloc T, ty, pos, after, none⟩ :: rest) Γ M := by
 intro a w F s
 refine wpList_plain rfl fun K hK => ?_
 unfold Oper.wp
 have hr : (execOp a.eval (⟨some d, .alloc T, ty, pos, after, none⟩ : Oper)).run P w = .ok (.value (.pointer (some ⟨w.heap.size, 0, none⟩))) { w with heap := w.heap.push (.cells z.cells T) } := by
  have := run_zero (w := w) hz
  simp only [execOp, Instr.alloc, newVar, newRow, newObj, Sem.run_bind, this, Result.andThen_ok]
  simp [go_sem]; rfl
 rw [hr]
 have s1 := s.alloc (T := T) (hs w F)
 have hd' : d < E.n := by simpa [Nat.blt_eq] using hd
 exact hK _ _ (k w.heap.size _ _ F (s1.put hd' rfl))
end
end Go.En
namespace Go.En
open Go.RowKit
section
variable {E : Env} {P : Program} {Γ : Ctx} {M : Mem} {ty : TypeId} {pos : String} {after : Array Edge} {gd : Option (Nat × Bool)} {d : Option Tmp}
 {ops : Array Oper} {Q : Exit → Act → World → Prop} {rest : List Oper}
theorem add_zero (b off : Nat) : (⟨b, off, none⟩ : Addr).add 0 = ⟨b, off, none⟩ := rfl
theorem add_mk (b off j : Nat) : (⟨b, off, none⟩ : Addr).add j = ⟨b, off + j, none⟩ := by unfold Addr.add; split <;> simp_all
theorem All2.take : ∀ {Ss : List VP} {w : World} {F : Blk} {vs : List Value} (n : Nat), All2 Ss w F vs → All2 (Ss.take n) w F (vs.take n)
 | _, _, _, _, 0, _ => by simp [All2]
 | [], _, _, [], n + 1, _ => trivial
 | S :: Ss, _, _, v :: vs, n + 1, h => ⟨h.1, All2.take n h.2⟩
 | [], _, _, _ :: _, _ + 1, h => h.elim
 | _ :: _, _, _, [], _ + 1, h => h.elim
theorem All2.drop : ∀ {Ss : List VP} {w : World} {F : Blk} {vs : List Value} (n : Nat), All2 Ss w F vs → All2 (Ss.drop n) w F (vs.drop n)
 | _, _, _, _, 0, h => h
 | [], _, _, [], n + 1, _ => trivial
 | S :: Ss, _, _, v :: vs, n + 1, h => All2.drop n h.2
 | [], _, _, _ :: _, _ + 1, h => h.elim
 | _ :: _, _, _, [], _ + 1, h => h.elim
theorem All2.append : ∀ {Ss Ts : List VP} {w : World} {F : Blk} {vs us : List Value}, All2 Ss w F vs → All2 Ts w F us → All2 (Ss ++ Ts) w F (vs ++ us)
 | [], _, _, _, [], _, _, h => h
 | S :: Ss, _, _, _, v :: vs, _, h, k => ⟨h.1, All2.append h.2 k⟩
 | [], _, _, _, _ :: _, _, h, _ => h.elim
 | _ :: _, _, _, _, [], _, h, _ => h.elim
theorem run_loadCells_at {w : World} {b off n : Nat} {vs : List Value} {T : TypeId} {fr : Nat × Nat} (hb : w.heap[b]? = some (.cells vs.toArray T fr)) (hn : off + n ≤ vs.length) :
  (loadCells ⟨b, off, none⟩ n).run P w = .ok ((vs.drop off).take n).toArray w := by
 have hl : ((vs.drop off).take n).length = n := by simp; omega
 have := run_loadCells_list (P := P) w ⟨b, off, none⟩ ((vs.drop off).take n) (fun j v hj => by
  rw [add_mk]
  have hj' : j < n := by
   rcases Nat.lt_or_ge j n with h | h
   ·exact h
   ·rw [List.getElem?_take_eq_none h] at hj; cases hj
  simp only [World.cell?, hb]
  rw [List.getElem?_take_of_lt hj', List.getElem?_drop] at hj
  simpa using hj)
 rw [hl] at this
 exact this
theorem mem_at {a : Act} {w : World} {F : Blk} (s : Sat E Γ M a w F) {i b : Nat} {C : MP} (hM : M[i]? = some (some b, C)) : ∃ o, w.heap[b]? = some o ∧ C.h w F o :=
 (s.mem.each b C (List.mem_of_getElem? hM)).2.2.2
theorem OK1.load {x : Operand} {b off n i : Nat} {T : TypeId} {Ss Ss' : List VP} (hx : Has E Γ M x (isPtr b off)) (hM : M[i]? = some (some b, cellM Ss)) (hT : tyB P T = some (n, true))
  (hn : Nat.ble (off + n) Ss.length = true) (hS : (Ss.drop off).take n = Ss') : OK1 E P Γ M ⟨d, .load T x, ty, pos, after, gd⟩ (Flat Ss') :=
 .run fun a w F s => by
  obtain ⟨o, hb, vs, T', rfl, hv⟩ := mem_at s hM
  have h1 : a.eval x = .pointer (some ⟨b, off, none⟩) := hx a w F s
  have hl := hv.len
  have hn' := Nat.le_of_ble_eq_true hn
  refine ⟨.agg ((vs.drop off).take n).toArray, ?_, _, rfl, hS ▸ (hv.drop off).take n⟩
  simp only [execOp, h1, Instr.loadAt, Instr.sureAddr, loadVar, Sem.run_bind, Sem.run_pure, Result.andThen_ok, run_isAgg hT, run_size hT, if_true]
  rw [run_loadCells_at (P := P) (n := n) hb (by omega)]
  rfl
theorem OK1.load1 {x : Operand} {b off i : Nat} {T : TypeId} {Ss : List VP} {S : VP} (hx : Has E Γ M x (isPtr b off)) (hM : M[i]? = some (some b, cellM Ss)) (hT : tyB P T = some (1, false))
  (hS : Ss[off]? = some S) : OK1 E P Γ M ⟨d, .load T x, ty, pos, after, gd⟩ S :=
 .run fun a w F s => by
  obtain ⟨o, hb, vs, T', rfl, hv⟩ := mem_at s hM
  have h1 : a.eval x = .pointer (some ⟨b, off, none⟩) := hx a w F s
  obtain ⟨v, hv1, hv2⟩ := hv.get off S hS
  have hc : w.cell? ⟨b, off, none⟩ = some v := by simp [World.cell?, hb, hv1]
  refine ⟨v, ?_, hv2⟩
  simp only [execOp, h1, Instr.loadAt, Instr.sureAddr, loadVar, Sem.run_bind, Sem.run_pure, Result.andThen_ok, run_isAgg hT]
  simp [hc]
theorem OK1.fieldAddr {x : Operand} {b off i o n : Nat} {g : Bool} {T T' : TypeId} (hx : Has E Γ M x (isPtr b off)) (hf : fldB P T i = some (o, T')) (ht : tyB P T' = some (n + 1, g)) :
    OK1 E P Γ M ⟨d, .fieldAddr T x i, ty, pos, after, gd⟩ (isPtr b (off + o)) :=
  .run fun a w F s => by
    have h1 : a.eval x = .pointer (some ⟨b, off, none⟩) := hx a w F s
    refine ⟨_, ?_, rfl⟩
    unfold fldB at hf
    cases hu : P.underlying T with
    | none => simp [hu] at hf
    | some dd =>
      rw [hu] at hf
      cases dd <;> simp at hf
      rename_i fs
      obtain ⟨f, hf1, hf2, hf3⟩ := hf
      subst hf2 hf3
      simp only [execOp, h1, Instr.fieldAt, Instr.sureAddr, fieldPlace, Sem.run_bind, Sem.run_pure, Result.andThen_ok, run_under hu, run_size ht, hf1]
      simp [add_mk]
theorem run_part {n o : Nat} {T : TypeId} {cs : Array Value} {w : World} (ht : tyB P T = some (n, true)) : (part T cs o).run P w = .ok (.agg (cs.extract o (o + n))) w := by
 simp only [part, Sem.run_bind, run_isAgg ht, run_size ht, Result.andThen_ok, if_true, Sem.run_pure]
theorem run_part1 {n o : Nat} {T : TypeId} {cs : Array Value} {w : World} {v : Value} (ht : tyB P T = some (n, false)) (h : cs[o]? = some v) : (part T cs o).run P w = .ok v w := by
 simp [part, Sem.run_bind, run_isAgg ht, h]
theorem run_field {T T' : TypeId} {i o : Nat} {cs : Array Value} {w : World} {r : Result Value} (hf : fldB P T i = some (o, T')) (h : (part T' cs o).run P w = r) : (Instr.field T (.agg cs) i).run P w = r := by
  unfold fldB at hf
  cases hu : P.underlying T with
  | none => simp [hu] at hf
  | some dd =>
    rw [hu] at hf
    cases dd <;> simp at hf
    rename_i fs
    obtain ⟨f, hf1, hf2, hf3⟩ := hf
    subst hf2 hf3
    simp only [Instr.field, asAgg, Sem.run_bind, Sem.run_pure, Result.andThen_ok, run_under hu, hf1, h]
theorem OK1.field {x : Operand} {i o n : Nat} {T T' : TypeId} {Ss Ss' : List VP} (hx : Has E Γ M x (Flat Ss)) (hf : fldB P T i = some (o, T')) (ht : tyB P T' = some (n, true)) (hS : (Ss.drop o).take n = Ss') :
  OK1 E P Γ M ⟨d, .field T x i, ty, pos, after, gd⟩ (Flat Ss') :=
 .run fun a w F s => by
  obtain ⟨vs, e, hv⟩ := hx a w F s
  refine ⟨.agg ((vs.drop o).take n).toArray, ?_, _, rfl, hS ▸ (hv.drop o).take n⟩
  simp only [execOp, e, Sem.run_bind, run_field hf (run_part ht), Result.andThen_ok, Sem.run_pure]
  congr 3
  apply Array.ext'
  simp
theorem OK1.field1 {x : Operand} {i o n : Nat} {T T' : TypeId} {Ss : List VP} {S : VP} (hx : Has E Γ M x (Flat Ss)) (hf : fldB P T i = some (o, T')) (ht : tyB P T' = some (n, false)) (hS : Ss[o]? = some S) :
  OK1 E P Γ M ⟨d, .field T x i, ty, pos, after, gd⟩ S :=
 .run fun a w F s => by
  obtain ⟨vs, e, hv⟩ := hx a w F s
  obtain ⟨v, hv1, hv2⟩ := hv.get o S hS
  refine ⟨v, ?_, hv2⟩
  have hr := run_field (P := P) hf (run_part1 (P := P) (w := w) (cs := vs.toArray) (v := v) ht (by simpa using hv1))
  simp only [execOp, e, Sem.run_bind, hr, Result.andThen_ok, Sem.run_pure]
theorem Sat.write {a : Act} {w w' : World} {F : Blk} (s : Sat E Γ M a w F) {i b : Nat} {C C' : MP} (hM : M[i]? = some (some b, C))
  (hos : w'.os = w.os) (htape : w'.tape = w.tape) (hout : w'.output = w.output) (hsize : w'.heap.size = w.heap.size)
  (hne : ∀ k, k ≠ b → w'.heap[k]? = w.heap[k]?) {o : Obj} (ho : w'.heap[b]? = some o) (hC : C'.h w' F o) : Sat E Γ (M.set i (some b, C')) a w' F := by
 obtain ⟨h1, h2, h3, o1, h4, h5⟩ := s.mem.each b C (List.mem_of_getElem? hM)
 have hF : ∀ k, F k → w'.heap[k]? = w.heap[k]? := fun k hk => hne k (fun e => h3 (e ▸ hk))
 have hi : i < M.length := by
  rcases Nat.lt_or_ge i M.length with h | h
  ·exact h
  ·rw [List.getElem?_eq_none h] at hM; cases hM
 have hMi : M[i] = (some b, C) := by rw [List.getElem?_eq_getElem hi] at hM; exact Option.some.inj hM
 refine { s with keep := ?_, fnew := ?_, flt := ?_, slots := ?_, mem := ⟨?_, ?_⟩ }
 ·refine ⟨hos.trans s.keep.os, htape.trans s.keep.tape, hout.trans s.keep.output, by rw [hsize]; exact s.keep.size, fun k hk hW => ?_⟩
  rw [hne k (fun e => by subst e; rcases h1 with h | h; omega; exact hW h)]
  exact s.keep.block k hk hW
 ·intro k hk; rw [hsize]; exact s.fnew k hk
 ·intro k hk; rw [hsize]; exact s.flt k hk
 ·exact fun t S h => S.mono _ _ _ _ _ (s.slots t S h) hF (fun _ h => h)
 ·rw [List.pairwise_iff_getElem]
  intro j k hj hk hjk
  have hp := List.pairwise_iff_getElem.1 s.mem.apart j k (by simpa using hj) (by simpa using hk) hjk
  simp only [List.getElem_set]
  by_cases e1 : i = j
  ·subst e1
   have : ¬ i = k := by omega
   simp only [if_true, this, if_false]
   rw [hMi] at hp; exact hp
  ·by_cases e2 : i = k
   ·subst e2
    simp only [e1, if_true, if_false]
    rw [hMi] at hp; exact hp
   ·simp only [e1, e2, if_false]; exact hp
 ·intro k D hk
  obtain ⟨j, hj, he⟩ := List.mem_iff_getElem.1 hk
  simp only [List.getElem_set] at he
  by_cases e1 : i = j
  ·subst e1
   simp only [if_true] at he
   obtain ⟨rfl, rfl⟩ : b = k ∧ C' = D := by simpa using he
   exact ⟨h1, by rw [hsize]; exact h2, h3, o, ho, hC⟩
  ·simp only [e1, if_false] at he
   have hjl : j < M.length := by simpa using hj
   obtain ⟨g1, g2, g3, o2, g4, g5⟩ := s.mem.each k D (he ▸ List.getElem_mem hjl)
   have hkb : k ≠ b := by
    intro e; subst e
    rcases Nat.lt_or_gt_of_ne e1 with hlt | hlt
    ·have hp := List.pairwise_iff_getElem.1 s.mem.apart i j hi hjl hlt
     rw [hMi, he] at hp; simp at hp
    ·have hp := List.pairwise_iff_getElem.1 s.mem.apart j i hjl hi hlt
     rw [hMi, he] at hp; simp at hp
   exact ⟨g1, by rw [hsize]; exact g2, g3, o2, (hne k hkb).trans g4, D.mono _ _ _ _ _ g5 hF (fun _ h => h)⟩
theorem setRow_ne (w : World) (g : Nat) (cs : Array Value) (k : Nat) (h : k ≠ g) : (w.setRow g cs).heap[k]? = w.heap[k]? := by
 simp only [World.setRow, Array.getElem?_modify]
 rw [if_neg (fun e => h e.symm)]
theorem setRow_size (w : World) (g : Nat) (cs : Array Value) : (w.setRow g cs).heap.size = w.heap.size := by simp [World.setRow]
theorem Ops.store {x y : Operand} {b off i n : Nat} {g : Bool} {T : TypeId} {Ss Ss1 : List VP} {S : VP} [sh : Shape S Ss1] [o1 : Ones Ss1] (hx : Has E Γ M x (isPtr b off)) (hy : Has E Γ M y S)
  (hM : M[i]? = some (some b, cellM Ss)) (hT : tyB P T = some (n, g)) (hn : Nat.beq Ss1.length n = true) (hl : Nat.ble (off + n) Ss.length = true) {Ss' : List VP} {M' : Mem} (hS : Ss.take off ++ Ss1 ++ Ss.drop (off + n) = Ss')
  (hM' : M.set i (some b, cellM Ss') = M') (k : Ops E P ops Q rest Γ M') : Ops E P ops Q (⟨none, .store T x y, ty, pos, after, none⟩ :: rest) Γ M := by
 intro a w F s
 refine wpList_plain rfl fun K hK => ?_
 obtain ⟨o, hb, vs, T', rfl, hv⟩ := mem_at s hM
 have h1 : a.eval x = .pointer (some ⟨b, off, none⟩) := hx a w F s
 have hy' := sh.cells _ _ _ (hy a w F s)
 have hn' : Ss1.length = n := Nat.eq_of_beq_eq_true hn
 have hl' := Nat.le_of_ble_eq_true hl
 have e1 := hv.len
 have e2 := hy'.len
 have hcs : (a.eval y).cells.size = n := by rw [← Array.length_toList, ← e2, hn']
 unfold Oper.wp
 have hr : (execOp a.eval (⟨none, .store T x y, ty, pos, after, none⟩ : Oper)).run P w = .ok .skip (w.setRow b (vs.take off ++ (a.eval y).cells.toList ++ vs.drop (off + n)).toArray) := by
  have h2 := run_storeCells_at P b off T' (a.eval y).cells.toList 0 vs.toArray w hb (by simp; omega) (hy'.one o1.ones)
  simp only [Nat.add_zero, Array.length_toList, hcs] at h2
  simp only [execOp, h1, Instr.storeAt, Instr.sureAddr, storeVar, Sem.run_bind, Sem.run_pure, Result.andThen_ok, run_size hT, hcs]
  simp only [ne_eq, not_true_eq_false, if_false, h2, Result.andThen_ok]
 rw [hr]
 refine hK _ _ (k _ _ F ?_)
 rw [← hM']
 refine s.write hM rfl rfl rfl (setRow_size _ _ _) (fun k hk => setRow_ne _ _ _ _ hk) (setRow_heap _ _ _ _ _ _ hb) ⟨_, T', rfl, ?_⟩
 have hF : ∀ k, F k → (w.setRow b (vs.take off ++ (a.eval y).cells.toList ++ vs.drop (off + n)).toArray).heap[k]? = w.heap[k]? := fun k hk => setRow_ne _ _ _ _ (fun e => by
  subst e; exact (s.mem.each k _ (List.mem_of_getElem? hM)).2.2.1 hk)
 refine All2.mono hF (fun _ h => h) _ _ ?_
 rw [← hS]
 exact ((hv.take off).append hy').append (hv.drop _)
end
end Go.En
namespace Go.En
open Go.RowKit
theorem gl {g c : Bool} (h : (g && c) = true) : g = true := by cases g <;> simp_all
theorem gr {g c : Bool} (h : (g && c) = true) : c = true := by cases g <;> simp_all
theorem ng {b : Bool} (h : b = false) : (!b) = true := by rw [h]; rfl
theorem ga {g c : Bool} (h : g = true) (k : c = true) : (g && c) = true := by rw [h, k]; rfl
section
variable {E : Env} {P : Program} {Γ : Ctx} {M : Mem} {ty : TypeId} {pos : String} {after : Array Edge}
 {ops : Array Oper} {Q : Exit → Act → World → Prop} {rest : List Oper}
theorem get_bool {a : Act} {t : Nat} {b : Bool} (h : a.tmps.getD t undef = .bool b) : a.tmps[t]? = some (.bool b) := by
 simp only [Array.getD_eq_getD_getElem?] at h
 cases e : a.tmps[t]? with
 | none => rw [e] at h; simp [undef] at h
 | some v => rw [e] at h; simp at h; rw [h]
theorem get_undef {a : Act} {t : Nat} (h : a.tmps.getD t undef = undef) : a.tmps[t]? = none ∨ a.tmps[t]? = some undef := by
 simp only [Array.getD_eq_getD_getElem?] at h
 cases e : a.tmps[t]? with
 | none => exact .inl rfl
 | some v => rw [e] at h; simp at h; rw [h]; exact .inr rfl
theorem yielded_bool {a : Act} {j dj : Nat} {b : Bool} (hj : (ops[j]?).bind (·.dst) = some dj) (h : a.tmps.getD dj undef = .bool b) : yielded ops a.tmps j = some b := by
 simp [yielded, hj, get_bool h]
theorem yielded_undef {a : Act} {j dj : Nat} (hj : (ops[j]?).bind (·.dst) = some dj) (h : a.tmps.getD dj undef = undef) : yielded ops a.tmps j = none := by
 rcases get_undef h with e | e <;> simp [yielded, hj, e, undef]
theorem wanted_of {a : Act} {w : World} {F : Blk} (s : Sat E Γ M a w F) {o : Oper} {j dj : Nat} {want g c : Bool} (hg : o.guard = some (j, want)) (hj : (ops[j]?).bind (·.dst) = some dj)
    (hs : (G g (isB c)).h w F (a.tmps.getD dj undef)) : Region.wanted o (yielded ops a.tmps) = (g && (c == want)) := by
  simp only [Region.wanted, hg]
  cases hgb : g with
  | true =>
    have : a.tmps.getD dj undef = .bool c := by simpa [G, hgb, isB, VP.pure] using hs
    rw [yielded_bool hj this]; cases c <;> cases want <;> rfl
  | false =>
    have : a.tmps.getD dj undef = undef := by simpa [G, hgb] using hs
    rw [yielded_undef hj this]; cases want <;> rfl
theorem stG {d : Nat} {op : Op} {S : VP} {j dj : Nat} {want g c : Bool} (hj : (ops[j]?).bind (·.dst) = some dj) (hs : ∀ a w F, Sat E Γ M a w F → (G g (isB c)).h w F (a.tmps.getD dj undef))
  (h : (g && (c == want)) = true → OK1 E P Γ M ⟨some d, op, ty, pos, after, some (j, want)⟩ S) (hd : Nat.blt d E.n = true) (k : Ops E P ops Q rest ((d, G (g && (c == want)) S) :: Γ) M) :
  Ops E P ops Q (⟨some d, op, ty, pos, after, some (j, want)⟩ :: rest) Γ M := by
 intro a w F s
 have hd' : d < E.n := by simpa [Nat.blt_eq] using hd
 refine wpList_step fun K hK => ?_
 rw [wanted_of s rfl hj (hs a w F s)]
 by_cases hw : (g && (c == want)) = true
 ·rw [if_pos hw]
  refine h hw a w F s K Q ?_
  intro v w' F' ad hv
  exact hK _ _ (k _ _ _ ((s.adv ad).put hd' (by show (if _ then _ else _); rw [if_pos hw]; exact hv)))
 ·rw [if_neg hw]
  exact hK _ _ (k _ _ _ (s.put hd' (by show (if _ then _ else _); rw [if_neg hw])))
theorem hasG0 {c : Bool} {dj : Nat} (h : look Γ dj = some (isB c)) : ∀ a w F, Sat E Γ M a w F → (G true (isB c)).h w F (a.tmps.getD dj undef) := fun a w F s => s.slots dj _ h
theorem hasG1 {g c : Bool} {dj : Nat} (h : look Γ dj = some (G g (isB c))) : ∀ a w F, Sat E Γ M a w F → (G g (isB c)).h w F (a.tmps.getD dj undef) := fun a w F s => s.slots dj _ h
theorem e1 {c : Bool} : (true && (c == true)) = c := by cases c <;> rfl
theorem e2 {c : Bool} : (true && (c == false)) = !c := by cases c <;> rfl
theorem e3 {g c : Bool} : (g && (c == true)) = (g && c) := by cases c <;> cases g <;> rfl
theorem e4 {g c : Bool} : (g && (c == false)) = (g && !c) := by cases c <;> cases g <;> rfl
theorem stT {d : Nat} {op : Op} {S : VP} {j dj : Nat} {c : Bool} (hj : (ops[j]?).bind (·.dst) = some dj) (hs : look Γ dj = some (isB c))
  (h : c = true → OK1 E P Γ M ⟨some d, op, ty, pos, after, some (j, true)⟩ S) (hd : Nat.blt d E.n = true) (k : Ops E P ops Q rest ((d, G c S) :: Γ) M) :
  Ops E P ops Q (⟨some d, op, ty, pos, after, some (j, true)⟩ :: rest) Γ M := by
 refine stG (S := S) hj (hasG0 hs) (fun hw => h (by rwa [e1] at hw)) hd ?_
 rw [e1]; exact k
theorem stF {d : Nat} {op : Op} {S : VP} {j dj : Nat} {c : Bool} (hj : (ops[j]?).bind (·.dst) = some dj) (hs : look Γ dj = some (isB c))
  (h : (!c) = true → OK1 E P Γ M ⟨some d, op, ty, pos, after, some (j, false)⟩ S) (hd : Nat.blt d E.n = true) (k : Ops E P ops Q rest ((d, G (!c) S) :: Γ) M) :
  Ops E P ops Q (⟨some d, op, ty, pos, after, some (j, false)⟩ :: rest) Γ M := by
 refine stG (S := S) hj (hasG0 hs) (fun hw => h (by rwa [e2] at hw)) hd ?_
 rw [e2]; exact k
theorem stGT {d : Nat} {op : Op} {S : VP} {j dj : Nat} {g c : Bool} (hj : (ops[j]?).bind (·.dst) = some dj) (hs : look Γ dj = some (G g (isB c)))
  (h : (g && c) = true → OK1 E P Γ M ⟨some d, op, ty, pos, after, some (j, true)⟩ S) (hd : Nat.blt d E.n = true) (k : Ops E P ops Q rest ((d, G (g && c) S) :: Γ) M) :
  Ops E P ops Q (⟨some d, op, ty, pos, after, some (j, true)⟩ :: rest) Γ M := by
 refine stG (S := S) hj (hasG1 hs) (fun hw => h (by rwa [e3] at hw)) hd ?_
 rw [e3]; exact k
/-! ### drawn orders -/
def maskOf (ms : List Nat) (o : Oper) : Nat := o.after.toList.foldl (fun acc e => match Region.binds .any e with
 | true => acc ||| 2 ^ e.on ||| ms.getD e.on 0
 | false => acc) 0
def masks : List Oper → List Nat → List Nat
 | [], ms => ms
 | o :: r, ms => masks r (ms ++ [maskOf ms o])
theorem masks_len : ∀ (l : List Oper) (ms : List Nat), (masks l ms).length = ms.length + l.length
 | [], ms => by simp [masks]
 | o :: r, ms => by rw [masks, masks_len r]; simp; omega
theorem masks_old : ∀ (l : List Oper) (ms : List Nat) (i : Nat), i < ms.length → (masks l ms)[i]? = ms[i]?
 | [], ms, i, h => rfl
 | o :: r, ms, i, h => by rw [masks, masks_old r _ i (by simp; omega), List.getElem?_append_left h]
theorem masks_at : ∀ (l : List Oper) (ms : List Nat) (i : Nat) (o : Oper), l[i]? = some o → ∃ ms', ms'.length = ms.length + i ∧ (∀ j, j < ms'.length → ms'[j]? = (masks l ms)[j]?) ∧ (masks l ms)[ms.length + i]? = some (maskOf ms' o)
  | [], ms, i, o, h => by simp at h
  | o' :: r, ms, 0, o, h => by
    simp at h; subst h
    refine ⟨ms, by simp, fun j hj => ?_, ?_⟩
    · rw [masks, masks_old _ _ _ (by simp; omega), List.getElem?_append_left hj]
    · rw [masks, masks_old _ _ _ (by simp)]; simp
  | o' :: r, ms, i + 1, o, h => by
    simp at h
    obtain ⟨ms', h1, h2, h3⟩ := masks_at r (ms ++ [maskOf ms o']) i o h
    refine ⟨ms', by simp at h1; omega, h2, ?_⟩
    rw [masks, ← h3]; simp; congr 1; omega
theorem fold_bit (ms : List Nat) (j : Nat) : ∀ (es : List Edge) (acc : Nat), (es.foldl (fun acc e => match Region.binds .any e with
    | true => acc ||| 2 ^ e.on ||| ms.getD e.on 0
    | false => acc) acc).testBit j = true → acc.testBit j = true ∨ ∃ e ∈ es, Region.binds .any e = true ∧ (e.on = j ∨ (ms.getD e.on 0).testBit j = true)
  | [], acc, h => .inl h
  | e :: es, acc, h => by
    rcases fold_bit ms j es _ h with h1 | ⟨e', h1, h2, h3⟩
    · cases hb : Region.binds .any e with
      | false => simp only [hb] at h1; exact .inl h1
      | true =>
        simp only [hb] at h1
        simp only [Nat.testBit_or, Bool.or_eq_true, Nat.testBit_two_pow] at h1
        rcases h1 with (h1 | h1) | h1
        · exact .inl h1
        · exact .inr ⟨e, by simp, hb, .inl (by simpa using h1)⟩
        · exact .inr ⟨e, by simp, hb, .inr h1⟩
    · exact .inr ⟨e', by simp [h1], h2, h3⟩
def Closed (l : List Oper) (L : Nat → Prop) : Prop := ∀ i o, l[i]? = some o → L i → ∀ e ∈ o.after, Region.binds .any e = true → L e.on
theorem reach {l : List Oper} {L : Nat → Prop} (hc : Closed l L) : ∀ (i : Nat) (o : Oper), l[i]? = some o → (∀ e ∈ o.after, Region.binds .any e = true → L e.on) → ∀ j m, (masks l [])[i]? = some m → m.testBit j = true → L j := by
  intro i
  induction i using Nat.strongRecOn with
  | _ i ih =>
    intro o ho hd j m hm hj
    obtain ⟨ms', h1, h2, h3⟩ := masks_at l [] i o ho
    simp at h1 h3
    rw [hm] at h3
    obtain rfl : m = maskOf ms' o := Option.some.inj h3
    rcases fold_bit ms' j _ _ hj with h | ⟨e, he, hb, h⟩
    · simp at h
    · have hL := hd e (by simpa using he) hb
      rcases h with rfl | h
      · exact hL
      · have hlt : e.on < ms'.length := by
          rcases Nat.lt_or_ge e.on ms'.length with h' | h'
          · exact h'
          · simp [List.getD, List.getElem?_eq_none h'] at h
        have hol : e.on < l.length := by
          have : i < l.length := by
            rcases Nat.lt_or_ge i l.length with h' | h'
            · exact h'
            · rw [List.getElem?_eq_none h'] at ho; cases ho
          omega
        refine ih e.on (by omega) _ (List.getElem?_eq_getElem hol) (fun e' he' hb' => hc e.on _ (List.getElem?_eq_getElem hol) hL e' he' hb') j (ms'.getD e.on 0) ?_ h
        rw [← h2 e.on hlt]; simp [List.getD, List.getElem?_eq_getElem hlt]
def dctx : List Oper → List VP → Ctx
  | o :: r, S :: Ss => match o.dst with
    | some d => (d, S) :: dctx r Ss
    | none => dctx r Ss
  | _, _ => []
def OKG (E : Env) (P : Program) (ops : Array Oper) (Γ : Ctx) (M : Mem) (o : Oper) (S : VP) : Prop :=
  ∀ a w F, Sat E Γ M a w F → ∀ (K : Act → World → Prop) (Q : Exit → Act → World → Prop), (∀ v w' F', Adv w F w' F' → S.h w' F' v → K (a.put o.dst v) w') →
    if Region.wanted o (yielded ops a.tmps) then o.wp P a w K Q ∨ (o.asks P a w ∧ LetsOut Q) else K (a.put o.dst undef) w
theorem OKG.o {o : Oper} {S : VP} (hg : o.guard = none) (h : OK1 E P Γ M o S) : OKG E P ops Γ M o S := by
 intro a w F s K Q hK
 rw [if_pos (by simp [Region.wanted, hg])]
 exact .inl (h a w F s K Q hK)
theorem OKG.gd {o : Oper} {S : VP} {j dj : Nat} {want g c : Bool} (hg : o.guard = some (j, want)) (hj : (ops[j]?).bind (·.dst) = some dj) (hs : ∀ a w F, Sat E Γ M a w F → (G g (isB c)).h w F (a.tmps.getD dj undef))
  (h : (g && (c == want)) = true → OK1 E P Γ M o S) : OKG E P ops Γ M o (G (g && (c == want)) S) := by
 intro a w F s K Q hK
 rw [wanted_of s hg hj (hs a w F s)]
 by_cases hw : (g && (c == want)) = true
 ·rw [if_pos hw]
  exact .inl (h hw a w F s K Q fun v w' F' ad hv => hK v w' F' ad (by show (if _ then _ else _); rw [if_pos hw]; exact hv))
 ·rw [if_neg hw]
  exact hK undef w F (Adv.refl _ _) (by show (if _ then _ else _); rw [if_neg hw])
theorem OKG.T {o : Oper} {S : VP} {j dj : Nat} {c : Bool} (hg : o.guard = some (j, true)) (hj : (ops[j]?).bind (·.dst) = some dj) (hs : look Γ dj = some (isB c)) (h : c = true → OK1 E P Γ M o S) : OKG E P ops Γ M o (G c S) := by
 have := OKG.gd (S := S) hg hj (hasG0 hs) (fun hw => h (by rwa [e1] at hw)); rwa [e1] at this
theorem OKG.F {o : Oper} {S : VP} {j dj : Nat} {c : Bool} (hg : o.guard = some (j, false)) (hj : (ops[j]?).bind (·.dst) = some dj) (hs : look Γ dj = some (isB c)) (h : (!c) = true → OK1 E P Γ M o S) : OKG E P ops Γ M o (G (!c) S) := by
 have := OKG.gd (S := S) hg hj (hasG0 hs) (fun hw => h (by rwa [e2] at hw)); rwa [e2] at this
structure AdvX (E : Env) (M : Mem) (a : Act) (w : World) (F : Blk) (w' : World) (F' : Blk) : Prop where
 same : ∀ b, F b → w'.heap[b]? = w.heap[b]?
 sub : ∀ b, F b → F' b
 adv : ∀ Γ M', M.Sublist M' → Sat E Γ M' a w F → Sat E Γ M' a w' F'
def OKX (E : Env) (P : Program) (ops : Array Oper) (Γ : Ctx) (M : Mem) (o : Oper) (S : VP) : Prop :=
  ∀ a w F, Sat E Γ M a w F → ∀ (K : Act → World → Prop) (Q : Exit → Act → World → Prop), (∀ v w' F', AdvX E M a w F w' F' → S.h w' F' v → K (a.put o.dst v) w') →
    if Region.wanted o (yielded ops a.tmps) then o.wp P a w K Q ∨ (o.asks P a w ∧ LetsOut Q) else K (a.put o.dst undef) w
theorem OKG.x {o : Oper} {S : VP} (h : OKG E P ops Γ M o S) : OKX E P ops Γ M o S := fun a w F s K Q hK => h a w F s K Q fun v w' F' ad hv => hK v w' F' ⟨ad.same s.flt, ad.sub, fun _ _ _ s' => s'.adv ad⟩ hv
inductive DrO (E : Env) (l : List Oper) (Γ : Ctx) (ok : Ctx → Oper → VP → Prop) : Nat → List VP → Prop
 | nil : DrO E l Γ ok 0 []
 | snoc {i d : Nat} {Ss : List VP} {S : VP} {o : Oper} (Δ : Ctx) : DrO E l Γ ok i Ss → l[i]? = some o → o.dst = some d → Nat.blt d E.n = true →
   (∀ t S, look Δ t = some S → (∃ (j : Nat) (oj : Oper), (((masks l [])[i]?).getD 0).testBit j = true ∧ l[j]? = some oj ∧ oj.dst = some t ∧ Ss[j]? = some S) ∨ look Γ t = some S) →
   ok Δ o S → DrO E l Γ ok (i + 1) (Ss ++ [S])
abbrev DrW (E : Env) (P : Program) (l : List Oper) (Γ : Ctx) (M : Mem) : Nat → List VP → Prop := DrO E l Γ fun Δ o S => OKX E P l.toArray Δ M o S
theorem look_append : ∀ (A B : Ctx) (t : Nat), look (A ++ B) t = (look A t).or (look B t)
  | [], B, t => by simp [look]
  | (k, S) :: A, B, t => by
    simp only [List.cons_append, look]
    cases Nat.beq k t with
    | true => rfl
    | false => exact look_append A B t
def Done (l : List Oper) (Ss : List VP) (L : Nat → Prop) (a : Act) (w : World) (F : Blk) : Prop :=
 ∀ j o d S, L j → l[j]? = some o → o.dst = some d → Ss[j]? = some S → S.h w F (a.tmps.getD d undef)
theorem look_dctx : ∀ (l : List Oper) (Ss : List VP) (t : Nat) (S : VP), look (dctx l Ss) t = some S → ∃ (j : Nat) (o : Oper), l[j]? = some o ∧ o.dst = some t ∧ Ss[j]? = some S
  | [], Ss, t, S, h => by simp [dctx, look] at h
  | o :: r, [], t, S, h => by simp [dctx, look] at h
  | o :: r, S0 :: Ss, t, S, h => by
    simp only [dctx] at h
    cases hd : o.dst with
    | none => rw [hd] at h; obtain ⟨j, o', a, b, c⟩ := look_dctx r Ss t S h; exact ⟨j + 1, o', by simpa using a, b, by simpa using c⟩
    | some d =>
      rw [hd] at h
      simp only [look] at h
      cases hb : Nat.beq d t with
      | false => rw [hb] at h; obtain ⟨j, o', a, b, c⟩ := look_dctx r Ss t S h; exact ⟨j + 1, o', by simpa using a, b, by simpa using c⟩
      | true =>
        rw [hb] at h; simp at h; subst h
        obtain rfl := Nat.eq_of_beq_eq_true hb
        exact ⟨0, o, rfl, hd, rfl⟩
theorem DrO.at {l : List Oper} {n : Nat} {Ss : List VP} {ok : Ctx → Oper → VP → Prop} (h : DrO E l Γ ok n Ss) : Ss.length = n ∧ ∀ i, i < n → ∃ (o : Oper) (d : Nat) (S : VP) (Δ : Ctx), l[i]? = some o ∧ o.dst = some d ∧ d < E.n ∧ Ss[i]? = some S ∧
    (∀ t S, look Δ t = some S → (∃ (j : Nat) (oj : Oper), (((masks l [])[i]?).getD 0).testBit j = true ∧ l[j]? = some oj ∧ oj.dst = some t ∧ Ss[j]? = some S) ∨ look Γ t = some S) ∧ ok Δ o S := by
  induction h with
  | nil => exact ⟨rfl, fun i hi => absurd hi (by omega)⟩
  | @snoc i d Ss S o Δ h0 h1 h2 h3 h4 h5 ih =>
    obtain ⟨ih1, ih2⟩ := ih
    have up : ∀ (j : Nat) (T : VP), Ss[j]? = some T → (Ss ++ [S])[j]? = some T := fun j T hT => by
      have : j < Ss.length := by
        rcases Nat.lt_or_ge j Ss.length with h | h
        · exact h
        · rw [List.getElem?_eq_none h] at hT; cases hT
      rw [List.getElem?_append_left this]; exact hT
    refine ⟨by simp [ih1], fun k hk => ?_⟩
    by_cases e : k = i
    · subst e
      refine ⟨o, d, S, Δ, h1, h2, by simpa [Nat.blt_eq] using h3, by rw [List.getElem?_append_right (by omega)]; simp [ih1], fun t T hT => ?_, h5⟩
      rcases h4 t T hT with ⟨j, oj, b1, b2, b3, b4⟩ | h
      · exact .inl ⟨j, oj, b1, b2, b3, up j T b4⟩
      · exact .inr h
    · obtain ⟨o', d', S', Δ', a1, a2, a3, a4, a5, a6⟩ := ih2 k (by omega)
      refine ⟨o', d', S', Δ', a1, a2, a3, up _ _ a4, fun t T hT => ?_, a6⟩
      rcases a5 t T hT with ⟨j, oj, b1, b2, b3, b4⟩ | h
      · exact .inl ⟨j, oj, b1, b2, b3, up j T b4⟩
      · exact .inr h
def apartB (l : List Oper) (n : Nat) (Γ : Ctx) : Bool :=
  (List.range n).all fun i => match (l[i]?).bind (·.dst) with
    | none => true
    | some d => (Γ.all fun p => !Nat.beq p.1 d) && (List.range n).all fun j => Nat.beq i j || match (l[j]?).bind (·.dst) with
      | none => true
      | some e => !Nat.beq d e
def tailB (l : List Oper) (n : Nat) : Bool := (List.range l.length).all fun i =>
 (match l[i]? with
 | none => true
 | some o => o.after.toList.all fun e => !Region.binds .any e || Nat.blt e.on i) &&
 (Nat.blt i n || (List.range i).all fun j => (((masks l [])[i]?).getD 0).testBit j)
theorem look_none {Γ : Ctx} {d : Nat} (h : (Γ.all fun p => !Nat.beq p.1 d) = true) : ∀ t S, look Γ t = some S → t ≠ d := by
  induction Γ with
  | nil => intro t S h; simp [look] at h
  | cons p Γ ih =>
    obtain ⟨k, S0⟩ := p
    simp only [List.all_cons, Bool.and_eq_true, Bool.not_eq_true'] at h
    intro t S ht
    simp only [look] at ht
    cases hb : Nat.beq k t with
    | true => obtain rfl := Nat.eq_of_beq_eq_true hb; exact Nat.ne_of_beq_eq_false h.1
    | false => rw [hb] at ht; exact ih h.2 t S ht
theorem tailB_spec {l : List Oper} {n : Nat} (h : tailB l n = true) : (∀ (i : Nat) (o : Oper), l[i]? = some o → ∀ e ∈ o.after, Region.binds .any e = true → e.on < i) ∧
  (∀ i, i < l.length → n ≤ i → ∀ j, j < i → ∃ m, (masks l [])[i]? = some m ∧ m.testBit j = true) := by
 unfold tailB at h
 rw [List.all_eq_true] at h
 constructor
 ·intro i o ho e he hb
  have hi : i < l.length := by
   rcases Nat.lt_or_ge i l.length with h' | h'
   ·exact h'
   ·rw [List.getElem?_eq_none h'] at ho; cases ho
  have := h i (by simpa using hi)
  rw [ho] at this
  simp only [Bool.and_eq_true, List.all_eq_true] at this
  have h2 := this.1 e (by simpa using he)
  rw [hb] at h2
  simpa [Nat.blt_eq] using h2
 ·intro i hi hn j hj
  have := h i (by simpa using hi)
  simp only [Bool.and_eq_true, Bool.or_eq_true, List.all_eq_true] at this
  rcases this.2 with h1 | h1
  ·rw [Nat.blt_eq] at h1; omega
  ·have hlen : i < (masks l []).length := by rw [masks_len]; simpa using hi
   refine ⟨_, List.getElem?_eq_getElem hlen, ?_⟩
   have := h1 j (by simpa using hj)
   rw [List.getElem?_eq_getElem hlen] at this
   exact this
theorem phaseB {l : List Oper} {n : Nat} (htl : tailB l n = true) : ∀ (fuel i : Nat) (listed : Array Bool) (a : Act) (w : World), n ≤ i → l.length - i ≤ fuel → listed.size = l.length →
    (∀ j, j < i → j < l.length → listed.getD j true = true) → (∀ j, i ≤ j → j < l.length → listed.getD j true = false) → Closed l (fun j => listed.getD j false = true) →
    wpList P l.toArray Q (l.drop i) a w → wpAny P .any l.toArray Q fuel listed a w := by
  have hsp := tailB_spec htl
  have only : ∀ (i : Nat) (listed : Array Bool), n ≤ i → listed.size = l.length → (∀ j, j < i → j < l.length → listed.getD j true = true) → (∀ j, i ≤ j → j < l.length → listed.getD j true = false) → Closed l (fun j => listed.getD j false = true) →
      ∀ j, j ∈ Region.ready .any l.toArray listed → j = i ∧ i < l.length := by
    intro i listed hn hsz h1 h2 hc j hj
    rw [mem_ready] at hj
    obtain ⟨g1, o, g2, g3⟩ := hj
    have g2' : l[j]? = some o := by simpa using g2
    have hjl : j < l.length := by
      rcases Nat.lt_or_ge j l.length with h' | h'
      · exact h'
      · rw [List.getElem?_eq_none h'] at g2'; cases g2'
    have hge : i ≤ j := by
      rcases Nat.lt_or_ge j i with h' | h'
      · rw [h1 j h' hjl] at g1; cases g1
      · exact h'
    rcases Nat.lt_or_ge i j with h' | h'
    · obtain ⟨m, hm, hb⟩ := hsp.2 j hjl (by omega) i h'
      have := reach hc j o g2' g3 i m hm hb
      have e := h2 i (Nat.le_refl _) (by omega)
      simp only [Array.getD_eq_getD_getElem?] at this e
      have hi : i < listed.size := by omega
      simp [hi] at this e
      rw [this] at e; cases e
    · exact ⟨by omega, by omega⟩
  intro fuel
  induction fuel with
  | zero =>
    intro i listed a w hn hf hsz h1 h2 hc hl
    have hi : l.length ≤ i := by omega
    rw [List.drop_eq_nil_of_le hi] at hl
    refine ⟨?_, hl⟩
    cases hr : Region.ready .any l.toArray listed with
    | nil => rfl
    | cons j js => have := only i listed hn hsz h1 h2 hc j (by rw [hr]; simp); omega
  | succ fuel ih =>
    intro i listed a w hn hf hsz h1 h2 hc hl
    refine ⟨fun hr => ?_, fun j hj => ?_⟩
    · rcases Nat.lt_or_ge i l.length with hi | hi
      · have : i ∈ Region.ready .any l.toArray listed := by
          rw [mem_ready]
          refine ⟨h2 i (Nat.le_refl _) hi, l[i], by simp [hi], fun e he hb => ?_⟩
          have := hsp.1 i _ (List.getElem?_eq_getElem hi) e he hb
          have h3 := h1 e.on this (by omega)
          have : e.on < listed.size := by omega
          simp [this] at h3 ⊢; exact h3
        rw [hr] at this; simp at this
      · rw [List.drop_eq_nil_of_le hi] at hl; exact hl
    · obtain ⟨rfl, hi⟩ := only i listed hn hsz h1 h2 hc j hj
      have hdrop : l.drop j = l[j] :: l.drop (j + 1) := List.drop_eq_getElem_cons hi
      rw [hdrop] at hl
      have hnext : ∀ a w, wpList P l.toArray Q (l.drop (j + 1)) a w → wpAny P .any l.toArray Q fuel (listed.setIfInBounds j true) a w := by
        intro a w hl'
        refine ih (j + 1) _ a w (by omega) (by omega) (by simp [hsz]) (fun k hk hkl => ?_) (fun k hk hkl => ?_) ?_ hl'
        · by_cases e : k = j
          · subst e; simp [hsz, hi]
          · rw [getD_set_ne true (fun h => e h.symm)]; exact h1 k (by omega) hkl
        · rw [getD_set_ne true (by omega)]; exact h2 k (by omega) hkl
        · intro k o hk hL e he hb
          by_cases ek : k = j
          · subst ek
            exact getD_set_true (by
              rw [mem_ready] at hj
              obtain ⟨_, o', ho', hall⟩ := hj
              have : l[k]? = some o' := by simpa using ho'
              rw [hk] at this; obtain rfl := Option.some.inj this
              exact hall e he hb)
          · exact getD_set_true (hc k o hk (by
              have hL' : (listed.setIfInBounds j true).getD k false = true := hL
              rwa [getD_set_ne false (fun h => ek h.symm)] at hL') e he hb)
      have ho : l.toArray[j]? = some l[j] := by simp [hi]
      unfold wpOp
      rw [ho]
      simp only []
      unfold wpList at hl
      split
      · rename_i hw; rw [if_pos hw] at hl; exact hl.imp (Oper.wp_mono hnext) id
      · rename_i hw; rw [if_neg hw] at hl; exact hnext _ _ hl
theorem Sat.putOut {a : Act} {w : World} {F : Blk} (s : Sat E Γ M a w F) {d : Nat} (hd : d < E.n) (v : Value) (h : ∀ t S, look Γ t = some S → t ≠ d) : Sat E Γ M (a.put (some d) v) w F :=
 {defers := s.defers, size := by simp [Act.put, s.size], keep := s.keep, f0 := s.f0, fnew := s.fnew, flt := s.flt, mem := s.mem,
  slots := fun t S' ht => by
   rw [getD_put (by rw [s.size]; exact hd), if_neg (fun e => h t S' ht e.symm)]
   exact s.slots t S' ht }
theorem Sat.wider {Γ' : Ctx} {a : Act} {w : World} {F : Blk} (s : Sat E Γ M a w F) (h : ∀ t S, look Γ' t = some S → S.h w F (a.tmps.getD t undef)) : Sat E Γ' M a w F := { s with slots := h }
theorem count_ge {listed : Array Bool} {n len : Nat} (hsz : listed.size = len) (h : ∀ j, n ≤ j → j < len → listed.getD j true = false) : len - n ≤ listed.toList.countP (· == false) := by
 have h1 : listed.toList.countP (· == false) = (listed.toList.take n).countP (· == false) + (listed.toList.drop n).countP (· == false) := by
  rw [← List.countP_append, List.take_append_drop]
 have h2 : (listed.toList.drop n).countP (· == false) = (listed.toList.drop n).length := by
  rw [List.countP_eq_length]
  intro b hb
  obtain ⟨j, hj, rfl⟩ := List.mem_iff_getElem.1 hb
  simp at hj
  have := h (n + j) (by omega) (by omega)
  have hlt : n + j < listed.size := by omega
  simp [hlt] at this
  simp [this]
 rw [List.length_drop, Array.length_toList, hsz] at h2
 omega
theorem phaseA {l : List Oper} {n : Nat} {Ss : List VP} (hD : DrW E P l Γ M n Ss) (hap : apartB l n Γ = true) (htl : tailB l n = true) (hnl : n ≤ l.length)
    (k : Ops E P l.toArray Q (l.drop n) (dctx (l.take n) Ss ++ Γ) M) :
    ∀ (fuel : Nat) (listed : Array Bool) (a : Act) (w : World) (F : Blk), listed.toList.countP (· == false) ≤ fuel → listed.size = l.length →
    (∀ j, n ≤ j → j < l.length → listed.getD j true = false) → Closed l (fun j => listed.getD j false = true) → Sat E Γ M a w F → Done l Ss (fun j => listed.getD j false = true) a w F →
    wpAny P .any l.toArray Q fuel listed a w := by
  obtain ⟨hlen, hat⟩ := hD.at
  have hsp := tailB_spec htl
  have gd : ∀ (listed : Array Bool) j, j < listed.size → listed.getD j true = listed.getD j false := fun listed j hj => by simp [hj]
  have hapart : ∀ i d, i < n → (l[i]?).bind (·.dst) = some d → (∀ t S, look Γ t = some S → t ≠ d) ∧ ∀ j e, j < n → j ≠ i → (l[j]?).bind (·.dst) = some e → e ≠ d := by
    intro i d hi hd
    unfold apartB at hap
    rw [List.all_eq_true] at hap
    have h1 := hap i (by simpa using hi)
    rw [hd] at h1
    simp only [Bool.and_eq_true] at h1
    refine ⟨look_none h1.1, fun j e hj hne he => ?_⟩
    have h2 := List.all_eq_true.1 h1.2 j (by simpa using hj)
    rw [he] at h2
    simp only [Bool.or_eq_true, Bool.not_eq_true'] at h2
    rcases h2 with h2 | h2
    · exact absurd (Nat.eq_of_beq_eq_true h2).symm hne
    · exact fun e' => Nat.ne_of_beq_eq_false h2 e'.symm
  intro fuel
  induction fuel with
  | zero =>
    intro listed a w F hcnt hsz htail hc s hdone
    have hge := count_ge hsz htail
    have hall : ∀ j, j < n → j < l.length → listed.getD j true = true := by
      intro j hj hjl
      have hlt : j < listed.size := by omega
      have h0 : listed.toList.countP (· == false) = 0 := by omega
      rw [List.countP_eq_zero] at h0
      have := h0 listed[j] (by simp)
      simp [hlt]
      simpa using this
    refine phaseB htl 0 n listed a w (Nat.le_refl _) (by omega) hsz hall htail hc (k a w F (s.wider ?_))
    intro t S ht
    rw [look_append] at ht
    cases hl : look (dctx (l.take n) Ss) t with
    | none => rw [hl] at ht; exact s.slots t S (by simpa using ht)
    | some S' =>
      rw [hl] at ht
      obtain rfl : S' = S := by simpa using ht
      obtain ⟨j, o, h1, h2, h3⟩ := look_dctx _ _ _ _ hl
      have hj : j < n := by
        rcases Nat.lt_or_ge j n with h' | h'
        · exact h'
        · rw [List.getElem?_eq_none (by omega)] at h3; cases h3
      rw [List.getElem?_take_of_lt hj] at h1
      exact hdone j o t S' (by have h4 := hall j hj (by omega); rw [gd listed j (by omega)] at h4; exact h4) h1 h2 h3
  | succ fuel ih =>
    intro listed a w F hcnt hsz htail hc s hdone
    by_cases hall : ∀ j, j < n → j < l.length → listed.getD j true = true
    · have hge := count_ge hsz htail
      refine phaseB htl (fuel + 1) n listed a w (Nat.le_refl _) (by omega) hsz hall htail hc (k a w F (s.wider ?_))
      intro t S ht
      rw [look_append] at ht
      cases hl : look (dctx (l.take n) Ss) t with
      | none => rw [hl] at ht; exact s.slots t S (by simpa using ht)
      | some S' =>
        rw [hl] at ht
        obtain rfl : S' = S := by simpa using ht
        obtain ⟨j, o, h1, h2, h3⟩ := look_dctx _ _ _ _ hl
        have hj : j < n := by
          rcases Nat.lt_or_ge j n with h' | h'
          · exact h'
          · rw [List.getElem?_eq_none (by omega)] at h3; cases h3
        rw [List.getElem?_take_of_lt hj] at h1
        exact hdone j o t S' (by have h4 := hall j hj (by omega); rw [gd listed j (by omega)] at h4; exact h4) h1 h2 h3
    · have hex : ∃ j, j < n ∧ listed.getD j true = false := by
        refine Classical.byContradiction fun hno => hall fun j hj _ => ?_
        cases hb : listed.getD j true with
        | true => rfl
        | false => exact absurd ⟨j, hj, hb⟩ hno
      refine ⟨fun hr => ?_, fun i hi => ?_⟩
      · obtain ⟨j, ⟨hj1, hj2⟩, hmin⟩ := exists_least hex
        have : j ∈ Region.ready .any l.toArray listed := by
          rw [mem_ready]
          have hjl : j < l.length := by omega
          refine ⟨hj2, l[j], by simp [hjl], fun e he hb => ?_⟩
          have hlt := hsp.1 j _ (List.getElem?_eq_getElem hjl) e he hb
          cases hbb : listed.getD e.on true with
          | true => rw [gd listed e.on (by omega)] at hbb; exact hbb
          | false => have := hmin e.on ⟨by omega, hbb⟩; omega
        rw [hr] at this; simp at this
      · have hi' := hi
        rw [mem_ready] at hi
        obtain ⟨g1, o, g2, g3⟩ := hi
        have g2' : l[i]? = some o := by simpa using g2
        have hil : i < l.length := by
          rcases Nat.lt_or_ge i l.length with h' | h'
          · exact h'
          · rw [List.getElem?_eq_none h'] at g2'; cases g2'
        have hin : i < n := by
          rcases Nat.lt_or_ge i n with h' | h'
          · exact h'
          · obtain ⟨j, hj1, hj2⟩ := hex
            obtain ⟨m, hm, hb⟩ := hsp.2 i hil h' j (by omega)
            have := reach hc i o g2' g3 j m hm hb
            have e : listed.getD j false = true := this
            rw [← gd listed j (by omega), hj2] at e; cases e
        obtain ⟨o', d, S, Δ, a1, a2, a3, a4, a6, a7⟩ := hat i hin
        rw [g2'] at a1; obtain rfl := Option.some.inj a1
        have hbind : (l[i]?).bind (·.dst) = some d := by rw [g2']; exact a2
        obtain ⟨ap1, ap2⟩ := hapart i d hin hbind
        have hsat : Sat E Δ M a w F := s.wider (fun t S' ht => by
          rcases a6 t S' ht with ⟨j, oj, b0, b1, b2, b3⟩ | h
          · have hmask : i < (masks l []).length := by rw [masks_len]; simpa using hil
            rw [List.getElem?_eq_getElem hmask] at b0
            exact hdone j oj t S' (reach hc i o g2' g3 j _ (List.getElem?_eq_getElem hmask) (by simpa using b0)) b1 b2 b3
          · exact s.slots t S' h)
        have hstep := a7 a w F hsat (wpAny P .any l.toArray Q fuel (listed.setIfInBounds i true)) Q
        have hgo : ∀ v w' F', AdvX E M a w F w' F' → S.h w' F' v → wpAny P .any l.toArray Q fuel (listed.setIfInBounds i true) (a.put o.dst v) w' := by
          intro v w' F' ad hv
          rw [a2]
          have s1 := ad.adv _ _ (List.Sublist.refl _) s
          refine ih _ _ w' F' ?_ (by simp [hsz]) (fun j hj hjl => ?_) ?_ (s1.putOut a3 v ap1) ?_
          · have hlt : i < listed.toList.length := by simp; omega
            have hli : listed.toList[i] = false := by
              have : i < listed.size := by omega
              simp [this] at g1; simpa using g1
            rw [Array.toList_setIfInBounds, List.countP_set hlt]
            rw [hli]
            have hpos : 0 < listed.toList.countP (· == false) := List.countP_pos_iff.2 ⟨false, by rw [← hli]; exact List.getElem_mem _, rfl⟩
            simp only [beq_self_eq_true, if_true]
            show _ - 1 + 0 ≤ fuel
            omega
          · rw [getD_set_ne true (by omega)]; exact htail j hj hjl
          · intro j oj hj hL e he hb
            by_cases ek : j = i
            · subst ek
              rw [g2'] at hj; obtain rfl := Option.some.inj hj
              exact getD_set_true (g3 e he hb)
            · exact getD_set_true (hc j oj hj (by
                have hL' : (listed.setIfInBounds i true).getD j false = true := hL
                rwa [getD_set_ne false (fun h => ek h.symm)] at hL') e he hb)
          · intro j oj dj Sj hL hj hdj hSj
            rw [getD_put (by rw [s1.size]; exact a3)]
            by_cases ek : j = i
            · subst ek
              rw [g2'] at hj; obtain rfl := Option.some.inj hj
              rw [a2] at hdj; obtain rfl := Option.some.inj hdj
              rw [a4] at hSj; obtain rfl := Option.some.inj hSj
              rw [if_pos rfl]; exact hv
            · have hjn : j < n := by
                rcases Nat.lt_or_ge j n with h' | h'
                · exact h'
                · rw [List.getElem?_eq_none (by omega)] at hSj; cases hSj
              have hne := ap2 j dj hjn ek (by rw [hj]; exact hdj)
              rw [if_neg (fun e => hne e.symm)]
              refine Sj.mono _ _ _ _ _ (hdone j oj dj Sj ?_ hj hdj hSj) ad.same ad.sub
              have hL' : (listed.setIfInBounds i true).getD j false = true := hL
              rwa [getD_set_ne false (fun h => ek h.symm)] at hL'
        have hres := hstep hgo
        unfold wpOp
        have ho : l.toArray[i]? = some o := by simpa using g2'
        rw [ho]
        exact hres
theorem Tri.drawn {id : Nat} {l : List Oper} {n : Nat} {Ss : List VP} (hm : P.follows .mixedOrders = true) (hD : DrW E P l Γ M n Ss) (hap : apartB l n Γ = true) (htl : tailB l n = true) (hnl : Nat.ble n l.length = true)
  (k : Ops E P l.toArray Q (l.drop n) (dctx (l.take n) Ss ++ Γ) M) : Tri E P (.region id l.toArray true) Γ M Q := by
 intro a w F s
 refine wp_region_any hm ?_
 have s1 := s.adv (Adv.drew w F)
 refine phaseA hD hap htl (Nat.le_of_ble_eq_true hnl) k _ _ a _ F ?_ (by simp) (fun j hj hjl => ?_) ?_ s1 ?_
 ·simp
  exact Nat.le_trans List.countP_le_length (by simp)
 ·have : j < l.length := hjl
  simp [this]
 ·intro i o hi hL
  simp [Array.getD_eq_getD_getElem?, Array.getElem?_replicate] at hL
  split at hL <;> simp at hL
 ·intro j o d S hL
  simp [Array.getD_eq_getD_getElem?, Array.getElem?_replicate] at hL
  split at hL <;> simp at hL
def DrG (E : Env) (P : Program) (id : Nat) (l : List Oper) (Γ : Ctx) (M : Mem) (Q : Exit → Act → World → Prop) (i : Nat) (Θ : Ctx) : Prop :=
 ∀ Ss, DrW E P l Γ M i Ss → (∀ t S, look Θ t = some S → ∃ (j : Nat) (o : Oper), j < i ∧ l[j]? = some o ∧ o.dst = some t ∧ Ss[j]? = some S) → Tri E P (.region id l.toArray true) Γ M Q
theorem Tri.dr {id : Nat} {l : List Oper} (h : DrG E P id l Γ M Q 0 []) : Tri E P (.region id l.toArray true) Γ M Q := h [] .nil (fun t S ht => by simp [look] at ht)
def behindB (l : List Oper) (i : Nat) (ts : List Nat) : Bool :=
 let m := ((masks l [])[i]?).getD 0
 (List.range i).all fun j => m.testBit j || match (l[j]?).bind (·.dst) with
  | none => true
  | some d => ts.all fun t => !Nat.beq d t
theorem look_keepc {Θ : Ctx} : ∀ (ts : List Nat) (t : Nat) (S : VP), look (keepc ts Θ) t = some S → t ∈ ts ∧ look Θ t = some S
  | [], t, S, h => by simp [keepc, look] at h
  | u :: ts, t, S, h => by
    simp only [keepc] at h
    cases hu : look Θ u with
    | none => rw [hu] at h; have := look_keepc ts t S h; exact ⟨by simp [this.1], this.2⟩
    | some S0 =>
      rw [hu] at h
      simp only [look] at h
      cases hb : Nat.beq u t with
      | true =>
        rw [hb] at h; simp at h; subst h
        obtain rfl := Nat.eq_of_beq_eq_true hb
        exact ⟨by simp, hu⟩
      | false => rw [hb] at h; have := look_keepc ts t S h; exact ⟨by simp [this.1], this.2⟩
theorem DrG.sx {id i d : Nat} {l : List Oper} {Θ : Ctx} {S : VP} {o : Oper} (ts : List Nat) (h1 : l[i]? = some o) (h2 : o.dst = some d) (h3 : Nat.blt d E.n = true)
    (h4 : behindB l i ts = true) (h5 : OKX E P l.toArray (keepc ts Θ ++ Γ) M o S) (k : DrG E P id l Γ M Q (i + 1) ((d, S) :: Θ)) : DrG E P id l Γ M Q i Θ := by
  intro Ss hD hΘ
  obtain ⟨hlen, _⟩ := hD.at
  refine k (Ss ++ [S]) (.snoc _ hD h1 h2 h3 (fun t S' ht => ?_) h5) (fun t S' ht => ?_)
  · rw [look_append] at ht
    cases hl : look (keepc ts Θ) t with
    | none => rw [hl] at ht; exact .inr (by simpa using ht)
    | some S'' =>
      rw [hl] at ht
      obtain rfl : S'' = S' := by simpa using ht
      obtain ⟨hm, hl2⟩ := look_keepc _ _ _ hl
      obtain ⟨j, oj, b0, b1, b2, b3⟩ := hΘ t S'' hl2
      refine .inl ⟨j, oj, ?_, b1, b2, b3⟩
      have := List.all_eq_true.1 h4 j (by simpa using b0)
      rw [b1] at this
      simp only [Option.bind_some, b2, Bool.or_eq_true] at this
      rcases this with h | h
      · exact h
      · have := List.all_eq_true.1 h t hm
        simp [Nat.beq_refl] at this
  · simp only [look] at ht
    cases hb : Nat.beq d t with
    | true =>
      rw [hb] at ht; simp at ht; subst ht
      obtain rfl := Nat.eq_of_beq_eq_true hb
      exact ⟨i, o, by omega, h1, h2, by rw [List.getElem?_append_right (by omega)]; simp [hlen]⟩
    | false =>
      rw [hb] at ht
      obtain ⟨j, oj, b0, b1, b2, b3⟩ := hΘ t S' ht
      exact ⟨j, oj, by omega, b1, b2, by rw [List.getElem?_append_left (by omega)]; exact b3⟩
theorem DrG.st {id i d : Nat} {l : List Oper} {Θ : Ctx} {S : VP} {o : Oper} (ts : List Nat) (h1 : l[i]? = some o) (h2 : o.dst = some d) (h3 : Nat.blt d E.n = true)
  (h4 : behindB l i ts = true) (h5 : OKG E P l.toArray (keepc ts Θ ++ Γ) M o S) (k : DrG E P id l Γ M Q (i + 1) ((d, S) :: Θ)) : DrG E P id l Γ M Q i Θ := .sx ts h1 h2 h3 h4 h5.x k
theorem DrG.s {id i d : Nat} {l : List Oper} {Θ : Ctx} {S : VP} {o : Oper} (ts : List Nat) (h1 : l[i]? = some o) (h2 : o.dst = some d) (h3 : Nat.blt d E.n = true) (h5 : OKG E P l.toArray (keepc ts Θ ++ Γ) M o S) (k : DrG E P id l Γ M Q (i + 1) ((d, S) :: Θ)) (h4 : behindB l i ts = true := by kernel_rfl) : DrG E P id l Γ M Q i Θ :=
 DrG.st ts h1 h2 h3 h4 h5 k
theorem DrG.fin {id n : Nat} {l : List Oper} {Θ : Ctx} (hm : P.follows .mixedOrders = true) (hap : apartB l n Γ = true) (htl : tailB l n = true) (hnl : Nat.ble n l.length = true)
    (k : Ops E P l.toArray Q (l.drop n) (Θ ++ Γ) M) : DrG E P id l Γ M Q n Θ := by
  intro Ss hD hΘ
  have hnl' := Nat.le_of_ble_eq_true hnl
  refine .drawn hm hD hap htl hnl fun a w F s => k a w F (s.wider fun t S ht => ?_)
  rw [look_append] at ht
  cases hl : look Θ t with
  | none =>
    rw [hl] at ht
    have ht' : look Γ t = some S := by simpa using ht
    have hno : look (dctx (l.take n) Ss) t = none := by
      cases hd : look (dctx (l.take n) Ss) t with
      | none => rfl
      | some S' =>
        obtain ⟨j, o, b1, b2, b3⟩ := look_dctx _ _ _ _ hd
        have hj : j < n := by
          rcases Nat.lt_or_ge j n with h' | h'
          · exact h'
          · rw [List.getElem?_eq_none (by simp; omega)] at b1; cases b1
        rw [List.getElem?_take_of_lt hj] at b1
        have h1 := List.all_eq_true.1 hap j (by simpa using hj)
        rw [b1] at h1
        simp only [Option.bind_some, b2, Bool.and_eq_true] at h1
        exact absurd rfl (look_none h1.1 t S ht')
    exact s.slots t S (by rw [look_append, hno]; simpa using ht')
  | some S' =>
    rw [hl] at ht
    obtain rfl : S' = S := by simpa using ht
    obtain ⟨j, o, b0, b1, b2, b3⟩ := hΘ t S' hl
    -- the slots are apart: so the context of all that are done says the same of it
    have hex : ∀ (l' : List Oper) (Ss' : List VP) (j : Nat), (l'[j]?).bind (·.dst) = some t → Ss'[j]? = some S' → (∀ j', j' ≠ j → (l'[j']?).bind (·.dst) ≠ some t) → look (dctx l' Ss') t = some S' := by
      intro l'
      induction l' with
      | nil => intro Ss' j h; simp at h
      | cons o' l' ih =>
        intro Ss' j h1 h2 h3
        cases Ss' with
        | nil => simp at h2
        | cons T Ss' =>
          cases j with
          | zero =>
            simp at h1 h2
            subst h2
            simp [dctx, h1, look]
          | succ j =>
            have hrec := ih Ss' j (by simpa using h1) (by simpa using h2) (fun j' hj' => by simpa using h3 (j' + 1) (by omega))
            have h0 := h3 0 (by omega)
            simp at h0
            simp only [dctx]
            cases hd : o'.dst with
            | none => exact hrec
            | some d' =>
              simp only [look]
              have hne : Nat.beq d' t = false := by
                cases hb : Nat.beq d' t with
                | false => rfl
                | true => exact absurd (by rw [hd, Nat.eq_of_beq_eq_true hb]) h0
              rw [hne]; exact hrec
    have hlk := hex (l.take n) Ss j (by rw [List.getElem?_take_of_lt b0, b1]; exact b2) b3 (fun j' hj' he => by
      have hj'n : j' < n := by
        rcases Nat.lt_or_ge j' n with h' | h'
        · exact h'
        · rw [List.getElem?_eq_none (by simp; omega)] at he; simp at he
      rw [List.getElem?_take_of_lt hj'n] at he
      have h1 := List.all_eq_true.1 hap j (by simpa using b0)
      rw [b1] at h1
      simp only [Option.bind_some, b2, Bool.and_eq_true] at h1
      have h2 := List.all_eq_true.1 h1.2 j' (by simpa using hj'n)
      rw [he] at h2
      simp only [Bool.or_eq_true, Bool.not_eq_true'] at h2
      rcases h2 with h2 | h2
      · exact hj' (Nat.eq_of_beq_eq_true h2).symm
      · exact Nat.ne_of_beq_eq_false h2 rfl)
    exact s.slots t S' (by rw [look_append, hlk]; rfl)
end
end Go.En
namespace Go.En
open Go.RowKit
theorem run_mapM_list {α β : Type} {P : Program} {w : World} (f : α → Sem β) (g : α → β) : ∀ (l : List α), (∀ x ∈ l, (f x).run P w = .ok (g x) w) → (l.mapM f).run P w = .ok (l.map g) w
  | [], _ => by simp
  | x :: l, h => by
    have h1 := h x (by simp)
    have h2 := run_mapM_list f g l (fun y hy => h y (by simp [hy]))
    simp [List.mapM_cons, h1, h2]
theorem run_mapM {α β : Type} {P : Program} {w : World} (f : α → Sem β) (g : α → β) (l : Array α) (h : ∀ x ∈ l, (f x).run P w = .ok (g x) w) : (l.mapM f).run P w = .ok (l.map g) w := by
 obtain ⟨l⟩ := l
 have := run_mapM_list (P := P) (w := w) f g l (by simpa using h)
 rw [List.mapM_toArray]
 simp [this]
section
variable {E : Env} {P : Program} {Γ : Ctx} {M : Mem} {ty : TypeId} {pos : String} {after : Array Edge} {gd : Option (Nat × Bool)} {d : Option Tmp}
 {ops : Array Oper} {Q : Exit → Act → World → Prop} {rest : List Oper}
/-! ### results -/
inductive ResL (E : Env) (P : Program) (Γ : Ctx) (M : Mem) : List ResultVar → List VP → Prop
 | nil : ResL E P Γ M [] []
 | tmp {t : Nat} {S : VP} {rs : List ResultVar} {Ss : List VP} : Has E Γ M (.tmp t) S → ResL E P Γ M rs Ss → ResL E P Γ M (.tmp t :: rs) (S :: Ss)
 | cell {t b i n : Nat} {T : TypeId} {Ss0 : List VP} {S : VP} {rs : List ResultVar} {Ss : List VP} : look Γ t = some (isPtr b 0) → M[i]? = some (some b, cellM Ss0) → tyB P T = some (n, true) → Nat.beq Ss0.length n = true →
   Flat Ss0 = S → ResL E P Γ M rs Ss → ResL E P Γ M (.cell t T :: rs) (S :: Ss)
 | cell1 {t b i : Nat} {T : TypeId} {S0 S : VP} {rs : List ResultVar} {Ss : List VP} : look Γ t = some (isPtr b 0) → M[i]? = some (some b, cellM [S0]) → tyB P T = some (1, false) →
   S0 = S → ResL E P Γ M rs Ss → ResL E P Γ M (.cell t T :: rs) (S :: Ss)
def resOf (a : Act) : ResultVar → Sem Value
 | .tmp t => pure (a.tmps.getD t undef)
 | .cell x t => do loadVar t (← asAddr (a.tmps.getD x undef))
theorem ResL.run {rs : List ResultVar} {Ss : List VP} (h : ResL E P Γ M rs Ss) {a : Act} {w : World} {F : Blk} (s : Sat E Γ M a w F) :
    ∃ g : ResultVar → Value, (∀ r ∈ rs, (resOf a r).run P w = .ok (g r) w) ∧ All2 Ss w F (rs.map g) := by
  have key : ∃ vs : List Value, vs.length = rs.length ∧ (∀ i (hi : i < rs.length), ∃ v, vs[i]? = some v ∧ (resOf a rs[i]).run P w = .ok v w) ∧ All2 Ss w F vs := by
    induction h with
    | nil => exact ⟨[], rfl, fun i hi => absurd hi (by simp), trivial⟩
    | @tmp t S rs Ss h1 _ ih =>
      obtain ⟨vs, e1, e2, e3⟩ := ih
      refine ⟨a.tmps.getD t undef :: vs, by simp [e1], fun i hi => ?_, h1 a w F s, e3⟩
      cases i with
      | zero => exact ⟨_, rfl, rfl⟩
      | succ i => simpa using e2 i (by simpa using hi)
    | @cell t b i0 n T Ss0 S rs Ss h1 h2 h3 h4 h5 _ ih =>
      obtain ⟨vs, e1, e2, e3⟩ := ih
      obtain ⟨o, hb, us, T', rfl, hv⟩ := mem_at s h2
      have hl := hv.len
      have h4' := Nat.eq_of_beq_eq_true h4
      refine ⟨.agg us.toArray :: vs, by simp [e1], fun i hi => ?_, h5 ▸ ⟨us, rfl, hv⟩, e3⟩
      cases i with
      | zero =>
        refine ⟨_, rfl, ?_⟩
        have hp : a.tmps.getD t undef = .pointer (some ⟨b, 0, none⟩) := s.slots t _ h1
        have hload := run_loadCells_at (P := P) (n := n) (off := 0) hb (by omega)
        simp only [List.drop_zero] at hload
        rw [List.take_of_length_le (by omega)] at hload
        simp only [List.getElem_cons_zero, resOf, hp, asAddr, loadVar, Sem.run_bind, Sem.run_pure, Result.andThen_ok, run_isAgg h3, run_size h3, if_true, hload]
      | succ i => simpa using e2 i (by simpa using hi)
    | @cell1 t b i0 T S0 S rs Ss h1 h2 h3 h5 _ ih =>
      obtain ⟨vs, e1, e2, e3⟩ := ih
      obtain ⟨o, hb, us, T', rfl, hv⟩ := mem_at s h2
      obtain ⟨v, hv1, hv2⟩ := hv.get 0 S0 rfl
      refine ⟨v :: vs, by simp [e1], fun i hi => ?_, h5 ▸ hv2, e3⟩
      cases i with
      | zero =>
        refine ⟨_, rfl, ?_⟩
        have hp : a.tmps.getD t undef = .pointer (some ⟨b, 0, none⟩) := s.slots t _ h1
        have hc : w.cell? ⟨b, 0, none⟩ = some v := by simp [World.cell?, hb, hv1]
        simp only [List.getElem_cons_zero, resOf, hp, asAddr, loadVar, Sem.run_bind, Sem.run_pure, Result.andThen_ok, run_isAgg h3]
        simp [hc]
      | succ i => simpa using e2 i (by simpa using hi)
  obtain ⟨vs, e1, e2, e3⟩ := key
  have hex : ∀ r ∈ rs, ∃ v, (resOf a r).run P w = .ok v w := fun r hr => by
    obtain ⟨i, hi, rfl⟩ := List.mem_iff_getElem.1 hr
    obtain ⟨v, _, hv⟩ := e2 i hi
    exact ⟨v, hv⟩
  refine ⟨fun r => match (resOf a r).run P w with | .ok v _ => v | _ => undef, fun r hr => ?_, ?_⟩
  · obtain ⟨v, hv⟩ := hex r hr; simp only [hv]
  · have : rs.map (fun r => match (resOf a r).run P w with | .ok v _ => v | _ => undef) = vs := by
      apply List.ext_getElem?
      intro i
      by_cases hi : i < rs.length
      · obtain ⟨v, h1, h2⟩ := e2 i hi
        rw [List.getElem?_map, List.getElem?_eq_getElem hi, h1]
        simp only [Option.map_some, h2]
      · rw [List.getElem?_eq_none (by simp; omega), List.getElem?_eq_none (by omega)]
    rw [this]; exact e3
theorem run_results {fn : Func} {rs : List ResultVar} {Ss : List VP} (hr : fn.results = rs.toArray) (h : ResL E P Γ M rs Ss) {a : Act} {w : World} {F : Blk} (s : Sat E Γ M a w F) :
  ∃ vs : List Value, (results fn a.tmps).run P w = .ok (if h : vs.length = 1 then vs[0] else .tuple vs.toArray) w ∧ All2 Ss w F vs := by
 obtain ⟨g, h1, h2⟩ := h.run s
 refine ⟨rs.map g, ?_, h2⟩
 have hm := run_mapM (P := P) (w := w) (resOf a) g rs.toArray (by simpa using h1)
 have hres : results fn a.tmps = (rs.toArray.mapM (resOf a) >>= fun vs => pure (if h : vs.size = 1 then vs[0] else .tuple vs)) := by
  unfold results
  rw [hr]
  congr 1
 rw [hres, Sem.run_bind, hm, Result.andThen_ok]
 simp
theorem fin_ret {fn : Func} {R : VP} {e : Exit} {a : Act} {w : World} {F : Blk} (he : e = .ret ∨ e = .normal) (s : Sat E Γ M a w F) (hw : E.W = []) {v : Value} (hv : (results fn a.tmps).run P w = .ok v w) (hR : R.h w F v) :
  bodyPost P fn (Ret E.w0 E.F0 R) e a w := by
 have hk := s.keep
 rw [hw] at hk
 have hb : a.defers = [] ∧ ∃ v, (results fn a.tmps).run P w = .ok v w ∧ Ret E.w0 E.F0 R (.returned v) w :=
  ⟨s.defers, _, hv, _, rfl, hk, R.mono _ _ _ _ _ hR (fun _ _ => rfl) (fun b hb => by
   rcases s.fnew b hb with h1 | h1
   ·exact .inl h1
   ·exact .inr h1)⟩
 rcases he with rfl | rfl <;> exact hb
theorem rt1 {fn : Func} {r : ResultVar} {R : VP} {e : Exit} (he : e = .ret ∨ e = .normal) (hr : fn.results = #[r]) (hw : E.W = []) (h : ResL E P Γ M [r] [R]) : At E Γ M (bodyPost P fn (Ret E.w0 E.F0 R)) e := by
 intro a w F s
 obtain ⟨vs, h1, h2⟩ := run_results hr h s
 match vs, h2 with
 | [v], h2 => exact fin_ret he s hw (by simpa using h1) h2.1
 | [], h2 => exact h2.elim
 | _ :: _ :: _, h2 => exact h2.2.elim
theorem rtN {fn : Func} {rs : List ResultVar} {Rs : List VP} {e : Exit} (he : e = .ret ∨ e = .normal) (hr : fn.results = rs.toArray) (hn : Nat.beq rs.length 1 = false) (hw : E.W = []) (h : ResL E P Γ M rs Rs) :
  At E Γ M (bodyPost P fn (Ret E.w0 E.F0 (isTup Rs))) e := by
 intro a w F s
 obtain ⟨vs, h1, h2⟩ := run_results hr h s
 have hl : Rs.length = rs.length := by
  clear h1 h2 s a w F vs
  clear hn hr
  induction h with
  | nil => rfl
  | tmp _ _ ih => simp [ih]
  | cell _ _ _ _ _ _ ih => simp [ih]
  | cell1 _ _ _ _ _ ih => simp [ih]
 have hne : vs.length ≠ 1 := by rw [← h2.len, hl]; exact Nat.ne_of_beq_eq_false hn
 rw [dif_neg hne] at h1
 exact fin_ret he s hw h1 ⟨vs, rfl, h2⟩
/-! ### build -/
def spliceV : List VP → Nat → List VP → List VP
 | Z, _, [] => Z
 | [], _, _ => []
 | _ :: Z, 0, S :: Ss => S :: spliceV Z 0 Ss
 | z :: Z, off + 1, S :: Ss => z :: spliceV Z off (S :: Ss)
theorem spliceV_eq : ∀ (Z : List VP) (off : Nat) (Ss : List VP), off + Ss.length ≤ Z.length → spliceV Z off Ss = Z.take off ++ Ss ++ Z.drop (off + Ss.length)
  | Z, off, [], _ => by cases Z <;> simp [spliceV]
  | [], off, S :: Ss, h => by simp at h
  | z :: Z, 0, S :: Ss, h => by
    have := spliceV_eq Z 0 Ss (by simp at h ⊢; omega)
    simp only [Nat.zero_add, List.take_zero, List.nil_append] at this
    simp only [spliceV, this]
    simp
  | z :: Z, off + 1, S :: Ss, h => by
    have := spliceV_eq Z off (S :: Ss) (by simp at h ⊢; omega)
    simp only [spliceV, this]
    have e : off + 1 + (S :: Ss).length = (off + (S :: Ss).length) + 1 := by omega
    rw [e]; simp
theorem set_zip : ∀ (us vs : List Value) (off : Nat) (cs : Array Value), off + us.length ≤ cs.size → cs.toList = vs →
    ((us.zipIdx.foldl (fun cs (p : Value × Nat) => cs.setIfInBounds (off + p.2) p.1) cs)).toList = vs.take off ++ us ++ vs.drop (off + us.length) := by
  have key : ∀ (us : List Value) (k off : Nat) (cs : Array Value), off + k + us.length ≤ cs.size →
      ((us.zipIdx k).foldl (fun cs (p : Value × Nat) => cs.setIfInBounds (off + p.2) p.1) cs).toList = cs.toList.take (off + k) ++ us ++ cs.toList.drop (off + k + us.length) := by
    intro us
    induction us with
    | nil => intro k off cs h; simp
    | cons u us ih =>
      intro k off cs h
      simp only [List.zipIdx_cons, List.foldl_cons]
      rw [ih (k + 1) off _ (by simp at h ⊢; omega)]
      have := list_seg_step cs.toList (off + k) u us (by simp at h ⊢; omega)
      simp only [Array.toList_setIfInBounds, ← Nat.add_assoc] at this ⊢
      rw [this]; congr 2
  intro us vs off cs h e
  subst e
  simpa using key us 0 off cs (by simpa using h)
inductive Parts (E : Env) (Γ : Ctx) (M : Mem) (place : Nat → Option (Nat × Nat)) : List VP → List (Nat × Operand) → List VP → Prop
 | nil {Z : List VP} : Parts E Γ M place Z [] Z
 | cons {Z Z' : List VP} {i off n : Nat} {x : Operand} {S : VP} {Ss : List VP} {r : List (Nat × Operand)} [sh : Shape S Ss] : Has E Γ M x S → place i = some (off, n) → Nat.beq Ss.length n = true → Nat.ble (off + n) Z.length = true →
   Parts E Γ M place (spliceV Z off Ss) r Z' → Parts E Γ M place Z ((i, x) :: r) Z'
theorem Parts.fill {place : Nat → Option (Nat × Nat)} {Z Z' : List VP} {ps : List (Nat × Operand)} (h : Parts E Γ M place Z ps Z') {a : Act} {w : World} {F : Blk} (s : Sat E Γ M a w F) :
    ∀ cells : Array Value, All2 Z w F cells.toList → ∃ cells', Instr.fill place cells (ps.map fun p => (p.1, a.eval p.2)) = some cells' ∧ All2 Z' w F cells'.toList := by
  induction h with
  | nil => intro cells hc; exact ⟨cells, rfl, hc⟩
  | @cons Z Z' i off n x S Ss r sh h1 h2 h3 h4 _ ih =>
    intro cells hc
    have hv := sh.cells _ _ _ (h1 a w F s)
    have h3' := Nat.eq_of_beq_eq_true h3
    have h4' := Nat.le_of_ble_eq_true h4
    have e1 := hv.len
    have e2 := hc.len
    simp at e1 e2
    have hsz : (a.eval x).cells.size = n := by omega
    simp only [List.map_cons, Instr.fill, h2]
    rw [if_neg (by rw [hsz]; simp only [ne_eq, not_true_eq_false, decide_false, Bool.false_or, decide_eq_true_eq]; omega)]
    refine ih _ ?_
    have := set_zip (a.eval x).cells.toList cells.toList off cells (by simp; omega) rfl
    rw [← Array.foldl_toList, Array.toList_zipIdx, this]
    rw [spliceV_eq _ _ _ (by omega), show Ss.length = (a.eval x).cells.toList.length from hv.len]
    exact ((hc.take off).append hv).append (hc.drop _)
def plB (P : Program) (T : TypeId) : Option (List (Nat × Nat)) := (P.underlying T).bind fun d => match d with
 | .struct fs => fs.toList.mapM fun f => (tyB P f.type).map fun p => (f.offset, p.1)
 | _ => none
theorem mapM_some {α β : Type} (f : α → Option β) : ∀ (l : List α) (r : List β), l.mapM f = some r → l.map f = r.map some
  | [], r, h => by simp at h; subst h; rfl
  | x :: l, r, h => by
    rw [List.mapM_cons] at h
    cases hx : f x with
    | none => rw [hx] at h; simp at h
    | some y =>
      rw [hx] at h
      cases hl : l.mapM f with
      | none => rw [hl] at h; simp at h
      | some ys => rw [hl] at h; simp at h; subst h; simp [hx, mapM_some f l ys hl]
theorem OK1.build {T : TypeId} {pl : List (Nat × Nat)} {z : Value} {ps : List (Nat × Operand)} (Z : List VP) {Z' Z'' : List VP} (hp : plB P T = some pl) (hz : zeroB P T = some z) (hZ : ∀ w F, All2 Z w F z.cells.toList)
    (h : Parts E Γ M (fun i => pl[i]?) Z ps Z') (hZ' : Z' = Z'') : OK1 E P Γ M ⟨d, .build T ps.toArray, ty, pos, after, gd⟩ (Flat Z'') :=
  .run fun a w F s => by
    obtain ⟨cells, h1, h2⟩ := h.fill s z.cells (hZ w F)
    refine ⟨.agg cells, ?_, cells.toList, by simp, hZ' ▸ h2⟩
    unfold plB at hp
    cases hu : P.underlying T with
    | none => simp [hu] at hp
    | some dd =>
      rw [hu] at hp
      cases dd <;> simp only [Option.bind_some] at hp <;> try cases hp
      rename_i fs
      have hm := mapM_some _ _ _ hp
      have hrun := run_mapM (P := P) (w := w) (fun f : Field => do pure (f.offset, ← sizeOf f.type)) (fun f : Field => (((tyB P f.type).map fun p => (f.offset, p.1)).getD (0, 0))) fs (fun f hf => by
        have : (tyB P f.type).map (fun p => (f.offset, p.1)) ∈ fs.toList.map (fun f => (tyB P f.type).map fun p => (f.offset, p.1)) := List.mem_map.2 ⟨f, by simpa using hf, rfl⟩
        rw [hm] at this
        obtain ⟨y, _, hy⟩ := List.mem_map.1 this
        cases ht : tyB P f.type with
        | none => rw [ht] at hy; simp at hy
        | some p => obtain ⟨n, g⟩ := p; simp [run_size ht])
      have hpl : (fs.map (fun f : Field => (((tyB P f.type).map fun p => (f.offset, p.1)).getD (0, 0)))) = pl.toArray := by
        apply Array.ext'
        simp only [Array.toList_map]
        have := congrArg (List.map (fun o : Option (Nat × Nat) => o.getD (0, 0))) hm
        simp only [List.map_map] at this
        have e2 : ((fun o : Option (Nat × Nat) => o.getD (0, 0)) ∘ some) = id := rfl
        rw [e2, List.map_id] at this
        exact this
      rw [hpl] at hrun
      have hmap : (ps.toArray.map fun (p : Nat × Operand) => (p.1, a.eval p.2)).toList = ps.map fun p => (p.1, a.eval p.2) := by simp
      have hfn : (fun i : Nat => pl.toArray[i]?) = fun i => pl[i]? := by funext i; simp
      simp only [execOp, Instr.build, Sem.run_bind, run_zero hz, run_under hu, Result.andThen_ok, hrun]
      rw [hmap]
      simp only [hfn, h1, Sem.run_pure, Result.andThen_ok]
/-! ### conversions between integers -/
theorem OK1.conv {S T : TypeId} {x : Operand} {k k' : IntKind} {z : Int} {R : VP} {ds : TypeDesc} (hs : P.underlying S = some ds) (ht : P.underlying T = some (.int k')) (hx : ∀ a w F, Sat E Γ M a w F → a.eval x = .int k z)
  (hR : ∀ w F, R.h w F (.int k' (k'.wrap z))) : OK1 E P Γ M ⟨d, .convert S T x, ty, pos, after, gd⟩ R :=
 .run fun a w F s => ⟨_, by
  have h1 := hx a w F s
  simp only [execOp, h1, convert, Sem.run_bind, run_under hs, run_under ht, Result.andThen_ok]
  cases ds <;> simp [Conv.intToInt], hR w F⟩
theorem OK1.convIU {S T : TypeId} {x : Operand} {z : Int} {ds : TypeDesc} (hs : P.underlying S = some ds) (ht : P.underlying T = some (.int .u64)) (hx : Has E Γ M x (isI z)) (h : 0 ≤ z) (h' : z < 18446744073709551616) :
  OK1 E P Γ M ⟨d, .convert S T x, ty, pos, after, gd⟩ (isU z.toNat) :=
 .conv hs ht (evI hx) (fun w F => isU_of (by rw [wrap_u64]; omega) (by omega) w F)
theorem OK1.convKI {S T : TypeId} {x : Operand} {k : IntKind} {z : Int} {ds : TypeDesc} (hs : P.underlying S = some ds) (ht : P.underlying T = some (.int .i64)) (hx : Has E Γ M x (isK k z)) (h : -9223372036854775808 ≤ z) (h' : z < 9223372036854775808) :
  OK1 E P Γ M ⟨d, .convert S T x, ty, pos, after, gd⟩ (isI z) :=
 .conv hs ht (evK hx) (fun w F => by rw [wrap_i64 h h']; exact isI_of h h' w F)
/-! ### an array by value -/
theorem Cv.mem {Γ' : Ctx} {M' : Mem} (h : Wk E Γ M Γ') (e : M = M') : Cv E Γ M Γ' M' := e ▸ Cv.wk h
theorem Ops.memEq {M' : Mem} (e : M = M') (h : Ops E P ops Q rest Γ M') : Ops E P ops Q rest Γ M := e ▸ h
theorem Tri.memEq {c : Code} {M' : Mem} (e : M = M') (h : Tri E P c Γ M' Q) : Tri E P c Γ M Q := e ▸ h
theorem isU_eq {m n : Nat} (h : m = n) : isU m = isU n := h ▸ rfl
theorem isI_eq {m n : Int} (h : m = n) : isI m = isI n := h ▸ rfl
theorem isB_eq {m n : Bool} (h : m = n) : isB m = isB n := h ▸ rfl
theorem alloc_new {a : Act} {w : World} {F : Blk} (s : Sat E Γ M a w F) (o : Obj) :
  Adv w F { w with heap := w.heap.push o } (fun b => F b ∨ b = w.heap.size) :=
 ⟨Keep.alloc _ _ _, fun _ h => .inl h, fun b h => by
  rcases h with h | h
  ·exact .inl h
  ·exact .inr ⟨by omega, by simp; omega⟩⟩
end
end Go.En
namespace Go.En
open Go.RowKit
section
variable {E : Env} {P : Program} {Γ : Ctx} {M : Mem} {ty : TypeId} {pos : String} {after : Array Edge} {gd : Option (Nat × Bool)} {d : Option Tmp}
 {ops : Array Oper} {Q : Exit → Act → World → Prop} {rest : List Oper} {T T' : TypeId} {x y : Operand}
theorem run_eqB (hu : P.underlying T = some .bool) (b c : Bool) (w : World) : (Op.equal T (.bool b) (.bool c)).run P w = .ok (b == c) w := by
 have key : ∀ n, (Op.equalIn (n + 1) T (.bool b) (.bool c)).run P w = .ok (b == c) w := by
  intro n
  simp only [Op.equalIn, Sem.run_bind, run_under hu, Result.andThen_ok, Sem.run_pure]
 exact key 9999
theorem OK1.eqB {b c : Bool} {du : P.underlying T = some .bool} (_ : True = True) (hx : Has E Γ M x (isB b)) (hy : Has E Γ M y (isB c)) : OK1 E P Γ M ⟨d, .binOp .eql T x y T', ty, pos, after, gd⟩ (isB (b == c)) :=
 .run fun a w F s => ⟨_, by
  have h1 : a.eval x = .bool b := hx a w F s
  have h2 : a.eval y = .bool c := hy a w F s
  have h3 := run_eqB (P := P) du b c w
  simp only [execOp, h1, h2, eqGuard, binOp, Sem.run_bind]
  simp [h3], rfl⟩
theorem OK1.neB {b c : Bool} {du : P.underlying T = some .bool} (_ : True = True) (hx : Has E Γ M x (isB b)) (hy : Has E Γ M y (isB c)) : OK1 E P Γ M ⟨d, .binOp .neq T x y T', ty, pos, after, gd⟩ (isB (!(b == c))) :=
 .run fun a w F s => ⟨_, by
  have h1 : a.eval x = .bool b := hx a w F s
  have h2 : a.eval y = .bool c := hy a w F s
  have h3 := run_eqB (P := P) du b c w
  simp only [execOp, h1, h2, eqGuard, binOp, Sem.run_bind]
  simp [h3], rfl⟩
theorem run_shift (op : BinOp) (k yk : IntKind) (m n : Int) (h : op = .shl ∨ op = .shr) (w : World) : (binOp op T (.int k m) (.int yk n)).run P w = (Op.shift op k m yk n).run P w := by
 rcases h with rfl | rfl <;> rfl
theorem OK1.sh {op : BinOp} {k yk : IntKind} {m n : Int} {v : Value} {S : VP} (hop : op = .shl ∨ op = .shr)
  (hx : ∀ a w F, Sat E Γ M a w F → a.eval x = .int k m) (hy : ∀ a w F, Sat E Γ M a w F → a.eval y = .int yk n)
  (hr : ∀ w, (Op.shift op k m yk n).run P w = .ok v w) (hS : ∀ w F, S.h w F v) : OK1 E P Γ M ⟨d, .binOp op T x y T', ty, pos, after, gd⟩ S :=
 .run fun a w F s => ⟨v, by
  have h1 := hx a w F s
  have h2 := hy a w F s
  have h3 := (run_shift (P := P) (T := T) op k yk m n hop w).trans (hr w)
  have hg : (eqGuard op T x y (.int k m) (.int yk n)).run P w = .ok () w := by rcases hop with rfl | rfl <;> simp [eqGuard, go_sem]
  simp only [execOp, h1, h2, Sem.run_bind, hg, Result.andThen_ok, h3, Sem.run_pure], hS w F⟩
theorem div_pow_min (m n : Nat) (h : m < 18446744073709551616) : m / 2 ^ (min n 64) = m / 2 ^ n := by
 rcases Nat.le_total n 64 with h1 | h1
 ·rw [Nat.min_eq_left h1]
 ·rw [Nat.min_eq_right h1, Nat.div_eq_of_lt (by simpa using h), Nat.div_eq_of_lt (Nat.lt_of_lt_of_le h (Nat.pow_le_pow_right (n := 2) (by decide) h1))]
theorem run_shr {m : Nat} {yk : IntKind} {n : Nat} (hm : m < 18446744073709551616) (w : World) : (Op.shift .shr .u64 (m : Int) yk (n : Int)).run P w = .ok (.int .u64 ((m / 2 ^ n : Nat) : Int)) w := by
 unfold Op.shift
 rw [if_neg (by omega)]
 have e : Int.fdiv (m : Int) (2 ^ (min n 64)) = ((m / 2 ^ n : Nat) : Int) := by
  rw [Int.fdiv_eq_ediv_of_nonneg _ (Int.le_of_lt (Int.pow_pos (by omega))), ← div_pow_min m n hm]
  norm_cast
 have hb : IntKind.u64.bits = 64 := rfl
 simp only [Int.toNat_natCast, hb]
 rw [e]; rfl
theorem run_shl {m : Nat} {yk : IntKind} {n : Nat} (w : World) : (Op.shift .shl .u64 (m : Int) yk (n : Int)).run P w = .ok (.int .u64 ((m * 2 ^ n % 18446744073709551616 : Nat) : Int)) w := by
 unfold Op.shift
 rw [if_neg (by omega)]
 have e : IntKind.u64.wrap ((m : Int) * 2 ^ (min n 64)) = ((m * 2 ^ n % 18446744073709551616 : Nat) : Int) := by
  rw [wrap_u64]
  have : m * 2 ^ (min n 64) % 18446744073709551616 = m * 2 ^ n % 18446744073709551616 := by
   rcases Nat.le_total n 64 with h1 | h1
   ·rw [Nat.min_eq_left h1]
   ·rw [Nat.min_eq_right h1]
    have e2 : 2 ^ n = 2 ^ 64 * 2 ^ (n - 64) := by rw [← Nat.pow_add]; congr 1; omega
    have e3 : (2 : Nat) ^ 64 = 18446744073709551616 := rfl
    rw [e2, e3, Nat.mul_mod_left, Nat.mul_left_comm, Nat.mul_mod_right]
  rw [← this, Int.natCast_emod, Int.natCast_mul, Int.natCast_pow]; rfl
 have hb : IntKind.u64.bits = 64 := rfl
 simp only [Int.toNat_natCast, hb]
 rw [e]; rfl
variable {m n : Nat} {i : Int}
theorem OK1.shrUU (hx : Has E Γ M x (isU m)) (hy : Has E Γ M y (isU n)) (h : m < 18446744073709551616) : OK1 E P Γ M ⟨d, .binOp .shr T x y T', ty, pos, after, gd⟩ (isU (m / 2 ^ n)) :=
 .sh (.inr rfl) (evU hx) (evU hy) (run_shr h) (fun w F => isU_of rfl (Nat.lt_of_le_of_lt (Nat.div_le_self _ _) h) w F)
theorem OK1.shlUU (hx : Has E Γ M x (isU m)) (hy : Has E Γ M y (isU n)) (_h : True) : OK1 E P Γ M ⟨d, .binOp .shl T x y T', ty, pos, after, gd⟩ (isU (m * 2 ^ n % 18446744073709551616)) :=
 .sh (.inl rfl) (evU hx) (evU hy) run_shl (fun w F => isU_of rfl (Nat.mod_lt _ (by decide)) w F)
theorem OK1.convIUw {S T : TypeId} {ds : TypeDesc} (hs : P.underlying S = some ds) (ht : P.underlying T = some (.int .u64)) (hx : Has E Γ M x (isI i)) : OK1 E P Γ M ⟨d, .convert S T x, ty, pos, after, gd⟩ (isU (i % 18446744073709551616).toNat) :=
 .conv hs ht (evI hx) (fun w F => isU_of (by rw [wrap_u64]; omega) (by omega) w F)
theorem OK1.negU (hx : Has E Γ M x (isU m)) (h : m < 18446744073709551616) : OK1 E P Γ M ⟨d, .unOp .neg T x, ty, pos, after, gd⟩ (isU ((18446744073709551616 - m) % 18446744073709551616)) :=
 .run fun a w F s => ⟨.int .u64 (IntKind.u64.wrap (0 - (m : Int))), by
  have h3 : a.eval x = .int .u64 m := (hx a w F s).1
  simp only [execOp, h3]
  simp [Op.unary, Op.intArith, go_sem], isU_of (by rw [wrap_u64]; omega) (by omega) w F⟩
end
end Go.En
namespace Go.En
open Go.RowKit Go.ChangeShapes Go.WideShapes Go.ChangeAt
section
variable {H : Type} {enc : TypeId × Value → H} {P : Program}
theorem trodAll_below (hl : laidOutB P = true) {W W' : World} (hb : Below W.heap.size W W') : ∀ {ts : List TypeId} {vs : List Value} {ds : List (DataW H)} {ps : List MemPlace},
    (ts.all fun t => P.readableRec t && decide (t < P.types.size)) = true → DataW.TrodAll enc P W 0 (fun _ => true) true ts vs ds ps → (∀ x ∈ ps, x.block < W.heap.size) →
    DataW.TrodAll enc P W' 0 (fun b => decide (b < W.heap.size)) true ts vs ds ps
  | [], vs, ds, ps, _, h, _ => by
    obtain ⟨rfl, rfl, rfl⟩ := trodAll_nil h; exact trodAll_mk0
  | t :: ts, vs, ds, ps, hr, h, hp => by
    obtain ⟨v, vs', d, ds', p, q, rfl, rfl, rfl, h1, h2⟩ := trodAll_cons h
    simp only [List.all_cons, Bool.and_eq_true] at hr
    exact trodAll_cons_mk (Below.trod hl hr.1.1 (of_decide_eq_true hr.1.2) h1 hb (fun x hx => hp x (by simp [hx]))) (trodAll_below hl hb hr.2 h2 (fun x hx => hp x (by simp [hx])))
theorem trodAll_len : ∀ {ts : List TypeId} {vs : List Value} {ds : List (DataW H)} {ps : List MemPlace} {W : World} {base : Nat} {sp : Nat → Bool} {hd : Bool}, DataW.TrodAll enc P W base sp hd ts vs ds ps → vs.length = ts.length ∧ ds.length = ts.length
  | [], vs, ds, ps, _, _, _, _, h => by obtain ⟨rfl, rfl, rfl⟩ := trodAll_nil h; exact ⟨rfl, rfl⟩
  | t :: ts, vs, ds, ps, _, _, _, _, h => by
    obtain ⟨v, vs', d, ds', p, q, rfl, rfl, rfl, h1, h2⟩ := trodAll_cons h
    have := trodAll_len h2
    exact ⟨by simp [this.1], by simp [this.2]⟩
def Opens (P : Program) (fn : Func) (f : FuncId) : Prop := ∀ (H : Type) (enc : TypeId × Value → H) (W : World) (base : Nat) (args : Array Value) (ds : List (DataW H)) (ps : List MemPlace),
 (∀ (j : Nat) t v, fn.params[j]? = some t → args[j]? = some v → Value.okWide P W .any base t v) → DataW.TrodAll enc P W 0 (fun _ => true) true fn.params.toList args.toList ds ps →
 (∀ x ∈ ps, x.block < W.heap.size) → ∃ Ss, All2 Ss W (fun b => b < W.heap.size) args.toList ∧ Ctr P f Ss (isB true)
theorem lift_law {C : Checked} {os : Os} {f : FuncId} {fn : Func} {s : ChangeSpec} {conds : List PathCond} {tb : TypeId}
  (own : ownKnob C.prog.godebug = none) (started : os.Started) (noInit : C.prog.inits.idxOf? f = none) (hfn : C.prog.funcs[f]? = some fn)
  (witness : ∃ (w : World) (tape : Tape) (i : Input), w.os = os ∧ (w.forCall tape i).Shaped C.prog ∧ i.vars = [] ∧ Input.okWide C.prog (w.forCall tape i) .any w.heap.size f i ∧
   s.pre6 enc C.prog fn conds false (w.forCall tape i).memory i.args ∧ ({} : Assume).holds C.prog (lone (Frame.enter C.prog f i.args .normal) [] (w.forCall tape i)))
  (hl : laidOutB C.prog = true) (hpar : (fn.params.toList.all fun t => C.prog.readableRec t && decide (t < C.prog.types.size)) = true) (hvars : s.vars = [])
  (hres : fn.resultTypes = #[tb]) (htb : C.prog.underlying tb = some .bool)
  (hs : ∀ ds : List (DataW H), ds.length = fn.params.toList.length → s.fn H ds = { results := [.lit (.bool true)], args := ds }) (hopen : Opens C.prog fn f) :
  ReturnsInHanded {} C os f .any (s.pre6 enc C.prog fn conds false) (s.post enc C.prog fn false true false false) := by
 refine returnsInHanded_of_change (C := C) own started noInit hfn witness ?_
 intro W base args ds gs before hval hW hcnd _
 have hW' := hW
 obtain ⟨p, q, hA0, hV, rfl, hfz, hnd⟩ := hW
 have hA : DataW.TrodAll enc C.prog W 0 (fun _ => true) true fn.params.toList args.toList ds p := hA0
 rw [hvars] at hV
 obtain ⟨rfl, rfl⟩ := trodVars_none hV
 have hlt : ∀ x ∈ p, x.block < W.heap.size := fun x hx => hW'.lt x (by simp [hx])
 obtain ⟨Ss, h1, h2⟩ := hopen H enc W base args ds p hval hA hlt
 have hlen := trodAll_len hA
 refine (h2.2 W _ args.toList (fun _ h => h) h1).mono fun e W' => ?_
 rintro ⟨v, rfl, hk, hv⟩
 obtain rfl : v = .bool true := hv
 have bel := hk.below
 refine ⟨_, rfl, _, _, _, [], p, [], hW', ?_, ?_, ?_, ?_, fun h => by cases h⟩
 ·rw [List.append_nil, hs ds hlen.2, hres]
  exact trodAll_mk1 (shut_bool htb _)
 ·rw [List.append_nil, hs ds hlen.2]
  exact trodAll_below hl bel hpar hA hlt
 ·rw [List.append_nil, hs ds hlen.2, hvars]; exact hV
 ·exact bel.frame _
theorem rd_K {w : World} {sp : Nat → Bool} {fuel : Nat} {T : TypeId} {k : IntKind} {cs : List Value} {x : DataW H × List MemPlace} (hu : P.underlying T = some (.int k)) (h : DataW.trod enc P w 0 sp true fuel T cs = some x) :
  ∃ z, cs = [.int k z] ∧ rng k z := by
 obtain ⟨n, hc, _, hw⟩ := DataW.trod_int hu h
 exact ⟨n, hc, by simpa [Lit.wf, rng] using hw⟩
theorem rd_I {w : World} {sp : Nat → Bool} {fuel : Nat} {T : TypeId} {cs : List Value} {x : DataW H × List MemPlace} (hu : P.underlying T = some (.int .i64)) (h : DataW.trod enc P w 0 sp true fuel T cs = some x) :
  ∃ z : Int, cs = [.int .i64 z] ∧ -9223372036854775808 ≤ z ∧ z < 9223372036854775808 := by
 obtain ⟨z, rfl, h1, h2⟩ := rd_K hu h
 simp [IntKind.min, IntKind.max, IntKind.signed, IntKind.bits] at h1 h2
 exact ⟨z, rfl, by omega, by omega⟩
theorem list_of_get {α : Type} {p : Nat → α → Prop} : ∀ (n : Nat), (∀ i, i < n → ∃ a, p i a) → ∃ l : List α, l.length = n ∧ ∀ i (h : i < l.length), p i l[i]
  | 0, _ => ⟨[], rfl, fun i h => absurd h (by simp)⟩
  | n + 1, h => by
    obtain ⟨l, h1, h2⟩ := list_of_get n (fun i hi => h i (by omega))
    obtain ⟨a, ha⟩ := h n (by omega)
    refine ⟨l ++ [a], by simp [h1], fun i hi => ?_⟩
    rcases Nat.lt_or_ge i l.length with h3 | h3
    · rw [List.getElem_append_left h3]; exact h2 i h3
    · have : i = n := by simp at hi; omega
      subst this
      rw [List.getElem_append_right h3]; simpa [h1] using ha
theorem all2_of_get : ∀ {Ss : List VP} {w : World} {F : Blk} {vs : List Value}, Ss.length = vs.length → (∀ (i : Nat) (S : VP) (v : Value), Ss[i]? = some S → vs[i]? = some v → S.h w F v) → All2 Ss w F vs
 | [], _, _, [], _, _ => trivial
 | S :: Ss, _, _, v :: vs, hl, h => ⟨h 0 S v rfl rfl, all2_of_get (by simpa using hl) (fun i S' v' h1 h2 => h (i + 1) S' v' (by simpa using h1) (by simpa using h2))⟩
 | [], _, _, _ :: _, hl, _ => by simp at hl
 | _ :: _, _, _, [], hl, _ => by simp at hl
end
end Go.En
namespace Go.En
open Go.RowKit
def nilS : VP := .pure fun v => v = .slice none 0 0
instance : One nilS := ⟨fun w F v h => by rw [show v = _ from h]; rfl⟩
instance : Shape nilS [nilS] := .of_one inferInstance
def SlL (k n : Nat) (Ss : List VP) : VP := ⟨fun w F v => ∃ a cap, v = .slice a n cap ∧ n ≤ cap ∧ cap ≤ maxLen ∧ Ss.length = n * k ∧
    (n = 0 ∨ ∃ b off, a = some ⟨b, off, none⟩ ∧ F b ∧ ∃ vs, All2 Ss w F vs ∧ ∀ (j : Nat) u, vs[j]? = some u → w.cell? ⟨b, off + j, none⟩ = some u),
  fun w w' F F' v h h1 h2 => by
    obtain ⟨a, cap, e, g1, g2, g3, g4⟩ := h
    refine ⟨a, cap, e, g1, g2, g3, g4.imp id ?_⟩
    rintro ⟨b, off, rfl, hF, vs, hv, hc⟩
    refine ⟨b, off, rfl, h2 b hF, vs, All2.mono h1 h2 _ _ hv, fun j u hj => ?_⟩
    rw [← hc j u hj]
    simp only [World.cell?, h1 b hF]⟩
def SlM {α : Type} (f : α → VP) (xs : List α) : VP := SlL 1 xs.length (xs.map f)
def SlK {α : Type} (k : Nat) (f : α → List VP) (xs : List α) : VP := SlL k xs.length (xs.flatMap f)
abbrev isWords (xs : List Nat) : VP := SlM isU xs
def isWin (b o n c : Nat) : VP := .pure fun v => v = .slice (some ⟨b, o, none⟩) n c ∧ n ≤ c ∧ c ≤ maxLen
class IsSl (S : VP) (n : outParam Nat) : Prop where
 sl : ∀ w F v, S.h w F v → ∃ a c, v = .slice a n c ∧ n ≤ c ∧ c ≤ maxLen
instance {k n : Nat} {Ss : List VP} : IsSl (SlL k n Ss) n := ⟨fun w F v ⟨a, c, e, h1, h2, _⟩ => ⟨a, c, e, h1, h2⟩⟩
instance {α : Type} {f : α → VP} {xs : List α} : IsSl (SlM f xs) xs.length := ⟨fun w F v ⟨a, c, e, h1, h2, _⟩ => ⟨a, c, e, h1, h2⟩⟩
instance {α : Type} {k : Nat} {f : α → List VP} {xs : List α} : IsSl (SlK k f xs) xs.length := ⟨fun w F v ⟨a, c, e, h1, h2, _⟩ => ⟨a, c, e, h1, h2⟩⟩
instance {b o n c : Nat} : IsSl (isWin b o n c) n := ⟨fun w F v h => ⟨_, _, h.1, h.2.1, h.2.2⟩⟩
instance : IsSl nilS 0 := ⟨fun w F v h => ⟨_, _, h, Nat.le_refl _, by unfold maxLen; omega⟩⟩
instance (priority := 50) {S : VP} {n : Nat} [h : IsSl S n] : One S := ⟨fun w F v hv => by obtain ⟨a, c, rfl, _⟩ := h.sl w F v hv; rfl⟩
instance {k n : Nat} {Ss : List VP} : Shape (SlL k n Ss) [SlL k n Ss] := .of_one inferInstance
instance {α : Type} {f : α → VP} {xs : List α} : Shape (SlM f xs) [SlM f xs] := .of_one inferInstance
instance {α : Type} {k : Nat} {f : α → List VP} {xs : List α} : Shape (SlK k f xs) [SlK k f xs] := .of_one inferInstance
instance {b o n c : Nat} : Shape (isWin b o n c) [isWin b o n c] := .of_one inferInstance
def PtrL (Ss : List VP) : VP := ⟨fun w F v => ∃ b off, v = .pointer (some ⟨b, off, none⟩) ∧ F b ∧ ∃ vs, All2 Ss w F vs ∧ ∀ (j : Nat) u, vs[j]? = some u → w.cell? ⟨b, off + j, none⟩ = some u,
 fun w w' F F' v h h1 h2 => by
  obtain ⟨b, off, e, hF, vs, hv, hc⟩ := h
  refine ⟨b, off, e, h2 b hF, vs, All2.mono h1 h2 _ _ hv, fun j u hj => ?_⟩
  rw [← hc j u hj]
  simp only [World.cell?, h1 b hF]⟩
section
variable {E : Env} {P : Program} {Γ : Ctx} {M : Mem} {ty : TypeId} {pos : String} {after : Array Edge} {gd : Option (Nat × Bool)} {d : Option Tmp}
 {ops : Array Oper} {Q : Exit → Act → World → Prop} {rest : List Oper} {T T' : TypeId} {x y : Operand} {α : Type} {f : α → VP} {fk : α → List VP} {xs : List α}
theorem maxLen_eq : maxLen = 9223372036854775807 := rfl
theorem slB_under {e : TypeId} (h : slB P T = some e) : P.underlying T = some (.slice e) := by
 unfold slB at h
 cases hu : P.underlying T with
 | none => simp [hu] at h
 | some dd => rw [hu] at h; cases dd <;> simp at h; subst h; rfl
theorem OK1.len {e : TypeId} {S : VP} {n : Nat} [i : IsSl S n] (hT : slB P T = some e) (hx : Has E Γ M x S) : OK1 E P Γ M ⟨d, .call ⟨.builtin .len, #[x], #[T]⟩, ty, pos, after, gd⟩ (isI (n : Int)) :=
 .run fun a w F s => by
  obtain ⟨b, c, he, h1, h2⟩ := i.sl w F _ (hx a w F s)
  have hu := slB_under hT
  refine ⟨.int .i64 n, ?_, isI_of (by omega) (by rw [maxLen_eq] at h2; omega) w F⟩
  simp only [execOp, resolve, invoke, builtin, Sem.run_bind]
  simp [he, Builtin.len_, run_under hu, goInt, Sem.run_bind]
theorem Has.lenLt {S : VP} {n : Nat} [i : IsSl S n] (hx : Has E Γ M x S) : ∀ a w F, Sat E Γ M a w F → n ≤ 9223372036854775807 := fun a w F s => by
 obtain ⟨b, c, he, h1, h2⟩ := i.sl w F _ (hx a w F s)
 rw [maxLen_eq] at h2; omega
theorem flat_drop {k : Nat} : ∀ (xs : List α) (i : Nat) (x : α), (∀ y ∈ xs, (fk y).length = k) → xs[i]? = some x → ((xs.flatMap fk).drop (i * k)).take k = fk x
  | [], i, x, _, h => by simp at h
  | y :: xs, 0, x, hl, h => by
    simp at h; subst h
    have := hl y (by simp)
    simp [this]
  | y :: xs, i + 1, x, hl, h => by
    have h1 := hl y (by simp)
    have := flat_drop xs i x (fun z hz => hl z (by simp [hz])) (by simpa using h)
    rw [List.flatMap_cons, show (i + 1) * k = (fk y).length + i * k by rw [Nat.succ_mul, h1]; omega, List.drop_length_add_append]
    exact this
theorem flat1 : ∀ (xs : List α), xs.flatMap (fun a => [f a]) = xs.map f
 | [] => rfl
 | a :: l => by simp [flat1 l]
theorem run_ix {e : TypeId} {m len cap : Nat} {b off : Nat} {k : IntKind} {z : Int} {g : Bool} (hT : slB P T = some e) (ht : tyB P e = some (m, g)) (h0 : 0 ≤ z) (h1 : z < len) (w : World) :
  (Instr.indexAt T (.slice (some ⟨b, off, none⟩) len cap) (.int k z)).run P w = .ok (.pointer (some ⟨b, off + z.toNat * m, none⟩)) w := by
 have hu := slB_under hT
 simp only [Instr.indexAt, asIntOf, Sem.run_bind, Sem.run_pure, run_under hu, Result.andThen_ok]
 rw [if_pos ⟨h0, h1⟩]
 simp only [Sem.run_bind, run_size ht, Result.andThen_ok, Sem.run_pure, add_mk]
theorem OK1.ixL {e : TypeId} {m n : Nat} {g : Bool} {k : IntKind} {z : Int} {Ss Ts : List VP} (hT : slB P T = some e) (ht : tyB P e = some (m, g)) (hx : Has E Γ M x (SlL m n Ss)) (hy : ∀ a w F, Sat E Γ M a w F → a.eval y = .int k z)
  (h0 : 0 ≤ z) (h1 : z < n) (hS : (Ss.drop (z.toNat * m)).take m = Ts) : OK1 E P Γ M ⟨d, .indexAddr T x y, ty, pos, after, gd⟩ (PtrL Ts) :=
 .run fun a w F s => by
  obtain ⟨ad, cap, he, g1, g2, g3, g4⟩ := hx a w F s
  have h2 := hy a w F s
  rcases g4 with g4 | ⟨b, off, rfl, hF, vs, hv, hc⟩
  ·omega
  refine ⟨.pointer (some ⟨b, off + z.toNat * m, none⟩), ?_, b, _, rfl, hF, (vs.drop (z.toNat * m)).take m, hS ▸ (hv.drop _).take m, fun j u hj => ?_⟩
  ·simp only [execOp, he, h2, Sem.run_bind, run_ix hT ht h0 h1, Result.andThen_ok, Sem.run_pure]
  ·have hjm : j < m := by
    rcases Nat.lt_or_ge j m with h | h
    ·exact h
    ·rw [List.getElem?_take_eq_none h] at hj; cases hj
   rw [List.getElem?_take_of_lt hjm, List.getElem?_drop] at hj
   have := hc _ _ hj
   rwa [← Nat.add_assoc] at this
theorem OK1.ixP {e : TypeId} {g : Bool} {z : Int} {x' : α} (hT : slB P T = some e) (ht : tyB P e = some (1, g)) (hx : Has E Γ M x (SlM f xs)) (hy : Has E Γ M y (isI z))
  (h0 : 0 ≤ z ∧ z < xs.length) (hS : xs[z.toNat]? = some x') : OK1 E P Γ M ⟨d, .indexAddr T x y, ty, pos, after, gd⟩ (PtrL [f x']) :=
 OK1.ixL hT ht hx (evI hy) h0.1 h0.2 (by
  have := flat_drop (fk := fun a => [f a]) (k := 1) xs z.toNat x' (by simp) hS
  rwa [flat1] at this)
theorem OK1.ixK {e : TypeId} {g : Bool} {k : Nat} {z : Int} {x' : α} (hT : slB P T = some e) (ht : tyB P e = some (k, g)) (hx : Has E Γ M x (SlK k fk xs)) (hy : Has E Γ M y (isI z))
  (hk : ∀ y, (fk y).length = k) (h0 : 0 ≤ z ∧ z < xs.length) (hS : xs[z.toNat]? = some x') : OK1 E P Γ M ⟨d, .indexAddr T x y, ty, pos, after, gd⟩ (PtrL (fk x')) :=
 OK1.ixL hT ht hx (evI hy) h0.1 h0.2 (flat_drop xs z.toNat x' (fun y _ => hk y) hS)
theorem getD_some {d : α} {i : Nat} (h : i < xs.length) : xs[i]? = some (xs.getD i d) := by simp [List.getD, h]
theorem OK1.loadP1 {S : VP} {Ss : List VP} (hx : Has E Γ M x (PtrL (S :: Ss))) (hT : tyB P T = some (1, false)) : OK1 E P Γ M ⟨d, .load T x, ty, pos, after, gd⟩ S :=
 .run fun a w F s => by
  obtain ⟨b, off, he, hF, vs, hv, hc⟩ := hx a w F s
  obtain ⟨v, hv1, hv2⟩ := hv.get 0 S rfl
  have hc' := hc 0 v hv1
  refine ⟨v, ?_, hv2⟩
  simp only [execOp, he, Instr.loadAt, Instr.sureAddr, loadVar, Sem.run_bind, Sem.run_pure, Result.andThen_ok, run_isAgg hT]
  have hc2 : w.cell? ⟨b, off, none⟩ = some v := hc'
  simp [hc2]
theorem OK1.loadP {n : Nat} {Ss Ss' : List VP} (hx : Has E Γ M x (PtrL Ss)) (hT : tyB P T = some (n, true)) (hl : Nat.ble n Ss.length = true) (hS : Ss.take n = Ss') : OK1 E P Γ M ⟨d, .load T x, ty, pos, after, gd⟩ (Flat Ss') :=
 .run fun a w F s => by
  obtain ⟨b, off, he, hF, vs, hv, hc⟩ := hx a w F s
  have hlen := hv.len
  have hl' := Nat.le_of_ble_eq_true hl
  refine ⟨.agg (vs.take n).toArray, ?_, _, rfl, hS ▸ hv.take n⟩
  have h1 := run_loadCells_list (P := P) w ⟨b, off, none⟩ (vs.take n) (fun j v hj => by
   have hjn : j < n := by
    rcases Nat.lt_or_ge j n with h | h
    ·exact h
    ·rw [List.getElem?_take_eq_none h] at hj; cases hj
   rw [List.getElem?_take_of_lt hjn] at hj
   rw [add_mk]; exact hc j v hj)
  rw [show (vs.take n).length = n by simp; omega] at h1
  simp only [execOp, he, Instr.loadAt, Instr.sureAddr, loadVar, Sem.run_bind, Sem.run_pure, Result.andThen_ok, run_isAgg hT, run_size hT, if_true, h1]
theorem OK1.fieldAddrP {i o n : Nat} {g : Bool} {T' : TypeId} {Ss Ss' : List VP} (hx : Has E Γ M x (PtrL Ss)) (hf : fldB P T i = some (o, T')) (ht : tyB P T' = some (n + 1, g)) (hS : Ss.drop o = Ss') :
    OK1 E P Γ M ⟨d, .fieldAddr T x i, ty, pos, after, gd⟩ (PtrL Ss') :=
  .run fun a w F s => by
    obtain ⟨b, off, he, hF, vs, hv, hc⟩ := hx a w F s
    refine ⟨.pointer (some ⟨b, off + o, none⟩), ?_, b, _, rfl, hF, vs.drop o, hS ▸ hv.drop o, fun j u hj => by rw [List.getElem?_drop] at hj; have := hc _ _ hj; rwa [← Nat.add_assoc] at this⟩
    unfold fldB at hf
    cases hu : P.underlying T with
    | none => simp [hu] at hf
    | some dd =>
      rw [hu] at hf
      cases dd <;> simp at hf
      rename_i fs
      obtain ⟨fd, hf1, hf2, hf3⟩ := hf
      subst hf2 hf3
      simp only [execOp, he, Instr.fieldAt, Instr.sureAddr, fieldPlace, Sem.run_bind, Sem.run_pure, Result.andThen_ok, run_under hu, run_size ht, hf1]
      simp [add_mk]
/-! ### parts of slices -/
theorem run_bound {z : Int} {k : IntKind} {y' : Nat} {c : BoundsCode} (h0 : 0 ≤ z) (h1 : z ≤ y') (w : World) : (Instr.sliceBound (.int k z) y' c).run P w = .ok z.toNat w := by
 simp only [Instr.sliceBound, asIntOf, Sem.run_bind, Sem.run_pure, Result.andThen_ok]
 rw [if_pos ⟨h0, h1⟩]; rfl
theorem run_slice {e : TypeId} {m n cap : Nat} {a : Option Addr} {g : Bool} {lo hi : Option Value} {l h : Nat} (hT : slB P T = some e) (ht : tyB P e = some (m, g)) (w : World)
  (hb : (Instr.sliceBounds true n cap lo hi none).run P w = .ok (l, h, cap) w) :
  (Instr.sliceAt T (.slice a n cap) lo hi none).run P w = .ok (.slice (if cap = l then a else a.map (·.add (l * m))) (h - l) (cap - l)) w := by
 have hu := slB_under hT
 simp only [Instr.sliceAt, Sem.run_bind, run_under hu, Result.andThen_ok, Instr.slice, hb, run_size ht, Sem.run_pure]
theorem SlL_part {k n l h cap : Nat} {Ss : List VP} {w : World} {F : Blk} {a : Option Addr} (hs : (SlL k n Ss).h w F (.slice a n cap)) (h1 : l ≤ h) (h2 : h ≤ n) :
  (SlL k (h - l) ((Ss.take (h * k)).drop (l * k))).h w F (.slice (if cap = l then a else a.map (·.add (l * k))) (h - l) (cap - l)) := by
 obtain ⟨a', cap', e, g1, g2, g3, g4⟩ := hs
 obtain ⟨rfl, _, rfl⟩ : a = a' ∧ True ∧ cap = cap' := by simpa using e
 have hnk : h * k ≤ n * k := Nat.mul_le_mul_right _ h2
 have hlk : l * k ≤ h * k := Nat.mul_le_mul_right _ h1
 refine ⟨_, _, rfl, by omega, by omega, by rw [List.length_drop, List.length_take, g3, Nat.min_eq_left hnk, Nat.sub_mul], ?_⟩
 rcases g4 with g4 | ⟨b, off, rfl, hF, vs, hv, hc⟩
 ·left; omega
 ·by_cases hz : h - l = 0
  ·exact .inl hz
  ·right
   have hcl : ¬ cap = l := by omega
   rw [if_neg hcl]
   refine ⟨b, off + l * k, by simp [add_mk], hF, (vs.take (h * k)).drop (l * k), (hv.take _).drop _, fun j u hj => ?_⟩
   rw [List.getElem?_drop] at hj
   have hjl : l * k + j < h * k := by
    rcases Nat.lt_or_ge (l * k + j) (h * k) with hh | hh
    ·exact hh
    ·rw [List.getElem?_take_eq_none hh] at hj; cases hj
   rw [List.getElem?_take_of_lt hjl] at hj
   have := hc _ _ hj
   rwa [← Nat.add_assoc] at this
theorem OK1.slG {e : TypeId} {k n l h : Nat} {g : Bool} {Ss : List VP} {lo hi : Option Operand} {S : VP} (hT : slB P T = some e) (ht : tyB P e = some (k, g)) (hx : Has E Γ M x (SlL k n Ss))
  (hb : ∀ a w F, Sat E Γ M a w F → ∀ cap, n ≤ cap → (Instr.sliceBounds true n cap (lo.map a.eval) (hi.map a.eval) none).run P w = .ok (l, h, cap) w) (h1 : l ≤ h) (h2 : h ≤ n)
  (hS : SlL k (h - l) ((Ss.take (h * k)).drop (l * k)) = S) : OK1 E P Γ M ⟨d, .slice T x lo hi none, ty, pos, after, gd⟩ S :=
 .run fun a w F s => by
  have hs := hx a w F s
  obtain ⟨ad, cap, he, g1, g2, g3, g4⟩ := id hs
  rw [he] at hs
  refine ⟨_, ?_, hS ▸ SlL_part hs h1 h2⟩
  have := run_slice (P := P) (a := ad) hT ht w (hb a w F s cap g1)
  simp only [execOp, he, Sem.run_bind, this, Result.andThen_ok, Sem.run_pure, Option.map_none]
theorem OK1.slLM {e : TypeId} {g : Bool} {z : Int} (hT : slB P T = some e) (ht : tyB P e = some (1, g)) (hx : Has E Γ M x (SlM f xs)) (hy : Has E Γ M y (isI z)) (h : 0 ≤ z ∧ z ≤ xs.length) :
  OK1 E P Γ M ⟨d, .slice T x (some y) none none, ty, pos, after, gd⟩ (SlM f (xs.drop z.toNat)) :=
 OK1.slG (l := z.toNat) (h := xs.length) hT ht hx (fun a w F s cap hc => by
  simp only [Instr.sliceBounds, Option.map_some, Option.map_none, evI hy a w F s, Sem.run_bind, Sem.run_pure, Result.andThen_ok, run_bound h.1 h.2]) (by omega) (Nat.le_refl _)
  (by unfold SlM; rw [Nat.mul_one, Nat.mul_one, List.take_of_length_le (by simp), List.length_drop, List.map_drop])
theorem OK1.slHM {e : TypeId} {g : Bool} {z : Int} (hT : slB P T = some e) (ht : tyB P e = some (1, g)) (hx : Has E Γ M x (SlM f xs)) (hy : Has E Γ M y (isI z)) (h : 0 ≤ z ∧ z ≤ xs.length) :
  OK1 E P Γ M ⟨d, .slice T x none (some y) none, ty, pos, after, gd⟩ (SlM f (xs.take z.toNat)) :=
 OK1.slG (l := 0) (h := z.toNat) hT ht hx (fun a w F s cap hc => by
  simp only [Instr.sliceBounds, Option.map_some, Option.map_none, evI hy a w F s, Sem.run_bind, Sem.run_pure, Result.andThen_ok, run_bound h.1 (show z ≤ (cap : Int) by omega)]) (by omega) (by omega)
  (by unfold SlM; rw [List.length_take, Nat.min_eq_left (by omega)]; simp [List.map_take])
/-! ### windows over a block of the call's own -/
theorem OK1.ixWin {e : TypeId} {m b o n c : Nat} {g : Bool} {z : Int} (hT : slB P T = some e) (ht : tyB P e = some (m, g)) (hx : Has E Γ M x (isWin b o n c)) (hy : Has E Γ M y (isI z)) (h : 0 ≤ z ∧ z < n) :
  OK1 E P Γ M ⟨d, .indexAddr T x y, ty, pos, after, gd⟩ (isPtr b (o + z.toNat * m)) :=
 .run fun a w F s => by
  obtain ⟨he, g1, g2⟩ := hx a w F s
  exact ⟨_, by simp only [execOp, he, evI hy a w F s, Sem.run_bind, run_ix hT ht h.1 h.2, Result.andThen_ok, Sem.run_pure], rfl⟩
theorem OK1.slLWin {e : TypeId} {m b o n c : Nat} {g : Bool} {z : Int} (hT : slB P T = some e) (ht : tyB P e = some (m, g)) (hx : Has E Γ M x (isWin b o n c)) (hy : Has E Γ M y (isI z)) (h : 0 ≤ z ∧ z ≤ n ∧ z < c) :
  OK1 E P Γ M ⟨d, .slice T x (some y) none none, ty, pos, after, gd⟩ (isWin b (o + z.toNat * m) (n - z.toNat) (c - z.toNat)) :=
 .run fun a w F s => by
  obtain ⟨he, g1, g2⟩ := hx a w F s
  refine ⟨_, ?_, rfl, by omega, by omega⟩
  have hb : (Instr.sliceBounds true n c (some (.int .i64 z)) none none).run P w = .ok (z.toNat, n, c) w := by
   simp only [Instr.sliceBounds, Sem.run_bind, Sem.run_pure, Result.andThen_ok, run_bound h.1 h.2.1]
  have := run_slice (P := P) (a := some ⟨b, o, none⟩) hT ht w hb
  rw [if_neg (show ¬ c = z.toNat by omega)] at this
  simp only [execOp, he, evI hy a w F s, Option.map_some, Option.map_none, Sem.run_bind, this, Result.andThen_ok, Sem.run_pure, add_mk]
theorem OK1.slHWin {e : TypeId} {m b o n c : Nat} {g : Bool} {z : Int} (hT : slB P T = some e) (ht : tyB P e = some (m, g)) (hx : Has E Γ M x (isWin b o n c)) (hy : Has E Γ M y (isI z)) (h : 0 ≤ z ∧ z ≤ n ∧ 0 < c) :
  OK1 E P Γ M ⟨d, .slice T x none (some y) none, ty, pos, after, gd⟩ (isWin b o z.toNat c) :=
 .run fun a w F s => by
  obtain ⟨he, g1, g2⟩ := hx a w F s
  refine ⟨_, ?_, rfl, by omega, by omega⟩
  have hb : (Instr.sliceBounds true n c none (some (.int .i64 z)) none).run P w = .ok (0, z.toNat, c) w := by
   simp only [Instr.sliceBounds, Sem.run_bind, Sem.run_pure, Result.andThen_ok, run_bound h.1 (show z ≤ (c : Int) by omega)]
  have := run_slice (P := P) (a := some ⟨b, o, none⟩) hT ht w hb
  rw [if_neg (show ¬ c = 0 by omega)] at this
  simp only [execOp, he, evI hy a w F s, Option.map_some, Option.map_none, Sem.run_bind, this, Result.andThen_ok, Sem.run_pure, add_mk, Nat.zero_mul, Nat.add_zero, Nat.sub_zero]
theorem OK1.slLHWin {e : TypeId} {m b o n c : Nat} {g : Bool} {y2 : Operand} {z z2 : Int} (hT : slB P T = some e) (ht : tyB P e = some (m, g)) (hx : Has E Γ M x (isWin b o n c)) (hy : Has E Γ M y (isI z)) (hy2 : Has E Γ M y2 (isI z2)) (h : 0 ≤ z ∧ z ≤ z2 ∧ z2 ≤ n ∧ z < c) :
  OK1 E P Γ M ⟨d, .slice T x (some y) (some y2) none, ty, pos, after, gd⟩ (isWin b (o + z.toNat * m) (z2.toNat - z.toNat) (c - z.toNat)) :=
 .run fun a w F s => by
  obtain ⟨he, g1, g2⟩ := hx a w F s
  refine ⟨_, ?_, rfl, by omega, by omega⟩
  have hb : (Instr.sliceBounds true n c (some (.int .i64 z)) (some (.int .i64 z2)) none).run P w = .ok (z.toNat, z2.toNat, c) w := by
   simp only [Instr.sliceBounds, Sem.run_bind, Sem.run_pure, Result.andThen_ok, run_bound (show 0 ≤ z2 by omega) (show z2 ≤ (c : Int) by omega), run_bound h.1 (show z ≤ (z2.toNat : Int) by omega)]
  have := run_slice (P := P) (a := some ⟨b, o, none⟩) hT ht w hb
  rw [if_neg (show ¬ c = z.toNat by omega)] at this
  simp only [execOp, he, evI hy a w F s, evI hy2 a w F s, Option.map_some, Option.map_none, Sem.run_bind, this, Result.andThen_ok, Sem.run_pure, add_mk]
theorem map_some {i : Nat} {x' : α} (h : xs[i]? = some x') : (xs.map f)[i]? = some (f x') := by rw [List.getElem?_map, h]; rfl
theorem Ops.storeM {b off i : Nat} {T : TypeId} {z : α} [sh : Shape (f z) [f z]] [o1 : One (f z)] (hx : Has E Γ M x (isPtr b off)) (hy : Has E Γ M y (f z))
  (hM : M[i]? = some (some b, cellM (xs.map f))) (hT : tyB P T = some (1, false)) (hl : off < xs.length) {M' : Mem}
  (hM' : M.set i (some b, cellM ((xs.set off z).map f)) = M') (k : Ops E P ops Q rest Γ M') : Ops E P ops Q (⟨none, .store T x y, ty, pos, after, none⟩ :: rest) Γ M :=
 Ops.store (Ss1 := [f z]) hx hy hM hT rfl (by rw [Nat.ble_eq]; simp; omega) (Ss' := (xs.set off z).map f) (by
  rw [List.set_eq_take_append_cons_drop, if_pos hl]
  simp [List.map_take, List.map_drop]) hM' k
theorem make_flat {z : Value} {c m : Nat} (hm : z.cells.size = m) : ((Array.range (c * m)).map fun j => z.cells[j % z.cells.size]!) = ((List.replicate c z.cells.toList).flatten).toArray := by
  apply Array.ext'
  rw [Array.toList_map, Array.toList_range]
  simp only []
  apply List.ext_getElem?
  intro j
  rw [List.getElem?_map]
  have hlen : ((List.replicate c z.cells.toList).flatten).length = c * m := by simp [hm]
  rcases Nat.lt_or_ge j (c * m) with hj | hj
  · rw [List.getElem?_range hj]
    have hm0 : 0 < m := by
      rcases Nat.eq_zero_or_pos m with h | h
      · subst h; simp at hj
      · exact h
    have hjm : j % m < z.cells.size := by rw [hm]; exact Nat.mod_lt _ hm0
    have : ∀ (c j : Nat), j < c * m → ((List.replicate c z.cells.toList).flatten)[j]? = z.cells.toList[j % m]? := by
      intro c
      induction c with
      | zero => intro j hj; simp at hj
      | succ c ih =>
        intro j hj
        rw [List.replicate_succ, List.flatten_cons]
        rcases Nat.lt_or_ge j m with h | h
        · rw [List.getElem?_append_left (by simp [hm]; exact h), Nat.mod_eq_of_lt h]
        · rw [List.getElem?_append_right (by simp [hm]; exact h)]
          simp only [Array.length_toList, hm]
          rw [ih (j - m) (by rw [Nat.succ_mul] at hj; omega), ← Nat.mod_eq_sub_mod h]
    rw [this c j hj]
    rw [hm, Array.getElem?_toList, Array.getElem?_eq_getElem hjm, Option.map_some, getElem!_pos z.cells (j % m) hjm]
  · rw [List.getElem?_eq_none (by simp; omega), List.getElem?_eq_none (by omega)]; rfl
theorem run_make {e : TypeId} {m : Nat} {g : Bool} {z : Value} {n c : Nat} {i : TypeInfo} (hT : slB P T = some e) (ht : tyB P e = some (m, g)) (hz : zeroB P e = some z) (hi : P.info? e = some i) (hby : i.bytes ≤ 1024) (hn : n ≤ c) (hc : c ≤ 4294967296) (hm : z.cells.size = m) (w : World) :
  (Instr.makeSlice T (.int .i64 n) (.int .i64 c)).run P w = .ok (.slice (some ⟨w.heap.size, 0, none⟩) n c) { w with heap := w.heap.push (.cells ((List.replicate c z.cells.toList).flatten).toArray e) } := by
 have hu := slB_under hT
 have h1 : IntKind.i64.wrap (n : Int) = n := wrap_i64 (by omega) (by omega)
 have h2 : IntKind.i64.wrap (c : Int) = c := wrap_i64 (by omega) (by omega)
 have hb : ¬ ((i.bytes : Int) * (c : Int) > 2 ^ 48) := by
  have : i.bytes * c ≤ 1024 * 4294967296 := Nat.mul_le_mul hby hc
  have h3 : ((i.bytes : Int) * (c : Int)) = ((i.bytes * c : Nat) : Int) := by simp
  rw [h3]; omega
 have hfl : ((Array.range (c * m)).map fun j => z.cells[j % z.cells.size]!) = ((List.replicate c z.cells.toList).flatten).toArray := make_flat hm
 simp only [Instr.makeSlice, Sem.run_bind, run_under hu, Result.andThen_ok, asInt, asIntOf, Sem.run_pure, typeInfo, run_program, hi, h1, h2]
 rw [if_neg (by
  simp only [Bool.or_eq_true, decide_eq_true_eq, not_or]
  exact ⟨⟨⟨by omega, hb⟩, by omega⟩, by omega⟩)]
 simp only [Sem.run_bind, run_askRoom, Result.andThen_ok, run_size ht, Int.toNat_natCast]
 by_cases h0 : c * m = 0
 ·rw [if_pos h0]
  simp only [Sem.run_bind, Sem.run_pure, Result.andThen_ok, h0]
  have : ((List.replicate c z.cells.toList).flatten) = [] := by
   apply List.eq_nil_of_length_eq_zero; simp [hm, h0]
  have e0 : Array.range 0 = #[] := by apply Array.ext'; simp
  simp [newRow, Sem.run_bind, run_newObj, this, e0]
 ·rw [if_neg h0]
  simp only [Sem.run_bind, run_zero hz, Result.andThen_ok, Sem.run_pure, hfl, newRow, run_newObj]
def byLe (P : Program) (T : TypeId) (n : Nat) : Bool := match P.info? T with
 | some i => Nat.ble i.bytes n
 | none => false
theorem Ops.make {d : Nat} {e : TypeId} {g : Bool} {z : Value} {n c : Nat} {u : α} (hT : slB P T = some e) (ht : tyB P e = some (1, g)) (hz : zeroB P e = some z) (hZ : ∀ w F, All2 [f u] w F z.cells.toList) (hby : byLe P e 1024 = true)
    (hx : Has E Γ M x (isI (n : Int))) (hy : Has E Γ M y (isI (c : Int))) (hn : n ≤ c ∧ c ≤ 4294967296) (hd : Nat.blt d E.n = true)
    (k : ∀ b, Ops E P ops Q rest ((d, isWin b 0 n c) :: Γ) ((some b, cellM ((List.replicate c u).map f)) :: M)) : Ops E P ops Q (⟨some d, .makeSlice T x y, ty, pos, after, none⟩ :: rest) Γ M := by
  intro a w F s
  refine wpList_plain rfl fun K hK => ?_
  unfold Oper.wp
  have hm : z.cells.size = 1 := by have := (hZ w F).len; simpa using this.symm
  obtain ⟨i, hi, hb⟩ : ∃ i, P.info? e = some i ∧ i.bytes ≤ 1024 := by
    unfold byLe at hby
    cases hi : P.info? e with
    | none => simp [hi] at hby
    | some i => rw [hi] at hby; exact ⟨i, rfl, Nat.le_of_ble_eq_true hby⟩
  have hr : (execOp a.eval (⟨some d, .makeSlice T x y, ty, pos, after, none⟩ : Oper)).run P w = .ok (.value (.slice (some ⟨w.heap.size, 0, none⟩) n c)) { w with heap := w.heap.push (.cells ((List.replicate c z.cells.toList).flatten).toArray e) } := by
    simp only [execOp, evI hx a w F s, evI hy a w F s, Sem.run_bind, run_make hT ht hz hi hb hn.1 hn.2 hm, Result.andThen_ok, Sem.run_pure]
  rw [hr]
  have hall : All2 ((List.replicate c u).map f) w F ((List.replicate c z.cells.toList).flatten) := by
    induction c with
    | zero => trivial
    | succ c ih =>
      clear hr ih hn k hy
      have : ∀ c, All2 ((List.replicate c u).map f) w F ((List.replicate c z.cells.toList).flatten) := by
        intro c
        induction c with
        | zero => trivial
        | succ c ih =>
          rw [List.replicate_succ, List.replicate_succ, List.flatten_cons, List.map_cons]
          exact All2.append (hZ w F) ih
      exact this _
  have s1 := s.alloc (T := e) hall
  have hd' : d < E.n := by simpa [Nat.blt_eq] using hd
  exact hK _ _ (k w.heap.size _ _ F (s1.put hd' ⟨rfl, hn.1, by rw [maxLen_eq]; omega⟩))
theorem Cv.freeze {t b o n c i : Nat} (hW : ∀ k, k ∈ E.W → ∃ j C, j ≠ i ∧ M[j]? = some (some k, C)) (ht : look Γ t = some (isWin b o n c)) (hM : M[i]? = some (some b, cellM (xs.map f))) (hl : o + n ≤ xs.length) : Cv E Γ M ((t, SlM f ((xs.drop o).take n)) :: Γ) (M.eraseIdx i) := by
  intro a w F s
  obtain ⟨h1, h2, h3, ob, h4, vs, T', rfl, hv⟩ := s.mem.each b _ (List.mem_of_getElem? hM)
  refine ⟨fun k => F k ∨ k = b, ?_⟩
  have hsub : ∀ k, F k → (F k ∨ k = b) := fun k hk => .inl hk
  have hi : i < M.length := by
    rcases Nat.lt_or_ge i M.length with h | h
    · exact h
    · rw [List.getElem?_eq_none h] at hM; cases hM
  have hMi : M[i] = (some b, cellM (xs.map f)) := by rw [List.getElem?_eq_getElem hi] at hM; exact Option.some.inj hM
  have hbW : E.w0.heap.size ≤ b := h1.resolve_right (fun hb => by
    obtain ⟨j, C, hji, hj⟩ := hW b hb
    have hjl : j < M.length := by
      rcases Nat.lt_or_ge j M.length with h | h
      · exact h
      · rw [List.getElem?_eq_none h] at hj; cases hj
    have hMj : M[j] = (some b, C) := by rw [List.getElem?_eq_getElem hjl] at hj; exact Option.some.inj hj
    rcases Nat.lt_or_gt_of_ne hji with hlt | hlt
    · have hp := List.pairwise_iff_getElem.1 s.mem.apart j i hjl hi hlt
      rw [hMi, hMj] at hp; simp at hp
    · have hp := List.pairwise_iff_getElem.1 s.mem.apart i j hi hjl hlt
      rw [hMi, hMj] at hp; simp at hp)
  obtain ⟨e1, e2, e3⟩ := s.slots t _ ht
  · refine { defers := s.defers, size := s.size, keep := s.keep, f0 := fun k hk => .inl (s.f0 k hk), fnew := ?_, flt := ?_, slots := ?_, mem := ⟨s.mem.apart.sublist (List.eraseIdx_sublist _ _), ?_⟩ }
    · rintro k (hk | rfl)
      · exact s.fnew k hk
      · exact .inr ⟨hbW, h2⟩
    · rintro k (hk | rfl)
      · exact s.flt k hk
      · exact h2
    · intro t' S' ht'
      simp only [look] at ht'
      cases hb : Nat.beq t t' with
      | false => rw [hb] at ht'; exact S'.mono _ _ _ _ _ (s.slots t' S' ht') (fun _ _ => rfl) hsub
      | true =>
        rw [hb] at ht'
        obtain rfl : SlM f ((xs.drop o).take n) = S' := by simpa using ht'
        obtain rfl := Nat.eq_of_beq_eq_true hb
        have hlen : ((xs.drop o).take n).length = n := by simp; omega
        refine ⟨some ⟨b, o, none⟩, c, ?_, by rw [hlen]; exact e2, e3, by simp, ?_⟩
        · rw [hlen]; exact e1
        · right
          refine ⟨b, o, rfl, .inr rfl, (vs.drop o).take n, ?_, fun j u hj => ?_⟩
          · rw [List.map_take, List.map_drop]
            exact All2.mono (fun _ _ => rfl) hsub _ _ ((hv.drop o).take n)
          · have hjn : j < n := by
              rcases Nat.lt_or_ge j n with h | h
              · exact h
              · rw [List.getElem?_take_eq_none h] at hj; cases hj
            rw [List.getElem?_take_of_lt hjn, List.getElem?_drop] at hj
            simp [World.cell?, h4, hj]
    · intro k C hk
      obtain ⟨j, hji, hj⟩ := List.mem_eraseIdx_iff_getElem?.1 hk
      obtain ⟨g1, g2, g3, o2, g4, g5⟩ := s.mem.each k C (List.mem_of_getElem? hj)
      have hkb : k ≠ b := by
        intro e; subst e
        have hjl : j < M.length := by
          rcases Nat.lt_or_ge j M.length with h | h
          · exact h
          · rw [List.getElem?_eq_none h] at hj; cases hj
        have hMj : M[j] = (some k, C) := by rw [List.getElem?_eq_getElem hjl] at hj; exact Option.some.inj hj
        rcases Nat.lt_or_gt_of_ne hji with hlt | hlt
        · have hp := List.pairwise_iff_getElem.1 s.mem.apart j i hjl hi hlt
          rw [hMi, hMj] at hp; simp at hp
        · have hp := List.pairwise_iff_getElem.1 s.mem.apart i j hi hjl hlt
          rw [hMi, hMj] at hp; simp at hp
      exact ⟨g1, g2, fun h => h.elim g3 hkb, o2, g4, C.mono _ _ _ _ _ g5 (fun _ _ => rfl) hsub⟩
/-! ### functions that write a row of their caller's -/
def RetM (w : World) (F : Blk) (b : Nat) (R : VP) (post : MP) : Ending → World → Prop := fun e w' => ∃ v, e = .returned v ∧ Keep [b] w w' ∧ R.h w' (fresh F w w') v ∧ ∃ o, w'.heap[b]? = some o ∧ post.h w' (fresh F w w') o
def CtrM (P : Program) (f : FuncId) (args : Nat → List VP) (pre post : MP) (R : Nat → VP) : Prop :=
 Enters P f ∧ ∀ (w : World) (F : Blk) (vs : List Value) (b : Nat), (∀ k, F k → k < w.heap.size) → b < w.heap.size → ¬ F b → (∃ o, w.heap[b]? = some o ∧ pre.h w F o) → All2 (args b) w F vs →
  Calls P f vs.toArray w (RetM w F b (R b) post)
theorem CtrM.intro {f : FuncId} {fn : Func} {c : Code} {args : Nat → List VP} {pre post : MP} {R : Nat → VP} (hf : P.funcs[f]? = some fn) (hb : fn.body = some c) (hn : (fn.name == "runtime.NumGoroutine") = false) {nt : Nat} (hnt : fn.ntmps = nt)
  (hsz : ∀ b, Nat.ble (args b).length nt = true)
  (h : ∀ w F b, Tri ⟨w, F, [b], nt⟩ P c (argsCtx 0 (args b)) [(some b, pre)] (bodyPost P fn (RetM w F b (R b) post))) : CtrM P f args pre post R := by
 subst hnt
 refine ⟨⟨fn, hf, by simp [hb], hn⟩, fun w F vs b hF hbw hbF hpre hargs => ?_⟩
 have hlen := hargs.len
 have hsz' : (args b).length ≤ fn.ntmps := by simpa using Nat.le_of_ble_eq_true (hsz b)
 refine calls_of_wp hf hb (h w F b _ w F ?_)
 refine { defers := rfl, size := ?_, keep := Keep.refl _ _, f0 := fun _ h => h, fnew := fun _ h => .inl h, flt := hF, slots := ?_, mem := ⟨by simp, fun k C hk => ?_⟩ }
 ·simp; omega
 ·intro t S ht
  obtain ⟨_, h2⟩ := look_args (args b) 0 t S ht
  obtain ⟨v, hv, hS⟩ := hargs.get t S (by simpa using h2)
  have : (vs.toArray ++ Array.replicate (fn.ntmps - vs.toArray.size) undef).getD t undef = v := by
   have hlt : t < vs.length := by
    rcases Nat.lt_or_ge t vs.length with h | h
    ·exact h
    ·simp [List.getElem?_eq_none h] at hv
   have e : vs[t] = v := by rw [List.getElem?_eq_getElem hlt] at hv; exact Option.some.inj hv
   simp [Array.getElem?_append, hlt, e]
  rw [this]; exact hS
 ·obtain ⟨rfl, rfl⟩ : k = b ∧ C = pre := by simpa using hk
  exact ⟨.inr (by simp), hbw, hbF, hpre⟩
theorem Sat.change {a : Act} {w w' : World} {F : Blk} (s : Sat E Γ M a w F) {i b : Nat} {C C' : MP} (hM : M[i]? = some (some b, C)) (hk : Keep [b] w w')
  {o : Obj} (ho : w'.heap[b]? = some o) (hC : C'.h w' (fresh F w w') o) : Sat E Γ (M.set i (some b, C')) a w' (fresh F w w') := by
 obtain ⟨h1, h2, h3, o1, h4, h5⟩ := s.mem.each b C (List.mem_of_getElem? hM)
 have hF : ∀ k, F k → w'.heap[k]? = w.heap[k]? := fun k hk' => hk.block k (s.flt k hk') (by simp; intro e; exact h3 (e ▸ hk'))
 have hsub : ∀ k, F k → fresh F w w' k := fun k h => .inl h
 have hi : i < M.length := by
  rcases Nat.lt_or_ge i M.length with h | h
  ·exact h
  ·rw [List.getElem?_eq_none h] at hM; cases hM
 have hMi : M[i] = (some b, C) := by rw [List.getElem?_eq_getElem hi] at hM; exact Option.some.inj hM
 refine { defers := s.defers, size := s.size, keep := ?_, f0 := fun k h => .inl (s.f0 k h), fnew := ?_, flt := ?_, slots := ?_, mem := ⟨?_, ?_⟩ }
 ·refine ⟨hk.os.trans s.keep.os, hk.tape.trans s.keep.tape, hk.output.trans s.keep.output, Nat.le_trans s.keep.size hk.size, fun k hk0 hW => ?_⟩
  rw [hk.block k (Nat.lt_of_lt_of_le hk0 s.keep.size) (by simp; intro e; subst e; rcases h1 with h | h; omega; exact hW h)]
  exact s.keep.block k hk0 hW
 ·rintro k (h | h)
  ·rcases s.fnew k h with g | g
   ·exact .inl g
   ·exact .inr ⟨g.1, Nat.lt_of_lt_of_le g.2 hk.size⟩
  ·exact .inr ⟨Nat.le_trans s.keep.size h.1, h.2⟩
 ·rintro k (h | h)
  ·exact Nat.lt_of_lt_of_le (s.flt k h) hk.size
  ·exact h.2
 ·exact fun t S h => S.mono _ _ _ _ _ (s.slots t S h) hF hsub
 ·rw [List.pairwise_iff_getElem]
  intro j k hj hkk hjk
  have hp := List.pairwise_iff_getElem.1 s.mem.apart j k (by simpa using hj) (by simpa using hkk) hjk
  simp only [List.getElem_set]
  by_cases e1 : i = j
  ·subst e1
   have : ¬ i = k := by omega
   simp only [if_true, this, if_false]
   rw [hMi] at hp; exact hp
  ·by_cases e2 : i = k
   ·subst e2
    simp only [e1, if_true, if_false]
    rw [hMi] at hp; exact hp
   ·simp only [e1, e2, if_false]; exact hp
 ·intro k D hkD
  obtain ⟨j, hj, he⟩ := List.mem_iff_getElem.1 hkD
  simp only [List.getElem_set] at he
  by_cases e1 : i = j
  ·subst e1
   simp only [if_true] at he
   obtain ⟨rfl, rfl⟩ : b = k ∧ C' = D := by simpa using he
   refine ⟨h1, Nat.lt_of_lt_of_le h2 hk.size, ?_, o, ho, hC⟩
   rintro (h | h)
   ·exact h3 h
   ·omega
  ·simp only [e1, if_false] at he
   have hjl : j < M.length := by simpa using hj
   obtain ⟨g1, g2, g3, o2, g4, g5⟩ := s.mem.each k D (he ▸ List.getElem_mem hjl)
   have hkb : k ≠ b := by
    intro e; subst e
    rcases Nat.lt_or_gt_of_ne e1 with hlt | hlt
    ·have hp := List.pairwise_iff_getElem.1 s.mem.apart i j hi hjl hlt
     rw [hMi, he] at hp; simp at hp
    ·have hp := List.pairwise_iff_getElem.1 s.mem.apart j i hjl hi hlt
     rw [hMi, he] at hp; simp at hp
   refine ⟨g1, Nat.lt_of_lt_of_le g2 hk.size, ?_, o2, (hk.block k g2 (by simpa using hkb)).trans g4, D.mono _ _ _ _ _ g5 hF hsub⟩
   rintro (h | h)
   ·exact g3 h
   ·omega
theorem Ops.callM {f : FuncId} {xs : List Operand} {ts : Array TypeId} {args : Nat → List VP} {pre post : MP} {R : Nat → VP} {i b d : Nat} (hf : CtrM P f args pre post R) (hM : M[i]? = some (some b, pre)) (hx : HasL E Γ M xs (args b)) (hd : Nat.blt d E.n = true) {M' : Mem}
  (hM' : M.set i (some b, post) = M') (k : Ops E P ops Q rest ((d, R b) :: Γ) M') : Ops E P ops Q (⟨some d, .call ⟨.value (.func f), xs.toArray, ts⟩, ty, pos, after, none⟩ :: rest) Γ M := by
 intro a w F s
 refine wpList_plain rfl fun K hK => ?_
 unfold Oper.wp
 have hr : (execOp a.eval (⟨some d, .call ⟨.value (.func f), xs.toArray, ts⟩, ty, pos, after, none⟩ : Oper)).run P w = .ok (.enter f (xs.map a.eval).toArray) w := by
  have := run_enter hf.1 (xs.map a.eval).toArray w
  simpa [go_sem] using this
 rw [hr]
 obtain ⟨h1, h2, h3, h4⟩ := s.mem.each b _ (List.mem_of_getElem? hM)
 refine (hf.2 w F _ b s.flt h2 h3 h4 (hx.all s)).mono ?_
 rintro e w' ⟨v, rfl, hk, hv, o, ho, hp⟩
 have hd' : d < E.n := by simpa [Nat.blt_eq] using hd
 exact hK _ _ (k _ _ _ (hM' ▸ (s.change hM hk ho hp).put hd' hv))
theorem fin_retM {fn : Func} {R : VP} {post : MP} {b i : Nat} {e : Exit} {a : Act} {w : World} {F : Blk} (he : e = .ret ∨ e = .normal) (s : Sat E Γ M a w F) (hw : E.W = [b]) (hM : M[i]? = some (some b, post)) {v : Value} (hv : (results fn a.tmps).run P w = .ok v w) (hR : R.h w F v) :
  bodyPost P fn (RetM E.w0 E.F0 b R post) e a w := by
 have hk := s.keep
 rw [hw] at hk
 obtain ⟨_, _, _, o, ho, hp⟩ := s.mem.each b _ (List.mem_of_getElem? hM)
 have hsub : ∀ k, F k → fresh E.F0 E.w0 w k := fun k hk => (s.fnew k hk).imp id id
 have hb : a.defers = [] ∧ ∃ v, (results fn a.tmps).run P w = .ok v w ∧ RetM E.w0 E.F0 b R post (.returned v) w :=
  ⟨s.defers, _, hv, _, rfl, hk, R.mono _ _ _ _ _ hR (fun _ _ => rfl) hsub, o, ho, post.mono _ _ _ _ _ hp (fun _ _ => rfl) hsub⟩
 rcases he with rfl | rfl <;> exact hb
theorem rtM1 {fn : Func} {r : ResultVar} {R : VP} {post : MP} {b i : Nat} {e : Exit} (he : e = .ret ∨ e = .normal) (hr : fn.results = #[r]) (hw : E.W = [b]) (hM : M[i]? = some (some b, post)) (h : ResL E P Γ M [r] [R]) :
  At E Γ M (bodyPost P fn (RetM E.w0 E.F0 b R post)) e := by
 intro a w F s
 obtain ⟨vs, h1, h2⟩ := run_results hr h s
 match vs, h2 with
 | [v], h2 => exact fin_retM he s hw hM (by simpa using h1) h2.1
 | [], h2 => exact h2.elim
 | _ :: _ :: _, h2 => exact h2.2.elim
theorem rtM0 {fn : Func} {post : MP} {b i : Nat} {e : Exit} (he : e = .ret ∨ e = .normal) (hr : fn.results = #[]) (hw : E.W = [b]) (hM : M[i]? = some (some b, post)) :
  At E Γ M (bodyPost P fn (RetM E.w0 E.F0 b (isTup []) post)) e := by
 intro a w F s
 obtain ⟨vs, h1, h2⟩ := run_results (rs := []) hr .nil s
 cases vs with
 | nil => exact fin_retM he s hw hM (by simpa using h1) ⟨[], rfl, trivial⟩
 | cons => exact h2.elim
theorem memU_eq {α : Type} {f : α → VP} {b : Option Nat} {l l' : List α} (h : l = l') : (some (b, cellM (l.map f)) : Option (Option Nat × MP)) = some (b, cellM (l'.map f)) := h ▸ rfl
theorem memL_eq {α : Type} {f : α → VP} {b : Option Nat} {l l' : List α} {r : Mem} (h : l = l') : ((b, cellM (l.map f)) :: r : Mem) = (b, cellM (l'.map f)) :: r := h ▸ rfl
theorem SlM_eq {α : Type} {f : α → VP} {l l' : List α} (h : l = l') : SlM f l = SlM f l' := h ▸ rfl
theorem ixo0 {n : Nat} : 0 + n * 1 = n := by omega
theorem ixo1 {o n : Nat} : o + n * 1 = o + n := by omega
theorem isPtr_eq {b o o' : Nat} (h : o = o') : isPtr b o = isPtr b o' := h ▸ rfl
theorem isWin_eq {b o o' n n' c c' : Nat} (h : o = o') (h2 : n = n') (h3 : c = c') : isWin b o n c = isWin b o' n' c' := by rw [h, h2, h3]
theorem OK1.eq {o : Oper} {S S' : VP} (h : OK1 E P Γ M o S) (e : S = S') : OK1 E P Γ M o S' := e ▸ h
theorem Cv.freeze' {t b o n c i : Nat} {ys : List α} (hW : E.W = []) (ht : look Γ t = some (isWin b o n c)) (hM : M[i]? = some (some b, cellM (xs.map f))) (hl : o + n ≤ xs.length) (he : (xs.drop o).take n = ys) :
  Cv E Γ M ((t, SlM f ys) :: Γ) (M.eraseIdx i) := he ▸ Cv.freeze (by rw [hW]; intro k hk; cases hk) ht hM hl
theorem Cv.freezeM {t b b0 o n c i j : Nat} {C : MP} {ys : List α} (hW : E.W = [b0]) (hj : M[j]? = some (some b0, C)) (hne : Nat.beq j i = false) (ht : look Γ t = some (isWin b o n c)) (hM : M[i]? = some (some b, cellM (xs.map f))) (hl : o + n ≤ xs.length) (he : (xs.drop o).take n = ys) :
  Cv E Γ M ((t, SlM f ys) :: Γ) (M.eraseIdx i) := he ▸ Cv.freeze (by
   rw [hW]; intro k hk
   obtain rfl : k = b0 := by simpa using hk
   exact ⟨j, C, Nat.ne_of_beq_eq_false hne, hj⟩) ht hM hl
theorem freeze_all {n : Nat} {xs : List α} (h : n = xs.length) : (xs.drop 0).take n = xs := by subst h; simp
end
end Go.En
namespace Go.En
open Go.RowKit
def zcap : VP := .pure fun v => ∃ a, v = .slice a 0 0 ∧ (a = none ∨ ∃ g o, a = some ⟨g, o, none⟩)
instance : One zcap := ⟨fun w F v h => by obtain ⟨a, rfl, _⟩ := h; rfl⟩
section
variable {E : Env} {P : Program} {Γ : Ctx} {M : Mem} {ty : TypeId} {pos : String} {after : Array Edge} {gd : Option (Nat × Bool)} {d : Option Tmp}
 {ops : Array Oper} {Q : Exit → Act → World → Prop} {rest : List Oper} {T T' : TypeId} {x y : Operand} {α : Type} {f : α → VP} {fk : α → List VP} {xs : List α}
theorem Has.cW : Has E Γ M (.const (.slice none 0 0)) (SlM f []) := fun _ _ _ _ => ⟨none, 0, rfl, Nat.le_refl _, by rw [maxLen_eq]; omega, rfl, .inl rfl⟩
theorem nilM (w : World) (F : Blk) : (SlM f []).h w F (.slice none 0 0) := ⟨none, 0, rfl, Nat.le_refl _, by rw [maxLen_eq]; omega, rfl, .inl rfl⟩
theorem Has.nilM {x : Operand} (h : Has E Γ M x nilS) : Has E Γ M x (SlM f []) := fun a w F s => by
 have : a.eval x = .slice none 0 0 := h a w F s
 rw [this]; exact En.nilM w F
theorem Has.okW {ws : List Nat} (h : Has E Γ M x (isWords ws)) : ∀ a w F, Sat E Γ M a w F → ∀ y ∈ ws, y < 18446744073709551616 := by
 intro a w F s y hy
 obtain ⟨ad, cap, e, g1, g2, g3, g4⟩ := h a w F s
 obtain ⟨i, hi, rfl⟩ := List.mem_iff_getElem.1 hy
 rcases g4 with g4 | ⟨b, off, _, _, vs, hv, _⟩
 ·omega
 ·obtain ⟨v, _, h2⟩ := hv.get i (isU ws[i]) (by simp [hi])
  exact h2.2
theorem Ops.buildS0 {d : Nat} {e : TypeId} {m : Nat} {g : Bool} (hT : slB P T = some e) (ht : tyB P e = some (m, g)) (hd : Nat.blt d E.n = true)
  (k : Ops E P ops Q rest ((d, zcap) :: Γ) M) : Ops E P ops Q (⟨some d, .buildSlice T 0 #[], ty, pos, after, none⟩ :: rest) Γ M := by
 intro a w F s
 refine wpList_plain rfl fun K hK => ?_
 unfold Oper.wp
 have hu := slB_under hT
 have hr : (execOp a.eval (⟨some d, .buildSlice T 0 #[], ty, pos, after, none⟩ : Oper)).run P w = .ok (.value (.slice (some ⟨w.heap.size, 0, none⟩) 0 0)) { w with heap := w.heap.push (.cells #[] e) } := by
  simp only [execOp, Instr.buildSlice, Sem.run_bind, run_under hu, Result.andThen_ok, run_size ht]
  have e0 : Array.range 0 = #[] := by apply Array.ext'; simp
  simp [Instr.fill, newRow, Sem.run_bind, e0]
 rw [hr]
 have hd' : d < E.n := by simpa [Nat.blt_eq] using hd
 exact hK _ _ (k _ _ F ((s.adv ⟨Keep.alloc _ _ _, fun _ h => h, fun _ h => .inl h⟩).put hd' ⟨_, rfl, .inr ⟨_, _, rfl⟩⟩))
theorem SlL_new {k n c : Nat} {w : World} {F : Blk} {Ss : List VP} {vs : List Value} {b : Nat} {T0 : TypeId} {fr : Nat × Nat} {more : List Value} (hv : All2 Ss w F vs) (hl : Ss.length = n * k) (hF : F b) (hb : w.heap[b]? = some (.cells (vs ++ more).toArray T0 fr)) (hn : n ≤ c) (hc : c ≤ maxLen) :
  (SlL k n Ss).h w F (.slice (some ⟨b, 0, none⟩) n c) :=
 ⟨_, _, rfl, hn, hc, hl, .inr ⟨b, 0, rfl, hF, vs, hv, fun j u hj => by
  have hjl : j < vs.length := by
   rcases Nat.lt_or_ge j vs.length with h | h
   ·exact h
   ·rw [List.getElem?_eq_none h] at hj; cases hj
  simp only [World.cell?, hb, Nat.zero_add]
  simp [List.getElem?_append_left hjl, hj]⟩⟩
theorem OK1.appendZ {e : TypeId} {m : Nat} {g : Bool} {z : Value} {n : Nat} {Ss : List VP} (hT : slB P T = some e) (ht : tyB P e = some (m + 1, g)) (hz : zeroB P e = some z) (hby : byLe P e 1024 = true) (hx : Has E Γ M x zcap) (hy : Has E Γ M y (SlL (m + 1) n Ss)) (hn : n ≤ 4294967296) :
  OK1 E P Γ M ⟨d, .call ⟨.builtin .append, #[x, y], #[T, T]⟩, ty, pos, after, gd⟩ (SlL (m + 1) n Ss) := by
 intro a w F s K Q hK
 obtain ⟨a0, e1, ha0⟩ := hx a w F s
 have hS := hy a w F s
 obtain ⟨a1, cap, e2, g1, g2, g3, g4⟩ := id hS
 have hu := slB_under hT
 obtain ⟨i, hi, hb⟩ : ∃ i, P.info? e = some i ∧ i.bytes ≤ 1024 := by
  unfold byLe at hby
  cases hi : P.info? e with
  | none => simp [hi] at hby
  | some i => rw [hi] at hby; exact ⟨i, rfl, Nat.le_of_ble_eq_true hby⟩
 have hsz : i.size = m + 1 := by
  have := run_size (P := P) (w := w) ht
  simp [sizeOf, typeInfo, go_sem, hi] at this; exact this
 have hzz : i.zero = some z := by unfold zeroB at hz; rw [hi] at hz; simpa using hz
 unfold Oper.wp
 by_cases h0 : n = 0
 ·subst h0
  have hr : (execOp a.eval (⟨d, .call ⟨.builtin .append, #[x, y], #[T, T]⟩, ty, pos, after, gd⟩ : Oper)).run P w = .ok (.value (.slice a0 0 0)) w := by
   simp only [execOp, resolve, invoke, builtin, Sem.run_bind]
   have : (Builtin.append_ #[T, T] ty #[.slice a0 0 0, .slice a1 0 cap]).run P w = .ok (.slice a0 0 0) w := by
    cases a0 <;> cases a1 <;> simp [Builtin.append_, run_under hu, Sem.run_bind, run_size ht, Builtin.lenOf, Builtin.firstCells, loadCells, loadCellsFrom, storeCells]
   simp [e1, e2, Sem.run_bind, this]
  rw [hr]
  exact hK _ w F (Adv.refl _ _) ⟨a0, 0, rfl, Nat.le_refl _, by rw [maxLen_eq]; omega, g3, .inl rfl⟩
 ·rcases g4 with g4 | ⟨b, off, rfl, hF, vs, hv, hc⟩
  ·omega
  have hlen := hv.len
  have hnews : ∀ j u, vs[j]? = some u → w.cell? ((⟨b, off, none⟩ : Addr).add j) = some u := fun j u hj => by rw [add_mk]; exact hc j u hj
  have hbytes : n * i.bytes ≤ 281474976710656 := by have := Nat.mul_le_mul hn hb; omega
  have hfinish : ∀ cp, n ≤ cp → cp ≤ maxLen → ∀ zs : List Value,
    K (a.put d (.slice (some ⟨w.heap.size, 0, none⟩) n cp)) { w with heap := w.heap.push (.cells (vs ++ zs).toArray e), drawn := w.drawn + 1 } := by
   intro cp h1 h2 zs
   have ad : Adv w F { w with heap := w.heap.push (.cells (vs ++ zs).toArray e), drawn := w.drawn + 1 } (fun k => F k ∨ k = w.heap.size) :=
    ⟨⟨rfl, rfl, rfl, by simp, fun k hk _ => by simp [Array.getElem?_push, Nat.ne_of_lt hk]⟩, fun _ h => .inl h, fun k h => by
     rcases h with h | h
     ·exact .inl h
     ·exact .inr ⟨by omega, by simp; omega⟩⟩
   exact hK _ _ _ ad (SlL_new (T0 := e) (fr := (0, 0)) (more := zs) (All2.mono (ad.same s.flt) ad.sub _ _ hv) g3 (.inr rfl) (by simp) h1 h2)
  have hcell : vs.length = n * i.size := by rw [← hlen, g3, hsz]
  have hml : n ≤ maxLen := by rw [maxLen_eq]; omega
  have hge := grownCap_ge w n 0 e
  have hcm := grownCap_le_maxLen w n 0 e hml
  have earr : vs.toArray ++ Builtin.zeroCells z.cells (grownCap w n 0 e - n) = (vs ++ (Builtin.zeroCells z.cells (grownCap w n 0 e - n)).toList).toArray := by apply Array.ext'; simp
  rcases ha0 with rfl | ⟨g0, o0, rfl⟩
  ·have hr := run_append_nil (P := P) w T ty e i z hu hi hzz ⟨b, off, none⟩ n cap vs hcell hnews (by omega) (by omega) hbytes
   have hr2 : (execOp a.eval (⟨d, .call ⟨.builtin .append, #[x, y], #[T, T]⟩, ty, pos, after, gd⟩ : Oper)).run P w = .ok (.value (.slice (some ⟨w.heap.size, 0, none⟩) n (grownCap w n 0 e))) { w with heap := w.heap.push (.cells (vs ++ (Builtin.zeroCells z.cells (grownCap w n 0 e - n)).toList).toArray e), drawn := w.drawn + 1 } := by
    simp only [execOp, resolve, invoke, builtin, Sem.run_bind]
    rw [← earr]
    simp [e1, e2, Sem.run_bind, hr]
    first | rfl | exact ⟨rfl, rfl⟩ | done
   rw [hr2]
   exact hfinish _ hge hcm _
  ·have hr := run_append_grow (P := P) w T ty e i z hu hi hzz ⟨g0, o0, none⟩ 0 0 [] (by simp) (by simp) ⟨b, off, none⟩ n cap vs hcell hnews (by omega) (by omega) (by simp; unfold Builtin.nextslicecap; split <;> omega)
   have hr2 : (execOp a.eval (⟨d, .call ⟨.builtin .append, #[x, y], #[T, T]⟩, ty, pos, after, gd⟩ : Oper)).run P w = .ok (.value (.slice (some ⟨w.heap.size, 0, none⟩) n (grownCap w n 0 e))) { w with heap := w.heap.push (.cells (vs ++ (Builtin.zeroCells z.cells (grownCap w n 0 e - n)).toList).toArray e), drawn := w.drawn + 1 } := by
    simp only [execOp, resolve, invoke, builtin, Sem.run_bind]
    rw [← earr]
    simp [e1, e2, Sem.run_bind, hr]
    first | rfl | exact ⟨rfl, rfl⟩ | done
   rw [hr2]
   exact hfinish _ hge hcm _
theorem OK1.appendZM {e : TypeId} {g : Bool} {z : Value} (hT : slB P T = some e) (ht : tyB P e = some (1, g)) (hz : zeroB P e = some z) (hby : byLe P e 1024 = true) (hx : Has E Γ M x zcap) (hy : Has E Γ M y (SlM f xs)) (hn : xs.length ≤ 4294967296) :
  OK1 E P Γ M ⟨d, .call ⟨.builtin .append, #[x, y], #[T, T]⟩, ty, pos, after, gd⟩ (SlM f xs) := OK1.appendZ (m := 0) hT ht hz hby hx hy hn
theorem Ops.eqNil {d : Nat} {e : TypeId} (hT : slB P T = some e) (hx : Has E Γ M x (SlM f xs)) (hd : Nat.blt d E.n = true)
  (k : ∀ b, (b = true → xs = []) → Ops E P ops Q rest ((d, isB b) :: Γ) M) : Ops E P ops Q (⟨some d, .binOp .eql T x (.const (.slice none 0 0)) T', ty, pos, after, none⟩ :: rest) Γ M := by
 intro a w F s
 refine wpList_plain rfl fun K hK => ?_
 unfold Oper.wp
 obtain ⟨a0, cap, e1, g1, g2, g3, g4⟩ := hx a w F s
 have hu := slB_under hT
 have key : ∀ n, (Op.equalIn (n + 1) T (.slice a0 xs.length cap) (.slice none 0 0)).run P w = .ok a0.isNone w := by
  intro n
  cases a0 <;> simp [Op.equalIn, Sem.run_bind, run_under hu]
 have hq : (Op.equal T (.slice a0 xs.length cap) (.slice none 0 0)).run P w = .ok a0.isNone w := key 9999
 have hr : (execOp a.eval (⟨some d, .binOp .eql T x (.const (.slice none 0 0)) T', ty, pos, after, none⟩ : Oper)).run P w = .ok (.value (.bool a0.isNone)) w := by
  have ec : a.eval (.const (.slice none 0 0)) = .slice none 0 0 := rfl
  simp only [execOp, e1, ec, eqGuard, binOp, Sem.run_bind]
  simp [hq, Sem.run_bind]
 rw [hr]
 have hd' : d < E.n := by simpa [Nat.blt_eq] using hd
 refine hK _ _ (k a0.isNone (fun h => ?_) _ _ F (s.put hd' rfl))
 rcases g4 with g4 | ⟨b, off, rfl, _⟩
 ·exact List.eq_nil_of_length_eq_zero g4
 ·simp at h
/-! ### bits of words -/
def andNot (m n : Nat) : Nat := (BitVec.ofNat 64 m &&& ~~~ (BitVec.ofNat 64 n)).toNat
theorem run_bits (op : BinOp) (m n : Nat) (r : Nat) (hop : op = .and ∨ op = .or ∨ op = .xor ∨ op = .andNot) (hr : (match op with | .and => (BitVec.ofNat 64 m &&& BitVec.ofNat 64 n) | .or => (BitVec.ofNat 64 m ||| BitVec.ofNat 64 n) | .xor => (BitVec.ofNat 64 m ^^^ BitVec.ofNat 64 n) | _ => (BitVec.ofNat 64 m &&& ~~~ (BitVec.ofNat 64 n))).toNat = r) (w : World) :
  (binOp op T (.int .u64 (m : Int)) (.int .u64 (n : Int))).run P w = .ok (.int .u64 (r : Int)) w := by
 have e1 : BitVec.ofInt IntKind.u64.bits (m : Int) = BitVec.ofNat 64 m := by show BitVec.ofInt 64 (m : Int) = _; simp
 have e2 : BitVec.ofInt IntKind.u64.bits (n : Int) = BitVec.ofNat 64 n := by show BitVec.ofInt 64 (n : Int) = _; simp
 have hlt : r < 18446744073709551616 := by rw [← hr]; split <;> exact BitVec.isLt _
 have hw : IntKind.u64.wrap (r : Int) = r := by rw [wrap_u64]; omega
 rcases hop with rfl | rfl | rfl | rfl <;> simp only [binOp, Op.intBits, e1, e2] <;> rw [← hw, ← hr] <;> rfl
variable {m n : Nat}
theorem OK1.andU (hx : Has E Γ M x (isU m)) (hy : Has E Γ M y (isU n)) : OK1 E P Γ M ⟨d, .binOp .and T x y T', ty, pos, after, gd⟩ (isU (m &&& n)) := by
 intro a w F s
 have h1 := (hx a w F s).2
 have h2 := (hy a w F s).2
 have e : (BitVec.ofNat 64 m &&& BitVec.ofNat 64 n).toNat = m &&& n := by simp [BitVec.toNat_and, Nat.mod_eq_of_lt h1, Nat.mod_eq_of_lt h2]
 exact OK1.bin (evU hx) (evU hy) (run_bits .and m n _ (by simp) e) (fun w F => isU_of rfl (Nat.lt_of_le_of_lt Nat.and_le_left h1) w F) a w F s
theorem OK1.orU (hx : Has E Γ M x (isU m)) (hy : Has E Γ M y (isU n)) : OK1 E P Γ M ⟨d, .binOp .or T x y T', ty, pos, after, gd⟩ (isU (m ||| n)) := by
 intro a w F s
 have h1 := (hx a w F s).2
 have h2 := (hy a w F s).2
 have e : (BitVec.ofNat 64 m ||| BitVec.ofNat 64 n).toNat = m ||| n := by simp [BitVec.toNat_or, Nat.mod_eq_of_lt h1, Nat.mod_eq_of_lt h2]
 exact OK1.bin (evU hx) (evU hy) (run_bits .or m n _ (by simp) e) (fun w F => isU_of rfl (by rw [← e]; exact BitVec.isLt _) w F) a w F s
end
end Go.En
namespace Go.En
open Go.RowKit
section
variable {E : Env} {P : Program} {Γ : Ctx} {M : Mem} {ty : TypeId} {pos : String} {after : Array Edge} {gd : Option (Nat × Bool)} {d : Option Tmp}
structure IsExt (P : Program) (f : FuncId) (e : Array Value → Sem Value) : Prop where
 ex : ∃ fn, P.funcs[f]? = some fn ∧ (fn.name == "runtime.NumGoroutine") = false ∧ fn.body.isNone = true ∧ Extern.findNext fn = none ∧ Extern.find fn = some e
def subE : Array Value → Sem Value := match Extern.MathBitsCarry.rows with
 | [_, r] => r.2
 | _ => fun _ => pure undef
theorem run_ext {f : FuncId} {e : Array Value → Sem Value} (h : IsExt P f e) (args : Array Value) (w : World) : (callFunc f args).run P w = ((e args).run P w).andThen fun v w' => .ok (.value v) w' := by
 obtain ⟨fn, h1, h2, h3, h4, h5⟩ := h.ex
 have h2' : ¬ fn.name = "runtime.NumGoroutine" := by simpa using h2
 have h3' : fn.body = none := by simpa using h3
 simp [callFunc, go_sem, h1, h2', h3', h4, h5]
theorem OK1.ext3 {f : FuncId} {e : Array Value → Sem Value} {x y z : Operand} {ts : Array TypeId} {l m c : Nat} {S : VP} {v : Value} (h : IsExt P f e) (hx : Has E Γ M x (isU l)) (hy : Has E Γ M y (isU m)) (hz : Has E Γ M z (isU c))
  (hr : ∀ w, (e #[.int .u64 l, .int .u64 m, .int .u64 c]).run P w = .ok v w) (hS : ∀ w F, S.h w F v) : OK1 E P Γ M ⟨d, .call ⟨.value (.func f), #[x, y, z], ts⟩, ty, pos, after, gd⟩ S :=
 .run fun a w F s => ⟨v, by
  have := run_ext h #[.int .u64 l, .int .u64 m, .int .u64 c] w
  rw [hr w] at this
  have e1 := evU hx a w F s
  have e2 := evU hy a w F s
  have e3 := evU hz a w F s
  simp only [execOp, resolve, Deferred.ofValue, invoke, Sem.run_bind]
  have e4 : a.eval (.func f) = .func (.func f) #[] #[] := rfl
  simp [e1, e2, e3, e4, Deferred.ofValue, invoke, this], hS w F⟩
theorem OK1.add64 {f : FuncId} {x y z : Operand} {ts : Array TypeId} {l m c : Nat} (h : IsExt P f add64Entry) (hx : Has E Γ M x (isU l)) (hy : Has E Γ M y (isU m)) (hz : Has E Γ M z (isU c)) (hc : c ≤ 1) (h3 : l < 18446744073709551616 ∧ m < 18446744073709551616) :
  OK1 E P Γ M ⟨d, .call ⟨.value (.func f), #[x, y, z], ts⟩, ty, pos, after, gd⟩ (isTup [isU ((l + m + c) % 18446744073709551616), isU ((l + m + c) / 18446744073709551616)]) :=
 .ext3 h hx hy hz (v := .tuple #[.int .u64 (((l + m + c) % 18446744073709551616 : Nat) : Int), .int .u64 (((l + m + c) / 18446744073709551616 : Nat) : Int)]) (fun w => by
  have : c = 0 ∨ c = 1 := by omega
  rcases this with rfl | rfl <;> rfl)
  (fun w F => ⟨_, rfl, ⟨rfl, Nat.mod_lt _ (by decide)⟩, ⟨rfl, by omega⟩, trivial⟩)
theorem OK1.sub64 {f : FuncId} {x y z : Operand} {ts : Array TypeId} {l m c : Nat} (h : IsExt P f subE) (hx : Has E Γ M x (isU l)) (hy : Has E Γ M y (isU m)) (hz : Has E Γ M z (isU c)) (hc : c ≤ 1) (h3 : l < 18446744073709551616 ∧ m < 18446744073709551616) :
  OK1 E P Γ M ⟨d, .call ⟨.value (.func f), #[x, y, z], ts⟩, ty, pos, after, gd⟩ (isTup [isU ((l + 18446744073709551616 - m - c) % 18446744073709551616), isU (if l < m + c then 1 else 0)]) :=
 .ext3 h hx hy hz (v := .tuple #[.int .u64 (((l + 18446744073709551616 - m - c) % 18446744073709551616 : Nat) : Int), .int .u64 (((if l < m + c then 1 else 0) : Nat) : Int)]) (fun w => by
  have e0 : ∀ k : Nat, k ≤ 1 → (subE #[.int .u64 (l : Int), .int .u64 (m : Int), .int .u64 (k : Int)]).run P w = .ok (Extern.MathBitsCarry.pair ((l + Extern.MathBitsCarry.m64 - m - k) % Extern.MathBitsCarry.m64) (if l < m + k then 1 else 0)) w := by
   intro k hk
   have : k = 0 ∨ k = 1 := by omega
   rcases this with rfl | rfl <;> rfl
  rw [e0 c hc]
  rfl)
  (fun w F => ⟨_, rfl, ⟨rfl, Nat.mod_lt _ (by decide)⟩, ⟨rfl, by split <;> omega⟩, trivial⟩)
theorem OK1.buildS {T e : TypeId} {n m : Nat} {g : Bool} {z : Value} {ps : List (Nat × Operand)} (Z : List VP) {Z' : List VP} {S : VP} (hT : slB P T = some e) (ht : tyB P e = some (m, g)) (hz : zeroB P e = some z) (hZ : ∀ w F, All2 Z w F ((List.replicate n z.cells.toList).flatten)) (hnm : Nat.ble (n * m) 1000 = true) (hn0 : Nat.beq (n * m) 0 = false)
    (h : Parts E Γ M (fun i => some (i * m, m)) Z ps Z') (hl : Nat.beq Z'.length (n * m) = true) (hS : SlL m n Z' = S) : OK1 E P Γ M ⟨d, .buildSlice T n ps.toArray, ty, pos, after, gd⟩ S := by
  intro a w F s K Q hK
  have hu := slB_under hT
  have hnm' := Nat.le_of_ble_eq_true hnm
  have hn0' := Nat.ne_of_beq_eq_false hn0
  have hm : (n * z.cells.size) = n * m := by
    have h1 := (hZ w F).len
    have h2 := Nat.eq_of_beq_eq_true hl
    have h3 : Z'.length = Z.length := by
      clear h1 h2 hK hZ hS hl
      induction h with
      | nil => rfl
      | @cons Z Z' i off k x S0 Ss r sh a1 a2 a3 a4 _ ih =>
        rw [ih, spliceV_eq _ _ _ (by have := Nat.le_of_ble_eq_true a4; have := Nat.eq_of_beq_eq_true a3; omega)]
        have := Nat.le_of_ble_eq_true a4; have := Nat.eq_of_beq_eq_true a3
        simp; omega
    simp at h1
    omega
  have hz0 : z.cells.size = m := by
    rcases Nat.eq_zero_or_pos n with h0 | h0
    · subst h0; simp at hn0'
    · exact Nat.eq_of_mul_eq_mul_left h0 hm
  have hfl : ((Array.range (n * m)).map fun j => z.cells[j % z.cells.size]!) = ((List.replicate n z.cells.toList).flatten).toArray := make_flat hz0
  obtain ⟨cells, h1, h2⟩ := h.fill s ((List.replicate n z.cells.toList).flatten).toArray (by simpa using hZ w F)
  have hr : (execOp a.eval (⟨d, .buildSlice T n ps.toArray, ty, pos, after, gd⟩ : Oper)).run P w = .ok (.value (.slice (some ⟨w.heap.size, 0, none⟩) n n)) { w with heap := w.heap.push (.cells cells e) } := by
    have hmap : (ps.toArray.map fun (p : Nat × Operand) => (p.1, a.eval p.2)).toList = ps.map fun p => (p.1, a.eval p.2) := by simp
    have hbig : ¬ n * m > 2 ^ 24 := by omega
    simp only [execOp, Instr.buildSlice, Sem.run_bind, run_under hu, Result.andThen_ok, run_size ht, if_neg hbig, if_neg hn0', run_zero hz, Sem.run_pure, hmap, hfl, h1, newRow, run_newObj]
  unfold Oper.wp
  rw [hr]
  have ad := alloc_new s (.cells cells e)
  refine hK _ _ _ ad (hS ▸ ?_)
  have h2' := All2.mono (ad.same s.flt) ad.sub _ _ h2
  refine SlL_new (T0 := e) (fr := (0, 0)) (more := []) h2' (Nat.eq_of_beq_eq_true hl) (.inr rfl) (by simp) (Nat.le_refl _) ?_
  rw [maxLen_eq]
  rcases Nat.eq_zero_or_pos m with h0 | h0
  · subst h0; simp at hn0'
  · have := Nat.le_mul_of_pos_right n h0; omega
end
end Go.En
namespace Go.En
open Go.RowKit
section
variable {E : Env} {P : Program} {Γ : Ctx} {M : Mem} {ty : TypeId} {pos : String} {after : Array Edge} {gd : Option (Nat × Bool)} {d : Option Tmp}
 {ops : Array Oper} {Q : Exit → Act → World → Prop} {rest : List Oper} {T T' : TypeId} {x y : Operand} {α : Type} {f : α → VP} {fk : α → List VP} {xs : List α}
theorem Ops.appendO {d : Nat} {e : TypeId} {g : Bool} {z : Value} {u : α} (hT : slB P T = some e) (ht : tyB P e = some (0 + 1, g)) (hz : zeroB P e = some z) (hZ : ∀ w F, All2 [f u] w F z.cells.toList) (hby : byLe P e 1024 = true) (hx : Has E Γ M x zcap) (hy : Has E Γ M y (SlM f xs)) (hn' : xs.length ≤ 4294967296) (hd : Nat.blt d E.n = true)
    (k0 : xs = [] → Ops E P ops Q rest ((d, SlM f []) :: Γ) M)
    (k1 : xs ≠ [] → ∀ b c j, Ops E P ops Q rest ((d, isWin b 0 xs.length c) :: Γ) ((some b, cellM ((xs ++ List.replicate j u).map f)) :: M)) :
    Ops E P ops Q (⟨some d, .call ⟨.builtin .append, #[x, y], #[T, T]⟩, ty, pos, after, none⟩ :: rest) Γ M := by
  intro a w F s
  refine wpList_plain rfl fun K hK => ?_
  have hd' : d < E.n := by simpa [Nat.blt_eq] using hd
  obtain ⟨a0, e1, ha0⟩ := hx a w F s
  have hn : xs.length ≤ 4294967296 := hn'
  have hS := hy a w F s
  obtain ⟨a1, cap, e2, g1, g2, g3, g4⟩ := id hS
  generalize hlx : xs.length = n at *
  have hu := slB_under hT
  obtain ⟨i, hi, hb⟩ : ∃ i, P.info? e = some i ∧ i.bytes ≤ 1024 := by
    unfold byLe at hby
    cases hi : P.info? e with
    | none => simp [hi] at hby
    | some i => rw [hi] at hby; exact ⟨i, rfl, Nat.le_of_ble_eq_true hby⟩
  have hsz : i.size = 0 + 1 := by
    have := run_size (P := P) (w := w) ht
    simp [sizeOf, typeInfo, go_sem, hi] at this; exact this
  have hzz : i.zero = some z := by unfold zeroB at hz; rw [hi] at hz; simpa using hz
  unfold Oper.wp
  by_cases h0 : n = 0
  · subst h0
    have hr : (execOp a.eval (⟨some d, .call ⟨.builtin .append, #[x, y], #[T, T]⟩, ty, pos, after, none⟩ : Oper)).run P w = .ok (.value (.slice a0 0 0)) w := by
      simp only [execOp, resolve, invoke, builtin, Sem.run_bind]
      have : (Builtin.append_ #[T, T] ty #[.slice a0 0 0, .slice a1 0 cap]).run P w = .ok (.slice a0 0 0) w := by
        cases a0 <;> cases a1 <;> simp [Builtin.append_, run_under hu, Sem.run_bind, run_size ht, Builtin.lenOf, Builtin.firstCells, loadCells, loadCellsFrom, storeCells]
      simp [e1, e2, Sem.run_bind, this]
    rw [hr]
    exact hK _ _ (k0 (List.eq_nil_of_length_eq_zero hlx) _ _ F (s.put hd' ⟨a0, 0, rfl, Nat.le_refl _, by rw [maxLen_eq]; omega, rfl, .inl rfl⟩))
  · rcases g4 with g4 | ⟨b, off, rfl, hF, vs, hv, hc⟩
    · omega
    have hlen := hv.len
    have hnews : ∀ j u, vs[j]? = some u → w.cell? ((⟨b, off, none⟩ : Addr).add j) = some u := fun j u hj => by rw [add_mk]; exact hc j u hj
    have hbytes : n * i.bytes ≤ 281474976710656 := by have := Nat.mul_le_mul hn hb; omega
    have hone : z.cells.size = 1 := by have := (hZ w F).len; simpa using this.symm
    have hzs : ∀ k, (Builtin.zeroCells z.cells k).toList = (List.replicate k z.cells.toList).flatten := fun k => by
      unfold Builtin.zeroCells
      rw [make_flat rfl]
    have hall : ∀ k, All2 ((List.replicate k u).map f) w F ((List.replicate k z.cells.toList).flatten) := by
      intro k
      induction k with
      | zero => trivial
      | succ k ih =>
        rw [List.replicate_succ, List.replicate_succ, List.flatten_cons, List.map_cons]
        exact All2.append (hZ w F) ih
    have hfinish : ∀ cp, n ≤ cp → cp ≤ maxLen → ∀ k,
        K (a.put (some d) (.slice (some ⟨w.heap.size, 0, none⟩) n cp)) { w with heap := w.heap.push (.cells (vs ++ (Builtin.zeroCells z.cells k).toList).toArray e), drawn := w.drawn + 1 } := by
      intro cp h1 h2 k
      have hcs : All2 ((xs ++ List.replicate k u).map f) w F (vs ++ (Builtin.zeroCells z.cells k).toList) := by
        rw [List.map_append, hzs]; exact All2.append hv (hall k)
      have s1 := (s.adv (Adv.drew w F)).alloc (T := e) (All2.mono (w := w) (w' := { w with drawn := w.drawn + 1 }) (fun _ _ => rfl) (fun _ h => h) _ _ hcs)
      exact hK _ _ (k1 (fun h => h0 (by rw [← hlx, h]; rfl)) w.heap.size cp k _ _ F (s1.put hd' ⟨rfl, h1, h2⟩))
    have hcell : vs.length = n * i.size := by rw [← hlen, g3, hsz]
    have hml : n ≤ maxLen := by rw [maxLen_eq]; omega
    have hge := grownCap_ge w n 0 e
    have hcm := grownCap_le_maxLen w n 0 e hml
    have earr : vs.toArray ++ Builtin.zeroCells z.cells (grownCap w n 0 e - n) = (vs ++ (Builtin.zeroCells z.cells (grownCap w n 0 e - n)).toList).toArray := by apply Array.ext'; simp
    rcases ha0 with rfl | ⟨g0, o0, rfl⟩
    · have hr := run_append_nil (P := P) w T ty e i z hu hi hzz ⟨b, off, none⟩ n cap vs hcell hnews (by omega) (by omega) hbytes
      have hr2 : (execOp a.eval (⟨some d, .call ⟨.builtin .append, #[x, y], #[T, T]⟩, ty, pos, after, none⟩ : Oper)).run P w = .ok (.value (.slice (some ⟨w.heap.size, 0, none⟩) n (grownCap w n 0 e))) { w with heap := w.heap.push (.cells (vs ++ (Builtin.zeroCells z.cells (grownCap w n 0 e - n)).toList).toArray e), drawn := w.drawn + 1 } := by
        simp only [execOp, resolve, invoke, builtin, Sem.run_bind]
        rw [← earr]
        simp [e1, e2, Sem.run_bind, hr]
        first | rfl | exact ⟨rfl, rfl⟩ | done
      rw [hr2]
      exact hfinish _ hge hcm _
    · have hr := run_append_grow (P := P) w T ty e i z hu hi hzz ⟨g0, o0, none⟩ 0 0 [] (by simp) (by simp) ⟨b, off, none⟩ n cap vs hcell hnews (by omega) (by omega) (by simp; unfold Builtin.nextslicecap; split <;> omega)
      have hr2 : (execOp a.eval (⟨some d, .call ⟨.builtin .append, #[x, y], #[T, T]⟩, ty, pos, after, none⟩ : Oper)).run P w = .ok (.value (.slice (some ⟨w.heap.size, 0, none⟩) n (grownCap w n 0 e))) { w with heap := w.heap.push (.cells (vs ++ (Builtin.zeroCells z.cells (grownCap w n 0 e - n)).toList).toArray e), drawn := w.drawn + 1 } := by
        simp only [execOp, resolve, invoke, builtin, Sem.run_bind]
        rw [← earr]
        simp [e1, e2, Sem.run_bind, hr]
        first | rfl | exact ⟨rfl, rfl⟩ | done
      rw [hr2]
      exact hfinish _ hge hcm _
def RetO {α : Type} (w : World) (F : Blk) (f : α → VP) (u : α) (xs : List α) : Ending → World → Prop := fun e w' => ∃ v, e = .returned v ∧ Keep [] w w' ∧
 ((xs = [] ∧ (SlM f []).h w' (fresh F w w') v) ∨ (xs ≠ [] ∧ ∃ b c k F', w.heap.size ≤ b ∧ b < w'.heap.size ∧ ¬ F' b ∧ (∀ k, F' k → fresh F w w' k) ∧ (∀ k, F k → F' k) ∧ (isWin b 0 xs.length c).h w' F' v ∧ ∃ o, w'.heap[b]? = some o ∧ (cellM ((xs ++ List.replicate k u).map f)).h w' F' o))
def CtrO {α : Type} (P : Program) (g : FuncId) (args : List VP) (f : α → VP) (u : α) (xs : List α) : Prop :=
 Enters P g ∧ ∀ (w : World) (F : Blk) (vs : List Value), (∀ k, F k → k < w.heap.size) → All2 args w F vs → Calls P g vs.toArray w (RetO w F f u xs)
theorem CtrO.intro {α : Type} {g : FuncId} {fn : Func} {c : Code} {Ss : List VP} {f : α → VP} {u : α} {xs : List α} (hf : P.funcs[g]? = some fn) (hb : fn.body = some c) (hn : (fn.name == "runtime.NumGoroutine") = false) {nt : Nat} (hnt : fn.ntmps = nt)
  (hsz : Nat.ble Ss.length nt = true)
  (h : ∀ w F, Tri ⟨w, F, [], nt⟩ P c (argsCtx 0 Ss) [] (bodyPost P fn (RetO w F f u xs))) : CtrO P g Ss f u xs := by
 subst hnt
 refine ⟨⟨fn, hf, by simp [hb], hn⟩, fun w F vs hF hargs => ?_⟩
 have hlen := hargs.len
 have hsz' : Ss.length ≤ fn.ntmps := by simpa using Nat.le_of_ble_eq_true hsz
 refine calls_of_wp hf hb (h w F _ w F ?_)
 refine { defers := rfl, size := ?_, keep := Keep.refl _ _, f0 := fun _ h => h, fnew := fun _ h => .inl h, flt := hF, slots := ?_, mem := ⟨List.Pairwise.nil, by simp⟩ }
 ·simp; omega
 ·intro t S ht
  obtain ⟨_, h2⟩ := look_args Ss 0 t S ht
  obtain ⟨v, hv, hS⟩ := hargs.get t S (by simpa using h2)
  have : (vs.toArray ++ Array.replicate (fn.ntmps - vs.toArray.size) undef).getD t undef = v := by
   have hlt : t < vs.length := by
    rcases Nat.lt_or_ge t vs.length with h | h
    ·exact h
    ·rw [List.getElem?_eq_none h] at hv; cases hv
   rw [Array.getD_eq_getD_getElem?, Array.getElem?_append_left (by simpa using hlt)]
   simp [hv]
  rw [this]; exact hS
theorem fin_retO {α : Type} {fn : Func} {f : α → VP} {u : α} {xs : List α} {e : Exit} {a : Act} {w : World} {F : Blk} (he : e = .ret ∨ e = .normal) (s : Sat E Γ M a w F) (hw : E.W = []) {v : Value} (hv : (results fn a.tmps).run P w = .ok v w)
  (hR : (xs = [] ∧ (SlM f []).h w F v) ∨ (xs ≠ [] ∧ ∃ b c k i : Nat, M[i]? = some (some b, cellM ((xs ++ List.replicate k u).map f)) ∧ (isWin b 0 xs.length c).h w F v)) :
  bodyPost P fn (RetO E.w0 E.F0 f u xs) e a w := by
 have hk := s.keep
 rw [hw] at hk
 have hsub : ∀ k, F k → fresh E.F0 E.w0 w k := fun k hk => (s.fnew k hk).imp id id
 have hb : a.defers = [] ∧ ∃ v, (results fn a.tmps).run P w = .ok v w ∧ RetO E.w0 E.F0 f u xs (.returned v) w := by
  refine ⟨s.defers, _, hv, _, rfl, hk, ?_⟩
  rcases hR with ⟨h1, h2⟩ | ⟨h1, b, c, k, i, hM, h2⟩
  ·exact .inl ⟨h1, (SlM f []).mono _ _ _ _ _ h2 (fun _ _ => rfl) hsub⟩
  ·obtain ⟨g1, g2, g3, o, g4, g5⟩ := s.mem.each b _ (List.mem_of_getElem? hM)
   exact .inr ⟨h1, b, c, k, F, g1.resolve_right (by rw [hw]; simp), g2, g3, hsub, s.f0, h2, o, g4, g5⟩
 rcases he with rfl | rfl <;> exact hb
theorem rtO0 {α : Type} {fn : Func} {f : α → VP} {u : α} {xs : List α} {r : ResultVar} {e : Exit} (he : e = .ret ∨ e = .normal) (hr : fn.results = #[r]) (hw : E.W = []) (hx : xs = []) (h : ResL E P Γ M [r] [SlM f []]) :
  At E Γ M (bodyPost P fn (RetO E.w0 E.F0 f u xs)) e := by
 intro a w F s
 obtain ⟨vs, h1, h2⟩ := run_results hr h s
 match vs, h2 with
 | [v], h2 => exact fin_retO he s hw (by simpa using h1) (.inl ⟨hx, h2.1⟩)
 | [], h2 => exact h2.elim
 | _ :: _ :: _, h2 => exact h2.2.elim
theorem rtO1 {α : Type} {fn : Func} {f : α → VP} {u : α} {xs : List α} {r : ResultVar} {b c k i : Nat} {e : Exit} (he : e = .ret ∨ e = .normal) (hr : fn.results = #[r]) (hw : E.W = []) (hx : xs ≠ []) (hM : M[i]? = some (some b, cellM ((xs ++ List.replicate k u).map f))) (h : ResL E P Γ M [r] [isWin b 0 xs.length c]) :
  At E Γ M (bodyPost P fn (RetO E.w0 E.F0 f u xs)) e := by
 intro a w F s
 obtain ⟨vs, h1, h2⟩ := run_results hr h s
 match vs, h2 with
 | [v], h2 => exact fin_retO he s hw (by simpa using h1) (.inr ⟨hx, b, c, k, i, hM, h2.1⟩)
 | [], h2 => exact h2.elim
 | _ :: _ :: _, h2 => exact h2.2.elim
theorem Sat.own {a : Act} {w w' : World} {F F' : Blk} (s : Sat E Γ M a w F) (hk : Keep [] w w') {b : Nat} {C : MP} (h1 : w.heap.size ≤ b) (h2 : b < w'.heap.size) (h3 : ¬ F' b) (h4 : ∀ k, F' k → fresh F w w' k) (h5 : ∀ k, F k → F' k)
  {o : Obj} (ho : w'.heap[b]? = some o) (hC : C.h w' F' o) : Sat E Γ ((some b, C) :: M) a w' F' := by
 have ad : Adv w F w' F' := ⟨hk, h5, fun k h => (h4 k h).imp id id⟩
 have s' := s.adv ad
 exact { s' with mem := ⟨by
   refine List.Pairwise.cons ?_ s'.mem.apart
   intro x hx
   obtain ⟨k, D⟩ := x
   cases k with
   | none => exact .inr (by simp)
   | some k => exact .inr (by have := (s.mem.each k D hx).2.1; simp; omega), by
   intro k D hb
   rcases List.mem_cons.1 hb with e | hb
   ·obtain ⟨rfl, rfl⟩ : k = b ∧ D = C := by simpa using e
    exact ⟨.inl (Nat.le_trans s.keep.size h1), h2, h3, o, ho, hC⟩
   ·exact s'.mem.each k D hb⟩ }
theorem Ops.callO {α : Type} {g : FuncId} {zs : List Operand} {ts : Array TypeId} {args : List VP} {f : α → VP} {u : α} {ys : List α} {d : Nat} (hf : CtrO P g args f u ys) (hx : HasL E Γ M zs args) (hd : Nat.blt d E.n = true)
  (k0 : ys = [] → Ops E P ops Q rest ((d, SlM f []) :: Γ) M)
  (k1 : ys ≠ [] → ∀ b c j, Ops E P ops Q rest ((d, isWin b 0 ys.length c) :: Γ) ((some b, cellM ((ys ++ List.replicate j u).map f)) :: M)) :
  Ops E P ops Q (⟨some d, .call ⟨.value (.func g), zs.toArray, ts⟩, ty, pos, after, none⟩ :: rest) Γ M := by
 intro a w F s
 refine wpList_plain rfl fun K hK => ?_
 unfold Oper.wp
 have hr : (execOp a.eval (⟨some d, .call ⟨.value (.func g), zs.toArray, ts⟩, ty, pos, after, none⟩ : Oper)).run P w = .ok (.enter g (zs.map a.eval).toArray) w := by
  have := run_enter hf.1 (zs.map a.eval).toArray w
  simpa [go_sem] using this
 rw [hr]
 refine (hf.2 w F _ s.flt (hx.all s)).mono ?_
 have hd' : d < E.n := by simpa [Nat.blt_eq] using hd
 rintro e w' ⟨v, rfl, hk, ⟨h1, h2⟩ | ⟨h1, b, c, k, F', g1, g2, g3, g4, g5, g6, o, g7, g8⟩⟩
 ·exact hK _ _ (k0 h1 _ _ _ ((s.adv ⟨hk, fun b hb => .inl hb, fun b hb => hb⟩).put hd' h2))
 ·exact hK _ _ (k1 h1 b c k _ _ _ ((s.own hk g1 g2 g3 g4 g5 g7 g8).put hd' g6))
theorem Has.winLe {b o n c : Nat} (h : Has E Γ M x (isWin b o n c)) : ∀ a w F, Sat E Γ M a w F → n ≤ c := fun a w F s => (h a w F s).2.1
theorem OK1.idxStr {d : Option Tmp} {t : ByteArray} {z : Int} {n : Nat} {gd : Option (Nat × Bool)} (hT : P.underlying T = some .string) (hy : Has E Γ M y (isK .u8 z)) (h0 : 0 ≤ z) (h : ∃ hh : z.toNat < t.size, (t[z.toNat]'hh).toNat = n) :
  OK1 E P Γ M ⟨d, .index T (.const (.string t)) y, ty, pos, after, gd⟩ (isK .u8 (n : Int)) :=
 .run fun a w F s => by
  obtain ⟨hh, h⟩ := h
  have h2 := (hy a w F s).1
  refine ⟨.int .u8 (n : Int), ?_, rfl, ?_⟩
  ·have e : t[z.toNat]? = some (t[z.toNat]'hh) := by rw [getElem?_pos t z.toNat hh]
   have e0 : a.eval (.const (.string t)) = .string t := rfl
   simp only [execOp, h2, e0, Instr.index, asIntOf, Sem.run_bind, Sem.run_pure, run_under hT, Result.andThen_ok]
   rw [if_pos h0, e]
   simp only [Sem.run_pure, Result.andThen_ok, h]
  ·have := (t[z.toNat]'hh).toNat_lt
   rw [h] at this
   exact ⟨by show (0 : Int) ≤ _; omega, by show _ ≤ (255 : Int); omega⟩
theorem OK1.convUu8 {S : TypeId} {n : Nat} {d : Option Tmp} {gd : Option (Nat × Bool)} {ds : TypeDesc} (hs : P.underlying S = some ds) (ht : P.underlying T = some (.int .u8)) (hx : Has E Γ M x (isU n)) (h : n < 256) :
  OK1 E P Γ M ⟨d, .convert S T x, ty, pos, after, gd⟩ (isK .u8 (n : Int)) :=
 .conv hs ht (evU hx) (fun w F => by
  have e : IntKind.u8.wrap (n : Int) = n := by
   unfold IntKind.wrap
   simp [IntKind.bits, IntKind.signed]
   omega
  rw [e]
  exact ⟨rfl, by show (0 : Int) ≤ _; omega, by show _ ≤ (255 : Int); omega⟩)
theorem Ops.copyW {d : Nat} {e : TypeId} {g : Bool} {b o n c i : Nat} {ys : List α} {T2 : TypeId} (hT : slB P T = some e) (ht : tyB P e = some (1, g)) (h1 : ∀ u, One (f u)) (hx : Has E Γ M x (isWin b o n c)) (hy : Has E Γ M y (SlM f ys)) (hM : M[i]? = some (some b, cellM (xs.map f)))
  (hl : ys.length ≤ n ∧ o + n ≤ xs.length) (hd : Nat.blt d E.n = true) {M' : Mem} (hM' : M.set i (some b, cellM ((xs.take o ++ ys ++ xs.drop (o + ys.length)).map f)) = M')
  (k : Ops E P ops Q rest ((d, isI (ys.length : Int)) :: Γ) M') : Ops E P ops Q (⟨some d, .call ⟨.builtin .copy, #[x, y], #[T, T2]⟩, ty, pos, after, none⟩ :: rest) Γ M := by
 intro a w F s
 refine wpList_plain rfl fun K hK => ?_
 unfold Oper.wp
 have hd' : d < E.n := by simpa [Nat.blt_eq] using hd
 obtain ⟨e1, e2, e3⟩ := hx a w F s
 obtain ⟨a1, cap, e4, g1, g2, g3, g4⟩ := hy a w F s
 obtain ⟨ob, hb, vs, T', rfl, hv⟩ := mem_at s hM
 have hu := slB_under hT
 have hsz : (P.info? e).map (·.size) = some 1 := by
  have := run_size (P := P) (w := w) ht
  cases hi : P.info? e with
  | none => simp [sizeOf, typeInfo, go_sem, hi] at this
  | some i => simp [sizeOf, typeInfo, go_sem, hi] at this; simp [this]
 have hmin : Nat.min ys.length n = ys.length := Nat.min_eq_left hl.1
 have hvl := hv.len
 simp only [List.length_map] at hvl
 have hI : ∀ {F' : Blk} {w' : World}, (isI (ys.length : Int)).h w' F' (goInt ys.length) := by
  intro F' w'
  refine ⟨rfl, by omega, ?_⟩
  have := maxLen_eq
  omega
 rcases g4 with g4 | ⟨b1, off, rfl, hF1, cs, hcs, hc⟩
 ·have hys : ys = [] := List.eq_nil_of_length_eq_zero g4
  subst hys
  have hrun := run_copy_none (P := P) w T T2 ty e (some ⟨b, o, none⟩) a1 n c 0 cap hu hsz (by simp)
  have hr : (execOp a.eval (⟨some d, .call ⟨.builtin .copy, #[x, y], #[T, T2]⟩, ty, pos, after, none⟩ : Oper)).run P w = .ok (.value (goInt 0)) w := by
   simp only [execOp, resolve, invoke, builtin, Sem.run_bind]
   simp only [List.length_nil] at e4
   simp [e1, e4, Sem.run_bind, hrun]
  rw [hr]
  have hMM : M' = M := by
   rw [← hM']
   simp only [List.append_nil, List.length_nil, Nat.add_zero, List.take_append_drop]
   have hi : i < M.length := by
    rcases Nat.lt_or_ge i M.length with h | h
    ·exact h
    ·rw [List.getElem?_eq_none h] at hM; cases hM
   rw [List.getElem?_eq_getElem hi] at hM
   rw [← Option.some.inj hM, List.set_getElem_self]
  refine hK _ _ (k _ _ F ?_)
  rw [hMM]
  exact s.put hd' hI
 have hlen := hcs.len
 simp only [List.length_map] at hlen
 have hrun := run_copy_row (P := P) w T T2 ty e b o n c ⟨b1, off, none⟩ ys.length cap vs.toArray T' cs hu hsz hb (by rw [← hlen, hmin]) (fun j v hj => by rw [add_mk]; exact hc j v hj) (by simp; omega) (hcs.one (fun S hS => by obtain ⟨u, _, rfl⟩ := List.mem_map.1 hS; exact h1 u))
 rw [← hlen] at hrun
 have hcl := hcs.len
 simp only [List.length_map] at hcl
 have hr : (execOp a.eval (⟨some d, .call ⟨.builtin .copy, #[x, y], #[T, T2]⟩, ty, pos, after, none⟩ : Oper)).run P w = .ok (.value (goInt ys.length)) (w.setRow b (vs.take o ++ cs ++ vs.drop (o + ys.length)).toArray) := by
  simp only [execOp, resolve, invoke, builtin, Sem.run_bind]
  simp [e1, e4, Sem.run_bind, hrun]
 rw [hr]
 refine hK _ _ (k _ _ F ?_)
 rw [← hM']
 refine (s.write (w' := w.setRow b (vs.take o ++ cs ++ vs.drop (o + ys.length)).toArray) (C' := cellM ((xs.take o ++ ys ++ xs.drop (o + ys.length)).map f)) hM rfl rfl rfl (setRow_size _ _ _) (fun k hk => setRow_ne _ _ _ _ hk) (setRow_heap _ _ _ _ _ _ hb) ⟨_, T', rfl, ?_⟩).put hd' hI
 have hF : ∀ k, F k → (w.setRow b (vs.take o ++ cs ++ vs.drop (o + ys.length)).toArray).heap[k]? = w.heap[k]? := fun k hk => setRow_ne _ _ _ _ (fun e => by
  subst e; exact (s.mem.each k _ (List.mem_of_getElem? hM)).2.2.1 hk)
 refine All2.mono hF (fun _ h => h) _ _ ?_
 rw [List.map_append, List.map_append, List.map_take, List.map_drop]
 exact ((hv.take o).append hcs).append (hv.drop _)
theorem mem2_eq {α β : Type} {f : α → VP} {g : β → VP} {b b' : Option Nat} {l l' : List α} {k k' : List β} {r : Mem} (h : l = l') (h2 : k = k') : ((b, cellM (l.map f)) :: (b', cellM (k.map g)) :: r : Mem) = (b, cellM (l'.map f)) :: (b', cellM (k'.map g)) :: r := h ▸ h2 ▸ rfl
end
end Go.En
namespace Go.En
open Go.RowKit Go.ChangeShapes Go.WideShapes Go.ChangeAt
section
variable {H : Type} {enc : TypeId × Value → H} {P : Program}
theorem rd_row {α : Type} {f : α → VP} {W : World} {T T' : TypeId} {k : IntKind} {fuel : Nat} {cs : List Value} {x : DataW H × List MemPlace} (hu : P.underlying T = some (.slice T')) (hu' : P.underlying T' = some (.int k)) (hc : P.cellsOf T' = 1)
    (hf : ∀ z, rng k z → ∃ a, ∀ w F, (f a).h w F (.int k z)) (h : DataW.trod enc P W 0 (fun _ => true) true fuel T cs = some x) (hps : ∀ y ∈ x.2, y.block < W.heap.size) : ∃ (v : Value) (xs : List α), cs = [v] ∧ (SlM f xs).h W (fun b => b < W.heap.size) v := by
  rcases open_ints hu hu' hc h with ⟨h1, _⟩ | ⟨a, len, cap, zs, h1, h2, h3, h4, h5, h6, h7, h8⟩
  · exact ⟨_, [], h1, nilM _ _⟩
  · simp only [if_true] at h5
    obtain ⟨l, hl, hget⟩ := list_of_get (p := fun i (x : α) => ∀ w F, (f x).h w F (.int k (zs.getD i 0))) len (fun i hi => by
      have hz : zs.getD i 0 ∈ zs := by
        have : i < zs.length := by omega
        simp [List.getD, this]
      exact hf _ (by simpa [Lit.wf, rng] using h8 _ hz))
    refine ⟨_, l, h1, some a, cap, by rw [hl], by rw [hl]; exact h3, h4, by simp, ?_⟩
    rcases Nat.eq_zero_or_pos len with h0 | h0
    · exact .inl (by omega)
    · have hc0 := h7 0 (by omega)
      have hs : a.spot = none := by
        cases hsp : a.spot with
        | none => rfl
        | some s =>
          simp only [Addr.add, if_true] at hc0
          unfold World.cell? at hc0
          rw [hsp] at hc0
          split at hc0 <;> simp at hc0
      obtain ⟨b, off, sp⟩ := a
      simp only at hs
      subst hs
      right
      refine ⟨b, off, rfl, ?_, (List.range len).map (fun i => .int k (zs.getD i 0)), ?_, fun j u hj => ?_⟩
      · have : MemPlace.cell b (off + 0) ∈ x.2 := by
          rw [h6]
          exact List.mem_map.2 ⟨0, by simp; omega, rfl⟩
        exact hps _ this
      · refine all2_of_get (by simp [hl]) (fun i S v hS hv => ?_)
        have hi : i < l.length := by
          rcases Nat.lt_or_ge i l.length with h | h
          · exact h
          · rw [List.getElem?_eq_none (by simpa using h)] at hS; cases hS
        rw [List.getElem?_map, List.getElem?_eq_getElem hi] at hS
        rw [List.getElem?_map, List.getElem?_range (by omega)] at hv
        simp at hS hv
        subst hS; subst hv
        simpa [List.getD] using hget i hi W (fun b => b < W.heap.size)
      · have hjl : j < len := by
          rcases Nat.lt_or_ge j len with h | h
          · exact h
          · rw [List.getElem?_eq_none (by simpa using h)] at hj; cases hj
        rw [List.getElem?_map, List.getElem?_range hjl] at hj
        simp at hj
        subst hj
        have := h7 j (by omega)
        rw [add_mk] at this
        simpa [List.getD] using this
theorem word_of (z : Int) (h : rng .u64 z) : ∃ n : Nat, ∀ w F, (isU n).h w F (.int .u64 z) := by
 obtain ⟨h1, h2⟩ := h
 simp [IntKind.min, IntKind.max, IntKind.signed, IntKind.bits] at h1 h2
 refine ⟨z.toNat, fun w F => ⟨?_, by omega⟩⟩
 rw [Int.toNat_of_nonneg h1]
def fsB (P : Program) (T : TypeId) : Option (List (TypeId × Nat)) := match P.underlying T with
 | some (.struct fs) => some (fs.toList.map fun f => (f.type, f.offset))
 | _ => none
theorem fsB_spec {T : TypeId} {l : List (TypeId × Nat)} (h : fsB P T = some l) : ∃ fs, P.underlying T = some (.struct fs) ∧ fs.size = l.length ∧ ∀ (i t o : Nat), l[i]? = some (t, o) → ∃ f, fs[i]? = some f ∧ f.type = t ∧ f.offset = o := by
  unfold fsB at h
  split at h
  · rename_i fs hu
    obtain rfl := Option.some.inj h
    refine ⟨fs, hu, by simp, fun i t o hi => ?_⟩
    rw [List.getElem?_map] at hi
    cases hf : fs.toList[i]? with
    | none => rw [hf] at hi; cases hi
    | some f =>
      rw [hf] at hi
      simp at hi
      exact ⟨f, by simpa using hf, hi.1, hi.2⟩
  · cases h
end
end Go.En
namespace Go.Proofs.YtcfobalbkhgdmaaGreat
open Go.En
theorem by22 : byLe Tryz.prog 22 1024 = true := by kernel_rfl
theorem by27 : byLe Tryz.prog 27 1024 = true := by kernel_rfl
theorem by3 : byLe Tryz.prog 3 1024 = true := by kernel_rfl
theorem by36 : byLe Tryz.prog 36 1024 = true := by kernel_rfl
theorem by62 : byLe Tryz.prog 62 1024 = true := by kernel_rfl
theorem by68 : byLe Tryz.prog 68 1024 = true := by kernel_rfl
theorem by75 : byLe Tryz.prog 75 1024 = true := by kernel_rfl
theorem ext_add64 : IsExt Tryz.prog 112 add64Entry := ⟨⟨Tryz.f112, Tryz.func112, by kernel_rfl, by kernel_rfl, by kernel_rfl, by kernel_rfl⟩⟩
theorem ext_sub64 : IsExt Tryz.prog 113 subE := ⟨⟨Tryz.f113, Tryz.func113, by kernel_rfl, by kernel_rfl, by kernel_rfl, by kernel_rfl⟩⟩
theorem fld106_0 : fldB Tryz.prog 106 0 = some (0, 104) := by kernel_rfl
theorem fld106_1 : fldB Tryz.prog 106 1 = some (1, 3) := by kernel_rfl
theorem fld106_2 : fldB Tryz.prog 106 2 = some (2, 91) := by kernel_rfl
theorem fld27_0 : fldB Tryz.prog 27 0 = some (0, 3) := by kernel_rfl
theorem fld27_1 : fldB Tryz.prog 27 1 = some (1, 3) := by kernel_rfl
theorem fld27_2 : fldB Tryz.prog 27 2 = some (2, 22) := by kernel_rfl
theorem fld36_0 : fldB Tryz.prog 36 0 = some (0, 4) := by kernel_rfl
theorem fld36_1 : fldB Tryz.prog 36 1 = some (1, 34) := by kernel_rfl
theorem fld70_0 : fldB Tryz.prog 70 0 = some (0, 3) := by kernel_rfl
theorem fld70_1 : fldB Tryz.prog 70 1 = some (1, 3) := by kernel_rfl
theorem fld70_2 : fldB Tryz.prog 70 2 = some (2, 68) := by kernel_rfl
theorem fld75_0 : fldB Tryz.prog 75 0 = some (0, 36) := by kernel_rfl
theorem fld75_1 : fldB Tryz.prog 75 1 = some (2, 36) := by kernel_rfl
theorem fld93_0 : fldB Tryz.prog 93 0 = some (0, 90) := by kernel_rfl
theorem fld93_1 : fldB Tryz.prog 93 1 = some (1, 3) := by kernel_rfl
theorem fld93_2 : fldB Tryz.prog 93 2 = some (2, 91) := by kernel_rfl
theorem fld93_3 : fldB Tryz.prog 93 3 = some (3, 36) := by kernel_rfl
theorem fld93_4 : fldB Tryz.prog 93 4 = some (5, 4) := by kernel_rfl
theorem fs27 : fsB Tryz.prog 27 = some [(3, 0), (3, 1), (22, 2)] := by kernel_rfl
theorem fs36 : fsB Tryz.prog 36 = some [(4, 0), (34, 1)] := by kernel_rfl
theorem mixed : Tryz.prog.follows .mixedOrders = true := by kernel_rfl
theorem pl106 : plB Tryz.prog 106 = some [(0, 1), (1, 1), (2, 1)] := by kernel_rfl
theorem pl27 : plB Tryz.prog 27 = some [(0, 1), (1, 1), (2, 1)] := by kernel_rfl
theorem pl36 : plB Tryz.prog 36 = some [(0, 1), (1, 1)] := by kernel_rfl
theorem pl70 : plB Tryz.prog 70 = some [(0, 1), (1, 1), (2, 1)] := by kernel_rfl
theorem pl75 : plB Tryz.prog 75 = some [(0, 2), (2, 2)] := by kernel_rfl
theorem pl93 : plB Tryz.prog 93 = some [(0, 1), (1, 1), (2, 1), (3, 2), (5, 1)] := by kernel_rfl
theorem sl104 : slB Tryz.prog 104 = some 68 := by kernel_rfl
theorem sl22 : slB Tryz.prog 22 = some 36 := by kernel_rfl
theorem sl23 : slB Tryz.prog 23 = some 36 := by kernel_rfl
theorem sl34 : slB Tryz.prog 34 = some 62 := by kernel_rfl
theorem sl65 : slB Tryz.prog 65 = some 27 := by kernel_rfl
theorem sl68 : slB Tryz.prog 68 = some 75 := by kernel_rfl
theorem sl90 : slB Tryz.prog 90 = some 22 := by kernel_rfl
theorem sl91 : slB Tryz.prog 91 = some 3 := by kernel_rfl
theorem sl94 : slB Tryz.prog 94 = some 2 := by kernel_rfl
theorem ty102 : tyB Tryz.prog 102 = some (1, false) := by kernel_rfl
theorem ty104 : tyB Tryz.prog 104 = some (1, false) := by kernel_rfl
theorem ty2 : tyB Tryz.prog 2 = some (1, false) := by kernel_rfl
theorem ty22 : tyB Tryz.prog 22 = some (1, false) := by kernel_rfl
theorem ty27 : tyB Tryz.prog 27 = some (3, true) := by kernel_rfl
theorem ty3 : tyB Tryz.prog 3 = some (1, false) := by kernel_rfl
theorem ty34 : tyB Tryz.prog 34 = some (1, false) := by kernel_rfl
theorem ty36 : tyB Tryz.prog 36 = some (2, true) := by kernel_rfl
theorem ty4 : tyB Tryz.prog 4 = some (1, false) := by kernel_rfl
theorem ty62 : tyB Tryz.prog 62 = some (1, false) := by kernel_rfl
theorem ty68 : tyB Tryz.prog 68 = some (1, false) := by kernel_rfl
theorem ty70 : tyB Tryz.prog 70 = some (3, true) := by kernel_rfl
theorem ty75 : tyB Tryz.prog 75 = some (4, true) := by kernel_rfl
theorem ty90 : tyB Tryz.prog 90 = some (1, false) := by kernel_rfl
theorem ty91 : tyB Tryz.prog 91 = some (1, false) := by kernel_rfl
theorem ty94 : tyB Tryz.prog 94 = some (1, false) := by kernel_rfl
theorem un148 : Tryz.prog.underlying 148 = some (.int .u64) := by kernel_rfl
theorem un2 : Tryz.prog.underlying 2 = some (.int .i64) := by kernel_rfl
theorem un22 : Tryz.prog.underlying 22 = some (.slice 36) := by kernel_rfl
theorem un3 : Tryz.prog.underlying 3 = some (.int .i64) := by kernel_rfl
theorem un34 : Tryz.prog.underlying 34 = some (.slice 62) := by kernel_rfl
theorem un4 : Tryz.prog.underlying 4 = some .bool := by kernel_rfl
theorem un5 : Tryz.prog.underlying 5 = some (.int .u8) := by kernel_rfl
theorem un62 : Tryz.prog.underlying 62 = some (.int .u64) := by kernel_rfl
theorem un9 : Tryz.prog.underlying 9 = some .string := by kernel_rfl
theorem zero102 : zeroB Tryz.prog 102 = some (.pointer none) := by kernel_rfl
theorem zero106 : zeroB Tryz.prog 106 = some (.agg #[.slice none 0 0, .int .i64 0, .slice none 0 0]) := by kernel_rfl
theorem zero2 : zeroB Tryz.prog 2 = some (.int .i64 0) := by kernel_rfl
theorem zero22 : zeroB Tryz.prog 22 = some (.slice none 0 0) := by kernel_rfl
theorem zero27 : zeroB Tryz.prog 27 = some (.agg #[.int .i64 0, .int .i64 0, .slice none 0 0]) := by kernel_rfl
theorem zero3 : zeroB Tryz.prog 3 = some (.int .i64 0) := by kernel_rfl
theorem zero36 : zeroB Tryz.prog 36 = some (.agg #[.bool false, .slice none 0 0]) := by kernel_rfl
theorem zero62 : zeroB Tryz.prog 62 = some (.int .u64 0) := by kernel_rfl
theorem zero68 : zeroB Tryz.prog 68 = some (.slice none 0 0) := by kernel_rfl
theorem zero70 : zeroB Tryz.prog 70 = some (.agg #[.int .i64 0, .int .i64 0, .slice none 0 0]) := by kernel_rfl
theorem zero75 : zeroB Tryz.prog 75 = some (.agg #[.bool false, .slice none 0 0, .bool false, .slice none 0 0]) := by kernel_rfl
theorem zero93 : zeroB Tryz.prog 93 = some (.agg #[.slice none 0 0, .int .i64 0, .slice none 0 0, .bool false, .slice none 0 0, .bool false]) := by kernel_rfl
end Go.Proofs.YtcfobalbkhgdmaaGreat
namespace Go.Nt
abbrev W : Nat := 18446744073709551616
def val : List Nat → Nat
 | [] => 0
 | x :: xs => x + W * val xs
def wordsN : Nat → Nat → List Nat
 | 0, _ => []
 | k + 1, n => n % W :: wordsN k (n / W)
def words (n : Nat) : List Nat := if h : n = 0 then [] else n % W :: words (n / W)
termination_by n
decreasing_by exact Nat.div_lt_self (Nat.pos_of_ne_zero h) (by decide)
def Ok (xs : List Nat) : Prop := ∀ x ∈ xs, x < W
theorem words_zero : words 0 = [] := by unfold words; simp
theorem words_pos {n : Nat} (h : n ≠ 0) : words n = n % W :: words (n / W) := by rw [words]; simp [h]
theorem nw_zero : (List.length (words 0)) = 0 := by rw [words_zero]; rfl
theorem nw_pos {n : Nat} (h : n ≠ 0) : (List.length (words n)) = (List.length (words (n / W))) + 1 := by rw [words_pos h]; rfl
theorem val_words (n : Nat) : val (words n) = n := by
  induction n using Nat.strongRecOn with
  | _ n ih =>
    by_cases h : n = 0
    · subst h; rw [words_zero]; rfl
    · rw [words_pos h, val, ih _ (Nat.div_lt_self (Nat.pos_of_ne_zero h) (by decide))]
      have := Nat.mod_add_div n W; omega
theorem words_ok (n : Nat) : Ok (words n) := by
  induction n using Nat.strongRecOn with
  | _ n ih =>
    by_cases h : n = 0
    · subst h; rw [words_zero]; intro x hx; simp at hx
    · rw [words_pos h]; intro x hx
      rcases List.mem_cons.1 hx with rfl | hx
      · exact Nat.mod_lt _ (by decide)
      · exact ih _ (Nat.div_lt_self (Nat.pos_of_ne_zero h) (by decide)) x hx
theorem wordsN_len : ∀ (k n : Nat), (wordsN k n).length = k
 | 0, _ => rfl
 | k + 1, n => by simp [wordsN, wordsN_len k]
theorem wordsN_ok : ∀ (k n : Nat), Ok (wordsN k n)
  | 0, _ => fun x hx => by simp [wordsN] at hx
  | k + 1, n => fun x hx => by
    rcases List.mem_cons.1 hx with rfl | hx
    · exact Nat.mod_lt _ (by decide)
    · exact wordsN_ok k _ x hx
theorem val_wordsN : ∀ (k n : Nat), val (wordsN k n) = n % W ^ k
  | 0, n => by simp [wordsN, val, Nat.mod_one]
  | k + 1, n => by
    rw [wordsN, val, val_wordsN k, Nat.pow_succ, Nat.mul_comm (W ^ k) W, Nat.mod_mul]
theorem val_lt {xs : List Nat} (h : Ok xs) : val xs < W ^ xs.length := by
  induction xs with
  | nil => simp [val]
  | cons x xs ih =>
    have h1 := h x (by simp)
    have h2 := ih (fun y hy => h y (by simp [hy]))
    rw [val, List.length_cons, Nat.pow_succ]
    have : W * val xs + W ≤ W * W ^ xs.length := by rw [← Nat.mul_succ]; exact Nat.mul_le_mul_left _ h2
    rw [Nat.mul_comm (W ^ xs.length)]; omega
theorem val_append (xs ys : List Nat) : val (xs ++ ys) = val xs + W ^ xs.length * val ys := by
 induction xs with
 | nil => simp [val]
 | cons x xs ih => rw [List.cons_append, val, ih, val, List.length_cons, Nat.pow_succ]; grind
theorem ok_append {xs ys : List Nat} (h : Ok xs) (k : Ok ys) : Ok (xs ++ ys) := fun x hx => by
 rcases List.mem_append.1 hx with h1 | h1
 ·exact h x h1
 ·exact k x h1
theorem val_inj : ∀ {xs ys : List Nat}, Ok xs → Ok ys → xs.length = ys.length → val xs = val ys → xs = ys
  | [], [], _, _, _, _ => rfl
  | x :: xs, y :: ys, h1, h2, hl, hv => by
    have hx := h1 x (by simp)
    have hy := h2 y (by simp)
    simp only [val] at hv
    have e : x = y := by
      have := congrArg (· % W) hv
      simp only [Nat.add_mul_mod_self_left] at this
      rwa [Nat.mod_eq_of_lt hx, Nat.mod_eq_of_lt hy] at this
    subst e
    have e2 : val xs = val ys := Nat.eq_of_mul_eq_mul_left (by decide : 0 < W) (by omega)
    rw [val_inj (fun z hz => h1 z (by simp [hz])) (fun z hz => h2 z (by simp [hz])) (by simpa using hl) e2]
theorem eq_wordsN {xs : List Nat} {k n : Nat} (h : Ok xs) (hl : xs.length = k) (hv : val xs = n % W ^ k) : xs = wordsN k n :=
 val_inj h (wordsN_ok _ _) (by rw [hl, wordsN_len]) (by rw [hv, val_wordsN])
theorem nw_lt (n : Nat) : n < W ^ (List.length (words n)) := by have := val_lt (words_ok n); rwa [val_words] at this
theorem nw_le {n k : Nat} (h : n < W ^ k) : (List.length (words n)) ≤ k := by
  induction k generalizing n with
  | zero => have : n = 0 := by simpa using h
            subst this; rw [nw_zero]; exact Nat.le_refl _
  | succ k ih =>
    by_cases h0 : n = 0
    · subst h0; rw [nw_zero]; omega
    · rw [nw_pos h0]
      have : n / W < W ^ k := by rw [Nat.div_lt_iff_lt_mul (by decide)]; rwa [Nat.pow_succ] at h
      have := ih this; omega
theorem nw_mono {m n : Nat} (h : m ≤ n) : (List.length (words m)) ≤ (List.length (words n)) := nw_le (Nat.lt_of_le_of_lt h (nw_lt n))
theorem le_of_nw {n : Nat} (h : n ≠ 0) : W ^ ((List.length (words n)) - 1) ≤ n := by
 apply Classical.byContradiction; intro hc
 have := nw_le (Nat.lt_of_not_le hc)
 have := nw_pos h; omega
theorem nw_val {xs : List Nat} (h : Ok xs) : (List.length (words (val xs))) ≤ xs.length := nw_le (val_lt h)
def dig (n i : Nat) : Nat := n / W ^ i % W
theorem dig_lt (n i : Nat) : dig n i < W := Nat.mod_lt _ (by decide)
theorem getD_words (n i : Nat) : (words n).getD i 0 = dig n i := by
  induction i generalizing n with
  | zero =>
    by_cases h : n = 0
    · subst h; rw [words_zero]; simp [dig]
    · rw [words_pos h]; simp [dig]
  | succ i ih =>
    by_cases h : n = 0
    · subst h; rw [words_zero]; simp [dig]
    · rw [words_pos h, List.getD_cons_succ, ih, dig, dig, Nat.div_div_eq_div_mul, Nat.pow_succ, Nat.mul_comm W]
theorem getD_val {xs : List Nat} (h : Ok xs) (i : Nat) : xs.getD i 0 = dig (val xs) i := by
  induction xs generalizing i with
  | nil => simp [dig, val]
  | cons x xs ih =>
    have hx := h x (by simp)
    cases i with
    | zero => simp [dig, val, Nat.mod_eq_of_lt hx]
    | succ i =>
      rw [List.getD_cons_succ, ih (fun y hy => h y (by simp [hy])), dig, dig, val, Nat.pow_succ, Nat.mul_comm (W ^ i), ← Nat.div_div_eq_div_mul]
      rw [Nat.add_mul_div_left _ _ (by decide), Nat.div_eq_of_lt hx, Nat.zero_add]
theorem wordsN_succ (k n : Nat) : wordsN (k + 1) n = wordsN k n ++ [dig n k] := by
  induction k generalizing n with
  | zero => simp [wordsN, dig]
  | succ k ih =>
    rw [wordsN, ih, wordsN, List.cons_append, dig, dig, Nat.div_div_eq_div_mul, Nat.pow_succ, Nat.mul_comm W]
theorem mod_succ (n k : Nat) : n % W ^ (k + 1) = n % W ^ k + W ^ k * dig n k := by
 rw [Nat.pow_succ, Nat.mod_mul, dig]
theorem words_wordsN (n : Nat) : words n = wordsN ((List.length (words n))) n := eq_wordsN (words_ok n) rfl (by rw [val_words, Nat.mod_eq_of_lt (nw_lt n)])
theorem dig_top {n : Nat} (h : n ≠ 0) : dig n ((List.length (words n)) - 1) ≠ 0 := by
 intro h0
 have h1 := le_of_nw h
 have h2 := nw_lt n
 have e : (List.length (words n)) - 1 + 1 = (List.length (words n)) := by have := nw_pos h; omega
 have h3 : n / W ^ ((List.length (words n)) - 1) < W := by rw [Nat.div_lt_iff_lt_mul (Nat.pow_pos (by decide)), Nat.mul_comm, ← Nat.pow_succ]; rwa [show ((List.length (words n)) - 1).succ = (List.length (words n)) from e]
 rw [dig, Nat.mod_eq_of_lt h3] at h0
 have := (Nat.div_eq_zero_iff.1 h0).resolve_left (Nat.ne_of_gt (Nat.pow_pos (by decide)))
 omega
theorem dig_zero {n i : Nat} (h : (List.length (words n)) ≤ i) : dig n i = 0 := by
 rw [dig, Nat.div_eq_of_lt (Nat.lt_of_lt_of_le (nw_lt n) (Nat.pow_le_pow_right (by decide) h))]; rfl
theorem words_of_take {xs : List Nat} {k : Nat} (h : Ok xs) (hk : k ≤ xs.length) (h0 : ∀ i, k ≤ i → xs.getD i 0 = 0) (ht : k = 0 ∨ xs.getD (k - 1) 0 ≠ 0) : xs.take k = words (val xs) := by
  have hv : val xs < W ^ k := by
    clear ht
    induction xs generalizing k with
    | nil => simp [val]; exact Nat.pow_pos (by decide)
    | cons x xs ih =>
      cases k with
      | zero =>
        have hx := h0 0 (Nat.le_refl _)
        simp at hx
        have := ih (fun y hy => h y (by simp [hy])) (Nat.zero_le _) (fun i _ => by simpa using h0 (i + 1) (by omega))
        simp at this
        simp [val, hx, this]
      | succ k =>
        have := ih (fun y hy => h y (by simp [hy])) (by simpa using hk) (fun i hi => by simpa using h0 (i + 1) (by omega))
        have hx := h x (by simp)
        rw [val, Nat.pow_succ, Nat.mul_comm (W ^ k)]
        have h3 : W * val xs + W ≤ W * W ^ k := by rw [← Nat.mul_succ]; exact Nat.mul_le_mul_left _ this
        omega
  have hn : (List.length (words (val xs))) = k := by
    have h1 := nw_le hv
    rcases ht with rfl | ht
    · omega
    · rcases Nat.lt_or_ge ((List.length (words (val xs)))) k with h2 | h2
      · exfalso; apply ht; rw [getD_val h]; exact dig_zero (by omega)
      · omega
  have hok : Ok (xs.take k) := fun x hx => h x (List.mem_of_mem_take hx)
  have htv : val (xs.take k) = val xs := by
    have e := val_append (xs.take k) (xs.drop k)
    rw [List.take_append_drop] at e
    have hlen : (xs.take k).length = k := by simp; omega
    rw [hlen] at e
    have hd : val (xs.drop k) = 0 := by
      rcases Nat.eq_zero_or_pos (val (xs.drop k)) with h1 | h1
      · exact h1
      · have := Nat.le_mul_of_pos_right (W ^ k) h1; omega
    rw [hd] at e; omega
  rw [words_wordsN, hn]
  exact eq_wordsN hok (by simp; omega) (by rw [htv, Nat.mod_eq_of_lt hv])
theorem words_small {n : Nat} (h : n < W) : words n = if n = 0 then [] else [n] := by
 by_cases h0 : n = 0
 ·subst h0; rw [words_zero]; rfl
 ·rw [if_neg h0, words_pos h0, Nat.mod_eq_of_lt h, Nat.div_eq_of_lt h, words_zero]
theorem lt_of_nw_le_one {n : Nat} (h : (List.length (words n)) ≤ 1) : n < W := by
 have := nw_lt n
 have h2 : W ^ (List.length (words n)) ≤ W ^ 1 := Nat.pow_le_pow_right (by decide) h
 simp at h2; omega
theorem val_replicate (k : Nat) : val (List.replicate k 0) = 0 := by
 induction k with
 | zero => rfl
 | succ k ih => rw [List.replicate_succ, val, ih]; rfl
def cmpN (m n : Nat) : Int := if m < n then -1 else if n < m then 1 else 0
end Go.Nt
namespace Go.Nt
theorem mul32 {a b : Nat} (ha : a < 4294967296) (hb : b < 4294967296) : a * b ≤ 18446744065119617025 := by
 have : a * b ≤ 4294967295 * 4294967295 := Nat.mul_le_mul (by omega) (by omega)
 omega
theorem mul64_facts {x y : Nat} (hx : x < 18446744073709551616) (hy : y < 18446744073709551616) :
  x % 2 ^ 32 * (y % 2 ^ 32) ≤ 18446744065119617025 ∧ x / 2 ^ 32 * (y % 2 ^ 32) ≤ 18446744065119617025 ∧ x % 2 ^ 32 * (y / 2 ^ 32) ≤ 18446744065119617025 ∧ x / 2 ^ 32 * (y / 2 ^ 32) ≤ 18446744065119617025 :=
 ⟨mul32 (by omega) (by omega), mul32 (by omega) (by omega), mul32 (by omega) (by omega), mul32 (by omega) (by omega)⟩
theorem mul64_hi (x y : Nat) : x / 2 ^ 32 * (y / 2 ^ 32) + (x / 2 ^ 32 * (y % 2 ^ 32) + x % 2 ^ 32 * (y % 2 ^ 32) / 2 ^ 32) / 2 ^ 32 +
  ((x / 2 ^ 32 * (y % 2 ^ 32) + x % 2 ^ 32 * (y % 2 ^ 32) / 2 ^ 32) % 2 ^ 32 + x % 2 ^ 32 * (y / 2 ^ 32)) / 2 ^ 32 = x * y / 18446744073709551616 := by
 have hx : x = x % 2 ^ 32 + 4294967296 * (x / 2 ^ 32) := by omega
 have hy : y = y % 2 ^ 32 + 4294967296 * (y / 2 ^ 32) := by omega
 generalize x / 2 ^ 32 = x1 at *
 generalize y / 2 ^ 32 = y1 at *
 generalize x % 2 ^ 32 = x0 at *
 generalize y % 2 ^ 32 = y0 at *
 have e : x * y = x0 * y0 + 4294967296 * (x1 * y0 + x0 * y1) + 18446744073709551616 * (x1 * y1) := by rw [hx, hy]; grind
 rw [e]
 generalize x0 * y0 = p at *
 generalize x1 * y0 = q at *
 generalize x0 * y1 = r at *
 generalize x1 * y1 = s at *
 omega
theorem cmp_start {m n : Nat} (h : (List.length (words m)) = (List.length (words n))) : m / W ^ (List.length (words m)) = n / W ^ (List.length (words m)) := by
 rw [Nat.div_eq_of_lt (nw_lt m), h, Nat.div_eq_of_lt (nw_lt n)]
theorem div_pow_succ (n k : Nat) (hk : 0 < k) : n / W ^ (k - 1) = W * (n / W ^ k) + dig n (k - 1) := by
 have e : W ^ k = W ^ (k - 1) * W := by rw [← Nat.pow_succ]; congr 1; omega
 rw [e, ← Nat.div_div_eq_div_mul, dig]
 exact (Nat.div_add_mod _ _).symm
theorem cmp_step {m n k : Nat} (hk : 0 < k) (h : m / W ^ k = n / W ^ k) (hd : (words m).getD (k - 1) 0 = (words n).getD (k - 1) 0) : m / W ^ (k - 1) = n / W ^ (k - 1) := by
 rw [getD_words, getD_words] at hd
 rw [div_pow_succ m k hk, div_pow_succ n k hk, h, hd]
theorem lt_of_div {m n k : Nat} (h : m / W ^ k < n / W ^ k) : m < n := by
 apply Classical.byContradiction; intro hc
 have := Nat.div_le_div_right (c := W ^ k) (Nat.le_of_not_lt hc); omega
theorem cmp_lt {m n k : Nat} (hk : 0 < k) (h : m / W ^ k = n / W ^ k) (hd : (words m).getD (k - 1) 0 < (words n).getD (k - 1) 0) : -1 = cmpN m n := by
 rw [getD_words, getD_words] at hd
 have : m < n := lt_of_div (k := k - 1) (by rw [div_pow_succ m k hk, div_pow_succ n k hk, h]; omega)
 unfold cmpN; rw [if_pos this]
theorem cmp_gt {m n k : Nat} (hk : 0 < k) (h : m / W ^ k = n / W ^ k) (hd : (words n).getD (k - 1) 0 < (words m).getD (k - 1) 0) : 1 = cmpN m n := by
 rw [getD_words, getD_words] at hd
 have : n < m := lt_of_div (k := k - 1) (by rw [div_pow_succ m k hk, div_pow_succ n k hk, h]; omega)
 unfold cmpN; rw [if_neg (by omega), if_pos this]
theorem cmp_eq {m n k : Nat} (h : m / W ^ k = n / W ^ k) (hk : k = 0) : 0 = cmpN m n := by
 subst hk; simp at h; subst h; simp [cmpN]
theorem lt_of_nw {m n : Nat} (h : (List.length (words m)) < (List.length (words n))) : m < n := by
 apply Classical.byContradiction; intro hc
 have := nw_mono (Nat.le_of_not_lt hc); omega
theorem cmp_len_lt {m n : Nat} (h : (List.length (words m)) < (List.length (words n))) : -1 = cmpN m n := by unfold cmpN; rw [if_pos (lt_of_nw h)]
theorem cmp_len_gt {m n : Nat} (h : (List.length (words n)) < (List.length (words m))) : 1 = cmpN m n := by have := lt_of_nw h; unfold cmpN; rw [if_neg (by omega), if_pos this]
end Go.Nt
namespace Go.Proofs.YtcfobalbkhgdmaaGreat
open Go.En Go.RowKit
set_option maxRecDepth 10000
set_option maxHeartbeats 4000000
open Go.Nt
theorem bits_Mul64 {x y : Nat} : Ctr Tryz.prog 142 [isU x, isU y] (isTup [isU (x * y / 18446744073709551616), isU (x * y % 18446744073709551616)]) := by
 refine Ctr.intro Tryz.func142 rfl (by kernel_rfl) Tryz.ntmps142 rfl fun w0 F0 => .cv (Cv.wk (.l [0, 1] rfl)) (.fact (Has.ltU (Has.t (t := 0) rfl)) fun lt0 => .fact (Has.ltU (Has.t (t := 1) rfl)) fun lt1 => ?_)
 have hf := mul64_facts lt0 lt1
 have hx1 : x / 2 ^ 32 < 4294967296 := by omega
 have hy1 : y / 2 ^ 32 < 4294967296 := by omega
 refine .seq fun _ k1 => .region (st (.as (.cU 0 rfl)) rfl (st (.as (.cU 0 rfl)) rfl (nl (.thn (k1 _ _ (.seq fun _ k2 => .region (st (.mv (.t rfl)) rfl (st (.eq (.andU (.t rfl) (.cU 4294967295 rfl)) (isU_eq (Nat.and_two_pow_sub_one_eq_mod _ 32))) rfl (st (.as (.t rfl)) rfl (nl (.thn (k2 _ _ (.seq fun _ k3 => .region (st (.mv (.t rfl)) rfl (st (.shrUU (.t rfl) (.cU 32 rfl) (by omega)) rfl (st (.as (.t rfl)) rfl (nl (.thn (k3 _ _ (.seq fun _ k4 => .region (st (.mv (.t rfl)) rfl (st (.eq (.andU (.t rfl) (.cU 4294967295 rfl)) (isU_eq (Nat.and_two_pow_sub_one_eq_mod _ 32))) rfl (st (.as (.t rfl)) rfl (nl (.thn (k4 _ _ (.cv (Cv.wk (.l [0, 1, 4, 5, 6, 7, 8] rfl)) (.seq fun _ k5 => .region (st (.mv (.t rfl)) rfl (st (.shrUU (.t rfl) (.cU 32 rfl) (by omega)) rfl (st (.as (.t rfl)) rfl (nl (.thn (k5 _ _ (.seq fun _ k6 => .region (st (.mv (.t rfl)) rfl (st (.mv (.t rfl)) rfl (st (.mulU' (.t rfl) (.t rfl) (by omega)) rfl (st (.as (.t rfl)) rfl (nl (.thn (k6 _ _ (.cv (Cv.wk (.l [0, 1, 4, 5, 6, 7, 8, 9, 10] rfl)) ?_)))))))))))))))))))))))))))))))))))))))))))
 refine .seq fun _ k7 => .region (st (.mv (.t rfl)) rfl (st (.mv (.t rfl)) rfl (st (.mulU' (.t rfl) (.t rfl) (by omega)) rfl (st (.mv (.t rfl)) rfl (st (.shrUU (.t rfl) (.cU 32 rfl) (by omega)) rfl (st (.addU' (.t rfl) (.t rfl) (by omega)) rfl (st (.as (.t rfl)) rfl (nl (.thn (k7 _ _ (.cv (Cv.wk (.l [0, 1, 4, 5, 6, 7, 9, 11] rfl)) (.seq fun _ k8 => .region (st (.mv (.t rfl)) rfl (st (.eq (.andU (.t rfl) (.cU 4294967295 rfl)) (isU_eq (Nat.and_two_pow_sub_one_eq_mod _ 32))) rfl (st (.as (.t rfl)) rfl (nl (.thn (k8 _ _ (.seq fun _ k9 => .region (st (.mv (.t rfl)) rfl (st (.shrUU (.t rfl) (.cU 32 rfl) (by omega)) rfl (st (.as (.t rfl)) rfl (nl (.thn (k9 _ _ (.cv (Cv.wk (.l [0, 1, 4, 5, 6, 7, 9, 12, 13] rfl)) (.seq fun _ k10 => .region (st (.mv (.t rfl)) rfl (st (.mv (.t rfl)) rfl (st (.mv (.t rfl)) rfl (st (.mulU' (.t rfl) (.t rfl) (by omega)) rfl (st (.addU' (.t rfl) (.t rfl) (by omega)) rfl (st (.as (.t rfl)) rfl (nl (.thn (k10 _ _ (.cv (Cv.wk (.l [0, 1, 4, 5, 7, 9, 12, 13] rfl)) (.seq fun _ k11 => .region (st (.mv (.t rfl)) rfl (st (.mv (.t rfl)) rfl (st (.mulU' (.t rfl) (.t rfl) (by omega)) rfl ?_)))))))))))))))))))))))))))))))))))))))))
 refine st (.mv (.t rfl)) rfl (st (.addU' (.t rfl) (.t rfl) (by omega)) rfl (st (.mv (.t rfl)) rfl (st (.shrUU (.t rfl) (.cU 32 rfl) (by omega)) rfl (st (.addU' (.t rfl) (.t rfl) (by omega)) rfl (st (.as (.t rfl)) rfl (nl (.thn (k11 _ _ (.cv (Cv.wk (.l [0, 1, 4, 5] rfl)) (.seq fun _ k12 => .region (st (.mv (.t rfl)) rfl (st (.mv (.t rfl)) rfl (st (.mulU (.t rfl) (.t rfl)) rfl (st (.as (.t rfl)) rfl (nl (.thn (k12 _ _ (.cv (Cv.wk (.l [4, 5] rfl)) (.ret (rtN (.inl rfl) Tryz.results142 rfl rfl (.tmp (Has.t' rfl ?_) (.tmp (Has.t' rfl ?_) .nil))))))))))))))))))))))
 ·exact isU_eq (mul64_hi x y)
 ·rfl
theorem clone_Nat {xs : List Nat} (hx : xs.length ≤ 4294967296) : Ctr Tryz.prog 97 [isWords xs] (isWords xs) := by
 refine Ctr.intro Tryz.func97 rfl (by kernel_rfl) Tryz.ntmps97 rfl fun w0 F0 => .cv (Cv.wk (.l [0] rfl)) (.fact (Has.lenLt (Has.t (t := 0) rfl)) fun lt0 => .fact (Has.okW (Has.t (t := 0) rfl)) fun ok0 => .seq fun _ k1 => .region (st (.as (.cW (f := isU))) rfl (nl (.thn (k1 _ _ (.seq fun _ k2 => .seq fun _ k3 => .region (st (.mv (.t rfl)) rfl (.eqNil sl34 (.t rfl) rfl fun bn1 hn1 => nl (.thn (k3 _ _ (.cond (.t rfl) (fun hc2 => ?_) (fun hc2 => ?_))))))))))))
 ·have hc2 := BP.t hc2
  refine .seq fun _ k4 => .region (st (.as (.cW (f := isU))) rfl (nl (.thn (k4 _ _ (.ret (.thr (rt1 (.inl rfl) Tryz.results97 rfl (.tmp (Has.t' rfl ?_) .nil))))))))
  all_goals (rw [hn1 hc2])
 ·have hc2 := BP.f hc2
  refine .skip (.thn (k2 _ _ (.seq fun _ k5 => .region (.buildS0 sl34 ty62 rfl (st (.mv (.t rfl)) rfl (st (.appendZM sl34 ty62 zero62 by62 (.t rfl) (.t rfl) (by omega)) rfl (st (.as (.t rfl)) rfl (nl (.thn (k5 _ _ (.cv (Cv.wk (.l [2] rfl)) (.ret (rt1 (.inl rfl) Tryz.results97 rfl (.tmp (Has.t' rfl ?_) .nil))))))))))))))
  all_goals (rfl)
theorem nat_trim {xs : List Nat} : Ctr Tryz.prog 95 [isWords xs] (isWords (words (val xs))) := by
 refine Ctr.intro Tryz.func95 rfl (by kernel_rfl) Tryz.ntmps95 rfl fun w0 F0 => .cv (Cv.wk (.l [0] rfl)) (.fact (Has.lenLt (Has.t (t := 0) rfl)) fun lt0 => .fact (Has.okW (Has.t (t := 0) rfl)) fun ok0 => .seq fun _ k1 => .region (st (.as (.cW (f := isU))) rfl (nl (.thn (k1 _ _ (.seq fun _ k2 => .region (st (.mv (.t rfl)) rfl (st (.len sl34 (.t rfl)) rfl (st (.as (.t rfl)) rfl (nl (.thn (k2 _ _ (.seq fun _ k3 => .block (.loopF [0, 2] (fun (z : { k : Nat // k ≤ xs.length ∧ ∀ i, k ≤ i → xs.getD i 0 = 0 }) => match z with | ⟨k, hI⟩ => [(3, isI (k : Int))]) (fun M => fun (z : { k : Nat // k ≤ xs.length ∧ ∀ i, k ≤ i → xs.getD i 0 = 0 }) => match z with | ⟨k, hI⟩ => M) (fun (z : { k : Nat // k ≤ xs.length ∧ ∀ i, k ≤ i → xs.getD i 0 = 0 }) => match z with | ⟨k, hI⟩ => k) (⟨xs.length, Nat.le_refl _, fun i hi => by simp [List.getD, List.getElem?_eq_none hi]⟩) (Cv.mem (.c 3 rfl ?_ (.l [0, 2] rfl)) ?_) ?_))))))))))))))
 ·rfl
 ·rfl
 rintro ⟨k, hk, hz⟩ K4 hK4
 refine .cv (Cv.wk (.l [3, 0, 2] rfl)) ?_
 have ek : ((k : Int) - 1).toNat = k - 1 := by omega
 refine .seq fun _ k5 => .seq fun _ k6 => .region (st (.mv (.t rfl)) rfl (st (.gtI (.t rfl) (.cI 0 rfl)) rfl (st (.mv (.t rfl)) rfl (stT rfl rfl (fun hg => .mv (.t rfl)) rfl (stT rfl rfl (fun hg => .mv (.t rfl)) rfl ?_)))))
 refine stT rfl rfl (fun hg => have hg' := BP.t hg; OK1.subI (Has.g rfl hg) (.cI 1 rfl) (by omega) (by omega)) rfl ?_
 refine stT rfl rfl (fun hg => have hg' := BP.t hg; OK1.ixP sl34 ty62 (Has.g rfl hg) (Has.g rfl hg) ⟨by omega, by omega⟩ (getD_some (d := 0) (by omega))) rfl ?_
 refine stT rfl rfl (fun hg => .loadP1 (Has.g rfl hg) ty62) rfl (stT rfl rfl (fun hg => .eqU (Has.g rfl hg) (.cU 0 rfl)) rfl (st (.pickAnd (.t rfl) (fun h => Has.g rfl h)) rfl (nl (.thn (k6 _ _ (.cond (.t rfl) (fun hc1 => ?_) (fun hc1 => ?_)))))))
 ·have hc1 := BP.t hc1
  refine .skip (.thn (k5 _ _ (.block (.region (st (.mv (.t rfl)) rfl (st (.subI (.t rfl) (.cI 1 rfl) (by omega) (by omega)) rfl (st (.as (.t rfl)) rfl (nl (.bln (.thn ?_))))))))))
  refine hK4 (⟨k - 1, by omega, fun i hi => by rcases Nat.lt_or_ge i k with h | h; (have e : i = k - 1 := by omega); (rw [e, ← ek]; exact hc1.2); exact hz i h⟩) _ _ ?_ (Cv.mem (.c 3 rfl ?_ (.l [0, 2] rfl)) ?_)
  ·show k - 1 < k; omega
  ·exact isI_eq (by omega)
  ·rfl
 ·have hc1 := BP.f hc1
  refine .exit (.the (.the (.blh (.thn (k3 _ _ (.cv (Cv.wk (.l [0, 2, 3] rfl)) (.seq fun _ k7 => .region (st (.mv (.t rfl)) rfl (st (.mv (.t rfl)) rfl (st (.slHM sl34 ty62 (.t rfl) (.t rfl) ⟨by omega, by omega⟩) rfl (st (.as (.t rfl)) rfl (nl (.thn (k7 _ _ (.cv (Cv.wk (.l [2] rfl)) (.ret (rt1 (.inl rfl) Tryz.results95 rfl (.tmp (Has.t' rfl ?_) .nil))))))))))))))))))
  all_goals (exact SlM_eq (words_of_take ok0 hk hz (by rcases hc1 with h | h; left; omega; right; rwa [ek] at h)))
theorem nat_normal {xs : List Nat} : Ctr Tryz.prog 96 [isWords xs] (isWords (words (val xs))) := by
 refine Ctr.intro Tryz.func96 rfl (by kernel_rfl) Tryz.ntmps96 rfl fun w0 F0 => .cv (Cv.wk (.l [0] rfl)) (.fact (Has.lenLt (Has.t (t := 0) rfl)) fun lt0 => .fact (Has.okW (Has.t (t := 0) rfl)) fun ok0 => .seq fun _ k1 => .region (st (.as (.cW (f := isU))) rfl (nl (.thn (k1 _ _ (.seq fun _ k2 => .region (st (.mv (.t rfl)) rfl (st (.call (nat_trim) (.cons (.t rfl) .nil)) rfl (st (.as (.t rfl)) rfl (nl (.thn (k2 _ _ (.seq fun _ k3 => .seq fun _ k4 => .region (st (.mv (.t rfl)) rfl (st (.len sl34 (.t rfl)) rfl (st (.eqI (.t rfl) (.cI 0 rfl)) rfl (nl (.thn (k4 _ _ (.cond (.t rfl) (fun hc1 => ?_) (fun hc1 => ?_)))))))))))))))))))))
 ·have hc1 := BP.t hc1
  refine .seq fun _ k5 => .region (st (.as (.cW (f := isU))) rfl (nl (.thn (k5 _ _ (.cv (Cv.wk (.l [0, 2] rfl)) (.ret (.thr (rt1 (.inl rfl) Tryz.results96 rfl (.tmp (Has.t' rfl ?_) .nil)))))))))
  all_goals (exact SlM_eq (List.eq_nil_of_length_eq_zero (by omega)).symm)
 ·have hc1 := BP.f hc1
  refine .skip (.thn (k3 _ _ (.cv (Cv.wk (.l [0, 2] rfl)) (.seq fun _ k6 => .region (st (.mv (.t rfl)) rfl (st (.as (.t rfl)) rfl (nl (.thn (k6 _ _ (.ret (rt1 (.inl rfl) Tryz.results96 rfl (.tmp (Has.t' rfl ?_) .nil))))))))))))
  all_goals (rfl)
theorem nat_Of {x : Nat} : Ctr Tryz.prog 34 [isU x] (isWords (words x)) := by
 refine Ctr.intro Tryz.func34 rfl (by kernel_rfl) Tryz.ntmps34 rfl fun w0 F0 => .cv (Cv.wk (.l [0] rfl)) (.fact (Has.ltU (Has.t (t := 0) rfl)) fun lt0 => .seq fun _ k1 => .region (st (.as (.cW (f := isU))) rfl (nl (.thn (k1 _ _ (.seq fun _ k2 => .seq fun _ k3 => .region (st (.mv (.t rfl)) rfl (st (.eqU (.t rfl) (.cU 0 rfl)) rfl (nl (.thn (k3 _ _ (.cond (.t rfl) (fun hc1 => ?_) (fun hc1 => ?_)))))))))))))
 ·have hc1 := BP.t hc1
  refine .seq fun _ k4 => .region (st (.as (.cW (f := isU))) rfl (nl (.thn (k4 _ _ (.ret (.thr (rt1 (.inl rfl) Tryz.results34 rfl (.tmp (Has.t' rfl ?_) .nil))))))))
  all_goals (exact SlM_eq (by rw [hc1, words_zero]))
 ·have hc1 := BP.f hc1
  refine .skip (.thn (k2 _ _ (.seq fun _ k5 => .region (st (.mv (.t rfl)) rfl (st (.buildS [isU 0] sl34 ty62 zero62 (fun _ _ => ⟨⟨rfl, by decide⟩, trivial⟩) rfl rfl (.cons (.t rfl) rfl rfl rfl .nil) rfl (S := isWords [_]) rfl) rfl (st (.as (.t rfl)) rfl (nl (.thn (k5 _ _ (.cv (Cv.wk (.l [2] rfl)) (.ret (rt1 (.inl rfl) Tryz.results34 rfl (.tmp (Has.t' rfl ?_) .nil)))))))))))))
  all_goals (exact SlM_eq (by rw [words_small lt0, if_neg (by omega)]))
theorem nat_Norm {xs : List Nat} (hx : (List.length (words (val xs))) ≤ 4294967296) : Ctr Tryz.prog 64 [isWords xs] (isWords (words (val xs))) := by
 refine Ctr.intro Tryz.func64 rfl (by kernel_rfl) Tryz.ntmps64 rfl fun w0 F0 => .cv (Cv.wk (.l [0] rfl)) (.fact (Has.lenLt (Has.t (t := 0) rfl)) fun lt0 => .fact (Has.okW (Has.t (t := 0) rfl)) fun ok0 => .seq fun _ k1 => .region (st (.as (.cW (f := isU))) rfl (nl (.thn (k1 _ _ (.seq fun _ k2 => .region (st (.mv (.t rfl)) rfl (st (.call (nat_trim) (.cons (.t rfl) .nil)) rfl (st (.call (clone_Nat (by omega)) (.cons (.t rfl) .nil)) rfl (st (.call (nat_normal) (.cons (.t rfl) .nil)) rfl (st (.as (.t rfl)) rfl (nl (.thn (k2 _ _ (.cv (Cv.wk (.l [2] rfl)) (.ret (rt1 (.inl rfl) Tryz.results64 rfl (.tmp (Has.t' rfl ?_) .nil))))))))))))))))))
 all_goals (rw [val_words])
theorem nat_Cmp {xs ys : List Nat} : Ctr Tryz.prog 63 [isWords xs, isWords ys] (isI (cmpN (val xs) (val ys))) := by
 refine Ctr.intro Tryz.func63 rfl (by kernel_rfl) Tryz.ntmps63 rfl fun w0 F0 => .cv (Cv.wk (.l [0, 1] rfl)) (.fact (Has.lenLt (Has.t (t := 0) rfl)) fun lt0 => .fact (Has.okW (Has.t (t := 0) rfl)) fun ok0 => .fact (Has.lenLt (Has.t (t := 1) rfl)) fun lt1 => .fact (Has.okW (Has.t (t := 1) rfl)) fun ok1 => ?_)
 have n0 : (words (val xs)).length ≤ xs.length := nw_val ok0
 have n1 : (words (val ys)).length ≤ ys.length := nw_val ok1
 refine .seq fun _ k1 => .region (st (.as (.cI 0 rfl)) rfl (nl (.thn (k1 _ _ (.seq fun _ k2 => .region (st (.mv (.t rfl)) rfl (st (.call (nat_trim) (.cons (.t rfl) .nil)) rfl (st (.mv (.t rfl)) rfl (st (.call (nat_trim) (.cons (.t rfl) .nil)) rfl (st (.as (.t rfl)) rfl (st (.as (.t rfl)) rfl (nl (.thn (k2 _ _ (.seq fun _ k3 => .seq fun _ k4 => .region (st (.mv (.t rfl)) rfl (st (.len sl34 (.t rfl)) rfl (st (.mv (.t rfl)) rfl (st (.len sl34 (.t rfl)) rfl (st (.neI (.t rfl) (.t rfl)) rfl (nl (.thn (k4 _ _ (.cv (Cv.wk (.l [0, 1, 4, 14] rfl)) (.cond (.t rfl) (fun hc1 => ?_) (fun hc1 => ?_))))))))))))))))))))))))))
 ·have hc1 := BP.t hc1
  refine .seq fun _ k5 => .seq fun _ k6 => .region (st (.mv (.t rfl)) rfl (st (.len sl34 (.t rfl)) rfl (st (.mv (.t rfl)) rfl (st (.len sl34 (.t rfl)) rfl (st (.ltI (.t rfl) (.t rfl)) rfl (nl (.thn (k6 _ _ (.cv (Cv.wk (.l [0, 1, 4, 19] rfl)) (.cond (.t rfl) (fun hc2 => ?_) (fun hc2 => ?_)))))))))))
  ·have hc2 := BP.t hc2
   refine .seq fun _ k7 => .region (st (.as (.cI (-1) rfl)) rfl (nl (.thn (k7 _ _ (.ret (.thr (.thr (rt1 (.inl rfl) Tryz.results63 rfl (.tmp (Has.t' rfl ?_) .nil)))))))))
   all_goals (exact isI_eq (cmp_len_lt (show (words _).length < (words _).length by omega)))
  ·have hc2 := BP.f hc2
   refine .skip (.thn (k5 _ _ (.seq fun _ k8 => .region (st (.as (.cI 1 rfl)) rfl (nl (.thn (k8 _ _ (.ret (.thr (rt1 (.inl rfl) Tryz.results63 rfl (.tmp (Has.t' rfl ?_) .nil)))))))))))
   all_goals (exact isI_eq (cmp_len_gt (show (words _).length < (words _).length by omega)))
 ·have hc1 := BP.f hc1
  refine .skip (.thn (k3 _ _ (.seq fun _ k9 => .seq fun _ k10 => .region (st (.mv (.t rfl)) rfl (st (.len sl34 (.t rfl)) rfl (st (.subI (.t rfl) (.cI 1 rfl) (by omega) (by omega)) rfl (st (.as (.t rfl)) rfl (nl (.thn (k10 _ _ (.block (.loopF [0, 1] (fun (z : { k : Nat // k ≤ (words (val xs)).length ∧ val xs / W ^ k = val ys / W ^ k }) => match z with | ⟨k, hI⟩ => [(5, isI ((k : Int) - 1))]) (fun M => fun (z : { k : Nat // k ≤ (words (val xs)).length ∧ val xs / W ^ k = val ys / W ^ k }) => match z with | ⟨k, hI⟩ => M) (fun (z : { k : Nat // k ≤ (words (val xs)).length ∧ val xs / W ^ k = val ys / W ^ k }) => match z with | ⟨k, hI⟩ => k) (⟨(words (val xs)).length, Nat.le_refl _, cmp_start (show (words _).length = (words _).length by omega)⟩) (Cv.mem (.c 5 rfl ?_ (.l [0, 1] rfl)) ?_) ?_))))))))))))
  ·rfl
  ·rfl
  rintro ⟨k, hk, he⟩ K11 hK11
  refine .cv (Cv.wk (.l [5, 0, 1] rfl)) ?_
  have ek : ((k : Int) - 1).toNat = k - 1 := by omega
  refine .seq fun _ k12 => .seq fun _ k13 => .region (st (.mv (.t rfl)) rfl (st (.geI (.t rfl) (.cI 0 rfl)) rfl (nl (.thn (k13 _ _ (.cond (.t rfl) (fun hc3 => ?_) (fun hc3 => ?_)))))))
  ·have hc3 := BP.t hc3
   refine .skip (.thn (k12 _ _ (.seq fun _ k14 => .block (.block (.seq fun _ k15 => .dr (.s [] rfl rfl rfl (.o rfl (.mv (.t rfl))) (.s [] rfl rfl rfl (.o rfl (.mv (.t rfl))) (.s [28, 29] rfl rfl rfl (.o rfl (.ixP sl34 ty62 (.t rfl) (.t rfl) ⟨by omega, by omega⟩ (getD_some (d := 0) (by omega)))) (.s [30] rfl rfl rfl (.o rfl (.loadP1 (.t rfl) ty62)) (.s [] rfl rfl rfl (.o rfl (.mv (.t rfl))) (.s [] rfl rfl rfl (.o rfl (.mv (.t rfl))) (.s [32, 33] rfl rfl rfl (.o rfl (.ixP sl34 ty62 (.t rfl) (.t rfl) ⟨by omega, by omega⟩ (getD_some (d := 0) (by omega)))) (.s [34] rfl rfl rfl (.o rfl (.loadP1 (.t rfl) ty62)) (.fin (n := 8) mixed (by kernel_rfl) (by kernel_rfl) (by kernel_rfl) (.cv (Cv.wk (.l [0, 1, 5, 23, 24, 28, 29, 30, 31, 32, 33, 34, 35] rfl)) (st (.ltU (.t rfl) (.t rfl)) rfl (st (.as (.t rfl)) rfl (nl (.thn (k15 _ _ (.cond (.t rfl) (fun hc4 => ?_) (fun hc4 => ?_))))))))))))))))))))))
   ·have hc4 := BP.t hc4
    refine .seq fun _ k16 => .region (st (.as (.cI (-1) rfl)) rfl (nl (.thn (k16 _ _ (.ret (.blr (.blr (.thr (.thr (.blr (.thr (rt1 (.inl rfl) Tryz.results63 rfl (.tmp (Has.t' rfl ?_) .nil)))))))))))))
    all_goals (rw [ek] at hc4; exact isI_eq (cmp_lt (by omega) he hc4))
   ·have hc4 := BP.f hc4
    refine .seq fun _ k17 => .dr (.s [] rfl rfl rfl (.o rfl (.mv (.t rfl))) (.s [] rfl rfl rfl (.o rfl (.mv (.t rfl))) (.s [38, 39] rfl rfl rfl (.o rfl (.ixP sl34 ty62 (.t rfl) (.t rfl) ⟨by omega, by omega⟩ (getD_some (d := 0) (by omega)))) (.s [40] rfl rfl rfl (.o rfl (.loadP1 (.t rfl) ty62)) (.s [] rfl rfl rfl (.o rfl (.mv (.t rfl))) (.s [] rfl rfl rfl (.o rfl (.mv (.t rfl))) (.s [42, 43] rfl rfl rfl (.o rfl (.ixP sl34 ty62 (.t rfl) (.t rfl) ⟨by omega, by omega⟩ (getD_some (d := 0) (by omega)))) (.s [44] rfl rfl rfl (.o rfl (.loadP1 (.t rfl) ty62)) (.fin (n := 8) mixed (by kernel_rfl) (by kernel_rfl) (by kernel_rfl) (.cv (Cv.wk (.l [0, 1, 5, 23, 24, 28, 29, 30, 31, 32, 33, 34, 35, 36, 27, 38, 39, 40, 41, 42, 43, 44, 45] rfl)) (st (.gtU (.t rfl) (.t rfl)) rfl (st (.as (.t rfl)) rfl (nl (.thn (k17 _ _ (.cond (.t rfl) (fun hc5 => ?_) (fun hc5 => ?_)))))))))))))))))
    ·have hc5 := BP.t hc5
     refine .seq fun _ k18 => .region (st (.as (.cI 1 rfl)) rfl (nl (.thn (k18 _ _ (.ret (.blr (.blr (.thr (.thr (.blr (.thr (rt1 (.inl rfl) Tryz.results63 rfl (.tmp (Has.t' rfl ?_) .nil)))))))))))))
     all_goals (rw [ek] at hc5; exact isI_eq (cmp_gt (by omega) he hc5))
    ·have hc5 := BP.f hc5
     refine .skip (.bln (.bln (.thn (k14 _ _ (.region (st (.mv (.t rfl)) rfl (st (.subI (.t rfl) (.cI 1 rfl) (by omega) (by omega)) rfl (st (.as (.t rfl)) rfl (nl (.thn (hK11 (⟨k - 1, by omega, cmp_step (by omega) he (by rw [ek] at hc4 hc5; omega)⟩) _ _ ?_ (Cv.mem (.c 5 rfl ?_ (.l [0, 1] rfl)) ?_))))))))))))
     ·show k - 1 < k; omega
     ·exact isI_eq (by show _ = ((k - 1 : Nat) : Int) - 1; omega)
     ·rfl
  ·have hc3 := BP.f hc3
   refine .exit (.the (.the (.blh (.thn (k9 _ _ (.cv (Cv.wk .nil) (.seq fun _ k19 => .region (st (.as (.cI 0 rfl)) rfl (nl (.thn (k19 _ _ (.ret (rt1 (.inl rfl) Tryz.results63 rfl (.tmp (Has.t' rfl ?_) .nil))))))))))))))
   all_goals (exact isI_eq (cmp_eq he (by omega)))
end Go.Proofs.YtcfobalbkhgdmaaGreat
namespace Go.Nt
def wpart (N i m : Nat) : List Nat := wordsN i N ++ List.replicate (m - i) 0
theorem wpart_zero (N m : Nat) : List.replicate m 0 = wpart N 0 m := rfl
theorem wpart_len {N i m : Nat} (h : i ≤ m) : (wpart N i m).length = m := by simp [wpart, wordsN_len]; omega
theorem wpart_full (N m : Nat) : wpart N m m = wordsN m N := by simp [wpart]
theorem wpart_set {N i m d : Nat} (h : i < m) (hd : d = dig N i) : (wpart N i m).set i d = wpart N (i + 1) m := by
 subst hd
 unfold wpart
 rw [List.set_append_right _ _ (by rw [wordsN_len]; exact Nat.le_refl _), wordsN_len, Nat.sub_self, wordsN_succ]
 have : m - i = (m - (i + 1)) + 1 := by omega
 rw [this, List.replicate_succ, List.set_cons_zero]
 simp
theorem words_val_wordsN {N k : Nat} (h : N < W ^ k) : words (val (wordsN k N)) = words N := by rw [val_wordsN, Nat.mod_eq_of_lt h]
theorem pow_pos' (k : Nat) : 0 < W ^ k := Nat.pow_pos (by decide)
theorem pow_le_pow' {a b : Nat} (h : a ≤ b) : W ^ a ≤ W ^ b := Nat.pow_le_pow_right (by decide) h
theorem lt_pow_of {n k : Nat} (h : (List.length (words n)) ≤ k) : n < W ^ k := Nat.lt_of_lt_of_le (nw_lt n) (pow_le_pow' h)
def car (p q i : Nat) : Nat := (p % W ^ i + q % W ^ i) / W ^ i
theorem car_zero (p q : Nat) : 0 = car p q 0 := by simp [car, Nat.mod_one]
theorem car_le (p q i : Nat) : car p q i ≤ 1 := by
 have h1 := Nat.mod_lt p (pow_pos' i)
 have h2 := Nat.mod_lt q (pow_pos' i)
 have : car p q i < 2 := by unfold car; rw [Nat.div_lt_iff_lt_mul (pow_pos' i)]; omega
 omega
theorem add_eq (p q i : Nat) : (p + q) / W ^ i = p / W ^ i + q / W ^ i + car p q i := by
 have h1 := Nat.mod_add_div p (W ^ i)
 have h2 := Nat.mod_add_div q (W ^ i)
 have e : p + q = (p % W ^ i + q % W ^ i) + W ^ i * (p / W ^ i + q / W ^ i) := by rw [Nat.mul_add]; omega
 rw [e, Nat.add_mul_div_left _ _ (pow_pos' i)]
 unfold car; omega
theorem div_succ (n i : Nat) : n / W ^ i = W * (n / W ^ (i + 1)) + dig n i := by
 have := div_pow_succ n (i + 1) (by omega); simpa using this
theorem add_dig (p q i : Nat) : (dig p i + dig q i + car p q i) % W = dig (p + q) i := by
 rw [show dig (p + q) i = (p + q) / W ^ i % W from rfl, add_eq]
 unfold dig
 generalize p / W ^ i = a
 generalize q / W ^ i = b
 generalize car p q i = c
 unfold W; omega
theorem add_car (p q i : Nat) : (dig p i + dig q i + car p q i) / W = car p q (i + 1) := by
 have h1 := add_eq p q i
 have h2 := add_eq p q (i + 1)
 have h3 := div_succ p i
 have h4 := div_succ q i
 have h5 := div_succ (p + q) i
 have h6 := add_dig p q i
 generalize car p q i = c at *
 generalize car p q (i + 1) = c' at *
 generalize p / W ^ (i + 1) = a' at *
 generalize q / W ^ (i + 1) = b' at *
 generalize (p + q) / W ^ (i + 1) = s' at *
 generalize p / W ^ i = a at *
 generalize q / W ^ i = b at *
 generalize (p + q) / W ^ i = s at *
 unfold W at *; omega
theorem add_top {p q k : Nat} (hp : p < W ^ k) (hq : q < W ^ k) : car p q k = dig (p + q) k := by
 have h := add_eq p q k
 rw [Nat.div_eq_of_lt hp, Nat.div_eq_of_lt hq] at h
 have := car_le p q k
 unfold dig; rw [h]; simp only [Nat.zero_add]; rw [Nat.mod_eq_of_lt (Nat.lt_of_le_of_lt this (by decide))]
theorem add_lt {p q k : Nat} (hp : p < W ^ k) (hq : q < W ^ k) : p + q < W ^ (k + 1) := by
 rw [Nat.pow_succ]; generalize W ^ k = w at *; unfold W; omega
def bor (p q i : Nat) : Nat := if p % W ^ i < q % W ^ i then 1 else 0
theorem bor_zero (p q : Nat) : 0 = bor p q 0 := by simp [bor, Nat.mod_one]
theorem bor_le (p q i : Nat) : bor p q i ≤ 1 := by unfold bor; split <;> omega
theorem bor_succ (p q i : Nat) : (if dig p i < dig q i + bor p q i then 1 else 0) = bor p q (i + 1) := by
 have h1 := mod_succ p i
 have h2 := mod_succ q i
 have h3 := Nat.mod_lt p (pow_pos' i)
 have h4 := Nat.mod_lt q (pow_pos' i)
 unfold bor
 rw [h1, h2]
 generalize p % W ^ i = a at *
 generalize q % W ^ i = b at *
 generalize dig p i = x at *
 generalize dig q i = y at *
 generalize W ^ i = w at *
 rcases Nat.lt_trichotomy x y with h | h | h
 ·have : w * x + w ≤ w * y := by rw [← Nat.mul_succ]; exact Nat.mul_le_mul_left _ h
  rw [if_pos (by omega), if_pos (by omega)]
 ·subst h
  by_cases hab : a < b
  ·rw [if_pos hab, if_pos (by omega), if_pos (by omega)]
  ·rw [if_neg hab, if_neg (by omega), if_neg (by omega)]
 ·have : w * y + w ≤ w * x := by rw [← Nat.mul_succ]; exact Nat.mul_le_mul_left _ h
  rw [if_neg (by split <;> omega), if_neg (by omega)]
theorem sub_eq {p q : Nat} (h : q ≤ p) (i : Nat) : (p - q) / W ^ i + q / W ^ i + bor p q i = p / W ^ i := by
 have h1 := Nat.mod_add_div p (W ^ i)
 have h2 := Nat.mod_add_div q (W ^ i)
 have h3 := Nat.mod_lt p (pow_pos' i)
 have h4 := Nat.mod_lt q (pow_pos' i)
 have h5 := Nat.mod_add_div (p - q) (W ^ i)
 have h6 := Nat.mod_lt (p - q) (pow_pos' i)
 unfold bor
 generalize p % W ^ i = a at *
 generalize q % W ^ i = b at *
 generalize (p - q) % W ^ i = c at *
 generalize p / W ^ i = x at *
 generalize q / W ^ i = y at *
 generalize (p - q) / W ^ i = z at *
 have hw := pow_pos' i
 generalize W ^ i = w at *
 have e : c + w * z + (b + w * y) = a + w * x := by omega
 have e2 : c + b + w * (z + y) = a + w * x := by rw [Nat.mul_add]; omega
 split
 ·have hz : w * (z + y) < w * x := by
   apply Classical.byContradiction; intro hc
   have : c + b ≤ a := by omega
   omega
  have h7 : z + y < x := Nat.lt_of_mul_lt_mul_left hz
  have h8 : x ≤ z + y + 1 := by
   apply Classical.byContradiction; intro hc
   have : w * (z + y + 2) ≤ w * x := Nat.mul_le_mul_left _ (by omega)
   rw [Nat.mul_add] at this; omega
  omega
 ·have h7 : z + y < x + 1 := by
   apply Nat.lt_of_mul_lt_mul_left (a := w); rw [Nat.mul_add w x]; omega
  have h8 : x < z + y + 1 := by
   apply Classical.byContradiction; intro hc
   have : w * (z + y + 1) ≤ w * x := Nat.mul_le_mul_left _ (by omega)
   rw [Nat.mul_add w (z + y)] at this
   omega
  omega
theorem sub_dig {p q : Nat} (h : q ≤ p) (i : Nat) : (dig p i + W - dig q i - bor p q i) % W = dig (p - q) i := by
 have h1 := sub_eq h i
 have h2 := sub_eq h (i + 1)
 have h3 := div_succ p i
 have h4 := div_succ q i
 have h5 := div_succ (p - q) i
 have h6 := bor_succ p q i
 have h7 := dig_lt (p - q) i
 have h8 := dig_lt p i
 have h9 := dig_lt q i
 have := bor_le p q i
 generalize p / W ^ (i + 1) = a' at *
 generalize q / W ^ (i + 1) = b' at *
 generalize (p - q) / W ^ (i + 1) = s' at *
 generalize p / W ^ i = a at *
 generalize q / W ^ i = b at *
 generalize (p - q) / W ^ i = s at *
 generalize bor p q i = e at *
 generalize bor p q (i + 1) = e' at *
 unfold W at *
 split at h6 <;> omega
theorem fz_wpart {N i m d k : Nat} (hk : i + 1 = m) (hi : k = i) (hd : d = dig N i) : (((wpart N i m).set k d).drop 0).take m = wordsN m N := by
 subst hi
 rw [wpart_set (by omega) hd, hk, wpart_full, List.drop_zero]
 exact List.take_of_length_le (by rw [wordsN_len]; exact Nat.le_refl _)
theorem fz_wpart' {N i m : Nat} (hk : i = m) : ((wpart N i m).drop 0).take m = wordsN m N := by
 subst hk
 rw [wpart_full, List.drop_zero]
 exact List.take_of_length_le (by rw [wordsN_len]; exact Nat.le_refl _)
theorem cmpN_neg {m n : Nat} : cmpN m n < 0 ↔ m < n := by unfold cmpN; split <;> (try split) <;> omega
theorem sub_lt' {p q k : Nat} (h : p < W ^ k) : p - q < W ^ k := by omega
def mix (k N' N m : Nat) : List Nat := wordsN k N' ++ wordsN (m - k) (N / W ^ k)
theorem mix_len {k N' N m : Nat} (h : k ≤ m) : (mix k N' N m).length = m := by simp [mix, wordsN_len]; omega
theorem wordsN_getD : ∀ {k N j : Nat}, j < k → (wordsN k N).getD j 0 = dig N j
  | k + 1, N, 0, _ => by simp [wordsN, dig]
  | k + 1, N, j + 1, h => by
    rw [wordsN, List.getD_cons_succ, wordsN_getD (by omega), dig, dig, Nat.div_div_eq_div_mul, Nat.pow_succ, Nat.mul_comm W]
theorem mix_getD {k N' N m j : Nat} (h : k ≤ j) (hj : j < m) : (mix k N' N m).getD j 0 = dig N j := by
 unfold mix
 rw [List.getD_eq_getElem?_getD, List.getElem?_append_right (by rw [wordsN_len]; exact h), wordsN_len, ← List.getD_eq_getElem?_getD, wordsN_getD (by omega), dig, dig,
  Nat.div_div_eq_div_mul, ← Nat.pow_add]
 congr 3; omega
theorem mix_set {k N' N m d j : Nat} (h : k < m) (hj : j = k) (hd : d = dig N' k) : (mix k N' N m).set j d = mix (k + 1) N' N m := by
 subst hd hj
 unfold mix
 rw [List.set_append_right _ _ (by rw [wordsN_len]; exact Nat.le_refl _), wordsN_len, Nat.sub_self, wordsN_succ]
 have : m - j = (m - (j + 1)) + 1 := by omega
 rw [this, wordsN, List.set_cons_zero, Nat.div_div_eq_div_mul, ← Nat.pow_succ]
 simp
theorem wordsN_mod : ∀ {k N N' : Nat}, N % W ^ k = N' % W ^ k → wordsN k N = wordsN k N'
 | k, N, N', h => eq_wordsN (wordsN_ok _ _) (wordsN_len _ _) (by rw [val_wordsN, h])
theorem mix_wordsN {k N m : Nat} (h : k ≤ m) : mix k N N m = wordsN m N := by
 refine eq_wordsN ?_ (mix_len h) ?_
 ·exact ok_append (wordsN_ok _ _) (wordsN_ok _ _)
 ·unfold mix
  rw [val_append, val_wordsN, val_wordsN, wordsN_len]
  obtain ⟨j, rfl⟩ : ∃ j, m = k + j := ⟨m - k, by omega⟩
  rw [Nat.add_sub_cancel_left, Nat.pow_add, Nat.mod_mul]
theorem mix_start {k N' N m : Nat} (h : k ≤ m) (he : N' % W ^ k = N % W ^ k) : wordsN m N = mix k N' N m := by
 rw [← mix_wordsN h]; unfold mix; rw [wordsN_mod he]
theorem mix_end {k N' N m : Nat} (h : k ≤ m) (he : N / W ^ k = N' / W ^ k) : mix k N' N m = wordsN m N' := by
 rw [← mix_wordsN h]; unfold mix; rw [he]
def mcar (n A x i : Nat) : Nat := (n % W ^ i + A % W ^ i * x) / W ^ i
theorem mcar_zero (n A x : Nat) : 0 = mcar n A x 0 := by simp [mcar, Nat.mod_one]
theorem mcar_le (n A x i : Nat) : mcar n A x i ≤ x := by
 have h1 := Nat.mod_lt n (pow_pos' i)
 have h2 : A % W ^ i + 1 ≤ W ^ i := Nat.mod_lt A (pow_pos' i)
 have h3 := Nat.mul_le_mul_right x h2
 rw [Nat.succ_mul] at h3
 have : mcar n A x i < x + 1 := by unfold mcar; rw [Nat.div_lt_iff_lt_mul (pow_pos' i), Nat.add_mul, Nat.one_mul, Nat.mul_comm x]; omega
 omega
theorem mul_sum (n A x i : Nat) : (n + A * x) / W ^ i = n / W ^ i + A / W ^ i * x + mcar n A x i := by
 have h1 := Nat.mod_add_div n (W ^ i)
 have h2 := Nat.mod_add_div A (W ^ i)
 have e : n + A * x = (n % W ^ i + A % W ^ i * x) + W ^ i * (n / W ^ i + A / W ^ i * x) := by
  have : A * x = A % W ^ i * x + W ^ i * (A / W ^ i * x) := by
   rw [← Nat.mul_assoc, ← Nat.add_mul, h2]
  rw [Nat.mul_add, this]; omega
 rw [e, Nat.add_mul_div_left _ _ (pow_pos' i)]
 unfold mcar; omega
theorem mul_step_eq (n A x i : Nat) : dig n i + dig A i * x + mcar n A x i = dig (n + A * x) i + W * mcar n A x (i + 1) := by
 have h1 := mul_sum n A x i
 have h2 := mul_sum n A x (i + 1)
 have h3 := div_succ n i
 have h4 := div_succ A i
 have h5 := div_succ (n + A * x) i
 rw [h4, Nat.add_mul, Nat.mul_assoc] at h1
 generalize A / W ^ (i + 1) * x = a' at *
 generalize dig A i * x = e at *
 generalize (n + A * x) / W ^ (i + 1) = s' at *
 generalize (n + A * x) / W ^ i = s at *
 generalize n / W ^ (i + 1) = b' at *
 generalize n / W ^ i = b at *
 generalize dig (n + A * x) i = t at *
 generalize mcar n A x (i + 1) = u at *
 generalize mcar n A x i = v at *
 subst h2 h3
 rw [h1, Nat.mul_add, Nat.mul_add] at h5
 omega
theorem dig_add_pow (N n o i : Nat) (h : N / W ^ o = n) : dig N (o + i) = dig n i := by
 subst h; rw [dig, dig, Nat.div_div_eq_div_mul, ← Nat.pow_add]
theorem shifted (N o D : Nat) : (N + W ^ o * D) / W ^ o = N / W ^ o + D := Nat.add_mul_div_left _ _ (pow_pos' o)
theorem shifted_mod (N o D : Nat) : (N + W ^ o * D) % W ^ o = N % W ^ o := Nat.add_mul_mod_self_left _ _ _
theorem mul_top {n A x k : Nat} (hn : n < W ^ k) (hA : A < W ^ k) : (n + A * x) / W ^ k = mcar n A x k := by
 rw [mul_sum, Nat.div_eq_of_lt hn, Nat.div_eq_of_lt hA]; omega
theorem row_word {x y o c t u : Nat} (hx : x < W) (hy : y < W) (ho : o < W) (hc : c < W) (ht : t < W) (he : o + y * x + c = t + W * u) :
  ((x * y % 18446744073709551616 + o) % 18446744073709551616 + c) % 18446744073709551616 = t ∧
   x * y / 18446744073709551616 + (x * y % 18446744073709551616 + o) / 18446744073709551616 + ((x * y % 18446744073709551616 + o) % 18446744073709551616 + c) / 18446744073709551616 = u ∧ u < 18446744073709551616 := by
 have hxy : x * y ≤ 18446744073709551615 * 18446744073709551615 := Nat.mul_le_mul (by unfold W at hx; omega) (by unfold W at hy; omega)
 rw [Nat.mul_comm y x] at he
 generalize x * y = p at *
 unfold W at *
 omega
theorem mod_pow_succ_mul (A B i : Nat) : A * (B % W ^ (i + 1)) = A * (B % W ^ i) + W ^ i * (A * dig B i) := by
 rw [mod_succ, Nat.mul_add]; congr 1; rw [Nat.mul_left_comm]
theorem mul_lt_pow {A B i k : Nat} (hA : A < W ^ k) : A * (B % W ^ i) < W ^ (i + k) := by
 have hB := Nat.mod_lt B (pow_pos' i)
 rw [Nat.add_comm, Nat.pow_add]
 exact Nat.mul_lt_mul'' hA hB
theorem rowGet {N' N m o i : Nat} (h : o + i < m) : (mix (o + i) N' N m).getD (o + i) 0 = dig (N / W ^ o) i := by
 rw [mix_getD (Nat.le_refl _) h, dig_add_pow _ _ _ _ rfl]
theorem rowPut {N A x m o i d : Nat} (h : o + i < m) (hd : d = dig (N / W ^ o + A * x) i) : (mix (o + i) (N + W ^ o * (A * x)) N m).set (o + i) d = mix (o + (i + 1)) (N + W ^ o * (A * x)) N m :=
 mix_set h rfl (by rw [hd, dig_add_pow _ _ _ _ (shifted _ _ _)])
theorem div_pow_add (N o k : Nat) : N / W ^ (o + k) = N / W ^ o / W ^ k := by rw [Nat.pow_add, Nat.div_div_eq_div_mul]
theorem rowEnd {N A x m o i k : Nat} (hk : k = i) (hm : o + i + 1 ≤ m) (hn : N / W ^ o < W ^ i) (hA : A < W ^ i) (hx : x < W) :
  (mix (o + i) (N + W ^ o * (A * x)) N m).set (o + k) (mcar (N / W ^ o) A x i) = wordsN m (N + W ^ o * (A * x)) := by
 subst hk
 have h1 := mul_top (x := x) hn hA
 have h2 := mcar_le (N / W ^ o) A x k
 rw [rowPut (by omega) (by rw [dig, h1, Nat.mod_eq_of_lt (by omega)])]
 refine mix_end (by omega) ?_
 have e1 : N / W ^ (o + (k + 1)) = 0 := by rw [div_pow_add]; exact Nat.div_eq_of_lt (Nat.lt_of_lt_of_le hn (pow_le_pow' (Nat.le_succ k)))
 have e2 : (N + W ^ o * (A * x)) / W ^ (o + (k + 1)) = 0 := by
  rw [div_pow_add, shifted, Nat.pow_succ, ← Nat.div_div_eq_div_mul, h1]; exact Nat.div_eq_of_lt (by omega)
 rw [e1, e2]
theorem mulStart (A m : Nat) : List.replicate m 0 = wordsN m (A * (val [] % W ^ 0)) := by
 refine eq_wordsN (fun x hx => ?_) (by simp) ?_
 ·rw [List.mem_replicate] at hx; rw [hx.2]; decide
 ·rw [val_replicate]; simp [Nat.mod_one]
theorem mulStart' (A B m : Nat) : List.replicate m 0 = wordsN m (A * (B % W ^ 0)) := by
 rw [mulStart A m]; simp [Nat.mod_one]
theorem mulDiv {A B i k : Nat} (hA : A < W ^ k) : A * (B % W ^ i) / W ^ i < W ^ k := by
 rw [Nat.div_lt_iff_lt_mul (pow_pos' i), ← Nat.pow_add, Nat.add_comm]; exact mul_lt_pow hA
theorem mulEnd {A B m : Nat} (h : (List.length (words A)) + (List.length (words B)) + 1 = m) : words (val (wordsN m (A * (B % W ^ (List.length (words B)))))) = words (A * B) := by
 rw [Nat.mod_eq_of_lt (nw_lt B), words_val_wordsN]
 have h1 := nw_lt A
 have h2 := nw_lt B
 have h3 : A * B < W ^ (List.length (words A)) * W ^ (List.length (words B)) := Nat.mul_lt_mul'' h1 h2
 rw [← Nat.pow_add] at h3
 exact Nat.lt_of_lt_of_le h3 (pow_le_pow' (by omega))
end Go.Nt
